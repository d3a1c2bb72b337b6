/- Merged texts of this session, for the law FnExactUnicycleOfTree. -/
import Derived.Test.YtcmfcleeohcgaaaPimplUnicycleOfTree
import Derived.Test.YtcmfcleeohcgaaaPlawseqGraph
import Derived.Test.YtcmfcleeohcgaaaPlawseqIntS
import Derived.Test.YtcmfcleeohcgaaaPlawseqWalk
import Derived.Test.YtcmfcleeohcgaaaPlawsheldWalk
import Derived.Test.YtcmfcleeohcgaaaPlawsmarkGraph
import Derived.Test.YtcmfcleeohcgaaaPlawsmarkIntS
import Derived.Test.YtcmfcleeohcgaaaPlawsmarkWalk
import Derived.Test.YtcmfcleeohcgaaaPlawsszGraph
import Derived.Test.YtcmfcleeohcgaaaPlawstoGraph
import Derived.Test.YtcmfcleeohcgaaaPlawstoIntS
import Derived.Test.YtcmfcleeohcgaaaCFnExactUnicycleOfTreea
import Derived.Test.YtcmfcleeohcgaaaPspecgrGood
import Derived.Test.YtcmfcleeohcgaaaPspecl1All
import Derived.Test.YtcmfcleeohcgaaaPspecl1In
import Derived.Test.YtcmfcleeohcgaaaPimplisGraph
import Derived.Test.YtcmfcleeohcgaaaPimplhas
import Derived.Test.YtcmfcleeohcgaaaPimplisWalk
import Derived.Test.YtcmfcleeohcgaaaPlawsszIntS
import Derived.Test.YtcmfcleeohcgaaaP0
import Derived.Test.YtcmfcleeohcgaaaPimplGraphnext
namespace Go.Proofs.Ytcmfcleeohcgaaa.P
open Go.RowKit Go.Proofs.YtcmfcleeohcgaaaW.PrintWords Go.Proofs.YtcmfcleeohcgaaaW.PrintLast Go.Proofs.YtcmfcleeohcgaaaW.PrintMore Go.Proofs.Ytcmfcleeohcgaaa.M
attribute [local go_sem] max2_int min2_int max_two min_two max_three min_three max_four min_four   -- for this text's walks alone
set_option linter.unusedVariables false
set_option linter.unusedSimpArgs false

/-- What the calls on the straight way answer. -/
def laws_FnExactUnicycleOfTree.Good (l0_0 : List (List Int)) (a1 : Int) (l2 : List Int) (a3 : Int) : Prop :=
  ((l2.length : Int) ≤ 1048576 → ∃ x4 : Int, Ev (fun k => laws_szGraph.f k l0_0 1048576) x4 ∧ (0 ≤ x4 → Ev (fun k => laws_toGraph.f k l0_0) l0_0 ∧ Ev (fun k => laws_toIntS.f k l2) l2 ∧ ∃ x23 : List Int, ∃ x24 : Int, ∃ x25 : Bool, Ev (fun k => spec_UnicycleOfTree.f k l0_0 a1 l2 a3) (x23, x24, x25) ∧ Ev (fun k => impl_UnicycleOfTree.f k l0_0 a1 l2 a3) (x23, x24, x25) ∧ Ev (fun k => laws_eqWalk.f k x23 x24 x23 x24) true ∧ Ev (fun k => laws_eqGraph.f k l0_0 l0_0) true ∧ Ev (fun k => laws_eqIntS.f k l2 l2) true ∧ ∃ x83 : Int, ∃ x84 : List (List Int), Ev (fun k => laws_markGraph.f k l0_0 1) (x83, x84) ∧ 0 ≤ x83 ∧ ∃ x88 : Int, ∃ x89 : List Int, Ev (fun k => laws_markIntS.f k l2 x83) (x88, x89) ∧ 0 ≤ x88 ∧ ∃ x94 : Int, ∃ x95 : List Int, Ev (fun k => laws_markWalk.f k x23 x24 1) (x94, x95) ∧ 0 ≤ x94 ∧ Ev (fun k => laws_heldWalk.f k x95 x24 1) x94 ∧ True))
open Classical in
noncomputable def laws_FnExactUnicycleOfTree.f (l0_0 : List (List Int)) (a1 : Int) (l2 : List Int) (a3 : Int) : Option Bool := if laws_FnExactUnicycleOfTree.Good l0_0 a1 l2 a3 then some true else none
set_option maxHeartbeats 16000000 in
set_option maxRecDepth 100000 in
theorem laws_FnExactUnicycleOfTree.calls (A0_0 : Option Addr) (c0_0 : Nat) (l0_0 : List (List Int)) (a1 : Int) (A2 : Option Addr) (c2 : Nat) (l2 : List Int) (a3 : Int) (r : Bool) (w : World) (hr0_0 : Kd.C (Kd.slice 3 (Kd.int .i64)) w A0_0 l0_0.length l0_0) (hc0_0 : l0_0.length ≤ c0_0) (hr2 : Kd.C (Kd.int .i64) w A2 l2.length l2) (hc2 : l2.length ≤ c2) (h : laws_FnExactUnicycleOfTree.f l0_0 a1 l2 a3 = some r) :
    Calls Try.prog 4 #[.agg #[.slice A0_0 l0_0.length c0_0], .int .i64 a1, .slice A2 l2.length c2, .int .i64 a3] w fun e w' => e = .returned (.bool r) ∧ Below w.heap.size w w' := by
  unfold laws_FnExactUnicycleOfTree.f at h
  by_cases hg : laws_FnExactUnicycleOfTree.Good l0_0 a1 l2 a3
  case neg => rw [if_neg hg] at h; cases h
  rw [if_pos hg] at h
  obtain rfl := Option.some.inj h
  clear h
  unfold laws_FnExactUnicycleOfTree.Good at hg
  have hu24 := Try.underlying24
  have hu30 := Try.underlying30
  have hu34 := Try.underlying34
  obtain ⟨s0, hs0⟩ : ∃ s0, s0 = w.heap.size := ⟨_, rfl⟩
  have HS := Aside0.mk (Nat.le_of_eq hs0)
  have CH := Aside0.mk True.intro
  have HB := Aside0.mk (Below.refl w.heap.size w)
  have FA0_0 := Aside0.mk (show Kd.F (Kd.slice 3 (Kd.int .i64)) w (fun k_ => k_ < s0) A0_0 l0_0.length l0_0 by rw [hs0]; exact Kd.C_F (Kd.heap_slice 3 (Kd.heap_int .i64)) hr0_0)
  have HC0_0 := Aside0.mk hc0_0
  clear hr0_0 hc0_0
  have FA2 := Aside0.mk (show Kd.F (Kd.int .i64) w (fun k_ => k_ < s0) A2 l2.length l2 by rw [hs0]; exact Kd.C_F (Kd.heap_int .i64) hr2)
  have HC2 := Aside0.mk hc2
  clear hr2 hc2
  clear hs0
  by_cases hz : (l2.length : Int) > 1048576
  · have hzb : decide ((l2.length : Int) > 1048576) = true := decide_eq_true hz
    have hzc : decide (1048576 < l2.length) = true := decide_eq_true (by omega)
    have hzd : decide (1048576 < (l2.length : Int)) = true := hzb
    clear hg hz
    go_enter Try.func4, Try.ntmps4
    go_wp2_with (first | ((with_reducible refine gate_dst (N := 4) rfl ?_); refine box_event ?hg (N := 4) ?hd (cs := #[.slice A0_0 l0_0.length c0_0]) (t := 30) ?hr ?_; (case hd => rfl); (case hg => rfl); (case hr => first | (go_simp; done) | (go_simp; rfl)); intro gb1 hg_ w2 hbox_ hb_; obtain ⟨hk_, hs1_, hs2_, hw0_⟩ := ev_kept (S := (fun _ => False)) HS.out HB.out hb_ (by repeat (first | (with_reducible first | exact Kept.refl _ _ | apply Kept.alloc | apply Kept.drewN | apply Kept.drew) | exact Kept.refl _ _)); have hw_ : w.heap.size ≤ gb1 := (by rw [hg_]; exact hw0_); have hB_ := below_step (by repeat (first | (with_reducible first | exact HB.out | apply below_alloc | apply pw_below_drewN | apply below_drew1) | exact HB.out)) hb_; have n0_ := Aside0.mk (Kd.F_kept FA0_0.out hk_ (fun _ _ hs_ => hs_.elim)); have n1_ := Aside0.mk (Kd.F_kept FA2.out hk_ (fun _ _ hs_ => hs_.elim)); have hS_ : s0 ≤ gb1 := (by rw [hg_]; exact hs1_); have nb_ := Aside0.mk hbox_; have ns_ := Aside0.mk (box_in hbox_); have nc_ := Aside0.mk (And.intro hS_ CH.out); have ng_ := Aside0.mk hw_; have nB_ := Aside0.mk hB_; clear HB HS CH FA0_0 FA2; have FA0_0 := n0_; have FA2 := n1_; have HB := nB_; have HS := ns_; have CH := nc_; have BKgb1 := nb_; have GEgb1 := ng_; clear nB_ ns_ nc_ nb_ ng_ n0_ n1_; clear hk_ hs1_ hs2_ hw_ hw0_ hB_ hS_ hb_ hbox_ hg_; have hczgb1_0 : w2.cell? ⟨gb1, 0, none⟩ = some (.slice A0_0 l0_0.length c0_0) := (blk_cell BKgb1.out 0).trans rfl; have hfzgb1_0 := blk_frozen BKgb1.out 0))
    go_ret
    exact ⟨by first | rfl | (simp; done), by repeat (first | (with_reducible first | exact HB.out | apply below_alloc | apply pw_below_drewN | apply below_drew1 | refine below_set ?_ GEgb1.out | refine below_set ?_ GEgb33.out | refine below_set ?_ GEgb42.out | refine below_set ?_ GEgb59.out | refine below_set ?_ GEgb121.out) | exact HB.out)⟩
  have hg := hg (by omega)
  have hzLl2 : decide ((l2.length : Int) > 1048576) = false := decide_eq_false hz
  have hzcLl2 : decide (1048576 < l2.length) = false := decide_eq_false (by omega)
  have hzdLl2 : decide (1048576 < (l2.length : Int)) = false := hzLl2
  clear hz
  obtain ⟨x4, hg⟩ := hg
  obtain ⟨E_, hg⟩ := hg
  obtain ⟨KE5, E_⟩ := E_
  have E5 := Aside0.mk (E_ KE5 (Nat.le_refl _))
  clear E_
  by_cases hz : x4 < 0
  · have hzb : decide (x4 < 0) = true := decide_eq_true hz
    clear hg hz
    go_enter Try.func4, Try.ntmps4
    go_wp2_with (first | ((with_reducible refine gate_dst (N := 4) rfl ?_); refine box_event ?hg (N := 4) ?hd (cs := #[.slice A0_0 l0_0.length c0_0]) (t := 30) ?hr ?_; (case hd => rfl); (case hg => rfl); (case hr => first | (go_simp; done) | (go_simp; rfl)); intro gb1 hg_ w2 hbox_ hb_; obtain ⟨hk_, hs1_, hs2_, hw0_⟩ := ev_kept (S := (fun _ => False)) HS.out HB.out hb_ (by repeat (first | (with_reducible first | exact Kept.refl _ _ | apply Kept.alloc | apply Kept.drewN | apply Kept.drew) | exact Kept.refl _ _)); have hw_ : w.heap.size ≤ gb1 := (by rw [hg_]; exact hw0_); have hB_ := below_step (by repeat (first | (with_reducible first | exact HB.out | apply below_alloc | apply pw_below_drewN | apply below_drew1) | exact HB.out)) hb_; have n0_ := Aside0.mk (Kd.F_kept FA0_0.out hk_ (fun _ _ hs_ => hs_.elim)); have n1_ := Aside0.mk (Kd.F_kept FA2.out hk_ (fun _ _ hs_ => hs_.elim)); have hS_ : s0 ≤ gb1 := (by rw [hg_]; exact hs1_); have nb_ := Aside0.mk hbox_; have ns_ := Aside0.mk (box_in hbox_); have nc_ := Aside0.mk (And.intro hS_ CH.out); have ng_ := Aside0.mk hw_; have nB_ := Aside0.mk hB_; clear HB HS CH FA0_0 FA2; have FA0_0 := n0_; have FA2 := n1_; have HB := nB_; have HS := ns_; have CH := nc_; have BKgb1 := nb_; have GEgb1 := ng_; clear nB_ ns_ nc_ nb_ ng_ n0_ n1_; clear hk_ hs1_ hs2_ hw_ hw0_ hB_ hS_ hb_ hbox_ hg_; have hczgb1_0 : w2.cell? ⟨gb1, 0, none⟩ = some (.slice A0_0 l0_0.length c0_0) := (blk_cell BKgb1.out 0).trans rfl; have hfzgb1_0 := blk_frozen BKgb1.out 0) | ((with_reducible refine gate_callee (f := 14) rfl ?_); refine goesL_ (some 26) rfl rfl Try.func14 (by kernel_rfl) rfl #[.agg #[.slice A0_0 l0_0.length c0_0], .int .i64 1048576] rfl (by (try simp only [List.map_toArray, List.map_cons, List.map_nil]); first | done | rfl | (simp only [List.length_drop, List.length_take]; rfl)) ?_; (with_reducible refine (laws_szGraph.calls KE5 _ _ l0_0 1048576 x4 _ ?sidehr0_0 ?sidehc0_0 E5.out).mono ?_); (case sidehr0_0 => exact F_at (S := (fun _ => False)) FA0_0.out (by repeat (first | (with_reducible first | exact Kept.refl _ _ | apply Kept.alloc | apply Kept.drewN | apply Kept.drew) | exact Kept.refl _ _)) (fun _ _ hs_ => hs_.elim)); (case sidehc0_0 => exact HC0_0.out); rintro e w3 ⟨rfl, hb_⟩; refine ⟨_, rfl, ?_⟩; (try clear hczgb1_0); (try clear hfzgb1_0); obtain ⟨hk_, hs1_, hs2_, hw_⟩ := ev_kept (S := (fun _ => False)) HS.out HB.out hb_ (by repeat (first | (with_reducible first | exact Kept.refl _ _ | apply Kept.alloc | apply Kept.drewN | apply Kept.drew) | exact Kept.refl _ _)); have hB_ := below_step (by repeat (first | (with_reducible first | exact HB.out | apply below_alloc | apply pw_below_drewN | apply below_drew1 | refine below_set ?_ GEgb1.out) | exact HB.out)) hb_; have n0_ := Aside0.mk (Kd.F_kept FA0_0.out hk_ (fun _ _ hs_ => hs_.elim)); have n1_ := Aside0.mk (Kd.F_kept FA2.out hk_ (fun _ _ hs_ => hs_.elim)); have n2_ := Aside0.mk (blk_below (g := gb1) (o := .cells #[.slice A0_0 l0_0.length c0_0] 30 (0, 0)) (by (with_reducible repeat (first | refine blk_drewN ?_ _ | refine blk_drew ?_ | refine blk_alloc ?_ _)); exact BKgb1.out) hb_); have ns_ := Aside0.mk (Nat.le_trans (Nat.le_trans hs1_ hs2_) (Nat.le_refl _)); have nB_ := Aside0.mk hB_; clear HB HS FA0_0 FA2 BKgb1; have FA0_0 := n0_; have FA2 := n1_; have BKgb1 := n2_; have HB := nB_; have HS := ns_; clear nB_ ns_ n0_ n1_ n2_; clear hk_ hs1_ hs2_ hw_ hB_ hb_; have hczgb1_0 : w3.cell? ⟨gb1, 0, none⟩ = some (.slice A0_0 l0_0.length c0_0) := (blk_cell BKgb1.out 0).trans rfl; have hfzgb1_0 := blk_frozen BKgb1.out 0))
    go_ret
    exact ⟨by first | rfl | (simp; done), by repeat (first | (with_reducible first | exact HB.out | apply below_alloc | apply pw_below_drewN | apply below_drew1 | refine below_set ?_ GEgb1.out | refine below_set ?_ GEgb33.out | refine below_set ?_ GEgb42.out | refine below_set ?_ GEgb59.out | refine below_set ?_ GEgb121.out) | exact HB.out)⟩
  have hg := hg (by omega)
  have hzx4 : decide (x4 < 0) = false := decide_eq_false hz
  clear hz
  obtain ⟨E_, hg⟩ := hg
  obtain ⟨KE7, E_⟩ := E_
  have E7 := Aside0.mk (E_ KE7 (Nat.le_refl _))
  clear E_
  obtain ⟨E_, hg⟩ := hg
  obtain ⟨KE15, E_⟩ := E_
  have E15 := Aside0.mk (E_ KE15 (Nat.le_refl _))
  clear E_
  obtain ⟨x23, hg⟩ := hg
  obtain ⟨x24, hg⟩ := hg
  obtain ⟨x25, hg⟩ := hg
  obtain ⟨E_, hg⟩ := hg
  obtain ⟨KE26, E_⟩ := E_
  have E26 := Aside0.mk (E_ KE26 (Nat.le_refl _))
  clear E_
  obtain ⟨E_, hg⟩ := hg
  obtain ⟨KE52, E_⟩ := E_
  have E52 := Aside0.mk (E_ KE52 (Nat.le_refl _))
  clear E_
  obtain ⟨E_, hg⟩ := hg
  obtain ⟨KE62, E_⟩ := E_
  have E62 := Aside0.mk (E_ KE62 (Nat.le_refl _))
  clear E_
  obtain ⟨E_, hg⟩ := hg
  obtain ⟨KE72, E_⟩ := E_
  have E72 := Aside0.mk (E_ KE72 (Nat.le_refl _))
  clear E_
  obtain ⟨E_, hg⟩ := hg
  obtain ⟨KE81, E_⟩ := E_
  have E81 := Aside0.mk (E_ KE81 (Nat.le_refl _))
  clear E_
  obtain ⟨x83, hg⟩ := hg
  obtain ⟨x84, hg⟩ := hg
  obtain ⟨E_, hg⟩ := hg
  obtain ⟨KE85, E_⟩ := E_
  have E85 := Aside0.mk (E_ KE85 (Nat.le_refl _))
  clear E_
  obtain ⟨hpx83, hg⟩ := hg
  have hnx83 : decide (x83 < 0) = false := decide_eq_false (by omega)
  have hex83 : (x83 != x83) = false := bne_self_eq_false _
  have hdx83 : decide (x83 = x83) = true := decide_eq_true rfl
  clear hpx83
  obtain ⟨x88, hg⟩ := hg
  obtain ⟨x89, hg⟩ := hg
  obtain ⟨E_, hg⟩ := hg
  obtain ⟨KE90, E_⟩ := E_
  have E90 := Aside0.mk (E_ KE90 (Nat.le_refl _))
  clear E_
  obtain ⟨hpx88, hg⟩ := hg
  have hnx88 : decide (x88 < 0) = false := decide_eq_false (by omega)
  have hex88 : (x88 != x88) = false := bne_self_eq_false _
  have hdx88 : decide (x88 = x88) = true := decide_eq_true rfl
  clear hpx88
  obtain ⟨x94, hg⟩ := hg
  obtain ⟨x95, hg⟩ := hg
  obtain ⟨E_, hg⟩ := hg
  obtain ⟨KE96, E_⟩ := E_
  have E96 := Aside0.mk (E_ KE96 (Nat.le_refl _))
  clear E_
  obtain ⟨hpx94, hg⟩ := hg
  have hnx94 : decide (x94 < 0) = false := decide_eq_false (by omega)
  have hex94 : (x94 != x94) = false := bne_self_eq_false _
  have hdx94 : decide (x94 = x94) = true := decide_eq_true rfl
  clear hpx94
  obtain ⟨E_, hg⟩ := hg
  obtain ⟨KE99, E_⟩ := E_
  have E99 := Aside0.mk (E_ KE99 (Nat.le_refl _))
  clear E_
  clear hg
  have hbx25 : (x25 != x25) = false := bne_self_eq_false _
  have hdx25 : (x25 == x25) = true := beq_self_eq_true _
  go_enter Try.func4, Try.ntmps4
  go_wp2_with (first | ((with_reducible refine gate_dst (N := 4) rfl ?_); refine box_event ?hg (N := 4) ?hd (cs := #[.slice A0_0 l0_0.length c0_0]) (t := 30) ?hr ?_; (case hd => rfl); (case hg => rfl); (case hr => first | (go_simp; done) | (go_simp; rfl)); intro gb1 hg_ w2 hbox_ hb_; obtain ⟨hk_, hs1_, hs2_, hw0_⟩ := ev_kept (S := (fun _ => False)) HS.out HB.out hb_ (by repeat (first | (with_reducible first | exact Kept.refl _ _ | apply Kept.alloc | apply Kept.drewN | apply Kept.drew) | exact Kept.refl _ _)); have hw_ : w.heap.size ≤ gb1 := (by rw [hg_]; exact hw0_); have hB_ := below_step (by repeat (first | (with_reducible first | exact HB.out | apply below_alloc | apply pw_below_drewN | apply below_drew1) | exact HB.out)) hb_; have n0_ := Aside0.mk (Kd.F_kept FA0_0.out hk_ (fun _ _ hs_ => hs_.elim)); have n1_ := Aside0.mk (Kd.F_kept FA2.out hk_ (fun _ _ hs_ => hs_.elim)); have hS_ : s0 ≤ gb1 := (by rw [hg_]; exact hs1_); have nb_ := Aside0.mk hbox_; have ns_ := Aside0.mk (box_in hbox_); have nc_ := Aside0.mk (And.intro hS_ CH.out); have ng_ := Aside0.mk hw_; have nB_ := Aside0.mk hB_; clear HB HS CH FA0_0 FA2; have FA0_0 := n0_; have FA2 := n1_; have HB := nB_; have HS := ns_; have CH := nc_; have BKgb1 := nb_; have GEgb1 := ng_; clear nB_ ns_ nc_ nb_ ng_ n0_ n1_; clear hk_ hs1_ hs2_ hw_ hw0_ hB_ hS_ hb_ hbox_ hg_; have hczgb1_0 : w2.cell? ⟨gb1, 0, none⟩ = some (.slice A0_0 l0_0.length c0_0) := (blk_cell BKgb1.out 0).trans rfl; have hfzgb1_0 := blk_frozen BKgb1.out 0) | ((with_reducible refine gate_callee (f := 14) rfl ?_); refine goesL_ (some 26) rfl rfl Try.func14 (by kernel_rfl) rfl #[.agg #[.slice A0_0 l0_0.length c0_0], .int .i64 1048576] rfl (by (try simp only [List.map_toArray, List.map_cons, List.map_nil]); first | done | rfl | (simp only [List.length_drop, List.length_take]; rfl)) ?_; (with_reducible refine (laws_szGraph.calls KE5 _ _ l0_0 1048576 x4 _ ?sidehr0_0 ?sidehc0_0 E5.out).mono ?_); (case sidehr0_0 => exact F_at (S := (fun _ => False)) FA0_0.out (by repeat (first | (with_reducible first | exact Kept.refl _ _ | apply Kept.alloc | apply Kept.drewN | apply Kept.drew) | exact Kept.refl _ _)) (fun _ _ hs_ => hs_.elim)); (case sidehc0_0 => exact HC0_0.out); rintro e w3 ⟨rfl, hb_⟩; refine ⟨_, rfl, ?_⟩; (try clear hczgb1_0); (try clear hfzgb1_0); obtain ⟨hk_, hs1_, hs2_, hw_⟩ := ev_kept (S := (fun _ => False)) HS.out HB.out hb_ (by repeat (first | (with_reducible first | exact Kept.refl _ _ | apply Kept.alloc | apply Kept.drewN | apply Kept.drew) | exact Kept.refl _ _)); have hB_ := below_step (by repeat (first | (with_reducible first | exact HB.out | apply below_alloc | apply pw_below_drewN | apply below_drew1 | refine below_set ?_ GEgb1.out) | exact HB.out)) hb_; have n0_ := Aside0.mk (Kd.F_kept FA0_0.out hk_ (fun _ _ hs_ => hs_.elim)); have n1_ := Aside0.mk (Kd.F_kept FA2.out hk_ (fun _ _ hs_ => hs_.elim)); have n2_ := Aside0.mk (blk_below (g := gb1) (o := .cells #[.slice A0_0 l0_0.length c0_0] 30 (0, 0)) (by (with_reducible repeat (first | refine blk_drewN ?_ _ | refine blk_drew ?_ | refine blk_alloc ?_ _)); exact BKgb1.out) hb_); have ns_ := Aside0.mk (Nat.le_trans (Nat.le_trans hs1_ hs2_) (Nat.le_refl _)); have nB_ := Aside0.mk hB_; clear HB HS FA0_0 FA2 BKgb1; have FA0_0 := n0_; have FA2 := n1_; have BKgb1 := n2_; have HB := nB_; have HS := ns_; clear nB_ ns_ n0_ n1_ n2_; clear hk_ hs1_ hs2_ hw_ hB_ hb_; have hczgb1_0 : w3.cell? ⟨gb1, 0, none⟩ = some (.slice A0_0 l0_0.length c0_0) := (blk_cell BKgb1.out 0).trans rfl; have hfzgb1_0 := blk_frozen BKgb1.out 0) | ((with_reducible refine gate_callee (f := 16) rfl ?_); refine goesL_ (some 31) rfl rfl Try.func16 (by kernel_rfl) rfl #[.agg #[.slice A0_0 l0_0.length c0_0]] rfl (by (try simp only [List.map_toArray, List.map_cons, List.map_nil]); first | done | rfl | (simp only [List.length_drop, List.length_take]; rfl)) ?_; (with_reducible refine (laws_toGraph.calls KE7 _ _ l0_0 l0_0 _ ?sidehr0_0 ?sidehc0_0 E7.out).mono ?_); (case sidehr0_0 => exact F_at (S := (fun _ => False)) FA0_0.out (by repeat (first | (with_reducible first | exact Kept.refl _ _ | apply Kept.alloc | apply Kept.drewN | apply Kept.drew) | exact Kept.refl _ _)) (fun _ _ hs_ => hs_.elim)); (case sidehc0_0 => exact HC0_0.out); rintro e w6 ⟨v8, rfl, hov0__, hb_⟩; refine ⟨_, rfl, ?_⟩; (try clear hczgb1_0); (try clear hfzgb1_0); obtain ⟨hk_, hs1_, hs2_, hw_⟩ := ev_kept (S := (fun _ => False)) HS.out HB.out hb_ (by repeat (first | (with_reducible first | exact Kept.refl _ _ | apply Kept.alloc | apply Kept.drewN | apply Kept.drew) | exact Kept.refl _ _)); have hB_ := below_step (by repeat (first | (with_reducible first | exact HB.out | apply below_alloc | apply pw_below_drewN | apply below_drew1 | refine below_set ?_ GEgb1.out) | exact HB.out)) hb_; have n0_ := Aside0.mk (Kd.F_kept FA0_0.out hk_ (fun _ _ hs_ => hs_.elim)); have n1_ := Aside0.mk (Kd.F_kept FA2.out hk_ (fun _ _ hs_ => hs_.elim)); have n2_ := Aside0.mk (blk_below (g := gb1) (o := .cells #[.slice A0_0 l0_0.length c0_0] 30 (0, 0)) (by (with_reducible repeat (first | refine blk_drewN ?_ _ | refine blk_drew ?_ | refine blk_alloc ?_ _)); exact BKgb1.out) hb_); have ns_ := Aside0.mk (Nat.le_trans (Nat.le_trans hs1_ hs2_) (Nat.le_refl _)); have nB_ := Aside0.mk hB_; obtain ⟨lo9, hi10, c1_, c2_, c3_, h_⟩ := S_new hov0__ hs2_ hw_ hs1_; have HS11 := Aside0.mk h_; obtain ⟨Ao12, co13, eo_⟩ := Kd.S_slice HS11.out; subst eo_; have HCHS11 := Aside0.mk (Kd.S_reads' HS11.out).2.1; clear h_ hov0__; have nc_ := Aside0.mk (And.intro c1_ (And.intro c2_ CH.out)); clear CH ns_; have CH := nc_; have ns_ := Aside0.mk c3_; clear nc_ c1_ c2_ c3_; clear HB HS FA0_0 FA2 BKgb1; have FA0_0 := n0_; have FA2 := n1_; have BKgb1 := n2_; have HB := nB_; have HS := ns_; clear nB_ ns_ n0_ n1_ n2_; clear hk_ hs1_ hs2_ hw_ hB_ hb_; have hczgb1_0 : w6.cell? ⟨gb1, 0, none⟩ = some (.slice A0_0 l0_0.length c0_0) := (blk_cell BKgb1.out 0).trans rfl; have hfzgb1_0 := blk_frozen BKgb1.out 0) | ((with_reducible refine gate_callee (f := 17) rfl ?_); refine goesL_ (some 34) rfl rfl Try.func17 (by kernel_rfl) rfl #[.slice A2 l2.length c2] rfl (by (try simp only [List.map_toArray, List.map_cons, List.map_nil]); first | done | rfl | (simp only [List.length_drop, List.length_take]; rfl)) ?_; (with_reducible refine (laws_toIntS.calls KE15 _ _ l2 l2 _ ?sidehr0 ?sidehc0 E15.out).mono ?_); (case sidehr0 => exact F_at (S := (fun _ => False)) FA2.out (by repeat (first | (with_reducible first | exact Kept.refl _ _ | apply Kept.alloc | apply Kept.drewN | apply Kept.drew) | exact Kept.refl _ _)) (fun _ _ hs_ => hs_.elim)); (case sidehc0 => exact HC2.out); rintro e w14 ⟨v16, rfl, hov0__, hb_⟩; refine ⟨_, rfl, ?_⟩; (try clear hczgb1_0); (try clear hfzgb1_0); obtain ⟨hk_, hs1_, hs2_, hw_⟩ := ev_kept (S := (fun _ => False)) HS.out HB.out hb_ (by repeat (first | (with_reducible first | exact Kept.refl _ _ | apply Kept.alloc | apply Kept.drewN | apply Kept.drew) | exact Kept.refl _ _)); have hB_ := below_step (by repeat (first | (with_reducible first | exact HB.out | apply below_alloc | apply pw_below_drewN | apply below_drew1 | refine below_set ?_ GEgb1.out) | exact HB.out)) hb_; have n0_ := Aside0.mk (Kd.F_kept FA0_0.out hk_ (fun _ _ hs_ => hs_.elim)); have n1_ := Aside0.mk (Kd.F_kept FA2.out hk_ (fun _ _ hs_ => hs_.elim)); have n2_ := Aside0.mk (blk_below (g := gb1) (o := .cells #[.slice A0_0 l0_0.length c0_0] 30 (0, 0)) (by (with_reducible repeat (first | refine blk_drewN ?_ _ | refine blk_drew ?_ | refine blk_alloc ?_ _)); exact BKgb1.out) hb_); have n3_ := Aside0.mk (Kd.S_kept HS11.out hk_ (fun _ _ hs_ => hs_.elim)); have ns_ := Aside0.mk (Nat.le_trans (Nat.le_trans hs1_ hs2_) (Nat.le_refl _)); have nB_ := Aside0.mk hB_; obtain ⟨lo17, hi18, c1_, c2_, c3_, h_⟩ := R_new hov0__ hs2_ hw_ hs1_; have HR19 := Aside0.mk h_; obtain ⟨Ao20, co21, eo_⟩ := Kd.R_slice HR19.out; subst eo_; have HCHR19 := Aside0.mk (Kd.R_reads' HR19.out).2.1; clear h_ hov0__; have nc_ := Aside0.mk (And.intro c1_ (And.intro c2_ CH.out)); clear CH ns_; have CH := nc_; have ns_ := Aside0.mk c3_; clear nc_ c1_ c2_ c3_; clear HB HS FA0_0 FA2 BKgb1 HS11; have FA0_0 := n0_; have FA2 := n1_; have BKgb1 := n2_; have HS11 := n3_; have HB := nB_; have HS := ns_; clear nB_ ns_ n0_ n1_ n2_ n3_; clear hk_ hs1_ hs2_ hw_ hB_ hb_; have hczgb1_0 : w14.cell? ⟨gb1, 0, none⟩ = some (.slice A0_0 l0_0.length c0_0) := (blk_cell BKgb1.out 0).trans rfl; have hfzgb1_0 := blk_frozen BKgb1.out 0) | ((with_reducible refine gate_callee (f := 15) rfl ?_); refine goesL_ (some 36) rfl rfl Try.func15 (by kernel_rfl) rfl #[.agg #[.slice Ao12 l0_0.length co13], .int .i64 a1, .slice Ao20 l2.length co21, .int .i64 a3] rfl (by (try simp only [List.map_toArray, List.map_cons, List.map_nil]); first | done | rfl | (simp only [List.length_drop, List.length_take]; rfl)) ?_; (with_reducible refine (spec_UnicycleOfTree.calls KE26 _ _ l0_0 a1 _ _ l2 a3 x23 x24 x25 _ ?sidehr0_0 ?sidehc0_0 ?sidehr2 ?sidehc2 E26.out).mono ?_); (case sidehr0_0 => exact S_now (S := (fun _ => False)) HS11.out (by repeat (first | (with_reducible first | exact Kept.refl _ _ | apply Kept.alloc | apply Kept.drewN | apply Kept.drew) | exact Kept.refl _ _)) (fun _ _ hs_ => hs_.elim)); (case sidehc0_0 => exact HCHS11.out); (case sidehr2 => exact R_now (S := (fun _ => False)) HR19.out (by repeat (first | (with_reducible first | exact Kept.refl _ _ | apply Kept.alloc | apply Kept.drewN | apply Kept.drew) | exact Kept.refl _ _)) (fun _ _ hs_ => hs_.elim)); (case sidehc2 => exact HCHR19.out); rintro e w22 ⟨v27, rfl, hov0__, hb_⟩; refine ⟨_, rfl, ?_⟩; (try clear hczgb1_0); (try clear hfzgb1_0); obtain ⟨hk_, hs1_, hs2_, hw_⟩ := ev_kept (S := (fun _ => False)) HS.out HB.out hb_ (by repeat (first | (with_reducible first | exact Kept.refl _ _ | apply Kept.alloc | apply Kept.drewN | apply Kept.drew) | exact Kept.refl _ _)); have hB_ := below_step (by repeat (first | (with_reducible first | exact HB.out | apply below_alloc | apply pw_below_drewN | apply below_drew1 | refine below_set ?_ GEgb1.out) | exact HB.out)) hb_; have n0_ := Aside0.mk (Kd.F_kept FA0_0.out hk_ (fun _ _ hs_ => hs_.elim)); have n1_ := Aside0.mk (Kd.F_kept FA2.out hk_ (fun _ _ hs_ => hs_.elim)); have n2_ := Aside0.mk (blk_below (g := gb1) (o := .cells #[.slice A0_0 l0_0.length c0_0] 30 (0, 0)) (by (with_reducible repeat (first | refine blk_drewN ?_ _ | refine blk_drew ?_ | refine blk_alloc ?_ _)); exact BKgb1.out) hb_); have n3_ := Aside0.mk (Kd.S_kept HS11.out hk_ (fun _ _ hs_ => hs_.elim)); have n4_ := Aside0.mk (Kd.R_kept HR19.out hk_ (fun _ _ hs_ => hs_.elim)); have ns_ := Aside0.mk (Nat.le_trans (Nat.le_trans hs1_ hs2_) (Nat.le_refl _)); have nB_ := Aside0.mk hB_; obtain ⟨lo28, hi29, c1_, c2_, c3_, h_⟩ := R_new hov0__ hs2_ hw_ hs1_; have HR30 := Aside0.mk h_; obtain ⟨Ao31, co32, eo_⟩ := Kd.R_slice HR30.out; subst eo_; have HCHR30 := Aside0.mk (Kd.R_reads' HR30.out).2.1; clear h_ hov0__; have nc_ := Aside0.mk (And.intro c1_ (And.intro c2_ CH.out)); clear CH ns_; have CH := nc_; have ns_ := Aside0.mk c3_; clear nc_ c1_ c2_ c3_; clear HB HS FA0_0 FA2 BKgb1 HS11 HR19; have FA0_0 := n0_; have FA2 := n1_; have BKgb1 := n2_; have HS11 := n3_; have HR19 := n4_; have HB := nB_; have HS := ns_; clear nB_ ns_ n0_ n1_ n2_ n3_ n4_; clear hk_ hs1_ hs2_ hw_ hB_ hb_; have hczgb1_0 : w22.cell? ⟨gb1, 0, none⟩ = some (.slice A0_0 l0_0.length c0_0) := (blk_cell BKgb1.out 0).trans rfl; have hfzgb1_0 := blk_frozen BKgb1.out 0) | ((with_reducible refine gate_dst (N := 10) rfl ?_); refine box_event ?hg (N := 10) ?hd (cs := #[.slice none 0 0, .int .i64 0]) (t := 34) ?hr ?_; (case hd => rfl); (case hg => rfl); (case hr => first | (go_simp; done) | (go_simp; rfl)); intro gb33 hg_ w34 hbox_ hb_; (try clear hczgb1_0); (try clear hfzgb1_0); obtain ⟨hk_, hs1_, hs2_, hw0_⟩ := ev_kept (S := (fun _ => False)) HS.out HB.out hb_ (by repeat (first | (with_reducible first | exact Kept.refl _ _ | apply Kept.alloc | apply Kept.drewN | apply Kept.drew) | exact Kept.refl _ _)); have hw_ : w.heap.size ≤ gb33 := (by rw [hg_]; exact hw0_); have hB_ := below_step (by repeat (first | (with_reducible first | exact HB.out | apply below_alloc | apply pw_below_drewN | apply below_drew1 | refine below_set ?_ GEgb1.out) | exact HB.out)) hb_; have n0_ := Aside0.mk (Kd.F_kept FA0_0.out hk_ (fun _ _ hs_ => hs_.elim)); have n1_ := Aside0.mk (Kd.F_kept FA2.out hk_ (fun _ _ hs_ => hs_.elim)); have n2_ := Aside0.mk (blk_below (g := gb1) (o := .cells #[.slice A0_0 l0_0.length c0_0] 30 (0, 0)) (by (with_reducible repeat (first | refine blk_drewN ?_ _ | refine blk_drew ?_ | refine blk_alloc ?_ _)); exact BKgb1.out) hb_); have n3_ := Aside0.mk (Kd.S_kept HS11.out hk_ (fun _ _ hs_ => hs_.elim)); have n4_ := Aside0.mk (Kd.R_kept HR19.out hk_ (fun _ _ hs_ => hs_.elim)); have n5_ := Aside0.mk (Kd.R_kept HR30.out hk_ (fun _ _ hs_ => hs_.elim)); have hS_ : hi29 ≤ gb33 := (by rw [hg_]; exact hs1_); have nb_ := Aside0.mk hbox_; have ns_ := Aside0.mk (box_in hbox_); have nc_ := Aside0.mk (And.intro hS_ CH.out); have ng_ := Aside0.mk hw_; have nB_ := Aside0.mk hB_; clear HB HS CH FA0_0 FA2 BKgb1 HS11 HR19 HR30; have FA0_0 := n0_; have FA2 := n1_; have BKgb1 := n2_; have HS11 := n3_; have HR19 := n4_; have HR30 := n5_; have HB := nB_; have HS := ns_; have CH := nc_; have BKgb33 := nb_; have GEgb33 := ng_; clear nB_ ns_ nc_ nb_ ng_ n0_ n1_ n2_ n3_ n4_ n5_; clear hk_ hs1_ hs2_ hw_ hw0_ hB_ hS_ hb_ hbox_ hg_; have hczgb1_0 : w34.cell? ⟨gb1, 0, none⟩ = some (.slice A0_0 l0_0.length c0_0) := (blk_cell BKgb1.out 0).trans rfl; have hfzgb1_0 := blk_frozen BKgb1.out 0; have hczgb33_0 : w34.cell? ⟨gb33, 0, none⟩ = some (.slice none 0 0) := (blk_cell BKgb33.out 0).trans rfl; have hczgb33_1 : w34.cell? ⟨gb33, 1, none⟩ = some (.int .i64 0) := (blk_cell BKgb33.out 1).trans rfl; have hfzgb33_0 := blk_frozen BKgb33.out 0; have hfzgb33_1 := blk_frozen BKgb33.out 1; have hnbgb1gb33 : gb1 ≠ gb33 := (by have := CH.out; omega); have hnbgb33gb1 : gb33 ≠ gb1 := (by have := CH.out; omega)) | ((with_reducible refine gate_callee (f := 16) rfl ?_); refine goesL_ (some 40) rfl rfl Try.func16 (by kernel_rfl) rfl #[.agg #[.slice A0_0 l0_0.length c0_0]] rfl (by (try simp only [List.map_toArray, List.map_cons, List.map_nil]); first | done | rfl | (simp only [List.length_drop, List.length_take]; rfl)) ?_; (with_reducible refine (laws_toGraph.calls KE7 _ _ l0_0 l0_0 _ ?sidehr0_0 ?sidehc0_0 E7.out).mono ?_); (case sidehr0_0 => exact F_at (S := (fun k_ => k_ = gb33)) FA0_0.out (by repeat (first | (with_reducible first | exact Kept.refl _ _ | apply Kept.alloc | apply Kept.drewN | apply Kept.drew) | refine Kept.setCell ?_ (Or.inl (show gb33 = gb33 from rfl)) _ | exact Kept.refl _ _)) (fun k_ h_ hs_ => by have h1_ : k_ < s0 := h_; have g1_ : k_ = gb33 := hs_; have := CH.out; omega)); (case sidehc0_0 => exact HC0_0.out); rintro e w35 ⟨v36, rfl, hov0__, hb_⟩; refine ⟨_, rfl, ?_⟩; (try clear hczgb1_0); (try clear hfzgb1_0); (try clear hczgb33_0); (try clear hfzgb33_0); (try clear hczgb33_1); (try clear hfzgb33_1); obtain ⟨hk_, hs1_, hs2_, hw_⟩ := ev_kept (S := (fun k_ => k_ = gb33)) HS.out HB.out hb_ (by repeat (first | (with_reducible first | exact Kept.refl _ _ | apply Kept.alloc | apply Kept.drewN | apply Kept.drew) | refine Kept.setCell ?_ (Or.inl (show gb33 = gb33 from rfl)) _ | exact Kept.refl _ _)); have hB_ := below_step (by repeat (first | (with_reducible first | exact HB.out | apply below_alloc | apply pw_below_drewN | apply below_drew1 | refine below_set ?_ GEgb1.out | refine below_set ?_ GEgb33.out) | exact HB.out)) hb_; have n0_ := Aside0.mk (Kd.F_kept FA0_0.out hk_ (fun k_ h_ hs_ => by have h1_ : k_ < s0 := h_; have g1_ : k_ = gb33 := hs_; have := CH.out; omega)); have n1_ := Aside0.mk (Kd.F_kept FA2.out hk_ (fun k_ h_ hs_ => by have h1_ : k_ < s0 := h_; have g1_ : k_ = gb33 := hs_; have := CH.out; omega)); have n2_ := Aside0.mk (blk_below (g := gb1) (o := .cells #[.slice A0_0 l0_0.length c0_0] 30 (0, 0)) (by (with_reducible repeat (first | refine blk_drewN ?_ _ | refine blk_drew ?_ | refine blk_alloc ?_ _)); refine blk_far ?_ (by have := CH.out; omega) _; (with_reducible repeat (first | refine blk_drewN ?_ _ | refine blk_drew ?_ | refine blk_alloc ?_ _)); refine blk_far ?_ (by have := CH.out; omega) _; (with_reducible repeat (first | refine blk_drewN ?_ _ | refine blk_drew ?_ | refine blk_alloc ?_ _)); exact BKgb1.out) hb_); have n3_ := Aside0.mk (Kd.S_kept HS11.out hk_ (fun k_ h_ hs_ => by obtain ⟨h1_, h2_⟩ := h_; have g1_ : k_ = gb33 := hs_; have := CH.out; omega)); have n4_ := Aside0.mk (Kd.R_kept HR19.out hk_ (fun k_ h_ hs_ => by obtain ⟨h1_, h2_⟩ := h_; have g1_ : k_ = gb33 := hs_; have := CH.out; omega)); have n5_ := Aside0.mk (Kd.R_kept HR30.out hk_ (fun k_ h_ hs_ => by obtain ⟨h1_, h2_⟩ := h_; have g1_ : k_ = gb33 := hs_; have := CH.out; omega)); have n6_ := Aside0.mk (blk_below (g := gb33) (o := .cells #[.slice Ao31 x23.length co32, .int .i64 x24] 34 (0, 0)) (by (with_reducible repeat (first | refine blk_drewN ?_ _ | refine blk_drew ?_ | refine blk_alloc ?_ _)); refine blk_put (cs := #[.slice Ao31 x23.length co32, .int .i64 0]) ?_ 1 _ rfl; (with_reducible repeat (first | refine blk_drewN ?_ _ | refine blk_drew ?_ | refine blk_alloc ?_ _)); refine blk_put (cs := #[.slice none 0 0, .int .i64 0]) ?_ 0 _ rfl; (with_reducible repeat (first | refine blk_drewN ?_ _ | refine blk_drew ?_ | refine blk_alloc ?_ _)); exact BKgb33.out) hb_); have ns_ := Aside0.mk (Nat.le_trans (Nat.le_trans hs1_ hs2_) (Nat.le_refl _)); have nB_ := Aside0.mk hB_; obtain ⟨lo37, hi38, c1_, c2_, c3_, h_⟩ := S_new hov0__ hs2_ hw_ hs1_; have HS39 := Aside0.mk h_; obtain ⟨Ao40, co41, eo_⟩ := Kd.S_slice HS39.out; subst eo_; have HCHS39 := Aside0.mk (Kd.S_reads' HS39.out).2.1; clear h_ hov0__; have nc_ := Aside0.mk (And.intro c1_ (And.intro c2_ CH.out)); clear CH ns_; have CH := nc_; have ns_ := Aside0.mk c3_; clear nc_ c1_ c2_ c3_; clear HB HS FA0_0 FA2 BKgb1 HS11 HR19 HR30 BKgb33; have FA0_0 := n0_; have FA2 := n1_; have BKgb1 := n2_; have HS11 := n3_; have HR19 := n4_; have HR30 := n5_; have BKgb33 := n6_; have HB := nB_; have HS := ns_; clear nB_ ns_ n0_ n1_ n2_ n3_ n4_ n5_ n6_; clear hk_ hs1_ hs2_ hw_ hB_ hb_; have hczgb1_0 : w35.cell? ⟨gb1, 0, none⟩ = some (.slice A0_0 l0_0.length c0_0) := (blk_cell BKgb1.out 0).trans rfl; have hfzgb1_0 := blk_frozen BKgb1.out 0; have hczgb33_0 : w35.cell? ⟨gb33, 0, none⟩ = some (.slice Ao31 x23.length co32) := (blk_cell BKgb33.out 0).trans rfl; have hczgb33_1 : w35.cell? ⟨gb33, 1, none⟩ = some (.int .i64 x24) := (blk_cell BKgb33.out 1).trans rfl; have hfzgb33_0 := blk_frozen BKgb33.out 0; have hfzgb33_1 := blk_frozen BKgb33.out 1; have hnbgb1gb33 : gb1 ≠ gb33 := (by have := CH.out; omega); have hnbgb33gb1 : gb33 ≠ gb1 := (by have := CH.out; omega)) | ((with_reducible refine gate_dst (N := 12) rfl ?_); refine box_event ?hg (N := 12) ?hd (cs := #[.slice none 0 0]) (t := 24) ?hr ?_; (case hd => rfl); (case hg => rfl); (case hr => first | (go_simp; done) | (go_simp; rfl)); intro gb42 hg_ w43 hbox_ hb_; (try clear hczgb1_0); (try clear hfzgb1_0); (try clear hczgb33_0); (try clear hfzgb33_0); (try clear hczgb33_1); (try clear hfzgb33_1); obtain ⟨hk_, hs1_, hs2_, hw0_⟩ := ev_kept (S := (fun _ => False)) HS.out HB.out hb_ (by repeat (first | (with_reducible first | exact Kept.refl _ _ | apply Kept.alloc | apply Kept.drewN | apply Kept.drew) | exact Kept.refl _ _)); have hw_ : w.heap.size ≤ gb42 := (by rw [hg_]; exact hw0_); have hB_ := below_step (by repeat (first | (with_reducible first | exact HB.out | apply below_alloc | apply pw_below_drewN | apply below_drew1 | refine below_set ?_ GEgb1.out | refine below_set ?_ GEgb33.out) | exact HB.out)) hb_; have n0_ := Aside0.mk (Kd.F_kept FA0_0.out hk_ (fun _ _ hs_ => hs_.elim)); have n1_ := Aside0.mk (Kd.F_kept FA2.out hk_ (fun _ _ hs_ => hs_.elim)); have n2_ := Aside0.mk (blk_below (g := gb1) (o := .cells #[.slice A0_0 l0_0.length c0_0] 30 (0, 0)) (by (with_reducible repeat (first | refine blk_drewN ?_ _ | refine blk_drew ?_ | refine blk_alloc ?_ _)); exact BKgb1.out) hb_); have n3_ := Aside0.mk (Kd.S_kept HS11.out hk_ (fun _ _ hs_ => hs_.elim)); have n4_ := Aside0.mk (Kd.R_kept HR19.out hk_ (fun _ _ hs_ => hs_.elim)); have n5_ := Aside0.mk (Kd.R_kept HR30.out hk_ (fun _ _ hs_ => hs_.elim)); have n6_ := Aside0.mk (blk_below (g := gb33) (o := .cells #[.slice Ao31 x23.length co32, .int .i64 x24] 34 (0, 0)) (by (with_reducible repeat (first | refine blk_drewN ?_ _ | refine blk_drew ?_ | refine blk_alloc ?_ _)); exact BKgb33.out) hb_); have n7_ := Aside0.mk (Kd.S_kept HS39.out hk_ (fun _ _ hs_ => hs_.elim)); have hS_ : hi38 ≤ gb42 := (by rw [hg_]; exact hs1_); have nb_ := Aside0.mk hbox_; have ns_ := Aside0.mk (box_in hbox_); have nc_ := Aside0.mk (And.intro hS_ CH.out); have ng_ := Aside0.mk hw_; have nB_ := Aside0.mk hB_; clear HB HS CH FA0_0 FA2 BKgb1 HS11 HR19 HR30 BKgb33 HS39; have FA0_0 := n0_; have FA2 := n1_; have BKgb1 := n2_; have HS11 := n3_; have HR19 := n4_; have HR30 := n5_; have BKgb33 := n6_; have HS39 := n7_; have HB := nB_; have HS := ns_; have CH := nc_; have BKgb42 := nb_; have GEgb42 := ng_; clear nB_ ns_ nc_ nb_ ng_ n0_ n1_ n2_ n3_ n4_ n5_ n6_ n7_; clear hk_ hs1_ hs2_ hw_ hw0_ hB_ hS_ hb_ hbox_ hg_; have hczgb1_0 : w43.cell? ⟨gb1, 0, none⟩ = some (.slice A0_0 l0_0.length c0_0) := (blk_cell BKgb1.out 0).trans rfl; have hfzgb1_0 := blk_frozen BKgb1.out 0; have hczgb33_0 : w43.cell? ⟨gb33, 0, none⟩ = some (.slice Ao31 x23.length co32) := (blk_cell BKgb33.out 0).trans rfl; have hczgb33_1 : w43.cell? ⟨gb33, 1, none⟩ = some (.int .i64 x24) := (blk_cell BKgb33.out 1).trans rfl; have hfzgb33_0 := blk_frozen BKgb33.out 0; have hfzgb33_1 := blk_frozen BKgb33.out 1; have hczgb42_0 : w43.cell? ⟨gb42, 0, none⟩ = some (.slice none 0 0) := (blk_cell BKgb42.out 0).trans rfl; have hfzgb42_0 := blk_frozen BKgb42.out 0; have hnbgb1gb33 : gb1 ≠ gb33 := (by have := CH.out; omega); have hnbgb1gb42 : gb1 ≠ gb42 := (by have := CH.out; omega); have hnbgb33gb1 : gb33 ≠ gb1 := (by have := CH.out; omega); have hnbgb33gb42 : gb33 ≠ gb42 := (by have := CH.out; omega); have hnbgb42gb1 : gb42 ≠ gb1 := (by have := CH.out; omega); have hnbgb42gb33 : gb42 ≠ gb33 := (by have := CH.out; omega)) | ((with_reducible refine gate_callee (f := 17) rfl ?_); refine goesL_ (some 42) rfl rfl Try.func17 (by kernel_rfl) rfl #[.slice A2 l2.length c2] rfl (by (try simp only [List.map_toArray, List.map_cons, List.map_nil]); first | done | rfl | (simp only [List.length_drop, List.length_take]; rfl)) ?_; (with_reducible refine (laws_toIntS.calls KE15 _ _ l2 l2 _ ?sidehr0 ?sidehc0 E15.out).mono ?_); (case sidehr0 => exact F_at (S := (fun k_ => k_ = gb42)) FA2.out (by repeat (first | (with_reducible first | exact Kept.refl _ _ | apply Kept.alloc | apply Kept.drewN | apply Kept.drew) | refine Kept.setCell ?_ (Or.inl (show gb42 = gb42 from rfl)) _ | exact Kept.refl _ _)) (fun k_ h_ hs_ => by have h1_ : k_ < s0 := h_; have g1_ : k_ = gb42 := hs_; have := CH.out; omega)); (case sidehc0 => exact HC2.out); rintro e w44 ⟨v45, rfl, hov0__, hb_⟩; refine ⟨_, rfl, ?_⟩; (try clear hczgb1_0); (try clear hfzgb1_0); (try clear hczgb33_0); (try clear hfzgb33_0); (try clear hczgb33_1); (try clear hfzgb33_1); (try clear hczgb42_0); (try clear hfzgb42_0); obtain ⟨hk_, hs1_, hs2_, hw_⟩ := ev_kept (S := (fun k_ => k_ = gb42)) HS.out HB.out hb_ (by repeat (first | (with_reducible first | exact Kept.refl _ _ | apply Kept.alloc | apply Kept.drewN | apply Kept.drew) | refine Kept.setCell ?_ (Or.inl (show gb42 = gb42 from rfl)) _ | exact Kept.refl _ _)); have hB_ := below_step (by repeat (first | (with_reducible first | exact HB.out | apply below_alloc | apply pw_below_drewN | apply below_drew1 | refine below_set ?_ GEgb1.out | refine below_set ?_ GEgb33.out | refine below_set ?_ GEgb42.out) | exact HB.out)) hb_; have n0_ := Aside0.mk (Kd.F_kept FA0_0.out hk_ (fun k_ h_ hs_ => by have h1_ : k_ < s0 := h_; have g1_ : k_ = gb42 := hs_; have := CH.out; omega)); have n1_ := Aside0.mk (Kd.F_kept FA2.out hk_ (fun k_ h_ hs_ => by have h1_ : k_ < s0 := h_; have g1_ : k_ = gb42 := hs_; have := CH.out; omega)); have n2_ := Aside0.mk (blk_below (g := gb1) (o := .cells #[.slice A0_0 l0_0.length c0_0] 30 (0, 0)) (by (with_reducible repeat (first | refine blk_drewN ?_ _ | refine blk_drew ?_ | refine blk_alloc ?_ _)); refine blk_far ?_ (by have := CH.out; omega) _; (with_reducible repeat (first | refine blk_drewN ?_ _ | refine blk_drew ?_ | refine blk_alloc ?_ _)); exact BKgb1.out) hb_); have n3_ := Aside0.mk (Kd.S_kept HS11.out hk_ (fun k_ h_ hs_ => by obtain ⟨h1_, h2_⟩ := h_; have g1_ : k_ = gb42 := hs_; have := CH.out; omega)); have n4_ := Aside0.mk (Kd.R_kept HR19.out hk_ (fun k_ h_ hs_ => by obtain ⟨h1_, h2_⟩ := h_; have g1_ : k_ = gb42 := hs_; have := CH.out; omega)); have n5_ := Aside0.mk (Kd.R_kept HR30.out hk_ (fun k_ h_ hs_ => by obtain ⟨h1_, h2_⟩ := h_; have g1_ : k_ = gb42 := hs_; have := CH.out; omega)); have n6_ := Aside0.mk (blk_below (g := gb33) (o := .cells #[.slice Ao31 x23.length co32, .int .i64 x24] 34 (0, 0)) (by (with_reducible repeat (first | refine blk_drewN ?_ _ | refine blk_drew ?_ | refine blk_alloc ?_ _)); refine blk_far ?_ (by have := CH.out; omega) _; (with_reducible repeat (first | refine blk_drewN ?_ _ | refine blk_drew ?_ | refine blk_alloc ?_ _)); exact BKgb33.out) hb_); have n7_ := Aside0.mk (Kd.S_kept HS39.out hk_ (fun k_ h_ hs_ => by obtain ⟨h1_, h2_⟩ := h_; have g1_ : k_ = gb42 := hs_; have := CH.out; omega)); have n8_ := Aside0.mk (blk_below (g := gb42) (o := .cells #[.slice Ao40 l0_0.length co41] 24 (0, 0)) (by (with_reducible repeat (first | refine blk_drewN ?_ _ | refine blk_drew ?_ | refine blk_alloc ?_ _)); refine blk_put (cs := #[.slice none 0 0]) ?_ 0 _ rfl; (with_reducible repeat (first | refine blk_drewN ?_ _ | refine blk_drew ?_ | refine blk_alloc ?_ _)); exact BKgb42.out) hb_); have ns_ := Aside0.mk (Nat.le_trans (Nat.le_trans hs1_ hs2_) (Nat.le_refl _)); have nB_ := Aside0.mk hB_; obtain ⟨lo46, hi47, c1_, c2_, c3_, h_⟩ := R_new hov0__ hs2_ hw_ hs1_; have HR48 := Aside0.mk h_; obtain ⟨Ao49, co50, eo_⟩ := Kd.R_slice HR48.out; subst eo_; have HCHR48 := Aside0.mk (Kd.R_reads' HR48.out).2.1; clear h_ hov0__; have nc_ := Aside0.mk (And.intro c1_ (And.intro c2_ CH.out)); clear CH ns_; have CH := nc_; have ns_ := Aside0.mk c3_; clear nc_ c1_ c2_ c3_; clear HB HS FA0_0 FA2 BKgb1 HS11 HR19 HR30 BKgb33 HS39 BKgb42; have FA0_0 := n0_; have FA2 := n1_; have BKgb1 := n2_; have HS11 := n3_; have HR19 := n4_; have HR30 := n5_; have BKgb33 := n6_; have HS39 := n7_; have BKgb42 := n8_; have HB := nB_; have HS := ns_; clear nB_ ns_ n0_ n1_ n2_ n3_ n4_ n5_ n6_ n7_ n8_; clear hk_ hs1_ hs2_ hw_ hB_ hb_; have hczgb1_0 : w44.cell? ⟨gb1, 0, none⟩ = some (.slice A0_0 l0_0.length c0_0) := (blk_cell BKgb1.out 0).trans rfl; have hfzgb1_0 := blk_frozen BKgb1.out 0; have hczgb33_0 : w44.cell? ⟨gb33, 0, none⟩ = some (.slice Ao31 x23.length co32) := (blk_cell BKgb33.out 0).trans rfl; have hczgb33_1 : w44.cell? ⟨gb33, 1, none⟩ = some (.int .i64 x24) := (blk_cell BKgb33.out 1).trans rfl; have hfzgb33_0 := blk_frozen BKgb33.out 0; have hfzgb33_1 := blk_frozen BKgb33.out 1; have hczgb42_0 : w44.cell? ⟨gb42, 0, none⟩ = some (.slice Ao40 l0_0.length co41) := (blk_cell BKgb42.out 0).trans rfl; have hfzgb42_0 := blk_frozen BKgb42.out 0; have hnbgb1gb33 : gb1 ≠ gb33 := (by have := CH.out; omega); have hnbgb1gb42 : gb1 ≠ gb42 := (by have := CH.out; omega); have hnbgb33gb1 : gb33 ≠ gb1 := (by have := CH.out; omega); have hnbgb33gb42 : gb33 ≠ gb42 := (by have := CH.out; omega); have hnbgb42gb1 : gb42 ≠ gb1 := (by have := CH.out; omega); have hnbgb42gb33 : gb42 ≠ gb33 := (by have := CH.out; omega)) | ((with_reducible refine gate_callee (f := 18) rfl ?_); refine goesL_ (some 48) rfl rfl Try.func18 (by kernel_rfl) rfl #[.agg #[.slice Ao40 l0_0.length co41], .int .i64 a1, .slice Ao49 l2.length co50, .int .i64 a3] rfl (by (try simp only [List.map_toArray, List.map_cons, List.map_nil]); first | done | rfl | (simp only [List.length_drop, List.length_take]; rfl)) ?_; (with_reducible refine (impl_UnicycleOfTree.calls KE52 _ _ l0_0 a1 _ _ l2 a3 x23 x24 x25 _ ?sidehr0_0 ?sidehc0_0 ?sidehr2 ?sidehc2 E52.out).mono ?_); (case sidehr0_0 => exact S_now (S := (fun _ => False)) HS39.out (by repeat (first | (with_reducible first | exact Kept.refl _ _ | apply Kept.alloc | apply Kept.drewN | apply Kept.drew) | exact Kept.refl _ _)) (fun _ _ hs_ => hs_.elim)); (case sidehc0_0 => exact HCHS39.out); (case sidehr2 => exact R_now (S := (fun _ => False)) HR48.out (by repeat (first | (with_reducible first | exact Kept.refl _ _ | apply Kept.alloc | apply Kept.drewN | apply Kept.drew) | exact Kept.refl _ _)) (fun _ _ hs_ => hs_.elim)); (case sidehc2 => exact HCHR48.out); rintro e w51 ⟨v53, rfl, hov0__, hb_⟩; refine ⟨_, rfl, ?_⟩; (try clear hczgb1_0); (try clear hfzgb1_0); (try clear hczgb33_0); (try clear hfzgb33_0); (try clear hczgb33_1); (try clear hfzgb33_1); (try clear hczgb42_0); (try clear hfzgb42_0); obtain ⟨hk_, hs1_, hs2_, hw_⟩ := ev_kept (S := (fun _ => False)) HS.out HB.out hb_ (by repeat (first | (with_reducible first | exact Kept.refl _ _ | apply Kept.alloc | apply Kept.drewN | apply Kept.drew) | exact Kept.refl _ _)); have hB_ := below_step (by repeat (first | (with_reducible first | exact HB.out | apply below_alloc | apply pw_below_drewN | apply below_drew1 | refine below_set ?_ GEgb1.out | refine below_set ?_ GEgb33.out | refine below_set ?_ GEgb42.out) | exact HB.out)) hb_; have n0_ := Aside0.mk (Kd.F_kept FA0_0.out hk_ (fun _ _ hs_ => hs_.elim)); have n1_ := Aside0.mk (Kd.F_kept FA2.out hk_ (fun _ _ hs_ => hs_.elim)); have n2_ := Aside0.mk (blk_below (g := gb1) (o := .cells #[.slice A0_0 l0_0.length c0_0] 30 (0, 0)) (by (with_reducible repeat (first | refine blk_drewN ?_ _ | refine blk_drew ?_ | refine blk_alloc ?_ _)); exact BKgb1.out) hb_); have n3_ := Aside0.mk (Kd.S_kept HS11.out hk_ (fun _ _ hs_ => hs_.elim)); have n4_ := Aside0.mk (Kd.R_kept HR19.out hk_ (fun _ _ hs_ => hs_.elim)); have n5_ := Aside0.mk (Kd.R_kept HR30.out hk_ (fun _ _ hs_ => hs_.elim)); have n6_ := Aside0.mk (blk_below (g := gb33) (o := .cells #[.slice Ao31 x23.length co32, .int .i64 x24] 34 (0, 0)) (by (with_reducible repeat (first | refine blk_drewN ?_ _ | refine blk_drew ?_ | refine blk_alloc ?_ _)); exact BKgb33.out) hb_); have n7_ := Aside0.mk (Kd.S_kept HS39.out hk_ (fun _ _ hs_ => hs_.elim)); have n8_ := Aside0.mk (blk_below (g := gb42) (o := .cells #[.slice Ao40 l0_0.length co41] 24 (0, 0)) (by (with_reducible repeat (first | refine blk_drewN ?_ _ | refine blk_drew ?_ | refine blk_alloc ?_ _)); exact BKgb42.out) hb_); have n9_ := Aside0.mk (Kd.R_kept HR48.out hk_ (fun _ _ hs_ => hs_.elim)); have ns_ := Aside0.mk (Nat.le_trans (Nat.le_trans hs1_ hs2_) (Nat.le_refl _)); have nB_ := Aside0.mk hB_; obtain ⟨lo54, hi55, c1_, c2_, c3_, h_⟩ := R_new hov0__ hs2_ hw_ hs1_; have HR56 := Aside0.mk h_; obtain ⟨Ao57, co58, eo_⟩ := Kd.R_slice HR56.out; subst eo_; have HCHR56 := Aside0.mk (Kd.R_reads' HR56.out).2.1; clear h_ hov0__; have nc_ := Aside0.mk (And.intro c1_ (And.intro c2_ CH.out)); clear CH ns_; have CH := nc_; have ns_ := Aside0.mk c3_; clear nc_ c1_ c2_ c3_; clear HB HS FA0_0 FA2 BKgb1 HS11 HR19 HR30 BKgb33 HS39 BKgb42 HR48; have FA0_0 := n0_; have FA2 := n1_; have BKgb1 := n2_; have HS11 := n3_; have HR19 := n4_; have HR30 := n5_; have BKgb33 := n6_; have HS39 := n7_; have BKgb42 := n8_; have HR48 := n9_; have HB := nB_; have HS := ns_; clear nB_ ns_ n0_ n1_ n2_ n3_ n4_ n5_ n6_ n7_ n8_ n9_; clear hk_ hs1_ hs2_ hw_ hB_ hb_; have hczgb1_0 : w51.cell? ⟨gb1, 0, none⟩ = some (.slice A0_0 l0_0.length c0_0) := (blk_cell BKgb1.out 0).trans rfl; have hfzgb1_0 := blk_frozen BKgb1.out 0; have hczgb33_0 : w51.cell? ⟨gb33, 0, none⟩ = some (.slice Ao31 x23.length co32) := (blk_cell BKgb33.out 0).trans rfl; have hczgb33_1 : w51.cell? ⟨gb33, 1, none⟩ = some (.int .i64 x24) := (blk_cell BKgb33.out 1).trans rfl; have hfzgb33_0 := blk_frozen BKgb33.out 0; have hfzgb33_1 := blk_frozen BKgb33.out 1; have hczgb42_0 : w51.cell? ⟨gb42, 0, none⟩ = some (.slice Ao40 l0_0.length co41) := (blk_cell BKgb42.out 0).trans rfl; have hfzgb42_0 := blk_frozen BKgb42.out 0; have hnbgb1gb33 : gb1 ≠ gb33 := (by have := CH.out; omega); have hnbgb1gb42 : gb1 ≠ gb42 := (by have := CH.out; omega); have hnbgb33gb1 : gb33 ≠ gb1 := (by have := CH.out; omega); have hnbgb33gb42 : gb33 ≠ gb42 := (by have := CH.out; omega); have hnbgb42gb1 : gb42 ≠ gb1 := (by have := CH.out; omega); have hnbgb42gb33 : gb42 ≠ gb33 := (by have := CH.out; omega)) | ((with_reducible refine gate_dst (N := 14) rfl ?_); refine box_event ?hg (N := 14) ?hd (cs := #[.slice none 0 0, .int .i64 0]) (t := 34) ?hr ?_; (case hd => rfl); (case hg => rfl); (case hr => first | (go_simp; done) | (go_simp; rfl)); intro gb59 hg_ w60 hbox_ hb_; (try clear hczgb1_0); (try clear hfzgb1_0); (try clear hczgb33_0); (try clear hfzgb33_0); (try clear hczgb33_1); (try clear hfzgb33_1); (try clear hczgb42_0); (try clear hfzgb42_0); obtain ⟨hk_, hs1_, hs2_, hw0_⟩ := ev_kept (S := (fun _ => False)) HS.out HB.out hb_ (by repeat (first | (with_reducible first | exact Kept.refl _ _ | apply Kept.alloc | apply Kept.drewN | apply Kept.drew) | exact Kept.refl _ _)); have hw_ : w.heap.size ≤ gb59 := (by rw [hg_]; exact hw0_); have hB_ := below_step (by repeat (first | (with_reducible first | exact HB.out | apply below_alloc | apply pw_below_drewN | apply below_drew1 | refine below_set ?_ GEgb1.out | refine below_set ?_ GEgb33.out | refine below_set ?_ GEgb42.out) | exact HB.out)) hb_; have n0_ := Aside0.mk (Kd.F_kept FA0_0.out hk_ (fun _ _ hs_ => hs_.elim)); have n1_ := Aside0.mk (Kd.F_kept FA2.out hk_ (fun _ _ hs_ => hs_.elim)); have n2_ := Aside0.mk (blk_below (g := gb1) (o := .cells #[.slice A0_0 l0_0.length c0_0] 30 (0, 0)) (by (with_reducible repeat (first | refine blk_drewN ?_ _ | refine blk_drew ?_ | refine blk_alloc ?_ _)); exact BKgb1.out) hb_); have n3_ := Aside0.mk (Kd.S_kept HS11.out hk_ (fun _ _ hs_ => hs_.elim)); have n4_ := Aside0.mk (Kd.R_kept HR19.out hk_ (fun _ _ hs_ => hs_.elim)); have n5_ := Aside0.mk (Kd.R_kept HR30.out hk_ (fun _ _ hs_ => hs_.elim)); have n6_ := Aside0.mk (blk_below (g := gb33) (o := .cells #[.slice Ao31 x23.length co32, .int .i64 x24] 34 (0, 0)) (by (with_reducible repeat (first | refine blk_drewN ?_ _ | refine blk_drew ?_ | refine blk_alloc ?_ _)); exact BKgb33.out) hb_); have n7_ := Aside0.mk (Kd.S_kept HS39.out hk_ (fun _ _ hs_ => hs_.elim)); have n8_ := Aside0.mk (blk_below (g := gb42) (o := .cells #[.slice Ao40 l0_0.length co41] 24 (0, 0)) (by (with_reducible repeat (first | refine blk_drewN ?_ _ | refine blk_drew ?_ | refine blk_alloc ?_ _)); exact BKgb42.out) hb_); have n9_ := Aside0.mk (Kd.R_kept HR48.out hk_ (fun _ _ hs_ => hs_.elim)); have n10_ := Aside0.mk (Kd.R_kept HR56.out hk_ (fun _ _ hs_ => hs_.elim)); have hS_ : hi55 ≤ gb59 := (by rw [hg_]; exact hs1_); have nb_ := Aside0.mk hbox_; have ns_ := Aside0.mk (box_in hbox_); have nc_ := Aside0.mk (And.intro hS_ CH.out); have ng_ := Aside0.mk hw_; have nB_ := Aside0.mk hB_; clear HB HS CH FA0_0 FA2 BKgb1 HS11 HR19 HR30 BKgb33 HS39 BKgb42 HR48 HR56; have FA0_0 := n0_; have FA2 := n1_; have BKgb1 := n2_; have HS11 := n3_; have HR19 := n4_; have HR30 := n5_; have BKgb33 := n6_; have HS39 := n7_; have BKgb42 := n8_; have HR48 := n9_; have HR56 := n10_; have HB := nB_; have HS := ns_; have CH := nc_; have BKgb59 := nb_; have GEgb59 := ng_; clear nB_ ns_ nc_ nb_ ng_ n0_ n1_ n2_ n3_ n4_ n5_ n6_ n7_ n8_ n9_ n10_; clear hk_ hs1_ hs2_ hw_ hw0_ hB_ hS_ hb_ hbox_ hg_; have hczgb1_0 : w60.cell? ⟨gb1, 0, none⟩ = some (.slice A0_0 l0_0.length c0_0) := (blk_cell BKgb1.out 0).trans rfl; have hfzgb1_0 := blk_frozen BKgb1.out 0; have hczgb33_0 : w60.cell? ⟨gb33, 0, none⟩ = some (.slice Ao31 x23.length co32) := (blk_cell BKgb33.out 0).trans rfl; have hczgb33_1 : w60.cell? ⟨gb33, 1, none⟩ = some (.int .i64 x24) := (blk_cell BKgb33.out 1).trans rfl; have hfzgb33_0 := blk_frozen BKgb33.out 0; have hfzgb33_1 := blk_frozen BKgb33.out 1; have hczgb42_0 : w60.cell? ⟨gb42, 0, none⟩ = some (.slice Ao40 l0_0.length co41) := (blk_cell BKgb42.out 0).trans rfl; have hfzgb42_0 := blk_frozen BKgb42.out 0; have hczgb59_0 : w60.cell? ⟨gb59, 0, none⟩ = some (.slice none 0 0) := (blk_cell BKgb59.out 0).trans rfl; have hczgb59_1 : w60.cell? ⟨gb59, 1, none⟩ = some (.int .i64 0) := (blk_cell BKgb59.out 1).trans rfl; have hfzgb59_0 := blk_frozen BKgb59.out 0; have hfzgb59_1 := blk_frozen BKgb59.out 1; have hnbgb1gb33 : gb1 ≠ gb33 := (by have := CH.out; omega); have hnbgb1gb42 : gb1 ≠ gb42 := (by have := CH.out; omega); have hnbgb1gb59 : gb1 ≠ gb59 := (by have := CH.out; omega); have hnbgb33gb1 : gb33 ≠ gb1 := (by have := CH.out; omega); have hnbgb33gb42 : gb33 ≠ gb42 := (by have := CH.out; omega); have hnbgb33gb59 : gb33 ≠ gb59 := (by have := CH.out; omega); have hnbgb42gb1 : gb42 ≠ gb1 := (by have := CH.out; omega); have hnbgb42gb33 : gb42 ≠ gb33 := (by have := CH.out; omega); have hnbgb42gb59 : gb42 ≠ gb59 := (by have := CH.out; omega); have hnbgb59gb1 : gb59 ≠ gb1 := (by have := CH.out; omega); have hnbgb59gb33 : gb59 ≠ gb33 := (by have := CH.out; omega); have hnbgb59gb42 : gb59 ≠ gb42 := (by have := CH.out; omega)) | ((with_reducible refine gate_callee (f := 19) rfl ?_); refine goesL_ (some 53) rfl rfl Try.func19 (by kernel_rfl) rfl #[.agg #[.slice Ao57 x23.length co58, .int .i64 x24], .agg #[.slice Ao31 x23.length co32, .int .i64 x24]] rfl (by (try simp only [List.map_toArray, List.map_cons, List.map_nil]); first | done | rfl | (simp only [List.length_drop, List.length_take]; rfl)) ?_; (with_reducible refine (laws_eqWalk.calls KE62 _ _ x23 x24 _ _ x23 x24 true _ ?sidehr0_0 ?sidehc0_0 ?sidehr1_0 ?sidehc1_0 E62.out).mono ?_); (case sidehr0_0 => exact R_now (S := (fun k_ => k_ = gb59)) HR56.out (by repeat (first | (with_reducible first | exact Kept.refl _ _ | apply Kept.alloc | apply Kept.drewN | apply Kept.drew) | refine Kept.setCell ?_ (Or.inl (show gb59 = gb59 from rfl)) _ | exact Kept.refl _ _)) (fun k_ h_ hs_ => by obtain ⟨h1_, h2_⟩ := h_; have g1_ : k_ = gb59 := hs_; have := CH.out; omega)); (case sidehc0_0 => exact HCHR56.out); (case sidehr1_0 => exact R_now (S := (fun k_ => k_ = gb59)) HR30.out (by repeat (first | (with_reducible first | exact Kept.refl _ _ | apply Kept.alloc | apply Kept.drewN | apply Kept.drew) | refine Kept.setCell ?_ (Or.inl (show gb59 = gb59 from rfl)) _ | exact Kept.refl _ _)) (fun k_ h_ hs_ => by obtain ⟨h1_, h2_⟩ := h_; have g1_ : k_ = gb59 := hs_; have := CH.out; omega)); (case sidehc1_0 => exact HCHR30.out); rintro e w61 ⟨rfl, hb_⟩; refine ⟨_, rfl, ?_⟩; (try clear hczgb1_0); (try clear hfzgb1_0); (try clear hczgb33_0); (try clear hfzgb33_0); (try clear hczgb33_1); (try clear hfzgb33_1); (try clear hczgb42_0); (try clear hfzgb42_0); (try clear hczgb59_0); (try clear hfzgb59_0); (try clear hczgb59_1); (try clear hfzgb59_1); obtain ⟨hk_, hs1_, hs2_, hw_⟩ := ev_kept (S := (fun k_ => k_ = gb59)) HS.out HB.out hb_ (by repeat (first | (with_reducible first | exact Kept.refl _ _ | apply Kept.alloc | apply Kept.drewN | apply Kept.drew) | refine Kept.setCell ?_ (Or.inl (show gb59 = gb59 from rfl)) _ | exact Kept.refl _ _)); have hB_ := below_step (by repeat (first | (with_reducible first | exact HB.out | apply below_alloc | apply pw_below_drewN | apply below_drew1 | refine below_set ?_ GEgb1.out | refine below_set ?_ GEgb33.out | refine below_set ?_ GEgb42.out | refine below_set ?_ GEgb59.out) | exact HB.out)) hb_; have n0_ := Aside0.mk (Kd.F_kept FA0_0.out hk_ (fun k_ h_ hs_ => by have h1_ : k_ < s0 := h_; have g1_ : k_ = gb59 := hs_; have := CH.out; omega)); have n1_ := Aside0.mk (Kd.F_kept FA2.out hk_ (fun k_ h_ hs_ => by have h1_ : k_ < s0 := h_; have g1_ : k_ = gb59 := hs_; have := CH.out; omega)); have n2_ := Aside0.mk (blk_below (g := gb1) (o := .cells #[.slice A0_0 l0_0.length c0_0] 30 (0, 0)) (by (with_reducible repeat (first | refine blk_drewN ?_ _ | refine blk_drew ?_ | refine blk_alloc ?_ _)); refine blk_far ?_ (by have := CH.out; omega) _; (with_reducible repeat (first | refine blk_drewN ?_ _ | refine blk_drew ?_ | refine blk_alloc ?_ _)); refine blk_far ?_ (by have := CH.out; omega) _; (with_reducible repeat (first | refine blk_drewN ?_ _ | refine blk_drew ?_ | refine blk_alloc ?_ _)); exact BKgb1.out) hb_); have n3_ := Aside0.mk (Kd.S_kept HS11.out hk_ (fun k_ h_ hs_ => by obtain ⟨h1_, h2_⟩ := h_; have g1_ : k_ = gb59 := hs_; have := CH.out; omega)); have n4_ := Aside0.mk (Kd.R_kept HR19.out hk_ (fun k_ h_ hs_ => by obtain ⟨h1_, h2_⟩ := h_; have g1_ : k_ = gb59 := hs_; have := CH.out; omega)); have n5_ := Aside0.mk (Kd.R_kept HR30.out hk_ (fun k_ h_ hs_ => by obtain ⟨h1_, h2_⟩ := h_; have g1_ : k_ = gb59 := hs_; have := CH.out; omega)); have n6_ := Aside0.mk (blk_below (g := gb33) (o := .cells #[.slice Ao31 x23.length co32, .int .i64 x24] 34 (0, 0)) (by (with_reducible repeat (first | refine blk_drewN ?_ _ | refine blk_drew ?_ | refine blk_alloc ?_ _)); refine blk_far ?_ (by have := CH.out; omega) _; (with_reducible repeat (first | refine blk_drewN ?_ _ | refine blk_drew ?_ | refine blk_alloc ?_ _)); refine blk_far ?_ (by have := CH.out; omega) _; (with_reducible repeat (first | refine blk_drewN ?_ _ | refine blk_drew ?_ | refine blk_alloc ?_ _)); exact BKgb33.out) hb_); have n7_ := Aside0.mk (Kd.S_kept HS39.out hk_ (fun k_ h_ hs_ => by obtain ⟨h1_, h2_⟩ := h_; have g1_ : k_ = gb59 := hs_; have := CH.out; omega)); have n8_ := Aside0.mk (blk_below (g := gb42) (o := .cells #[.slice Ao40 l0_0.length co41] 24 (0, 0)) (by (with_reducible repeat (first | refine blk_drewN ?_ _ | refine blk_drew ?_ | refine blk_alloc ?_ _)); refine blk_far ?_ (by have := CH.out; omega) _; (with_reducible repeat (first | refine blk_drewN ?_ _ | refine blk_drew ?_ | refine blk_alloc ?_ _)); refine blk_far ?_ (by have := CH.out; omega) _; (with_reducible repeat (first | refine blk_drewN ?_ _ | refine blk_drew ?_ | refine blk_alloc ?_ _)); exact BKgb42.out) hb_); have n9_ := Aside0.mk (Kd.R_kept HR48.out hk_ (fun k_ h_ hs_ => by obtain ⟨h1_, h2_⟩ := h_; have g1_ : k_ = gb59 := hs_; have := CH.out; omega)); have n10_ := Aside0.mk (Kd.R_kept HR56.out hk_ (fun k_ h_ hs_ => by obtain ⟨h1_, h2_⟩ := h_; have g1_ : k_ = gb59 := hs_; have := CH.out; omega)); have n11_ := Aside0.mk (blk_below (g := gb59) (o := .cells #[.slice Ao57 x23.length co58, .int .i64 x24] 34 (0, 0)) (by (with_reducible repeat (first | refine blk_drewN ?_ _ | refine blk_drew ?_ | refine blk_alloc ?_ _)); refine blk_put (cs := #[.slice Ao57 x23.length co58, .int .i64 0]) ?_ 1 _ rfl; (with_reducible repeat (first | refine blk_drewN ?_ _ | refine blk_drew ?_ | refine blk_alloc ?_ _)); refine blk_put (cs := #[.slice none 0 0, .int .i64 0]) ?_ 0 _ rfl; (with_reducible repeat (first | refine blk_drewN ?_ _ | refine blk_drew ?_ | refine blk_alloc ?_ _)); exact BKgb59.out) hb_); have ns_ := Aside0.mk (Nat.le_trans (Nat.le_trans hs1_ hs2_) (Nat.le_refl _)); have nB_ := Aside0.mk hB_; clear HB HS FA0_0 FA2 BKgb1 HS11 HR19 HR30 BKgb33 HS39 BKgb42 HR48 HR56 BKgb59; have FA0_0 := n0_; have FA2 := n1_; have BKgb1 := n2_; have HS11 := n3_; have HR19 := n4_; have HR30 := n5_; have BKgb33 := n6_; have HS39 := n7_; have BKgb42 := n8_; have HR48 := n9_; have HR56 := n10_; have BKgb59 := n11_; have HB := nB_; have HS := ns_; clear nB_ ns_ n0_ n1_ n2_ n3_ n4_ n5_ n6_ n7_ n8_ n9_ n10_ n11_; clear hk_ hs1_ hs2_ hw_ hB_ hb_; have hczgb1_0 : w61.cell? ⟨gb1, 0, none⟩ = some (.slice A0_0 l0_0.length c0_0) := (blk_cell BKgb1.out 0).trans rfl; have hfzgb1_0 := blk_frozen BKgb1.out 0; have hczgb33_0 : w61.cell? ⟨gb33, 0, none⟩ = some (.slice Ao31 x23.length co32) := (blk_cell BKgb33.out 0).trans rfl; have hczgb33_1 : w61.cell? ⟨gb33, 1, none⟩ = some (.int .i64 x24) := (blk_cell BKgb33.out 1).trans rfl; have hfzgb33_0 := blk_frozen BKgb33.out 0; have hfzgb33_1 := blk_frozen BKgb33.out 1; have hczgb42_0 : w61.cell? ⟨gb42, 0, none⟩ = some (.slice Ao40 l0_0.length co41) := (blk_cell BKgb42.out 0).trans rfl; have hfzgb42_0 := blk_frozen BKgb42.out 0; have hczgb59_0 : w61.cell? ⟨gb59, 0, none⟩ = some (.slice Ao57 x23.length co58) := (blk_cell BKgb59.out 0).trans rfl; have hczgb59_1 : w61.cell? ⟨gb59, 1, none⟩ = some (.int .i64 x24) := (blk_cell BKgb59.out 1).trans rfl; have hfzgb59_0 := blk_frozen BKgb59.out 0; have hfzgb59_1 := blk_frozen BKgb59.out 1; have hnbgb1gb33 : gb1 ≠ gb33 := (by have := CH.out; omega); have hnbgb1gb42 : gb1 ≠ gb42 := (by have := CH.out; omega); have hnbgb1gb59 : gb1 ≠ gb59 := (by have := CH.out; omega); have hnbgb33gb1 : gb33 ≠ gb1 := (by have := CH.out; omega); have hnbgb33gb42 : gb33 ≠ gb42 := (by have := CH.out; omega); have hnbgb33gb59 : gb33 ≠ gb59 := (by have := CH.out; omega); have hnbgb42gb1 : gb42 ≠ gb1 := (by have := CH.out; omega); have hnbgb42gb33 : gb42 ≠ gb33 := (by have := CH.out; omega); have hnbgb42gb59 : gb42 ≠ gb59 := (by have := CH.out; omega); have hnbgb59gb1 : gb59 ≠ gb1 := (by have := CH.out; omega); have hnbgb59gb33 : gb59 ≠ gb33 := (by have := CH.out; omega); have hnbgb59gb42 : gb59 ≠ gb42 := (by have := CH.out; omega)))
  try go_wp2
  (try clear hczgb1_0)
  (try clear hfzgb1_0)
  (try clear hczgb33_0)
  (try clear hfzgb33_0)
  (try clear hczgb33_1)
  (try clear hfzgb33_1)
  (try clear hczgb42_0)
  (try clear hfzgb42_0)
  (try clear hczgb59_0)
  (try clear hfzgb59_0)
  (try clear hczgb59_1)
  (try clear hfzgb59_1)
  have n0_ := Aside0.mk (Kd.F_drew FA0_0.out)
  have n1_ := Aside0.mk (Kd.F_drew FA2.out)
  have n2_ := Aside0.mk (blk_drew BKgb1.out)
  have n3_ := Aside0.mk (Kd.S_drew HS11.out)
  have n4_ := Aside0.mk (Kd.R_drew HR19.out)
  have n5_ := Aside0.mk (Kd.R_drew HR30.out)
  have n6_ := Aside0.mk (blk_drew BKgb33.out)
  have n7_ := Aside0.mk (Kd.S_drew HS39.out)
  have n8_ := Aside0.mk (blk_drew BKgb42.out)
  have n9_ := Aside0.mk (Kd.R_drew HR48.out)
  have n10_ := Aside0.mk (Kd.R_drew HR56.out)
  have n11_ := Aside0.mk (blk_drew BKgb59.out)
  have nB_ := Aside0.mk (below_drew1 HB.out)
  have nS_ : Aside0 ((gb59 + 1) ≤ w61.drew.heap.size) := ⟨HS.out⟩
  clear HB HS FA0_0 FA2 BKgb1 HS11 HR19 HR30 BKgb33 HS39 BKgb42 HR48 HR56 BKgb59
  have FA0_0 := n0_
  have FA2 := n1_
  have BKgb1 := n2_
  have HS11 := n3_
  have HR19 := n4_
  have HR30 := n5_
  have BKgb33 := n6_
  have HS39 := n7_
  have BKgb42 := n8_
  have HR48 := n9_
  have HR56 := n10_
  have BKgb59 := n11_
  have HB := nB_
  have HS := nS_
  clear nB_ nS_ n0_ n1_ n2_ n3_ n4_ n5_ n6_ n7_ n8_ n9_ n10_ n11_
  refine start_ (n := 5) (S := fun w' => w'.cell? ⟨gb1, 0, none⟩ = some (.slice A0_0 l0_0.length c0_0) ∧ w'.cell? ⟨gb33, 0, none⟩ = some (.slice Ao31 x23.length co32) ∧ w'.cell? ⟨gb33, 1, none⟩ = some (.int .i64 x24) ∧ w'.cell? ⟨gb42, 0, none⟩ = some (.slice Ao40 l0_0.length co41) ∧ w'.cell? ⟨gb59, 0, none⟩ = some (.slice Ao57 x23.length co58) ∧ w'.cell? ⟨gb59, 1, none⟩ = some (.int .i64 x24)) (ds := []) #[false, false, false, false, false] (by kernel_rfl) rfl rfl ⟨(blk_cell BKgb1.out 0).trans rfl, (blk_cell BKgb33.out 0).trans rfl, (blk_cell BKgb33.out 1).trans rfl, (blk_cell BKgb42.out 0).trans rfl, (blk_cell BKgb59.out 0).trans rfl, (blk_cell BKgb59.out 1).trans rfl⟩ (fun hHeld => ?_)
  generalize w61.drew = w63 at HB HS FA0_0 FA2 BKgb1 HS11 HR19 HR30 BKgb33 HS39 BKgb42 HR48 HR56 BKgb59 hHeld ⊢
  refine take_ (i := 0) (N := some 60) (v := ?_) (a' := ?_) #[true, false, false, false, false] rfl rfl (by kernel_rfl) (fun _ _ _ h => h) (Or.inl ⟨by rfl, ?_⟩) hHeld ?_ ?_
  rotate_left
  · rintro w' ⟨s0_, s1_, s2_, s3_, s4_, s5_⟩
    go_simp
    with_reducible rfl
  rotate_left
  · simp only [Act.put, List.setIfInBounds_toArray, List.set_cons_zero, List.set_cons_succ, i64_w, i32_w]
    rfl
  refine take_ (i := 1) (N := some 61) (v := ?_) (a' := ?_) #[true, true, false, false, false] rfl rfl (by kernel_rfl) (fun _ _ _ h => h) (Or.inl ⟨by rfl, ?_⟩) hHeld ?_ ?_
  rotate_left
  · rintro w' ⟨s0_, s1_, s2_, s3_, s4_, s5_⟩
    go_simp
    with_reducible rfl
  rotate_left
  · simp only [Act.put, List.setIfInBounds_toArray, List.set_cons_zero, List.set_cons_succ, i64_w, i32_w]
    rfl
  refine one_ (i := 2) (N := some 62) #[true, true, true, false, false] rfl rfl (by kernel_rfl) (by decide) (fun K hK => ?_)
  refine goes_ Try.func16 (by kernel_rfl) rfl #[.agg #[.slice A0_0 l0_0.length c0_0]] (by rfl) rfl rfl (by (try simp only [List.map_toArray, List.map_cons, List.map_nil]); first | done | rfl | (simp only [List.length_drop, List.length_take]; rfl)) ?_
  (with_reducible refine (laws_toGraph.calls KE7 _ _ l0_0 l0_0 _ ?sidehr0_0 ?sidehc0_0 E7.out).mono ?_)
  (case sidehr0_0 => exact F_at (S := (fun _ => False)) FA0_0.out (by repeat (first | (with_reducible first | exact Kept.refl _ _ | apply Kept.alloc | apply Kept.drewN | apply Kept.drew) | exact Kept.refl _ _)) (fun _ _ hs_ => hs_.elim))
  (case sidehc0_0 => exact HC0_0.out)
  rintro e w64 ⟨v65, rfl, hov0__, hb_⟩
  refine ⟨_, rfl, ?_⟩
  (try clear hczgb1_0)
  (try clear hfzgb1_0)
  (try clear hczgb33_0)
  (try clear hfzgb33_0)
  (try clear hczgb33_1)
  (try clear hfzgb33_1)
  (try clear hczgb42_0)
  (try clear hfzgb42_0)
  (try clear hczgb59_0)
  (try clear hfzgb59_0)
  (try clear hczgb59_1)
  (try clear hfzgb59_1)
  obtain ⟨hk_, hs1_, hs2_, hw_⟩ := ev_kept (S := (fun _ => False)) HS.out HB.out hb_ (by repeat (first | (with_reducible first | exact Kept.refl _ _ | apply Kept.alloc | apply Kept.drewN | apply Kept.drew) | exact Kept.refl _ _))
  have hB_ := below_step (by repeat (first | (with_reducible first | exact HB.out | apply below_alloc | apply pw_below_drewN | apply below_drew1 | refine below_set ?_ GEgb1.out | refine below_set ?_ GEgb33.out | refine below_set ?_ GEgb42.out | refine below_set ?_ GEgb59.out) | exact HB.out)) hb_
  have n0_ := Aside0.mk (Kd.F_kept FA0_0.out hk_ (fun _ _ hs_ => hs_.elim))
  have n1_ := Aside0.mk (Kd.F_kept FA2.out hk_ (fun _ _ hs_ => hs_.elim))
  have n2_ := Aside0.mk (blk_below (g := gb1) (o := .cells #[.slice A0_0 l0_0.length c0_0] 30 (0, 0)) (by (with_reducible repeat (first | refine blk_drewN ?_ _ | refine blk_drew ?_ | refine blk_alloc ?_ _)); exact BKgb1.out) hb_)
  have n3_ := Aside0.mk (Kd.S_kept HS11.out hk_ (fun _ _ hs_ => hs_.elim))
  have n4_ := Aside0.mk (Kd.R_kept HR19.out hk_ (fun _ _ hs_ => hs_.elim))
  have n5_ := Aside0.mk (Kd.R_kept HR30.out hk_ (fun _ _ hs_ => hs_.elim))
  have n6_ := Aside0.mk (blk_below (g := gb33) (o := .cells #[.slice Ao31 x23.length co32, .int .i64 x24] 34 (0, 0)) (by (with_reducible repeat (first | refine blk_drewN ?_ _ | refine blk_drew ?_ | refine blk_alloc ?_ _)); exact BKgb33.out) hb_)
  have n7_ := Aside0.mk (Kd.S_kept HS39.out hk_ (fun _ _ hs_ => hs_.elim))
  have n8_ := Aside0.mk (blk_below (g := gb42) (o := .cells #[.slice Ao40 l0_0.length co41] 24 (0, 0)) (by (with_reducible repeat (first | refine blk_drewN ?_ _ | refine blk_drew ?_ | refine blk_alloc ?_ _)); exact BKgb42.out) hb_)
  have n9_ := Aside0.mk (Kd.R_kept HR48.out hk_ (fun _ _ hs_ => hs_.elim))
  have n10_ := Aside0.mk (Kd.R_kept HR56.out hk_ (fun _ _ hs_ => hs_.elim))
  have n11_ := Aside0.mk (blk_below (g := gb59) (o := .cells #[.slice Ao57 x23.length co58, .int .i64 x24] 34 (0, 0)) (by (with_reducible repeat (first | refine blk_drewN ?_ _ | refine blk_drew ?_ | refine blk_alloc ?_ _)); exact BKgb59.out) hb_)
  have ns_ := Aside0.mk (Nat.le_trans (Nat.le_trans hs1_ hs2_) (Nat.le_refl _))
  have nB_ := Aside0.mk hB_
  obtain ⟨lo66, hi67, c1_, c2_, c3_, h_⟩ := S_new hov0__ hs2_ hw_ hs1_
  have HS68 := Aside0.mk h_
  obtain ⟨Ao69, co70, eo_⟩ := Kd.S_slice HS68.out
  subst eo_
  have HCHS68 := Aside0.mk (Kd.S_reads' HS68.out).2.1
  clear h_ hov0__
  have nc_ := Aside0.mk (And.intro c1_ (And.intro c2_ CH.out))
  clear CH ns_
  have CH := nc_
  have ns_ := Aside0.mk c3_
  clear nc_ c1_ c2_ c3_
  clear HB HS FA0_0 FA2 BKgb1 HS11 HR19 HR30 BKgb33 HS39 BKgb42 HR48 HR56 BKgb59
  have FA0_0 := n0_
  have FA2 := n1_
  have BKgb1 := n2_
  have HS11 := n3_
  have HR19 := n4_
  have HR30 := n5_
  have BKgb33 := n6_
  have HS39 := n7_
  have BKgb42 := n8_
  have HR48 := n9_
  have HR56 := n10_
  have BKgb59 := n11_
  have HB := nB_
  have HS := ns_
  clear nB_ ns_ n0_ n1_ n2_ n3_ n4_ n5_ n6_ n7_ n8_ n9_ n10_ n11_
  clear hk_ hs1_ hs2_ hw_ hB_ hb_
  refine hK.out _ _ ⟨(blk_cell BKgb1.out 0).trans rfl, (blk_cell BKgb33.out 0).trans rfl, (blk_cell BKgb33.out 1).trans rfl, (blk_cell BKgb42.out 0).trans rfl, (blk_cell BKgb59.out 0).trans rfl, (blk_cell BKgb59.out 1).trans rfl⟩ (fun hHeld => ?_)
  clear hK K
  refine norm_ (a' := ?_) ?_ ?_
  rotate_left
  · show Act.put _ (some 62) _ = _
    simp only [Act.put, List.setIfInBounds_toArray, List.set_cons_zero, List.set_cons_succ, i64_w, i32_w]
    rfl
  refine one_ (i := 3) (N := some 63) #[true, true, true, true, false] rfl rfl (by kernel_rfl) (by decide) (fun K hK => ?_)
  refine goes_ Try.func11 (by kernel_rfl) rfl #[.agg #[.slice Ao40 l0_0.length co41], .agg #[.slice Ao69 l0_0.length co70]] (by rfl) rfl rfl (by (try simp only [List.map_toArray, List.map_cons, List.map_nil]); first | done | rfl | (simp only [List.length_drop, List.length_take]; rfl)) ?_
  (with_reducible refine (laws_eqGraph.calls KE72 _ _ l0_0 _ _ l0_0 true _ ?sidehr0_0 ?sidehc0_0 ?sidehr1_0 ?sidehc1_0 E72.out).mono ?_)
  (case sidehr0_0 => exact S_now (S := (fun _ => False)) HS39.out (by repeat (first | (with_reducible first | exact Kept.refl _ _ | apply Kept.alloc | apply Kept.drewN | apply Kept.drew) | exact Kept.refl _ _)) (fun _ _ hs_ => hs_.elim))
  (case sidehc0_0 => exact HCHS39.out)
  (case sidehr1_0 => exact S_now (S := (fun _ => False)) HS68.out (by repeat (first | (with_reducible first | exact Kept.refl _ _ | apply Kept.alloc | apply Kept.drewN | apply Kept.drew) | exact Kept.refl _ _)) (fun _ _ hs_ => hs_.elim))
  (case sidehc1_0 => exact HCHS68.out)
  rintro e w71 ⟨rfl, hb_⟩
  refine ⟨_, rfl, ?_⟩
  (try clear hczgb1_0)
  (try clear hfzgb1_0)
  (try clear hczgb33_0)
  (try clear hfzgb33_0)
  (try clear hczgb33_1)
  (try clear hfzgb33_1)
  (try clear hczgb42_0)
  (try clear hfzgb42_0)
  (try clear hczgb59_0)
  (try clear hfzgb59_0)
  (try clear hczgb59_1)
  (try clear hfzgb59_1)
  obtain ⟨hk_, hs1_, hs2_, hw_⟩ := ev_kept (S := (fun _ => False)) HS.out HB.out hb_ (by repeat (first | (with_reducible first | exact Kept.refl _ _ | apply Kept.alloc | apply Kept.drewN | apply Kept.drew) | exact Kept.refl _ _))
  have hB_ := below_step (by repeat (first | (with_reducible first | exact HB.out | apply below_alloc | apply pw_below_drewN | apply below_drew1 | refine below_set ?_ GEgb1.out | refine below_set ?_ GEgb33.out | refine below_set ?_ GEgb42.out | refine below_set ?_ GEgb59.out) | exact HB.out)) hb_
  have n0_ := Aside0.mk (Kd.F_kept FA0_0.out hk_ (fun _ _ hs_ => hs_.elim))
  have n1_ := Aside0.mk (Kd.F_kept FA2.out hk_ (fun _ _ hs_ => hs_.elim))
  have n2_ := Aside0.mk (blk_below (g := gb1) (o := .cells #[.slice A0_0 l0_0.length c0_0] 30 (0, 0)) (by (with_reducible repeat (first | refine blk_drewN ?_ _ | refine blk_drew ?_ | refine blk_alloc ?_ _)); exact BKgb1.out) hb_)
  have n3_ := Aside0.mk (Kd.S_kept HS11.out hk_ (fun _ _ hs_ => hs_.elim))
  have n4_ := Aside0.mk (Kd.R_kept HR19.out hk_ (fun _ _ hs_ => hs_.elim))
  have n5_ := Aside0.mk (Kd.R_kept HR30.out hk_ (fun _ _ hs_ => hs_.elim))
  have n6_ := Aside0.mk (blk_below (g := gb33) (o := .cells #[.slice Ao31 x23.length co32, .int .i64 x24] 34 (0, 0)) (by (with_reducible repeat (first | refine blk_drewN ?_ _ | refine blk_drew ?_ | refine blk_alloc ?_ _)); exact BKgb33.out) hb_)
  have n7_ := Aside0.mk (Kd.S_kept HS39.out hk_ (fun _ _ hs_ => hs_.elim))
  have n8_ := Aside0.mk (blk_below (g := gb42) (o := .cells #[.slice Ao40 l0_0.length co41] 24 (0, 0)) (by (with_reducible repeat (first | refine blk_drewN ?_ _ | refine blk_drew ?_ | refine blk_alloc ?_ _)); exact BKgb42.out) hb_)
  have n9_ := Aside0.mk (Kd.R_kept HR48.out hk_ (fun _ _ hs_ => hs_.elim))
  have n10_ := Aside0.mk (Kd.R_kept HR56.out hk_ (fun _ _ hs_ => hs_.elim))
  have n11_ := Aside0.mk (blk_below (g := gb59) (o := .cells #[.slice Ao57 x23.length co58, .int .i64 x24] 34 (0, 0)) (by (with_reducible repeat (first | refine blk_drewN ?_ _ | refine blk_drew ?_ | refine blk_alloc ?_ _)); exact BKgb59.out) hb_)
  have n12_ := Aside0.mk (Kd.S_kept HS68.out hk_ (fun _ _ hs_ => hs_.elim))
  have ns_ := Aside0.mk (Nat.le_trans (Nat.le_trans hs1_ hs2_) (Nat.le_refl _))
  have nB_ := Aside0.mk hB_
  clear HB HS FA0_0 FA2 BKgb1 HS11 HR19 HR30 BKgb33 HS39 BKgb42 HR48 HR56 BKgb59 HS68
  have FA0_0 := n0_
  have FA2 := n1_
  have BKgb1 := n2_
  have HS11 := n3_
  have HR19 := n4_
  have HR30 := n5_
  have BKgb33 := n6_
  have HS39 := n7_
  have BKgb42 := n8_
  have HR48 := n9_
  have HR56 := n10_
  have BKgb59 := n11_
  have HS68 := n12_
  have HB := nB_
  have HS := ns_
  clear nB_ ns_ n0_ n1_ n2_ n3_ n4_ n5_ n6_ n7_ n8_ n9_ n10_ n11_ n12_
  clear hk_ hs1_ hs2_ hw_ hB_ hb_
  refine hK.out _ _ ⟨(blk_cell BKgb1.out 0).trans rfl, (blk_cell BKgb33.out 0).trans rfl, (blk_cell BKgb33.out 1).trans rfl, (blk_cell BKgb42.out 0).trans rfl, (blk_cell BKgb59.out 0).trans rfl, (blk_cell BKgb59.out 1).trans rfl⟩ (fun hHeld => ?_)
  clear hK K
  refine norm_ (a' := ?_) ?_ ?_
  rotate_left
  · show Act.put _ (some 63) _ = _
    simp only [Act.put, List.setIfInBounds_toArray, List.set_cons_zero, List.set_cons_succ, i64_w, i32_w]
    rfl
  refine pure_ (i := 4) (N := some 64) (v := ?_) (a' := ?_) #[true, true, true, true, true] rfl rfl (by kernel_rfl) (fun _ _ _ h => h) (Or.inl ⟨by rfl, ?_⟩) ?_ ?_
  rotate_left
  · intro w'
    go_simp
    with_reducible rfl
  rotate_left
  · simp only [Act.put, List.setIfInBounds_toArray, List.set_cons_zero, List.set_cons_succ, i64_w, i32_w]
    rfl
  refine done_ (by kernel_rfl) ?_
  go_wp2_with (first | ((with_reducible refine gate_callee (f := 17) rfl ?_); refine goesL_ (some 67) rfl rfl Try.func17 (by kernel_rfl) rfl #[.slice A2 l2.length c2] rfl (by (try simp only [List.map_toArray, List.map_cons, List.map_nil]); first | done | rfl | (simp only [List.length_drop, List.length_take]; rfl)) ?_; (with_reducible refine (laws_toIntS.calls KE15 _ _ l2 l2 _ ?sidehr0 ?sidehc0 E15.out).mono ?_); (case sidehr0 => exact F_at (S := (fun _ => False)) FA2.out (by repeat (first | (with_reducible first | exact Kept.refl _ _ | apply Kept.alloc | apply Kept.drewN | apply Kept.drew) | exact Kept.refl _ _)) (fun _ _ hs_ => hs_.elim)); (case sidehc0 => exact HC2.out); rintro e w73 ⟨v74, rfl, hov0__, hb_⟩; refine ⟨_, rfl, ?_⟩; (try clear hczgb1_0); (try clear hfzgb1_0); (try clear hczgb33_0); (try clear hfzgb33_0); (try clear hczgb33_1); (try clear hfzgb33_1); (try clear hczgb42_0); (try clear hfzgb42_0); (try clear hczgb59_0); (try clear hfzgb59_0); (try clear hczgb59_1); (try clear hfzgb59_1); obtain ⟨hk_, hs1_, hs2_, hw_⟩ := ev_kept (S := (fun _ => False)) HS.out HB.out hb_ (by repeat (first | (with_reducible first | exact Kept.refl _ _ | apply Kept.alloc | apply Kept.drewN | apply Kept.drew) | exact Kept.refl _ _)); have hB_ := below_step (by repeat (first | (with_reducible first | exact HB.out | apply below_alloc | apply pw_below_drewN | apply below_drew1 | refine below_set ?_ GEgb1.out | refine below_set ?_ GEgb33.out | refine below_set ?_ GEgb42.out | refine below_set ?_ GEgb59.out) | exact HB.out)) hb_; have n0_ := Aside0.mk (Kd.F_kept FA0_0.out hk_ (fun _ _ hs_ => hs_.elim)); have n1_ := Aside0.mk (Kd.F_kept FA2.out hk_ (fun _ _ hs_ => hs_.elim)); have n2_ := Aside0.mk (blk_below (g := gb1) (o := .cells #[.slice A0_0 l0_0.length c0_0] 30 (0, 0)) (by (with_reducible repeat (first | refine blk_drewN ?_ _ | refine blk_drew ?_ | refine blk_alloc ?_ _)); exact BKgb1.out) hb_); have n3_ := Aside0.mk (Kd.S_kept HS11.out hk_ (fun _ _ hs_ => hs_.elim)); have n4_ := Aside0.mk (Kd.R_kept HR19.out hk_ (fun _ _ hs_ => hs_.elim)); have n5_ := Aside0.mk (Kd.R_kept HR30.out hk_ (fun _ _ hs_ => hs_.elim)); have n6_ := Aside0.mk (blk_below (g := gb33) (o := .cells #[.slice Ao31 x23.length co32, .int .i64 x24] 34 (0, 0)) (by (with_reducible repeat (first | refine blk_drewN ?_ _ | refine blk_drew ?_ | refine blk_alloc ?_ _)); exact BKgb33.out) hb_); have n7_ := Aside0.mk (Kd.S_kept HS39.out hk_ (fun _ _ hs_ => hs_.elim)); have n8_ := Aside0.mk (blk_below (g := gb42) (o := .cells #[.slice Ao40 l0_0.length co41] 24 (0, 0)) (by (with_reducible repeat (first | refine blk_drewN ?_ _ | refine blk_drew ?_ | refine blk_alloc ?_ _)); exact BKgb42.out) hb_); have n9_ := Aside0.mk (Kd.R_kept HR48.out hk_ (fun _ _ hs_ => hs_.elim)); have n10_ := Aside0.mk (Kd.R_kept HR56.out hk_ (fun _ _ hs_ => hs_.elim)); have n11_ := Aside0.mk (blk_below (g := gb59) (o := .cells #[.slice Ao57 x23.length co58, .int .i64 x24] 34 (0, 0)) (by (with_reducible repeat (first | refine blk_drewN ?_ _ | refine blk_drew ?_ | refine blk_alloc ?_ _)); exact BKgb59.out) hb_); have n12_ := Aside0.mk (Kd.S_kept HS68.out hk_ (fun _ _ hs_ => hs_.elim)); have ns_ := Aside0.mk (Nat.le_trans (Nat.le_trans hs1_ hs2_) (Nat.le_refl _)); have nB_ := Aside0.mk hB_; obtain ⟨lo75, hi76, c1_, c2_, c3_, h_⟩ := R_new hov0__ hs2_ hw_ hs1_; have HR77 := Aside0.mk h_; obtain ⟨Ao78, co79, eo_⟩ := Kd.R_slice HR77.out; subst eo_; have HCHR77 := Aside0.mk (Kd.R_reads' HR77.out).2.1; clear h_ hov0__; have nc_ := Aside0.mk (And.intro c1_ (And.intro c2_ CH.out)); clear CH ns_; have CH := nc_; have ns_ := Aside0.mk c3_; clear nc_ c1_ c2_ c3_; clear HB HS FA0_0 FA2 BKgb1 HS11 HR19 HR30 BKgb33 HS39 BKgb42 HR48 HR56 BKgb59 HS68; have FA0_0 := n0_; have FA2 := n1_; have BKgb1 := n2_; have HS11 := n3_; have HR19 := n4_; have HR30 := n5_; have BKgb33 := n6_; have HS39 := n7_; have BKgb42 := n8_; have HR48 := n9_; have HR56 := n10_; have BKgb59 := n11_; have HS68 := n12_; have HB := nB_; have HS := ns_; clear nB_ ns_ n0_ n1_ n2_ n3_ n4_ n5_ n6_ n7_ n8_ n9_ n10_ n11_ n12_; clear hk_ hs1_ hs2_ hw_ hB_ hb_; have hczgb1_0 : w73.cell? ⟨gb1, 0, none⟩ = some (.slice A0_0 l0_0.length c0_0) := (blk_cell BKgb1.out 0).trans rfl; have hfzgb1_0 := blk_frozen BKgb1.out 0; have hczgb33_0 : w73.cell? ⟨gb33, 0, none⟩ = some (.slice Ao31 x23.length co32) := (blk_cell BKgb33.out 0).trans rfl; have hczgb33_1 : w73.cell? ⟨gb33, 1, none⟩ = some (.int .i64 x24) := (blk_cell BKgb33.out 1).trans rfl; have hfzgb33_0 := blk_frozen BKgb33.out 0; have hfzgb33_1 := blk_frozen BKgb33.out 1; have hczgb42_0 : w73.cell? ⟨gb42, 0, none⟩ = some (.slice Ao40 l0_0.length co41) := (blk_cell BKgb42.out 0).trans rfl; have hfzgb42_0 := blk_frozen BKgb42.out 0; have hczgb59_0 : w73.cell? ⟨gb59, 0, none⟩ = some (.slice Ao57 x23.length co58) := (blk_cell BKgb59.out 0).trans rfl; have hczgb59_1 : w73.cell? ⟨gb59, 1, none⟩ = some (.int .i64 x24) := (blk_cell BKgb59.out 1).trans rfl; have hfzgb59_0 := blk_frozen BKgb59.out 0; have hfzgb59_1 := blk_frozen BKgb59.out 1; have hnbgb1gb33 : gb1 ≠ gb33 := (by have := CH.out; omega); have hnbgb1gb42 : gb1 ≠ gb42 := (by have := CH.out; omega); have hnbgb1gb59 : gb1 ≠ gb59 := (by have := CH.out; omega); have hnbgb33gb1 : gb33 ≠ gb1 := (by have := CH.out; omega); have hnbgb33gb42 : gb33 ≠ gb42 := (by have := CH.out; omega); have hnbgb33gb59 : gb33 ≠ gb59 := (by have := CH.out; omega); have hnbgb42gb1 : gb42 ≠ gb1 := (by have := CH.out; omega); have hnbgb42gb33 : gb42 ≠ gb33 := (by have := CH.out; omega); have hnbgb42gb59 : gb42 ≠ gb59 := (by have := CH.out; omega); have hnbgb59gb1 : gb59 ≠ gb1 := (by have := CH.out; omega); have hnbgb59gb33 : gb59 ≠ gb33 := (by have := CH.out; omega); have hnbgb59gb42 : gb59 ≠ gb42 := (by have := CH.out; omega)) | ((with_reducible refine gate_callee (f := 20) rfl ?_); refine goesL_ (some 68) rfl rfl Try.func20 (by kernel_rfl) rfl #[.slice Ao49 l2.length co50, .slice Ao78 l2.length co79] rfl (by (try simp only [List.map_toArray, List.map_cons, List.map_nil]); first | done | rfl | (simp only [List.length_drop, List.length_take]; rfl)) ?_; (with_reducible refine (laws_eqIntS.calls KE81 _ _ l2 _ _ l2 true _ ?sidehr0 ?sidehc0 ?sidehr1 ?sidehc1 E81.out).mono ?_); (case sidehr0 => exact R_now (S := (fun _ => False)) HR48.out (by repeat (first | (with_reducible first | exact Kept.refl _ _ | apply Kept.alloc | apply Kept.drewN | apply Kept.drew) | exact Kept.refl _ _)) (fun _ _ hs_ => hs_.elim)); (case sidehc0 => exact HCHR48.out); (case sidehr1 => exact R_now (S := (fun _ => False)) HR77.out (by repeat (first | (with_reducible first | exact Kept.refl _ _ | apply Kept.alloc | apply Kept.drewN | apply Kept.drew) | exact Kept.refl _ _)) (fun _ _ hs_ => hs_.elim)); (case sidehc1 => exact HCHR77.out); rintro e w80 ⟨rfl, hd_⟩; refine ⟨_, rfl, ?_⟩; have hb_ := hd_.below; (try clear hczgb1_0); (try clear hfzgb1_0); (try clear hczgb33_0); (try clear hfzgb33_0); (try clear hczgb33_1); (try clear hfzgb33_1); (try clear hczgb42_0); (try clear hfzgb42_0); (try clear hczgb59_0); (try clear hfzgb59_0); (try clear hczgb59_1); (try clear hfzgb59_1); obtain ⟨hk_, hs1_, hs2_, hw_⟩ := ev_kept (S := (fun _ => False)) HS.out HB.out hb_ (by repeat (first | (with_reducible first | exact Kept.refl _ _ | apply Kept.alloc | apply Kept.drewN | apply Kept.drew) | exact Kept.refl _ _)); have hB_ := below_step (by repeat (first | (with_reducible first | exact HB.out | apply below_alloc | apply pw_below_drewN | apply below_drew1 | refine below_set ?_ GEgb1.out | refine below_set ?_ GEgb33.out | refine below_set ?_ GEgb42.out | refine below_set ?_ GEgb59.out) | exact HB.out)) hb_; have n0_ := Aside0.mk (Kd.F_kept FA0_0.out hk_ (fun _ _ hs_ => hs_.elim)); have n1_ := Aside0.mk (Kd.F_kept FA2.out hk_ (fun _ _ hs_ => hs_.elim)); have n2_ := Aside0.mk (blk_below (g := gb1) (o := .cells #[.slice A0_0 l0_0.length c0_0] 30 (0, 0)) (by (with_reducible repeat (first | refine blk_drewN ?_ _ | refine blk_drew ?_ | refine blk_alloc ?_ _)); exact BKgb1.out) hb_); have n3_ := Aside0.mk (Kd.S_kept HS11.out hk_ (fun _ _ hs_ => hs_.elim)); have n4_ := Aside0.mk (Kd.R_kept HR19.out hk_ (fun _ _ hs_ => hs_.elim)); have n5_ := Aside0.mk (Kd.R_kept HR30.out hk_ (fun _ _ hs_ => hs_.elim)); have n6_ := Aside0.mk (blk_below (g := gb33) (o := .cells #[.slice Ao31 x23.length co32, .int .i64 x24] 34 (0, 0)) (by (with_reducible repeat (first | refine blk_drewN ?_ _ | refine blk_drew ?_ | refine blk_alloc ?_ _)); exact BKgb33.out) hb_); have n7_ := Aside0.mk (Kd.S_kept HS39.out hk_ (fun _ _ hs_ => hs_.elim)); have n8_ := Aside0.mk (blk_below (g := gb42) (o := .cells #[.slice Ao40 l0_0.length co41] 24 (0, 0)) (by (with_reducible repeat (first | refine blk_drewN ?_ _ | refine blk_drew ?_ | refine blk_alloc ?_ _)); exact BKgb42.out) hb_); have n9_ := Aside0.mk (Kd.R_kept HR48.out hk_ (fun _ _ hs_ => hs_.elim)); have n10_ := Aside0.mk (Kd.R_kept HR56.out hk_ (fun _ _ hs_ => hs_.elim)); have n11_ := Aside0.mk (blk_below (g := gb59) (o := .cells #[.slice Ao57 x23.length co58, .int .i64 x24] 34 (0, 0)) (by (with_reducible repeat (first | refine blk_drewN ?_ _ | refine blk_drew ?_ | refine blk_alloc ?_ _)); exact BKgb59.out) hb_); have n12_ := Aside0.mk (Kd.S_kept HS68.out hk_ (fun _ _ hs_ => hs_.elim)); have n13_ := Aside0.mk (Kd.R_kept HR77.out hk_ (fun _ _ hs_ => hs_.elim)); have ns_ := Aside0.mk (Nat.le_trans (Nat.le_trans hs1_ hs2_) (Nat.le_refl _)); have nB_ := Aside0.mk hB_; clear HB HS FA0_0 FA2 BKgb1 HS11 HR19 HR30 BKgb33 HS39 BKgb42 HR48 HR56 BKgb59 HS68 HR77; have FA0_0 := n0_; have FA2 := n1_; have BKgb1 := n2_; have HS11 := n3_; have HR19 := n4_; have HR30 := n5_; have BKgb33 := n6_; have HS39 := n7_; have BKgb42 := n8_; have HR48 := n9_; have HR56 := n10_; have BKgb59 := n11_; have HS68 := n12_; have HR77 := n13_; have HB := nB_; have HS := ns_; clear nB_ ns_ n0_ n1_ n2_ n3_ n4_ n5_ n6_ n7_ n8_ n9_ n10_ n11_ n12_ n13_; clear hk_ hs1_ hs2_ hw_ hB_ hb_; clear hd_; have hczgb1_0 : w80.cell? ⟨gb1, 0, none⟩ = some (.slice A0_0 l0_0.length c0_0) := (blk_cell BKgb1.out 0).trans rfl; have hfzgb1_0 := blk_frozen BKgb1.out 0; have hczgb33_0 : w80.cell? ⟨gb33, 0, none⟩ = some (.slice Ao31 x23.length co32) := (blk_cell BKgb33.out 0).trans rfl; have hczgb33_1 : w80.cell? ⟨gb33, 1, none⟩ = some (.int .i64 x24) := (blk_cell BKgb33.out 1).trans rfl; have hfzgb33_0 := blk_frozen BKgb33.out 0; have hfzgb33_1 := blk_frozen BKgb33.out 1; have hczgb42_0 : w80.cell? ⟨gb42, 0, none⟩ = some (.slice Ao40 l0_0.length co41) := (blk_cell BKgb42.out 0).trans rfl; have hfzgb42_0 := blk_frozen BKgb42.out 0; have hczgb59_0 : w80.cell? ⟨gb59, 0, none⟩ = some (.slice Ao57 x23.length co58) := (blk_cell BKgb59.out 0).trans rfl; have hczgb59_1 : w80.cell? ⟨gb59, 1, none⟩ = some (.int .i64 x24) := (blk_cell BKgb59.out 1).trans rfl; have hfzgb59_0 := blk_frozen BKgb59.out 0; have hfzgb59_1 := blk_frozen BKgb59.out 1; have hnbgb1gb33 : gb1 ≠ gb33 := (by have := CH.out; omega); have hnbgb1gb42 : gb1 ≠ gb42 := (by have := CH.out; omega); have hnbgb1gb59 : gb1 ≠ gb59 := (by have := CH.out; omega); have hnbgb33gb1 : gb33 ≠ gb1 := (by have := CH.out; omega); have hnbgb33gb42 : gb33 ≠ gb42 := (by have := CH.out; omega); have hnbgb33gb59 : gb33 ≠ gb59 := (by have := CH.out; omega); have hnbgb42gb1 : gb42 ≠ gb1 := (by have := CH.out; omega); have hnbgb42gb33 : gb42 ≠ gb33 := (by have := CH.out; omega); have hnbgb42gb59 : gb42 ≠ gb59 := (by have := CH.out; omega); have hnbgb59gb1 : gb59 ≠ gb1 := (by have := CH.out; omega); have hnbgb59gb33 : gb59 ≠ gb33 := (by have := CH.out; omega); have hnbgb59gb42 : gb59 ≠ gb42 := (by have := CH.out; omega)) | ((with_reducible refine gate_callee (f := 12) rfl ?_); refine goesL_ (some 72) rfl rfl Try.func12 (by kernel_rfl) rfl #[.agg #[.slice Ao40 l0_0.length co41], .int .i64 1] rfl (by (try simp only [List.map_toArray, List.map_cons, List.map_nil]); first | done | rfl | (simp only [List.length_drop, List.length_take]; rfl)) ?_; (with_reducible refine (laws_markGraph.calls KE85 (fun k_ => lo37 ≤ k_ ∧ k_ < hi38) _ l0_0 1 x83 x84 w _ ?sideB ?sideO E85.out).mono ?_); (case sideB => exact (by repeat (first | (with_reducible first | exact HB.out | apply below_alloc | apply pw_below_drewN | apply below_drew1 | refine below_set ?_ GEgb1.out | refine below_set ?_ GEgb33.out | refine below_set ?_ GEgb42.out | refine below_set ?_ GEgb59.out) | exact HB.out))); (case sideO => exact Kd.S_kept (S := (fun _ => False)) HS39.out (by repeat (first | (with_reducible first | exact Kept.refl _ _ | apply Kept.alloc | apply Kept.drewN | apply Kept.drew) | exact Kept.refl _ _)) (fun _ _ hs_ => hs_.elim)); rintro e w82 ⟨rfl, ho_, hb_, hm_⟩; refine ⟨_, rfl, ?_⟩; (try clear hczgb1_0); (try clear hfzgb1_0); (try clear hczgb33_0); (try clear hfzgb33_0); (try clear hczgb33_1); (try clear hfzgb33_1); (try clear hczgb42_0); (try clear hfzgb42_0); (try clear hczgb59_0); (try clear hfzgb59_0); (try clear hczgb59_1); (try clear hfzgb59_1); obtain ⟨hk_, hs1_⟩ := ev_mark (S := (fun k_ => lo37 ≤ k_ ∧ k_ < hi38)) HS.out hm_ (by repeat (first | (with_reducible first | exact Kept.refl _ _ | apply Kept.alloc | apply Kept.drewN | apply Kept.drew) | exact Kept.refl _ _)); have n0_ := Aside0.mk (Kd.F_kept FA0_0.out hk_ (fun k_ h_ hs_ => by have h1_ : k_ < s0 := h_; obtain ⟨g1_, g2_⟩ := hs_; have := CH.out; omega)); have n1_ := Aside0.mk (Kd.F_kept FA2.out hk_ (fun k_ h_ hs_ => by have h1_ : k_ < s0 := h_; obtain ⟨g1_, g2_⟩ := hs_; have := CH.out; omega)); have n2_ := Aside0.mk (blk_kept BKgb1.out hk_ (fun hs_ => by obtain ⟨g1_, g2_⟩ := hs_; have := CH.out; omega)); have n3_ := Aside0.mk (Kd.S_kept HS11.out hk_ (fun k_ h_ hs_ => by obtain ⟨h1_, h2_⟩ := h_; obtain ⟨g1_, g2_⟩ := hs_; have := CH.out; omega)); have n4_ := Aside0.mk (Kd.R_kept HR19.out hk_ (fun k_ h_ hs_ => by obtain ⟨h1_, h2_⟩ := h_; obtain ⟨g1_, g2_⟩ := hs_; have := CH.out; omega)); have n5_ := Aside0.mk (Kd.R_kept HR30.out hk_ (fun k_ h_ hs_ => by obtain ⟨h1_, h2_⟩ := h_; obtain ⟨g1_, g2_⟩ := hs_; have := CH.out; omega)); have n6_ := Aside0.mk (blk_kept BKgb33.out hk_ (fun hs_ => by obtain ⟨g1_, g2_⟩ := hs_; have := CH.out; omega)); have n7_ := Aside0.mk (blk_kept BKgb42.out hk_ (fun hs_ => by obtain ⟨g1_, g2_⟩ := hs_; have := CH.out; omega)); have n8_ := Aside0.mk (Kd.R_kept HR48.out hk_ (fun k_ h_ hs_ => by obtain ⟨h1_, h2_⟩ := h_; obtain ⟨g1_, g2_⟩ := hs_; have := CH.out; omega)); have n9_ := Aside0.mk (Kd.R_kept HR56.out hk_ (fun k_ h_ hs_ => by obtain ⟨h1_, h2_⟩ := h_; obtain ⟨g1_, g2_⟩ := hs_; have := CH.out; omega)); have n10_ := Aside0.mk (blk_kept BKgb59.out hk_ (fun hs_ => by obtain ⟨g1_, g2_⟩ := hs_; have := CH.out; omega)); have n11_ := Aside0.mk (Kd.S_kept HS68.out hk_ (fun k_ h_ hs_ => by obtain ⟨h1_, h2_⟩ := h_; obtain ⟨g1_, g2_⟩ := hs_; have := CH.out; omega)); have n12_ := Aside0.mk (Kd.R_kept HR77.out hk_ (fun k_ h_ hs_ => by obtain ⟨h1_, h2_⟩ := h_; obtain ⟨g1_, g2_⟩ := hs_; have := CH.out; omega)); have nB_ := Aside0.mk hb_; have ns_ := Aside0.mk hs1_; clear HB HS FA0_0 FA2 BKgb1 HS11 HR19 HR30 BKgb33 BKgb42 HR48 HR56 BKgb59 HS68 HR77; have FA0_0 := n0_; have FA2 := n1_; have BKgb1 := n2_; have HS11 := n3_; have HR19 := n4_; have HR30 := n5_; have BKgb33 := n6_; have BKgb42 := n7_; have HR48 := n8_; have HR56 := n9_; have BKgb59 := n10_; have HS68 := n11_; have HR77 := n12_; have HB := nB_; have HS := ns_; clear nB_ ns_ n0_ n1_ n2_ n3_ n4_ n5_ n6_ n7_ n8_ n9_ n10_ n11_ n12_; have hl_ : l0_0.length = x84.length := (Kd.S_reads' ho_).1; have FM86 := Aside0.mk (Kd.S_F ho_); rw [hl_] at FM86; have HCHS39_ := Aside0.mk (show x84.length ≤ co41 by rw [← hl_]; exact HCHS39.out); have HLFM86 := Aside0.mk hl_; clear ho_ hm_ hb_ hk_ hs1_ hl_ HS39; have hczgb1_0 : w82.cell? ⟨gb1, 0, none⟩ = some (.slice A0_0 l0_0.length c0_0) := (blk_cell BKgb1.out 0).trans rfl; have hfzgb1_0 := blk_frozen BKgb1.out 0; have hczgb33_0 : w82.cell? ⟨gb33, 0, none⟩ = some (.slice Ao31 x23.length co32) := (blk_cell BKgb33.out 0).trans rfl; have hczgb33_1 : w82.cell? ⟨gb33, 1, none⟩ = some (.int .i64 x24) := (blk_cell BKgb33.out 1).trans rfl; have hfzgb33_0 := blk_frozen BKgb33.out 0; have hfzgb33_1 := blk_frozen BKgb33.out 1; have hczgb42_0 : w82.cell? ⟨gb42, 0, none⟩ = some (.slice Ao40 l0_0.length co41) := (blk_cell BKgb42.out 0).trans rfl; have hfzgb42_0 := blk_frozen BKgb42.out 0; have hczgb59_0 : w82.cell? ⟨gb59, 0, none⟩ = some (.slice Ao57 x23.length co58) := (blk_cell BKgb59.out 0).trans rfl; have hczgb59_1 : w82.cell? ⟨gb59, 1, none⟩ = some (.int .i64 x24) := (blk_cell BKgb59.out 1).trans rfl; have hfzgb59_0 := blk_frozen BKgb59.out 0; have hfzgb59_1 := blk_frozen BKgb59.out 1; have hnbgb1gb33 : gb1 ≠ gb33 := (by have := CH.out; omega); have hnbgb1gb42 : gb1 ≠ gb42 := (by have := CH.out; omega); have hnbgb1gb59 : gb1 ≠ gb59 := (by have := CH.out; omega); have hnbgb33gb1 : gb33 ≠ gb1 := (by have := CH.out; omega); have hnbgb33gb42 : gb33 ≠ gb42 := (by have := CH.out; omega); have hnbgb33gb59 : gb33 ≠ gb59 := (by have := CH.out; omega); have hnbgb42gb1 : gb42 ≠ gb1 := (by have := CH.out; omega); have hnbgb42gb33 : gb42 ≠ gb33 := (by have := CH.out; omega); have hnbgb42gb59 : gb42 ≠ gb59 := (by have := CH.out; omega); have hnbgb59gb1 : gb59 ≠ gb1 := (by have := CH.out; omega); have hnbgb59gb33 : gb59 ≠ gb33 := (by have := CH.out; omega); have hnbgb59gb42 : gb59 ≠ gb42 := (by have := CH.out; omega)) | ((with_reducible refine gate_callee (f := 21) rfl ?_); refine goesL_ (some 75) rfl rfl Try.func21 (by kernel_rfl) rfl #[.slice Ao49 l2.length co50, .int .i64 x83] rfl (by (try simp only [List.map_toArray, List.map_cons, List.map_nil]); first | done | rfl | (simp only [List.length_drop, List.length_take]; rfl)) ?_; (with_reducible refine (laws_markIntS.calls KE90 (fun k_ => lo46 ≤ k_ ∧ k_ < hi47) _ l2 x83 x88 x89 w _ ?sideB ?sideO E90.out).mono ?_); (case sideB => exact (by repeat (first | (with_reducible first | exact HB.out | apply below_alloc | apply pw_below_drewN | apply below_drew1 | refine below_set ?_ GEgb1.out | refine below_set ?_ GEgb33.out | refine below_set ?_ GEgb42.out | refine below_set ?_ GEgb59.out) | exact HB.out))); (case sideO => exact Kd.R_kept (S := (fun _ => False)) HR48.out (by repeat (first | (with_reducible first | exact Kept.refl _ _ | apply Kept.alloc | apply Kept.drewN | apply Kept.drew) | exact Kept.refl _ _)) (fun _ _ hs_ => hs_.elim)); rintro e w87 ⟨rfl, ho_, hb_, hm_⟩; refine ⟨_, rfl, ?_⟩; (try clear hczgb1_0); (try clear hfzgb1_0); (try clear hczgb33_0); (try clear hfzgb33_0); (try clear hczgb33_1); (try clear hfzgb33_1); (try clear hczgb42_0); (try clear hfzgb42_0); (try clear hczgb59_0); (try clear hfzgb59_0); (try clear hczgb59_1); (try clear hfzgb59_1); obtain ⟨hk_, hs1_⟩ := ev_mark (S := (fun k_ => lo46 ≤ k_ ∧ k_ < hi47)) HS.out hm_ (by repeat (first | (with_reducible first | exact Kept.refl _ _ | apply Kept.alloc | apply Kept.drewN | apply Kept.drew) | exact Kept.refl _ _)); have n0_ := Aside0.mk (Kd.F_kept FA0_0.out hk_ (fun k_ h_ hs_ => by have h1_ : k_ < s0 := h_; obtain ⟨g1_, g2_⟩ := hs_; have := CH.out; omega)); have n1_ := Aside0.mk (Kd.F_kept FA2.out hk_ (fun k_ h_ hs_ => by have h1_ : k_ < s0 := h_; obtain ⟨g1_, g2_⟩ := hs_; have := CH.out; omega)); have n2_ := Aside0.mk (blk_kept BKgb1.out hk_ (fun hs_ => by obtain ⟨g1_, g2_⟩ := hs_; have := CH.out; omega)); have n3_ := Aside0.mk (Kd.S_kept HS11.out hk_ (fun k_ h_ hs_ => by obtain ⟨h1_, h2_⟩ := h_; obtain ⟨g1_, g2_⟩ := hs_; have := CH.out; omega)); have n4_ := Aside0.mk (Kd.R_kept HR19.out hk_ (fun k_ h_ hs_ => by obtain ⟨h1_, h2_⟩ := h_; obtain ⟨g1_, g2_⟩ := hs_; have := CH.out; omega)); have n5_ := Aside0.mk (Kd.R_kept HR30.out hk_ (fun k_ h_ hs_ => by obtain ⟨h1_, h2_⟩ := h_; obtain ⟨g1_, g2_⟩ := hs_; have := CH.out; omega)); have n6_ := Aside0.mk (blk_kept BKgb33.out hk_ (fun hs_ => by obtain ⟨g1_, g2_⟩ := hs_; have := CH.out; omega)); have n7_ := Aside0.mk (blk_kept BKgb42.out hk_ (fun hs_ => by obtain ⟨g1_, g2_⟩ := hs_; have := CH.out; omega)); have n8_ := Aside0.mk (Kd.R_kept HR56.out hk_ (fun k_ h_ hs_ => by obtain ⟨h1_, h2_⟩ := h_; obtain ⟨g1_, g2_⟩ := hs_; have := CH.out; omega)); have n9_ := Aside0.mk (blk_kept BKgb59.out hk_ (fun hs_ => by obtain ⟨g1_, g2_⟩ := hs_; have := CH.out; omega)); have n10_ := Aside0.mk (Kd.S_kept HS68.out hk_ (fun k_ h_ hs_ => by obtain ⟨h1_, h2_⟩ := h_; obtain ⟨g1_, g2_⟩ := hs_; have := CH.out; omega)); have n11_ := Aside0.mk (Kd.R_kept HR77.out hk_ (fun k_ h_ hs_ => by obtain ⟨h1_, h2_⟩ := h_; obtain ⟨g1_, g2_⟩ := hs_; have := CH.out; omega)); have n12_ := Aside0.mk (Kd.F_kept FM86.out hk_ (fun k_ h_ hs_ => by obtain ⟨h1_, h2_⟩ := h_; obtain ⟨g1_, g2_⟩ := hs_; have := CH.out; omega)); have nB_ := Aside0.mk hb_; have ns_ := Aside0.mk hs1_; clear HB HS FA0_0 FA2 BKgb1 HS11 HR19 HR30 BKgb33 BKgb42 HR56 BKgb59 HS68 HR77 FM86; have FA0_0 := n0_; have FA2 := n1_; have BKgb1 := n2_; have HS11 := n3_; have HR19 := n4_; have HR30 := n5_; have BKgb33 := n6_; have BKgb42 := n7_; have HR56 := n8_; have BKgb59 := n9_; have HS68 := n10_; have HR77 := n11_; have FM86 := n12_; have HB := nB_; have HS := ns_; clear nB_ ns_ n0_ n1_ n2_ n3_ n4_ n5_ n6_ n7_ n8_ n9_ n10_ n11_ n12_; have hl_ : l2.length = x89.length := (Kd.R_reads' ho_).1; have FM91 := Aside0.mk (Kd.R_F (Kd.R_mono (Kd.R_tight rfl ho_) (fun k_ hk_ => HR48.out.1 k_ hk_.symm))); rw [hl_] at FM91; have HCHR48_ := Aside0.mk (show x89.length ≤ co50 by rw [← hl_]; exact HCHR48.out); have HLFM91 := Aside0.mk hl_; clear ho_ hm_ hb_ hk_ hs1_ hl_ HR48; have hczgb1_0 : w87.cell? ⟨gb1, 0, none⟩ = some (.slice A0_0 l0_0.length c0_0) := (blk_cell BKgb1.out 0).trans rfl; have hfzgb1_0 := blk_frozen BKgb1.out 0; have hczgb33_0 : w87.cell? ⟨gb33, 0, none⟩ = some (.slice Ao31 x23.length co32) := (blk_cell BKgb33.out 0).trans rfl; have hczgb33_1 : w87.cell? ⟨gb33, 1, none⟩ = some (.int .i64 x24) := (blk_cell BKgb33.out 1).trans rfl; have hfzgb33_0 := blk_frozen BKgb33.out 0; have hfzgb33_1 := blk_frozen BKgb33.out 1; have hczgb42_0 : w87.cell? ⟨gb42, 0, none⟩ = some (.slice Ao40 l0_0.length co41) := (blk_cell BKgb42.out 0).trans rfl; have hfzgb42_0 := blk_frozen BKgb42.out 0; have hczgb59_0 : w87.cell? ⟨gb59, 0, none⟩ = some (.slice Ao57 x23.length co58) := (blk_cell BKgb59.out 0).trans rfl; have hczgb59_1 : w87.cell? ⟨gb59, 1, none⟩ = some (.int .i64 x24) := (blk_cell BKgb59.out 1).trans rfl; have hfzgb59_0 := blk_frozen BKgb59.out 0; have hfzgb59_1 := blk_frozen BKgb59.out 1; have hnbgb1gb33 : gb1 ≠ gb33 := (by have := CH.out; omega); have hnbgb1gb42 : gb1 ≠ gb42 := (by have := CH.out; omega); have hnbgb1gb59 : gb1 ≠ gb59 := (by have := CH.out; omega); have hnbgb33gb1 : gb33 ≠ gb1 := (by have := CH.out; omega); have hnbgb33gb42 : gb33 ≠ gb42 := (by have := CH.out; omega); have hnbgb33gb59 : gb33 ≠ gb59 := (by have := CH.out; omega); have hnbgb42gb1 : gb42 ≠ gb1 := (by have := CH.out; omega); have hnbgb42gb33 : gb42 ≠ gb33 := (by have := CH.out; omega); have hnbgb42gb59 : gb42 ≠ gb59 := (by have := CH.out; omega); have hnbgb59gb1 : gb59 ≠ gb1 := (by have := CH.out; omega); have hnbgb59gb33 : gb59 ≠ gb33 := (by have := CH.out; omega); have hnbgb59gb42 : gb59 ≠ gb42 := (by have := CH.out; omega)) | ((with_reducible refine gate_callee (f := 19) rfl ?_); (try (refine gate_guard (by rfl) ?_; dsimp only)); refine goesL_ (some 81) rfl rfl Try.func19 (by kernel_rfl) rfl #[.agg #[.slice Ao57 x23.length co58, .int .i64 x24], .agg #[.slice Ao31 x23.length co32, .int .i64 x24]] rfl (by (try simp only [List.map_toArray, List.map_cons, List.map_nil]); first | done | rfl | (simp only [List.length_drop, List.length_take]; rfl)) ?_; (with_reducible refine (laws_eqWalk.calls KE62 _ _ x23 x24 _ _ x23 x24 true _ ?sidehr0_0 ?sidehc0_0 ?sidehr1_0 ?sidehc1_0 E62.out).mono ?_); (case sidehr0_0 => exact R_now (S := (fun _ => False)) HR56.out (by repeat (first | (with_reducible first | exact Kept.refl _ _ | apply Kept.alloc | apply Kept.drewN | apply Kept.drew) | exact Kept.refl _ _)) (fun _ _ hs_ => hs_.elim)); (case sidehc0_0 => exact HCHR56.out); (case sidehr1_0 => exact R_now (S := (fun _ => False)) HR30.out (by repeat (first | (with_reducible first | exact Kept.refl _ _ | apply Kept.alloc | apply Kept.drewN | apply Kept.drew) | exact Kept.refl _ _)) (fun _ _ hs_ => hs_.elim)); (case sidehc1_0 => exact HCHR30.out); rintro e w92 ⟨rfl, hb_⟩; refine ⟨_, rfl, ?_⟩; (try clear hczgb1_0); (try clear hfzgb1_0); (try clear hczgb33_0); (try clear hfzgb33_0); (try clear hczgb33_1); (try clear hfzgb33_1); (try clear hczgb42_0); (try clear hfzgb42_0); (try clear hczgb59_0); (try clear hfzgb59_0); (try clear hczgb59_1); (try clear hfzgb59_1); obtain ⟨hk_, hs1_, hs2_, hw_⟩ := ev_kept (S := (fun _ => False)) HS.out HB.out hb_ (by repeat (first | (with_reducible first | exact Kept.refl _ _ | apply Kept.alloc | apply Kept.drewN | apply Kept.drew) | exact Kept.refl _ _)); have hB_ := below_step (by repeat (first | (with_reducible first | exact HB.out | apply below_alloc | apply pw_below_drewN | apply below_drew1 | refine below_set ?_ GEgb1.out | refine below_set ?_ GEgb33.out | refine below_set ?_ GEgb42.out | refine below_set ?_ GEgb59.out) | exact HB.out)) hb_; have n0_ := Aside0.mk (Kd.F_kept FA0_0.out hk_ (fun _ _ hs_ => hs_.elim)); have n1_ := Aside0.mk (Kd.F_kept FA2.out hk_ (fun _ _ hs_ => hs_.elim)); have n2_ := Aside0.mk (blk_below (g := gb1) (o := .cells #[.slice A0_0 l0_0.length c0_0] 30 (0, 0)) (by (with_reducible repeat (first | refine blk_drewN ?_ _ | refine blk_drew ?_ | refine blk_alloc ?_ _)); exact BKgb1.out) hb_); have n3_ := Aside0.mk (Kd.S_kept HS11.out hk_ (fun _ _ hs_ => hs_.elim)); have n4_ := Aside0.mk (Kd.R_kept HR19.out hk_ (fun _ _ hs_ => hs_.elim)); have n5_ := Aside0.mk (Kd.R_kept HR30.out hk_ (fun _ _ hs_ => hs_.elim)); have n6_ := Aside0.mk (blk_below (g := gb33) (o := .cells #[.slice Ao31 x23.length co32, .int .i64 x24] 34 (0, 0)) (by (with_reducible repeat (first | refine blk_drewN ?_ _ | refine blk_drew ?_ | refine blk_alloc ?_ _)); exact BKgb33.out) hb_); have n7_ := Aside0.mk (blk_below (g := gb42) (o := .cells #[.slice Ao40 l0_0.length co41] 24 (0, 0)) (by (with_reducible repeat (first | refine blk_drewN ?_ _ | refine blk_drew ?_ | refine blk_alloc ?_ _)); exact BKgb42.out) hb_); have n8_ := Aside0.mk (Kd.R_kept HR56.out hk_ (fun _ _ hs_ => hs_.elim)); have n9_ := Aside0.mk (blk_below (g := gb59) (o := .cells #[.slice Ao57 x23.length co58, .int .i64 x24] 34 (0, 0)) (by (with_reducible repeat (first | refine blk_drewN ?_ _ | refine blk_drew ?_ | refine blk_alloc ?_ _)); exact BKgb59.out) hb_); have n10_ := Aside0.mk (Kd.S_kept HS68.out hk_ (fun _ _ hs_ => hs_.elim)); have n11_ := Aside0.mk (Kd.R_kept HR77.out hk_ (fun _ _ hs_ => hs_.elim)); have n12_ := Aside0.mk (Kd.F_kept FM86.out hk_ (fun _ _ hs_ => hs_.elim)); have n13_ := Aside0.mk (Kd.F_kept FM91.out hk_ (fun _ _ hs_ => hs_.elim)); have ns_ := Aside0.mk (Nat.le_trans (Nat.le_trans hs1_ hs2_) (Nat.le_refl _)); have nB_ := Aside0.mk hB_; clear HB HS FA0_0 FA2 BKgb1 HS11 HR19 HR30 BKgb33 BKgb42 HR56 BKgb59 HS68 HR77 FM86 FM91; have FA0_0 := n0_; have FA2 := n1_; have BKgb1 := n2_; have HS11 := n3_; have HR19 := n4_; have HR30 := n5_; have BKgb33 := n6_; have BKgb42 := n7_; have HR56 := n8_; have BKgb59 := n9_; have HS68 := n10_; have HR77 := n11_; have FM86 := n12_; have FM91 := n13_; have HB := nB_; have HS := ns_; clear nB_ ns_ n0_ n1_ n2_ n3_ n4_ n5_ n6_ n7_ n8_ n9_ n10_ n11_ n12_ n13_; clear hk_ hs1_ hs2_ hw_ hB_ hb_; have hczgb1_0 : w92.cell? ⟨gb1, 0, none⟩ = some (.slice A0_0 l0_0.length c0_0) := (blk_cell BKgb1.out 0).trans rfl; have hfzgb1_0 := blk_frozen BKgb1.out 0; have hczgb33_0 : w92.cell? ⟨gb33, 0, none⟩ = some (.slice Ao31 x23.length co32) := (blk_cell BKgb33.out 0).trans rfl; have hczgb33_1 : w92.cell? ⟨gb33, 1, none⟩ = some (.int .i64 x24) := (blk_cell BKgb33.out 1).trans rfl; have hfzgb33_0 := blk_frozen BKgb33.out 0; have hfzgb33_1 := blk_frozen BKgb33.out 1; have hczgb42_0 : w92.cell? ⟨gb42, 0, none⟩ = some (.slice Ao40 l0_0.length co41) := (blk_cell BKgb42.out 0).trans rfl; have hfzgb42_0 := blk_frozen BKgb42.out 0; have hczgb59_0 : w92.cell? ⟨gb59, 0, none⟩ = some (.slice Ao57 x23.length co58) := (blk_cell BKgb59.out 0).trans rfl; have hczgb59_1 : w92.cell? ⟨gb59, 1, none⟩ = some (.int .i64 x24) := (blk_cell BKgb59.out 1).trans rfl; have hfzgb59_0 := blk_frozen BKgb59.out 0; have hfzgb59_1 := blk_frozen BKgb59.out 1; have hnbgb1gb33 : gb1 ≠ gb33 := (by have := CH.out; omega); have hnbgb1gb42 : gb1 ≠ gb42 := (by have := CH.out; omega); have hnbgb1gb59 : gb1 ≠ gb59 := (by have := CH.out; omega); have hnbgb33gb1 : gb33 ≠ gb1 := (by have := CH.out; omega); have hnbgb33gb42 : gb33 ≠ gb42 := (by have := CH.out; omega); have hnbgb33gb59 : gb33 ≠ gb59 := (by have := CH.out; omega); have hnbgb42gb1 : gb42 ≠ gb1 := (by have := CH.out; omega); have hnbgb42gb33 : gb42 ≠ gb33 := (by have := CH.out; omega); have hnbgb42gb59 : gb42 ≠ gb59 := (by have := CH.out; omega); have hnbgb59gb1 : gb59 ≠ gb1 := (by have := CH.out; omega); have hnbgb59gb33 : gb59 ≠ gb33 := (by have := CH.out; omega); have hnbgb59gb42 : gb59 ≠ gb42 := (by have := CH.out; omega)) | ((with_reducible refine gate_callee (f := 22) rfl ?_); refine goesL_ (some 91) rfl rfl Try.func22 (by kernel_rfl) rfl #[.agg #[.slice Ao57 x23.length co58, .int .i64 x24], .int .i64 1] rfl (by (try simp only [List.map_toArray, List.map_cons, List.map_nil]); first | done | rfl | (simp only [List.length_drop, List.length_take]; rfl)) ?_; (with_reducible refine (laws_markWalk.calls KE96 (fun k_ => lo54 ≤ k_ ∧ k_ < hi55) _ x23 x24 1 x94 x95 w _ ?sideB ?sideO E96.out).mono ?_); (case sideB => exact (by repeat (first | (with_reducible first | exact HB.out | apply below_alloc | apply pw_below_drewN | apply below_drew1 | refine below_set ?_ GEgb1.out | refine below_set ?_ GEgb33.out | refine below_set ?_ GEgb42.out | refine below_set ?_ GEgb59.out) | exact HB.out))); (case sideO => exact Kd.R_kept (S := (fun _ => False)) HR56.out (by repeat (first | (with_reducible first | exact Kept.refl _ _ | apply Kept.alloc | apply Kept.drewN | apply Kept.drew) | exact Kept.refl _ _)) (fun _ _ hs_ => hs_.elim)); rintro e w93 ⟨rfl, ho_, hb_, hm_⟩; refine ⟨_, rfl, ?_⟩; (try clear hczgb1_0); (try clear hfzgb1_0); (try clear hczgb33_0); (try clear hfzgb33_0); (try clear hczgb33_1); (try clear hfzgb33_1); (try clear hczgb42_0); (try clear hfzgb42_0); (try clear hczgb59_0); (try clear hfzgb59_0); (try clear hczgb59_1); (try clear hfzgb59_1); obtain ⟨hk_, hs1_⟩ := ev_mark (S := (fun k_ => lo54 ≤ k_ ∧ k_ < hi55)) HS.out hm_ (by repeat (first | (with_reducible first | exact Kept.refl _ _ | apply Kept.alloc | apply Kept.drewN | apply Kept.drew) | exact Kept.refl _ _)); have n0_ := Aside0.mk (Kd.F_kept FA0_0.out hk_ (fun k_ h_ hs_ => by have h1_ : k_ < s0 := h_; obtain ⟨g1_, g2_⟩ := hs_; have := CH.out; omega)); have n1_ := Aside0.mk (Kd.F_kept FA2.out hk_ (fun k_ h_ hs_ => by have h1_ : k_ < s0 := h_; obtain ⟨g1_, g2_⟩ := hs_; have := CH.out; omega)); have n2_ := Aside0.mk (blk_kept BKgb1.out hk_ (fun hs_ => by obtain ⟨g1_, g2_⟩ := hs_; have := CH.out; omega)); have n3_ := Aside0.mk (Kd.S_kept HS11.out hk_ (fun k_ h_ hs_ => by obtain ⟨h1_, h2_⟩ := h_; obtain ⟨g1_, g2_⟩ := hs_; have := CH.out; omega)); have n4_ := Aside0.mk (Kd.R_kept HR19.out hk_ (fun k_ h_ hs_ => by obtain ⟨h1_, h2_⟩ := h_; obtain ⟨g1_, g2_⟩ := hs_; have := CH.out; omega)); have n5_ := Aside0.mk (Kd.R_kept HR30.out hk_ (fun k_ h_ hs_ => by obtain ⟨h1_, h2_⟩ := h_; obtain ⟨g1_, g2_⟩ := hs_; have := CH.out; omega)); have n6_ := Aside0.mk (blk_kept BKgb33.out hk_ (fun hs_ => by obtain ⟨g1_, g2_⟩ := hs_; have := CH.out; omega)); have n7_ := Aside0.mk (blk_kept BKgb42.out hk_ (fun hs_ => by obtain ⟨g1_, g2_⟩ := hs_; have := CH.out; omega)); have n8_ := Aside0.mk (blk_kept BKgb59.out hk_ (fun hs_ => by obtain ⟨g1_, g2_⟩ := hs_; have := CH.out; omega)); have n9_ := Aside0.mk (Kd.S_kept HS68.out hk_ (fun k_ h_ hs_ => by obtain ⟨h1_, h2_⟩ := h_; obtain ⟨g1_, g2_⟩ := hs_; have := CH.out; omega)); have n10_ := Aside0.mk (Kd.R_kept HR77.out hk_ (fun k_ h_ hs_ => by obtain ⟨h1_, h2_⟩ := h_; obtain ⟨g1_, g2_⟩ := hs_; have := CH.out; omega)); have n11_ := Aside0.mk (Kd.F_kept FM86.out hk_ (fun k_ h_ hs_ => by obtain ⟨h1_, h2_⟩ := h_; obtain ⟨g1_, g2_⟩ := hs_; have := CH.out; omega)); have n12_ := Aside0.mk (Kd.F_kept FM91.out hk_ (fun k_ h_ hs_ => by obtain ⟨h1_, h2_⟩ := h_; obtain ⟨g1_, g2_⟩ := hs_; have := CH.out; omega)); have nB_ := Aside0.mk hb_; have ns_ := Aside0.mk hs1_; clear HB HS FA0_0 FA2 BKgb1 HS11 HR19 HR30 BKgb33 BKgb42 BKgb59 HS68 HR77 FM86 FM91; have FA0_0 := n0_; have FA2 := n1_; have BKgb1 := n2_; have HS11 := n3_; have HR19 := n4_; have HR30 := n5_; have BKgb33 := n6_; have BKgb42 := n7_; have BKgb59 := n8_; have HS68 := n9_; have HR77 := n10_; have FM86 := n11_; have FM91 := n12_; have HB := nB_; have HS := ns_; clear nB_ ns_ n0_ n1_ n2_ n3_ n4_ n5_ n6_ n7_ n8_ n9_ n10_ n11_ n12_; have hl_ : x23.length = x95.length := (Kd.R_reads' ho_).1; have FM97 := Aside0.mk (Kd.R_F (Kd.R_mono (Kd.R_tight rfl ho_) (fun k_ hk_ => HR56.out.1 k_ hk_.symm))); rw [hl_] at FM97; have HCHR56_ := Aside0.mk (show x95.length ≤ co58 by rw [← hl_]; exact HCHR56.out); have HLFM97 := Aside0.mk hl_; clear ho_ hm_ hb_ hk_ hs1_ hl_ HR56; have hczgb1_0 : w93.cell? ⟨gb1, 0, none⟩ = some (.slice A0_0 l0_0.length c0_0) := (blk_cell BKgb1.out 0).trans rfl; have hfzgb1_0 := blk_frozen BKgb1.out 0; have hczgb33_0 : w93.cell? ⟨gb33, 0, none⟩ = some (.slice Ao31 x23.length co32) := (blk_cell BKgb33.out 0).trans rfl; have hczgb33_1 : w93.cell? ⟨gb33, 1, none⟩ = some (.int .i64 x24) := (blk_cell BKgb33.out 1).trans rfl; have hfzgb33_0 := blk_frozen BKgb33.out 0; have hfzgb33_1 := blk_frozen BKgb33.out 1; have hczgb42_0 : w93.cell? ⟨gb42, 0, none⟩ = some (.slice Ao40 l0_0.length co41) := (blk_cell BKgb42.out 0).trans rfl; have hfzgb42_0 := blk_frozen BKgb42.out 0; have hczgb59_0 : w93.cell? ⟨gb59, 0, none⟩ = some (.slice Ao57 x23.length co58) := (blk_cell BKgb59.out 0).trans rfl; have hczgb59_1 : w93.cell? ⟨gb59, 1, none⟩ = some (.int .i64 x24) := (blk_cell BKgb59.out 1).trans rfl; have hfzgb59_0 := blk_frozen BKgb59.out 0; have hfzgb59_1 := blk_frozen BKgb59.out 1; have hnbgb1gb33 : gb1 ≠ gb33 := (by have := CH.out; omega); have hnbgb1gb42 : gb1 ≠ gb42 := (by have := CH.out; omega); have hnbgb1gb59 : gb1 ≠ gb59 := (by have := CH.out; omega); have hnbgb33gb1 : gb33 ≠ gb1 := (by have := CH.out; omega); have hnbgb33gb42 : gb33 ≠ gb42 := (by have := CH.out; omega); have hnbgb33gb59 : gb33 ≠ gb59 := (by have := CH.out; omega); have hnbgb42gb1 : gb42 ≠ gb1 := (by have := CH.out; omega); have hnbgb42gb33 : gb42 ≠ gb33 := (by have := CH.out; omega); have hnbgb42gb59 : gb42 ≠ gb59 := (by have := CH.out; omega); have hnbgb59gb1 : gb59 ≠ gb1 := (by have := CH.out; omega); have hnbgb59gb33 : gb59 ≠ gb33 := (by have := CH.out; omega); have hnbgb59gb42 : gb59 ≠ gb42 := (by have := CH.out; omega)) | ((with_reducible refine gate_callee (f := 23) rfl ?_); refine goesL_ (some 94) rfl rfl Try.func23 (by kernel_rfl) rfl #[.agg #[.slice Ao57 x23.length co58, .int .i64 x24], .int .i64 1] rfl (by (try simp only [List.map_toArray, List.map_cons, List.map_nil]); first | done | rfl | (simp only [List.length_drop, List.length_take]; rfl)) ?_; refine calls_len (args' := #[.agg #[.slice Ao57 x95.length co58, .int .i64 x24], .int .i64 1]) (by simp only [HLFM97.out]) ?_; (with_reducible refine (laws_heldWalk.calls KE99 _ _ x95 x24 1 x94 _ ?sidehr0_0 ?sidehc0_0 E99.out).mono ?_); (case sidehr0_0 => exact F_at (S := (fun _ => False)) FM97.out (by repeat (first | (with_reducible first | exact Kept.refl _ _ | apply Kept.alloc | apply Kept.drewN | apply Kept.drew) | exact Kept.refl _ _)) (fun _ _ hs_ => hs_.elim)); (case sidehc0_0 => exact HCHR56_.out); rintro e w98 ⟨rfl, hb_⟩; refine ⟨_, rfl, ?_⟩; (try clear hczgb1_0); (try clear hfzgb1_0); (try clear hczgb33_0); (try clear hfzgb33_0); (try clear hczgb33_1); (try clear hfzgb33_1); (try clear hczgb42_0); (try clear hfzgb42_0); (try clear hczgb59_0); (try clear hfzgb59_0); (try clear hczgb59_1); (try clear hfzgb59_1); obtain ⟨hk_, hs1_, hs2_, hw_⟩ := ev_kept (S := (fun _ => False)) HS.out HB.out hb_ (by repeat (first | (with_reducible first | exact Kept.refl _ _ | apply Kept.alloc | apply Kept.drewN | apply Kept.drew) | exact Kept.refl _ _)); have hB_ := below_step (by repeat (first | (with_reducible first | exact HB.out | apply below_alloc | apply pw_below_drewN | apply below_drew1 | refine below_set ?_ GEgb1.out | refine below_set ?_ GEgb33.out | refine below_set ?_ GEgb42.out | refine below_set ?_ GEgb59.out) | exact HB.out)) hb_; have n0_ := Aside0.mk (Kd.F_kept FA0_0.out hk_ (fun _ _ hs_ => hs_.elim)); have n1_ := Aside0.mk (Kd.F_kept FA2.out hk_ (fun _ _ hs_ => hs_.elim)); have n2_ := Aside0.mk (blk_below (g := gb1) (o := .cells #[.slice A0_0 l0_0.length c0_0] 30 (0, 0)) (by (with_reducible repeat (first | refine blk_drewN ?_ _ | refine blk_drew ?_ | refine blk_alloc ?_ _)); exact BKgb1.out) hb_); have n3_ := Aside0.mk (Kd.S_kept HS11.out hk_ (fun _ _ hs_ => hs_.elim)); have n4_ := Aside0.mk (Kd.R_kept HR19.out hk_ (fun _ _ hs_ => hs_.elim)); have n5_ := Aside0.mk (Kd.R_kept HR30.out hk_ (fun _ _ hs_ => hs_.elim)); have n6_ := Aside0.mk (blk_below (g := gb33) (o := .cells #[.slice Ao31 x23.length co32, .int .i64 x24] 34 (0, 0)) (by (with_reducible repeat (first | refine blk_drewN ?_ _ | refine blk_drew ?_ | refine blk_alloc ?_ _)); exact BKgb33.out) hb_); have n7_ := Aside0.mk (blk_below (g := gb42) (o := .cells #[.slice Ao40 l0_0.length co41] 24 (0, 0)) (by (with_reducible repeat (first | refine blk_drewN ?_ _ | refine blk_drew ?_ | refine blk_alloc ?_ _)); exact BKgb42.out) hb_); have n8_ := Aside0.mk (blk_below (g := gb59) (o := .cells #[.slice Ao57 x23.length co58, .int .i64 x24] 34 (0, 0)) (by (with_reducible repeat (first | refine blk_drewN ?_ _ | refine blk_drew ?_ | refine blk_alloc ?_ _)); exact BKgb59.out) hb_); have n9_ := Aside0.mk (Kd.S_kept HS68.out hk_ (fun _ _ hs_ => hs_.elim)); have n10_ := Aside0.mk (Kd.R_kept HR77.out hk_ (fun _ _ hs_ => hs_.elim)); have n11_ := Aside0.mk (Kd.F_kept FM86.out hk_ (fun _ _ hs_ => hs_.elim)); have n12_ := Aside0.mk (Kd.F_kept FM91.out hk_ (fun _ _ hs_ => hs_.elim)); have n13_ := Aside0.mk (Kd.F_kept FM97.out hk_ (fun _ _ hs_ => hs_.elim)); have ns_ := Aside0.mk (Nat.le_trans (Nat.le_trans hs1_ hs2_) (Nat.le_refl _)); have nB_ := Aside0.mk hB_; clear HB HS FA0_0 FA2 BKgb1 HS11 HR19 HR30 BKgb33 BKgb42 BKgb59 HS68 HR77 FM86 FM91 FM97; have FA0_0 := n0_; have FA2 := n1_; have BKgb1 := n2_; have HS11 := n3_; have HR19 := n4_; have HR30 := n5_; have BKgb33 := n6_; have BKgb42 := n7_; have BKgb59 := n8_; have HS68 := n9_; have HR77 := n10_; have FM86 := n11_; have FM91 := n12_; have FM97 := n13_; have HB := nB_; have HS := ns_; clear nB_ ns_ n0_ n1_ n2_ n3_ n4_ n5_ n6_ n7_ n8_ n9_ n10_ n11_ n12_ n13_; clear hk_ hs1_ hs2_ hw_ hB_ hb_; have hczgb1_0 : w98.cell? ⟨gb1, 0, none⟩ = some (.slice A0_0 l0_0.length c0_0) := (blk_cell BKgb1.out 0).trans rfl; have hfzgb1_0 := blk_frozen BKgb1.out 0; have hczgb33_0 : w98.cell? ⟨gb33, 0, none⟩ = some (.slice Ao31 x23.length co32) := (blk_cell BKgb33.out 0).trans rfl; have hczgb33_1 : w98.cell? ⟨gb33, 1, none⟩ = some (.int .i64 x24) := (blk_cell BKgb33.out 1).trans rfl; have hfzgb33_0 := blk_frozen BKgb33.out 0; have hfzgb33_1 := blk_frozen BKgb33.out 1; have hczgb42_0 : w98.cell? ⟨gb42, 0, none⟩ = some (.slice Ao40 l0_0.length co41) := (blk_cell BKgb42.out 0).trans rfl; have hfzgb42_0 := blk_frozen BKgb42.out 0; have hczgb59_0 : w98.cell? ⟨gb59, 0, none⟩ = some (.slice Ao57 x23.length co58) := (blk_cell BKgb59.out 0).trans rfl; have hczgb59_1 : w98.cell? ⟨gb59, 1, none⟩ = some (.int .i64 x24) := (blk_cell BKgb59.out 1).trans rfl; have hfzgb59_0 := blk_frozen BKgb59.out 0; have hfzgb59_1 := blk_frozen BKgb59.out 1; have hnbgb1gb33 : gb1 ≠ gb33 := (by have := CH.out; omega); have hnbgb1gb42 : gb1 ≠ gb42 := (by have := CH.out; omega); have hnbgb1gb59 : gb1 ≠ gb59 := (by have := CH.out; omega); have hnbgb33gb1 : gb33 ≠ gb1 := (by have := CH.out; omega); have hnbgb33gb42 : gb33 ≠ gb42 := (by have := CH.out; omega); have hnbgb33gb59 : gb33 ≠ gb59 := (by have := CH.out; omega); have hnbgb42gb1 : gb42 ≠ gb1 := (by have := CH.out; omega); have hnbgb42gb33 : gb42 ≠ gb33 := (by have := CH.out; omega); have hnbgb42gb59 : gb42 ≠ gb59 := (by have := CH.out; omega); have hnbgb59gb1 : gb59 ≠ gb1 := (by have := CH.out; omega); have hnbgb59gb33 : gb59 ≠ gb33 := (by have := CH.out; omega); have hnbgb59gb42 : gb59 ≠ gb42 := (by have := CH.out; omega)) | ((with_reducible refine gate_callee (f := 16) rfl ?_); refine goesL_ (some 102) rfl rfl Try.func16 (by kernel_rfl) rfl #[.agg #[.slice A0_0 l0_0.length c0_0]] rfl (by (try simp only [List.map_toArray, List.map_cons, List.map_nil]); first | done | rfl | (simp only [List.length_drop, List.length_take]; rfl)) ?_; (with_reducible refine (laws_toGraph.calls KE7 _ _ l0_0 l0_0 _ ?sidehr0_0 ?sidehc0_0 E7.out).mono ?_); (case sidehr0_0 => exact F_at (S := (fun _ => False)) FA0_0.out (by repeat (first | (with_reducible first | exact Kept.refl _ _ | apply Kept.alloc | apply Kept.drewN | apply Kept.drew) | exact Kept.refl _ _)) (fun _ _ hs_ => hs_.elim)); (case sidehc0_0 => exact HC0_0.out); rintro e w100 ⟨v101, rfl, hov0__, hb_⟩; refine ⟨_, rfl, ?_⟩; (try clear hczgb1_0); (try clear hfzgb1_0); (try clear hczgb33_0); (try clear hfzgb33_0); (try clear hczgb33_1); (try clear hfzgb33_1); (try clear hczgb42_0); (try clear hfzgb42_0); (try clear hczgb59_0); (try clear hfzgb59_0); (try clear hczgb59_1); (try clear hfzgb59_1); obtain ⟨hk_, hs1_, hs2_, hw_⟩ := ev_kept (S := (fun _ => False)) HS.out HB.out hb_ (by repeat (first | (with_reducible first | exact Kept.refl _ _ | apply Kept.alloc | apply Kept.drewN | apply Kept.drew) | exact Kept.refl _ _)); have hB_ := below_step (by repeat (first | (with_reducible first | exact HB.out | apply below_alloc | apply pw_below_drewN | apply below_drew1 | refine below_set ?_ GEgb1.out | refine below_set ?_ GEgb33.out | refine below_set ?_ GEgb42.out | refine below_set ?_ GEgb59.out) | exact HB.out)) hb_; have n0_ := Aside0.mk (Kd.F_kept FA0_0.out hk_ (fun _ _ hs_ => hs_.elim)); have n1_ := Aside0.mk (Kd.F_kept FA2.out hk_ (fun _ _ hs_ => hs_.elim)); have n2_ := Aside0.mk (blk_below (g := gb1) (o := .cells #[.slice A0_0 l0_0.length c0_0] 30 (0, 0)) (by (with_reducible repeat (first | refine blk_drewN ?_ _ | refine blk_drew ?_ | refine blk_alloc ?_ _)); exact BKgb1.out) hb_); have n3_ := Aside0.mk (Kd.S_kept HS11.out hk_ (fun _ _ hs_ => hs_.elim)); have n4_ := Aside0.mk (Kd.R_kept HR19.out hk_ (fun _ _ hs_ => hs_.elim)); have n5_ := Aside0.mk (Kd.R_kept HR30.out hk_ (fun _ _ hs_ => hs_.elim)); have n6_ := Aside0.mk (blk_below (g := gb33) (o := .cells #[.slice Ao31 x23.length co32, .int .i64 x24] 34 (0, 0)) (by (with_reducible repeat (first | refine blk_drewN ?_ _ | refine blk_drew ?_ | refine blk_alloc ?_ _)); exact BKgb33.out) hb_); have n7_ := Aside0.mk (blk_below (g := gb42) (o := .cells #[.slice Ao40 l0_0.length co41] 24 (0, 0)) (by (with_reducible repeat (first | refine blk_drewN ?_ _ | refine blk_drew ?_ | refine blk_alloc ?_ _)); exact BKgb42.out) hb_); have n8_ := Aside0.mk (blk_below (g := gb59) (o := .cells #[.slice Ao57 x23.length co58, .int .i64 x24] 34 (0, 0)) (by (with_reducible repeat (first | refine blk_drewN ?_ _ | refine blk_drew ?_ | refine blk_alloc ?_ _)); exact BKgb59.out) hb_); have n9_ := Aside0.mk (Kd.S_kept HS68.out hk_ (fun _ _ hs_ => hs_.elim)); have n10_ := Aside0.mk (Kd.R_kept HR77.out hk_ (fun _ _ hs_ => hs_.elim)); have n11_ := Aside0.mk (Kd.F_kept FM86.out hk_ (fun _ _ hs_ => hs_.elim)); have n12_ := Aside0.mk (Kd.F_kept FM91.out hk_ (fun _ _ hs_ => hs_.elim)); have n13_ := Aside0.mk (Kd.F_kept FM97.out hk_ (fun _ _ hs_ => hs_.elim)); have ns_ := Aside0.mk (Nat.le_trans (Nat.le_trans hs1_ hs2_) (Nat.le_refl _)); have nB_ := Aside0.mk hB_; obtain ⟨lo102, hi103, c1_, c2_, c3_, h_⟩ := S_new hov0__ hs2_ hw_ hs1_; have HS104 := Aside0.mk h_; obtain ⟨Ao105, co106, eo_⟩ := Kd.S_slice HS104.out; subst eo_; have HCHS104 := Aside0.mk (Kd.S_reads' HS104.out).2.1; clear h_ hov0__; have nc_ := Aside0.mk (And.intro c1_ (And.intro c2_ CH.out)); clear CH ns_; have CH := nc_; have ns_ := Aside0.mk c3_; clear nc_ c1_ c2_ c3_; clear HB HS FA0_0 FA2 BKgb1 HS11 HR19 HR30 BKgb33 BKgb42 BKgb59 HS68 HR77 FM86 FM91 FM97; have FA0_0 := n0_; have FA2 := n1_; have BKgb1 := n2_; have HS11 := n3_; have HR19 := n4_; have HR30 := n5_; have BKgb33 := n6_; have BKgb42 := n7_; have BKgb59 := n8_; have HS68 := n9_; have HR77 := n10_; have FM86 := n11_; have FM91 := n12_; have FM97 := n13_; have HB := nB_; have HS := ns_; clear nB_ ns_ n0_ n1_ n2_ n3_ n4_ n5_ n6_ n7_ n8_ n9_ n10_ n11_ n12_ n13_; clear hk_ hs1_ hs2_ hw_ hB_ hb_; have hczgb1_0 : w100.cell? ⟨gb1, 0, none⟩ = some (.slice A0_0 l0_0.length c0_0) := (blk_cell BKgb1.out 0).trans rfl; have hfzgb1_0 := blk_frozen BKgb1.out 0; have hczgb33_0 : w100.cell? ⟨gb33, 0, none⟩ = some (.slice Ao31 x23.length co32) := (blk_cell BKgb33.out 0).trans rfl; have hczgb33_1 : w100.cell? ⟨gb33, 1, none⟩ = some (.int .i64 x24) := (blk_cell BKgb33.out 1).trans rfl; have hfzgb33_0 := blk_frozen BKgb33.out 0; have hfzgb33_1 := blk_frozen BKgb33.out 1; have hczgb42_0 : w100.cell? ⟨gb42, 0, none⟩ = some (.slice Ao40 l0_0.length co41) := (blk_cell BKgb42.out 0).trans rfl; have hfzgb42_0 := blk_frozen BKgb42.out 0; have hczgb59_0 : w100.cell? ⟨gb59, 0, none⟩ = some (.slice Ao57 x23.length co58) := (blk_cell BKgb59.out 0).trans rfl; have hczgb59_1 : w100.cell? ⟨gb59, 1, none⟩ = some (.int .i64 x24) := (blk_cell BKgb59.out 1).trans rfl; have hfzgb59_0 := blk_frozen BKgb59.out 0; have hfzgb59_1 := blk_frozen BKgb59.out 1; have hnbgb1gb33 : gb1 ≠ gb33 := (by have := CH.out; omega); have hnbgb1gb42 : gb1 ≠ gb42 := (by have := CH.out; omega); have hnbgb1gb59 : gb1 ≠ gb59 := (by have := CH.out; omega); have hnbgb33gb1 : gb33 ≠ gb1 := (by have := CH.out; omega); have hnbgb33gb42 : gb33 ≠ gb42 := (by have := CH.out; omega); have hnbgb33gb59 : gb33 ≠ gb59 := (by have := CH.out; omega); have hnbgb42gb1 : gb42 ≠ gb1 := (by have := CH.out; omega); have hnbgb42gb33 : gb42 ≠ gb33 := (by have := CH.out; omega); have hnbgb42gb59 : gb42 ≠ gb59 := (by have := CH.out; omega); have hnbgb59gb1 : gb59 ≠ gb1 := (by have := CH.out; omega); have hnbgb59gb33 : gb59 ≠ gb33 := (by have := CH.out; omega); have hnbgb59gb42 : gb59 ≠ gb42 := (by have := CH.out; omega)) | ((with_reducible refine gate_callee (f := 17) rfl ?_); refine goesL_ (some 105) rfl rfl Try.func17 (by kernel_rfl) rfl #[.slice A2 l2.length c2] rfl (by (try simp only [List.map_toArray, List.map_cons, List.map_nil]); first | done | rfl | (simp only [List.length_drop, List.length_take]; rfl)) ?_; (with_reducible refine (laws_toIntS.calls KE15 _ _ l2 l2 _ ?sidehr0 ?sidehc0 E15.out).mono ?_); (case sidehr0 => exact F_at (S := (fun _ => False)) FA2.out (by repeat (first | (with_reducible first | exact Kept.refl _ _ | apply Kept.alloc | apply Kept.drewN | apply Kept.drew) | exact Kept.refl _ _)) (fun _ _ hs_ => hs_.elim)); (case sidehc0 => exact HC2.out); rintro e w107 ⟨v108, rfl, hov0__, hb_⟩; refine ⟨_, rfl, ?_⟩; (try clear hczgb1_0); (try clear hfzgb1_0); (try clear hczgb33_0); (try clear hfzgb33_0); (try clear hczgb33_1); (try clear hfzgb33_1); (try clear hczgb42_0); (try clear hfzgb42_0); (try clear hczgb59_0); (try clear hfzgb59_0); (try clear hczgb59_1); (try clear hfzgb59_1); obtain ⟨hk_, hs1_, hs2_, hw_⟩ := ev_kept (S := (fun _ => False)) HS.out HB.out hb_ (by repeat (first | (with_reducible first | exact Kept.refl _ _ | apply Kept.alloc | apply Kept.drewN | apply Kept.drew) | exact Kept.refl _ _)); have hB_ := below_step (by repeat (first | (with_reducible first | exact HB.out | apply below_alloc | apply pw_below_drewN | apply below_drew1 | refine below_set ?_ GEgb1.out | refine below_set ?_ GEgb33.out | refine below_set ?_ GEgb42.out | refine below_set ?_ GEgb59.out) | exact HB.out)) hb_; have n0_ := Aside0.mk (Kd.F_kept FA0_0.out hk_ (fun _ _ hs_ => hs_.elim)); have n1_ := Aside0.mk (Kd.F_kept FA2.out hk_ (fun _ _ hs_ => hs_.elim)); have n2_ := Aside0.mk (blk_below (g := gb1) (o := .cells #[.slice A0_0 l0_0.length c0_0] 30 (0, 0)) (by (with_reducible repeat (first | refine blk_drewN ?_ _ | refine blk_drew ?_ | refine blk_alloc ?_ _)); exact BKgb1.out) hb_); have n3_ := Aside0.mk (Kd.S_kept HS11.out hk_ (fun _ _ hs_ => hs_.elim)); have n4_ := Aside0.mk (Kd.R_kept HR19.out hk_ (fun _ _ hs_ => hs_.elim)); have n5_ := Aside0.mk (Kd.R_kept HR30.out hk_ (fun _ _ hs_ => hs_.elim)); have n6_ := Aside0.mk (blk_below (g := gb33) (o := .cells #[.slice Ao31 x23.length co32, .int .i64 x24] 34 (0, 0)) (by (with_reducible repeat (first | refine blk_drewN ?_ _ | refine blk_drew ?_ | refine blk_alloc ?_ _)); exact BKgb33.out) hb_); have n7_ := Aside0.mk (blk_below (g := gb42) (o := .cells #[.slice Ao40 l0_0.length co41] 24 (0, 0)) (by (with_reducible repeat (first | refine blk_drewN ?_ _ | refine blk_drew ?_ | refine blk_alloc ?_ _)); exact BKgb42.out) hb_); have n8_ := Aside0.mk (blk_below (g := gb59) (o := .cells #[.slice Ao57 x23.length co58, .int .i64 x24] 34 (0, 0)) (by (with_reducible repeat (first | refine blk_drewN ?_ _ | refine blk_drew ?_ | refine blk_alloc ?_ _)); exact BKgb59.out) hb_); have n9_ := Aside0.mk (Kd.S_kept HS68.out hk_ (fun _ _ hs_ => hs_.elim)); have n10_ := Aside0.mk (Kd.R_kept HR77.out hk_ (fun _ _ hs_ => hs_.elim)); have n11_ := Aside0.mk (Kd.F_kept FM86.out hk_ (fun _ _ hs_ => hs_.elim)); have n12_ := Aside0.mk (Kd.F_kept FM91.out hk_ (fun _ _ hs_ => hs_.elim)); have n13_ := Aside0.mk (Kd.F_kept FM97.out hk_ (fun _ _ hs_ => hs_.elim)); have n14_ := Aside0.mk (Kd.S_kept HS104.out hk_ (fun _ _ hs_ => hs_.elim)); have ns_ := Aside0.mk (Nat.le_trans (Nat.le_trans hs1_ hs2_) (Nat.le_refl _)); have nB_ := Aside0.mk hB_; obtain ⟨lo109, hi110, c1_, c2_, c3_, h_⟩ := R_new hov0__ hs2_ hw_ hs1_; have HR111 := Aside0.mk h_; obtain ⟨Ao112, co113, eo_⟩ := Kd.R_slice HR111.out; subst eo_; have HCHR111 := Aside0.mk (Kd.R_reads' HR111.out).2.1; clear h_ hov0__; have nc_ := Aside0.mk (And.intro c1_ (And.intro c2_ CH.out)); clear CH ns_; have CH := nc_; have ns_ := Aside0.mk c3_; clear nc_ c1_ c2_ c3_; clear HB HS FA0_0 FA2 BKgb1 HS11 HR19 HR30 BKgb33 BKgb42 BKgb59 HS68 HR77 FM86 FM91 FM97 HS104; have FA0_0 := n0_; have FA2 := n1_; have BKgb1 := n2_; have HS11 := n3_; have HR19 := n4_; have HR30 := n5_; have BKgb33 := n6_; have BKgb42 := n7_; have BKgb59 := n8_; have HS68 := n9_; have HR77 := n10_; have FM86 := n11_; have FM91 := n12_; have FM97 := n13_; have HS104 := n14_; have HB := nB_; have HS := ns_; clear nB_ ns_ n0_ n1_ n2_ n3_ n4_ n5_ n6_ n7_ n8_ n9_ n10_ n11_ n12_ n13_ n14_; clear hk_ hs1_ hs2_ hw_ hB_ hb_; have hczgb1_0 : w107.cell? ⟨gb1, 0, none⟩ = some (.slice A0_0 l0_0.length c0_0) := (blk_cell BKgb1.out 0).trans rfl; have hfzgb1_0 := blk_frozen BKgb1.out 0; have hczgb33_0 : w107.cell? ⟨gb33, 0, none⟩ = some (.slice Ao31 x23.length co32) := (blk_cell BKgb33.out 0).trans rfl; have hczgb33_1 : w107.cell? ⟨gb33, 1, none⟩ = some (.int .i64 x24) := (blk_cell BKgb33.out 1).trans rfl; have hfzgb33_0 := blk_frozen BKgb33.out 0; have hfzgb33_1 := blk_frozen BKgb33.out 1; have hczgb42_0 : w107.cell? ⟨gb42, 0, none⟩ = some (.slice Ao40 l0_0.length co41) := (blk_cell BKgb42.out 0).trans rfl; have hfzgb42_0 := blk_frozen BKgb42.out 0; have hczgb59_0 : w107.cell? ⟨gb59, 0, none⟩ = some (.slice Ao57 x23.length co58) := (blk_cell BKgb59.out 0).trans rfl; have hczgb59_1 : w107.cell? ⟨gb59, 1, none⟩ = some (.int .i64 x24) := (blk_cell BKgb59.out 1).trans rfl; have hfzgb59_0 := blk_frozen BKgb59.out 0; have hfzgb59_1 := blk_frozen BKgb59.out 1; have hnbgb1gb33 : gb1 ≠ gb33 := (by have := CH.out; omega); have hnbgb1gb42 : gb1 ≠ gb42 := (by have := CH.out; omega); have hnbgb1gb59 : gb1 ≠ gb59 := (by have := CH.out; omega); have hnbgb33gb1 : gb33 ≠ gb1 := (by have := CH.out; omega); have hnbgb33gb42 : gb33 ≠ gb42 := (by have := CH.out; omega); have hnbgb33gb59 : gb33 ≠ gb59 := (by have := CH.out; omega); have hnbgb42gb1 : gb42 ≠ gb1 := (by have := CH.out; omega); have hnbgb42gb33 : gb42 ≠ gb33 := (by have := CH.out; omega); have hnbgb42gb59 : gb42 ≠ gb59 := (by have := CH.out; omega); have hnbgb59gb1 : gb59 ≠ gb1 := (by have := CH.out; omega); have hnbgb59gb33 : gb59 ≠ gb33 := (by have := CH.out; omega); have hnbgb59gb42 : gb59 ≠ gb42 := (by have := CH.out; omega)) | ((with_reducible refine gate_callee (f := 18) rfl ?_); refine goesL_ (some 107) rfl rfl Try.func18 (by kernel_rfl) rfl #[.agg #[.slice Ao105 l0_0.length co106], .int .i64 a1, .slice Ao112 l2.length co113, .int .i64 a3] rfl (by (try simp only [List.map_toArray, List.map_cons, List.map_nil]); first | done | rfl | (simp only [List.length_drop, List.length_take]; rfl)) ?_; (with_reducible refine (impl_UnicycleOfTree.calls KE52 _ _ l0_0 a1 _ _ l2 a3 x23 x24 x25 _ ?sidehr0_0 ?sidehc0_0 ?sidehr2 ?sidehc2 E52.out).mono ?_); (case sidehr0_0 => exact S_now (S := (fun _ => False)) HS104.out (by repeat (first | (with_reducible first | exact Kept.refl _ _ | apply Kept.alloc | apply Kept.drewN | apply Kept.drew) | exact Kept.refl _ _)) (fun _ _ hs_ => hs_.elim)); (case sidehc0_0 => exact HCHS104.out); (case sidehr2 => exact R_now (S := (fun _ => False)) HR111.out (by repeat (first | (with_reducible first | exact Kept.refl _ _ | apply Kept.alloc | apply Kept.drewN | apply Kept.drew) | exact Kept.refl _ _)) (fun _ _ hs_ => hs_.elim)); (case sidehc2 => exact HCHR111.out); rintro e w114 ⟨v115, rfl, hov0__, hb_⟩; refine ⟨_, rfl, ?_⟩; (try clear hczgb1_0); (try clear hfzgb1_0); (try clear hczgb33_0); (try clear hfzgb33_0); (try clear hczgb33_1); (try clear hfzgb33_1); (try clear hczgb42_0); (try clear hfzgb42_0); (try clear hczgb59_0); (try clear hfzgb59_0); (try clear hczgb59_1); (try clear hfzgb59_1); obtain ⟨hk_, hs1_, hs2_, hw_⟩ := ev_kept (S := (fun _ => False)) HS.out HB.out hb_ (by repeat (first | (with_reducible first | exact Kept.refl _ _ | apply Kept.alloc | apply Kept.drewN | apply Kept.drew) | exact Kept.refl _ _)); have hB_ := below_step (by repeat (first | (with_reducible first | exact HB.out | apply below_alloc | apply pw_below_drewN | apply below_drew1 | refine below_set ?_ GEgb1.out | refine below_set ?_ GEgb33.out | refine below_set ?_ GEgb42.out | refine below_set ?_ GEgb59.out) | exact HB.out)) hb_; have n0_ := Aside0.mk (Kd.F_kept FA0_0.out hk_ (fun _ _ hs_ => hs_.elim)); have n1_ := Aside0.mk (Kd.F_kept FA2.out hk_ (fun _ _ hs_ => hs_.elim)); have n2_ := Aside0.mk (blk_below (g := gb1) (o := .cells #[.slice A0_0 l0_0.length c0_0] 30 (0, 0)) (by (with_reducible repeat (first | refine blk_drewN ?_ _ | refine blk_drew ?_ | refine blk_alloc ?_ _)); exact BKgb1.out) hb_); have n3_ := Aside0.mk (Kd.S_kept HS11.out hk_ (fun _ _ hs_ => hs_.elim)); have n4_ := Aside0.mk (Kd.R_kept HR19.out hk_ (fun _ _ hs_ => hs_.elim)); have n5_ := Aside0.mk (Kd.R_kept HR30.out hk_ (fun _ _ hs_ => hs_.elim)); have n6_ := Aside0.mk (blk_below (g := gb33) (o := .cells #[.slice Ao31 x23.length co32, .int .i64 x24] 34 (0, 0)) (by (with_reducible repeat (first | refine blk_drewN ?_ _ | refine blk_drew ?_ | refine blk_alloc ?_ _)); exact BKgb33.out) hb_); have n7_ := Aside0.mk (blk_below (g := gb42) (o := .cells #[.slice Ao40 l0_0.length co41] 24 (0, 0)) (by (with_reducible repeat (first | refine blk_drewN ?_ _ | refine blk_drew ?_ | refine blk_alloc ?_ _)); exact BKgb42.out) hb_); have n8_ := Aside0.mk (blk_below (g := gb59) (o := .cells #[.slice Ao57 x23.length co58, .int .i64 x24] 34 (0, 0)) (by (with_reducible repeat (first | refine blk_drewN ?_ _ | refine blk_drew ?_ | refine blk_alloc ?_ _)); exact BKgb59.out) hb_); have n9_ := Aside0.mk (Kd.S_kept HS68.out hk_ (fun _ _ hs_ => hs_.elim)); have n10_ := Aside0.mk (Kd.R_kept HR77.out hk_ (fun _ _ hs_ => hs_.elim)); have n11_ := Aside0.mk (Kd.F_kept FM86.out hk_ (fun _ _ hs_ => hs_.elim)); have n12_ := Aside0.mk (Kd.F_kept FM91.out hk_ (fun _ _ hs_ => hs_.elim)); have n13_ := Aside0.mk (Kd.F_kept FM97.out hk_ (fun _ _ hs_ => hs_.elim)); have n14_ := Aside0.mk (Kd.S_kept HS104.out hk_ (fun _ _ hs_ => hs_.elim)); have n15_ := Aside0.mk (Kd.R_kept HR111.out hk_ (fun _ _ hs_ => hs_.elim)); have ns_ := Aside0.mk (Nat.le_trans (Nat.le_trans hs1_ hs2_) (Nat.le_refl _)); have nB_ := Aside0.mk hB_; obtain ⟨lo116, hi117, c1_, c2_, c3_, h_⟩ := R_new hov0__ hs2_ hw_ hs1_; have HR118 := Aside0.mk h_; obtain ⟨Ao119, co120, eo_⟩ := Kd.R_slice HR118.out; subst eo_; have HCHR118 := Aside0.mk (Kd.R_reads' HR118.out).2.1; clear h_ hov0__; have nc_ := Aside0.mk (And.intro c1_ (And.intro c2_ CH.out)); clear CH ns_; have CH := nc_; have ns_ := Aside0.mk c3_; clear nc_ c1_ c2_ c3_; clear HB HS FA0_0 FA2 BKgb1 HS11 HR19 HR30 BKgb33 BKgb42 BKgb59 HS68 HR77 FM86 FM91 FM97 HS104 HR111; have FA0_0 := n0_; have FA2 := n1_; have BKgb1 := n2_; have HS11 := n3_; have HR19 := n4_; have HR30 := n5_; have BKgb33 := n6_; have BKgb42 := n7_; have BKgb59 := n8_; have HS68 := n9_; have HR77 := n10_; have FM86 := n11_; have FM91 := n12_; have FM97 := n13_; have HS104 := n14_; have HR111 := n15_; have HB := nB_; have HS := ns_; clear nB_ ns_ n0_ n1_ n2_ n3_ n4_ n5_ n6_ n7_ n8_ n9_ n10_ n11_ n12_ n13_ n14_ n15_; clear hk_ hs1_ hs2_ hw_ hB_ hb_; have hczgb1_0 : w114.cell? ⟨gb1, 0, none⟩ = some (.slice A0_0 l0_0.length c0_0) := (blk_cell BKgb1.out 0).trans rfl; have hfzgb1_0 := blk_frozen BKgb1.out 0; have hczgb33_0 : w114.cell? ⟨gb33, 0, none⟩ = some (.slice Ao31 x23.length co32) := (blk_cell BKgb33.out 0).trans rfl; have hczgb33_1 : w114.cell? ⟨gb33, 1, none⟩ = some (.int .i64 x24) := (blk_cell BKgb33.out 1).trans rfl; have hfzgb33_0 := blk_frozen BKgb33.out 0; have hfzgb33_1 := blk_frozen BKgb33.out 1; have hczgb42_0 : w114.cell? ⟨gb42, 0, none⟩ = some (.slice Ao40 l0_0.length co41) := (blk_cell BKgb42.out 0).trans rfl; have hfzgb42_0 := blk_frozen BKgb42.out 0; have hczgb59_0 : w114.cell? ⟨gb59, 0, none⟩ = some (.slice Ao57 x23.length co58) := (blk_cell BKgb59.out 0).trans rfl; have hczgb59_1 : w114.cell? ⟨gb59, 1, none⟩ = some (.int .i64 x24) := (blk_cell BKgb59.out 1).trans rfl; have hfzgb59_0 := blk_frozen BKgb59.out 0; have hfzgb59_1 := blk_frozen BKgb59.out 1; have hnbgb1gb33 : gb1 ≠ gb33 := (by have := CH.out; omega); have hnbgb1gb42 : gb1 ≠ gb42 := (by have := CH.out; omega); have hnbgb1gb59 : gb1 ≠ gb59 := (by have := CH.out; omega); have hnbgb33gb1 : gb33 ≠ gb1 := (by have := CH.out; omega); have hnbgb33gb42 : gb33 ≠ gb42 := (by have := CH.out; omega); have hnbgb33gb59 : gb33 ≠ gb59 := (by have := CH.out; omega); have hnbgb42gb1 : gb42 ≠ gb1 := (by have := CH.out; omega); have hnbgb42gb33 : gb42 ≠ gb33 := (by have := CH.out; omega); have hnbgb42gb59 : gb42 ≠ gb59 := (by have := CH.out; omega); have hnbgb59gb1 : gb59 ≠ gb1 := (by have := CH.out; omega); have hnbgb59gb33 : gb59 ≠ gb33 := (by have := CH.out; omega); have hnbgb59gb42 : gb59 ≠ gb42 := (by have := CH.out; omega)) | ((with_reducible refine gate_dst (N := 19) rfl ?_); refine box_event ?hg (N := 19) ?hd (cs := #[.slice none 0 0, .int .i64 0]) (t := 34) ?hr ?_; (case hd => rfl); (case hg => rfl); (case hr => first | (go_simp; done) | (go_simp; rfl)); intro gb121 hg_ w122 hbox_ hb_; (try clear hczgb1_0); (try clear hfzgb1_0); (try clear hczgb33_0); (try clear hfzgb33_0); (try clear hczgb33_1); (try clear hfzgb33_1); (try clear hczgb42_0); (try clear hfzgb42_0); (try clear hczgb59_0); (try clear hfzgb59_0); (try clear hczgb59_1); (try clear hfzgb59_1); obtain ⟨hk_, hs1_, hs2_, hw0_⟩ := ev_kept (S := (fun _ => False)) HS.out HB.out hb_ (by repeat (first | (with_reducible first | exact Kept.refl _ _ | apply Kept.alloc | apply Kept.drewN | apply Kept.drew) | exact Kept.refl _ _)); have hw_ : w.heap.size ≤ gb121 := (by rw [hg_]; exact hw0_); have hB_ := below_step (by repeat (first | (with_reducible first | exact HB.out | apply below_alloc | apply pw_below_drewN | apply below_drew1 | refine below_set ?_ GEgb1.out | refine below_set ?_ GEgb33.out | refine below_set ?_ GEgb42.out | refine below_set ?_ GEgb59.out) | exact HB.out)) hb_; have n0_ := Aside0.mk (Kd.F_kept FA0_0.out hk_ (fun _ _ hs_ => hs_.elim)); have n1_ := Aside0.mk (Kd.F_kept FA2.out hk_ (fun _ _ hs_ => hs_.elim)); have n2_ := Aside0.mk (blk_below (g := gb1) (o := .cells #[.slice A0_0 l0_0.length c0_0] 30 (0, 0)) (by (with_reducible repeat (first | refine blk_drewN ?_ _ | refine blk_drew ?_ | refine blk_alloc ?_ _)); exact BKgb1.out) hb_); have n3_ := Aside0.mk (Kd.S_kept HS11.out hk_ (fun _ _ hs_ => hs_.elim)); have n4_ := Aside0.mk (Kd.R_kept HR19.out hk_ (fun _ _ hs_ => hs_.elim)); have n5_ := Aside0.mk (Kd.R_kept HR30.out hk_ (fun _ _ hs_ => hs_.elim)); have n6_ := Aside0.mk (blk_below (g := gb33) (o := .cells #[.slice Ao31 x23.length co32, .int .i64 x24] 34 (0, 0)) (by (with_reducible repeat (first | refine blk_drewN ?_ _ | refine blk_drew ?_ | refine blk_alloc ?_ _)); exact BKgb33.out) hb_); have n7_ := Aside0.mk (blk_below (g := gb42) (o := .cells #[.slice Ao40 l0_0.length co41] 24 (0, 0)) (by (with_reducible repeat (first | refine blk_drewN ?_ _ | refine blk_drew ?_ | refine blk_alloc ?_ _)); exact BKgb42.out) hb_); have n8_ := Aside0.mk (blk_below (g := gb59) (o := .cells #[.slice Ao57 x23.length co58, .int .i64 x24] 34 (0, 0)) (by (with_reducible repeat (first | refine blk_drewN ?_ _ | refine blk_drew ?_ | refine blk_alloc ?_ _)); exact BKgb59.out) hb_); have n9_ := Aside0.mk (Kd.S_kept HS68.out hk_ (fun _ _ hs_ => hs_.elim)); have n10_ := Aside0.mk (Kd.R_kept HR77.out hk_ (fun _ _ hs_ => hs_.elim)); have n11_ := Aside0.mk (Kd.F_kept FM86.out hk_ (fun _ _ hs_ => hs_.elim)); have n12_ := Aside0.mk (Kd.F_kept FM91.out hk_ (fun _ _ hs_ => hs_.elim)); have n13_ := Aside0.mk (Kd.F_kept FM97.out hk_ (fun _ _ hs_ => hs_.elim)); have n14_ := Aside0.mk (Kd.S_kept HS104.out hk_ (fun _ _ hs_ => hs_.elim)); have n15_ := Aside0.mk (Kd.R_kept HR111.out hk_ (fun _ _ hs_ => hs_.elim)); have n16_ := Aside0.mk (Kd.R_kept HR118.out hk_ (fun _ _ hs_ => hs_.elim)); have hS_ : hi117 ≤ gb121 := (by rw [hg_]; exact hs1_); have nb_ := Aside0.mk hbox_; have ns_ := Aside0.mk (box_in hbox_); have nc_ := Aside0.mk (And.intro hS_ CH.out); have ng_ := Aside0.mk hw_; have nB_ := Aside0.mk hB_; clear HB HS CH FA0_0 FA2 BKgb1 HS11 HR19 HR30 BKgb33 BKgb42 BKgb59 HS68 HR77 FM86 FM91 FM97 HS104 HR111 HR118; have FA0_0 := n0_; have FA2 := n1_; have BKgb1 := n2_; have HS11 := n3_; have HR19 := n4_; have HR30 := n5_; have BKgb33 := n6_; have BKgb42 := n7_; have BKgb59 := n8_; have HS68 := n9_; have HR77 := n10_; have FM86 := n11_; have FM91 := n12_; have FM97 := n13_; have HS104 := n14_; have HR111 := n15_; have HR118 := n16_; have HB := nB_; have HS := ns_; have CH := nc_; have BKgb121 := nb_; have GEgb121 := ng_; clear nB_ ns_ nc_ nb_ ng_ n0_ n1_ n2_ n3_ n4_ n5_ n6_ n7_ n8_ n9_ n10_ n11_ n12_ n13_ n14_ n15_ n16_; clear hk_ hs1_ hs2_ hw_ hw0_ hB_ hS_ hb_ hbox_ hg_; have hczgb1_0 : w122.cell? ⟨gb1, 0, none⟩ = some (.slice A0_0 l0_0.length c0_0) := (blk_cell BKgb1.out 0).trans rfl; have hfzgb1_0 := blk_frozen BKgb1.out 0; have hczgb33_0 : w122.cell? ⟨gb33, 0, none⟩ = some (.slice Ao31 x23.length co32) := (blk_cell BKgb33.out 0).trans rfl; have hczgb33_1 : w122.cell? ⟨gb33, 1, none⟩ = some (.int .i64 x24) := (blk_cell BKgb33.out 1).trans rfl; have hfzgb33_0 := blk_frozen BKgb33.out 0; have hfzgb33_1 := blk_frozen BKgb33.out 1; have hczgb42_0 : w122.cell? ⟨gb42, 0, none⟩ = some (.slice Ao40 l0_0.length co41) := (blk_cell BKgb42.out 0).trans rfl; have hfzgb42_0 := blk_frozen BKgb42.out 0; have hczgb59_0 : w122.cell? ⟨gb59, 0, none⟩ = some (.slice Ao57 x23.length co58) := (blk_cell BKgb59.out 0).trans rfl; have hczgb59_1 : w122.cell? ⟨gb59, 1, none⟩ = some (.int .i64 x24) := (blk_cell BKgb59.out 1).trans rfl; have hfzgb59_0 := blk_frozen BKgb59.out 0; have hfzgb59_1 := blk_frozen BKgb59.out 1; have hczgb121_0 : w122.cell? ⟨gb121, 0, none⟩ = some (.slice none 0 0) := (blk_cell BKgb121.out 0).trans rfl; have hczgb121_1 : w122.cell? ⟨gb121, 1, none⟩ = some (.int .i64 0) := (blk_cell BKgb121.out 1).trans rfl; have hfzgb121_0 := blk_frozen BKgb121.out 0; have hfzgb121_1 := blk_frozen BKgb121.out 1; have hnbgb1gb33 : gb1 ≠ gb33 := (by have := CH.out; omega); have hnbgb1gb42 : gb1 ≠ gb42 := (by have := CH.out; omega); have hnbgb1gb59 : gb1 ≠ gb59 := (by have := CH.out; omega); have hnbgb1gb121 : gb1 ≠ gb121 := (by have := CH.out; omega); have hnbgb33gb1 : gb33 ≠ gb1 := (by have := CH.out; omega); have hnbgb33gb42 : gb33 ≠ gb42 := (by have := CH.out; omega); have hnbgb33gb59 : gb33 ≠ gb59 := (by have := CH.out; omega); have hnbgb33gb121 : gb33 ≠ gb121 := (by have := CH.out; omega); have hnbgb42gb1 : gb42 ≠ gb1 := (by have := CH.out; omega); have hnbgb42gb33 : gb42 ≠ gb33 := (by have := CH.out; omega); have hnbgb42gb59 : gb42 ≠ gb59 := (by have := CH.out; omega); have hnbgb42gb121 : gb42 ≠ gb121 := (by have := CH.out; omega); have hnbgb59gb1 : gb59 ≠ gb1 := (by have := CH.out; omega); have hnbgb59gb33 : gb59 ≠ gb33 := (by have := CH.out; omega); have hnbgb59gb42 : gb59 ≠ gb42 := (by have := CH.out; omega); have hnbgb59gb121 : gb59 ≠ gb121 := (by have := CH.out; omega); have hnbgb121gb1 : gb121 ≠ gb1 := (by have := CH.out; omega); have hnbgb121gb33 : gb121 ≠ gb33 := (by have := CH.out; omega); have hnbgb121gb42 : gb121 ≠ gb42 := (by have := CH.out; omega); have hnbgb121gb59 : gb121 ≠ gb59 := (by have := CH.out; omega)) | ((with_reducible refine gate_callee (f := 19) rfl ?_); refine goesL_ (some 112) rfl rfl Try.func19 (by kernel_rfl) rfl #[.agg #[.slice Ao119 x23.length co120, .int .i64 x24], .agg #[.slice Ao31 x23.length co32, .int .i64 x24]] rfl (by (try simp only [List.map_toArray, List.map_cons, List.map_nil]); first | done | rfl | (simp only [List.length_drop, List.length_take]; rfl)) ?_; (with_reducible refine (laws_eqWalk.calls KE62 _ _ x23 x24 _ _ x23 x24 true _ ?sidehr0_0 ?sidehc0_0 ?sidehr1_0 ?sidehc1_0 E62.out).mono ?_); (case sidehr0_0 => exact R_now (S := (fun k_ => k_ = gb121)) HR118.out (by repeat (first | (with_reducible first | exact Kept.refl _ _ | apply Kept.alloc | apply Kept.drewN | apply Kept.drew) | refine Kept.setCell ?_ (Or.inl (show gb121 = gb121 from rfl)) _ | exact Kept.refl _ _)) (fun k_ h_ hs_ => by obtain ⟨h1_, h2_⟩ := h_; have g1_ : k_ = gb121 := hs_; have := CH.out; omega)); (case sidehc0_0 => exact HCHR118.out); (case sidehr1_0 => exact R_now (S := (fun k_ => k_ = gb121)) HR30.out (by repeat (first | (with_reducible first | exact Kept.refl _ _ | apply Kept.alloc | apply Kept.drewN | apply Kept.drew) | refine Kept.setCell ?_ (Or.inl (show gb121 = gb121 from rfl)) _ | exact Kept.refl _ _)) (fun k_ h_ hs_ => by obtain ⟨h1_, h2_⟩ := h_; have g1_ : k_ = gb121 := hs_; have := CH.out; omega)); (case sidehc1_0 => exact HCHR30.out); rintro e w123 ⟨rfl, hb_⟩; refine ⟨_, rfl, ?_⟩; (try clear hczgb1_0); (try clear hfzgb1_0); (try clear hczgb33_0); (try clear hfzgb33_0); (try clear hczgb33_1); (try clear hfzgb33_1); (try clear hczgb42_0); (try clear hfzgb42_0); (try clear hczgb59_0); (try clear hfzgb59_0); (try clear hczgb59_1); (try clear hfzgb59_1); (try clear hczgb121_0); (try clear hfzgb121_0); (try clear hczgb121_1); (try clear hfzgb121_1); obtain ⟨hk_, hs1_, hs2_, hw_⟩ := ev_kept (S := (fun k_ => k_ = gb121)) HS.out HB.out hb_ (by repeat (first | (with_reducible first | exact Kept.refl _ _ | apply Kept.alloc | apply Kept.drewN | apply Kept.drew) | refine Kept.setCell ?_ (Or.inl (show gb121 = gb121 from rfl)) _ | exact Kept.refl _ _)); have hB_ := below_step (by repeat (first | (with_reducible first | exact HB.out | apply below_alloc | apply pw_below_drewN | apply below_drew1 | refine below_set ?_ GEgb1.out | refine below_set ?_ GEgb33.out | refine below_set ?_ GEgb42.out | refine below_set ?_ GEgb59.out | refine below_set ?_ GEgb121.out) | exact HB.out)) hb_; have n0_ := Aside0.mk (Kd.F_kept FA0_0.out hk_ (fun k_ h_ hs_ => by have h1_ : k_ < s0 := h_; have g1_ : k_ = gb121 := hs_; have := CH.out; omega)); have n1_ := Aside0.mk (Kd.F_kept FA2.out hk_ (fun k_ h_ hs_ => by have h1_ : k_ < s0 := h_; have g1_ : k_ = gb121 := hs_; have := CH.out; omega)); have n2_ := Aside0.mk (blk_below (g := gb1) (o := .cells #[.slice A0_0 l0_0.length c0_0] 30 (0, 0)) (by (with_reducible repeat (first | refine blk_drewN ?_ _ | refine blk_drew ?_ | refine blk_alloc ?_ _)); refine blk_far ?_ (by have := CH.out; omega) _; (with_reducible repeat (first | refine blk_drewN ?_ _ | refine blk_drew ?_ | refine blk_alloc ?_ _)); refine blk_far ?_ (by have := CH.out; omega) _; (with_reducible repeat (first | refine blk_drewN ?_ _ | refine blk_drew ?_ | refine blk_alloc ?_ _)); exact BKgb1.out) hb_); have n3_ := Aside0.mk (Kd.S_kept HS11.out hk_ (fun k_ h_ hs_ => by obtain ⟨h1_, h2_⟩ := h_; have g1_ : k_ = gb121 := hs_; have := CH.out; omega)); have n4_ := Aside0.mk (Kd.R_kept HR19.out hk_ (fun k_ h_ hs_ => by obtain ⟨h1_, h2_⟩ := h_; have g1_ : k_ = gb121 := hs_; have := CH.out; omega)); have n5_ := Aside0.mk (Kd.R_kept HR30.out hk_ (fun k_ h_ hs_ => by obtain ⟨h1_, h2_⟩ := h_; have g1_ : k_ = gb121 := hs_; have := CH.out; omega)); have n6_ := Aside0.mk (blk_below (g := gb33) (o := .cells #[.slice Ao31 x23.length co32, .int .i64 x24] 34 (0, 0)) (by (with_reducible repeat (first | refine blk_drewN ?_ _ | refine blk_drew ?_ | refine blk_alloc ?_ _)); refine blk_far ?_ (by have := CH.out; omega) _; (with_reducible repeat (first | refine blk_drewN ?_ _ | refine blk_drew ?_ | refine blk_alloc ?_ _)); refine blk_far ?_ (by have := CH.out; omega) _; (with_reducible repeat (first | refine blk_drewN ?_ _ | refine blk_drew ?_ | refine blk_alloc ?_ _)); exact BKgb33.out) hb_); have n7_ := Aside0.mk (blk_below (g := gb42) (o := .cells #[.slice Ao40 l0_0.length co41] 24 (0, 0)) (by (with_reducible repeat (first | refine blk_drewN ?_ _ | refine blk_drew ?_ | refine blk_alloc ?_ _)); refine blk_far ?_ (by have := CH.out; omega) _; (with_reducible repeat (first | refine blk_drewN ?_ _ | refine blk_drew ?_ | refine blk_alloc ?_ _)); refine blk_far ?_ (by have := CH.out; omega) _; (with_reducible repeat (first | refine blk_drewN ?_ _ | refine blk_drew ?_ | refine blk_alloc ?_ _)); exact BKgb42.out) hb_); have n8_ := Aside0.mk (blk_below (g := gb59) (o := .cells #[.slice Ao57 x23.length co58, .int .i64 x24] 34 (0, 0)) (by (with_reducible repeat (first | refine blk_drewN ?_ _ | refine blk_drew ?_ | refine blk_alloc ?_ _)); refine blk_far ?_ (by have := CH.out; omega) _; (with_reducible repeat (first | refine blk_drewN ?_ _ | refine blk_drew ?_ | refine blk_alloc ?_ _)); refine blk_far ?_ (by have := CH.out; omega) _; (with_reducible repeat (first | refine blk_drewN ?_ _ | refine blk_drew ?_ | refine blk_alloc ?_ _)); exact BKgb59.out) hb_); have n9_ := Aside0.mk (Kd.S_kept HS68.out hk_ (fun k_ h_ hs_ => by obtain ⟨h1_, h2_⟩ := h_; have g1_ : k_ = gb121 := hs_; have := CH.out; omega)); have n10_ := Aside0.mk (Kd.R_kept HR77.out hk_ (fun k_ h_ hs_ => by obtain ⟨h1_, h2_⟩ := h_; have g1_ : k_ = gb121 := hs_; have := CH.out; omega)); have n11_ := Aside0.mk (Kd.F_kept FM86.out hk_ (fun k_ h_ hs_ => by obtain ⟨h1_, h2_⟩ := h_; have g1_ : k_ = gb121 := hs_; have := CH.out; omega)); have n12_ := Aside0.mk (Kd.F_kept FM91.out hk_ (fun k_ h_ hs_ => by obtain ⟨h1_, h2_⟩ := h_; have g1_ : k_ = gb121 := hs_; have := CH.out; omega)); have n13_ := Aside0.mk (Kd.F_kept FM97.out hk_ (fun k_ h_ hs_ => by obtain ⟨h1_, h2_⟩ := h_; have g1_ : k_ = gb121 := hs_; have := CH.out; omega)); have n14_ := Aside0.mk (Kd.S_kept HS104.out hk_ (fun k_ h_ hs_ => by obtain ⟨h1_, h2_⟩ := h_; have g1_ : k_ = gb121 := hs_; have := CH.out; omega)); have n15_ := Aside0.mk (Kd.R_kept HR111.out hk_ (fun k_ h_ hs_ => by obtain ⟨h1_, h2_⟩ := h_; have g1_ : k_ = gb121 := hs_; have := CH.out; omega)); have n16_ := Aside0.mk (Kd.R_kept HR118.out hk_ (fun k_ h_ hs_ => by obtain ⟨h1_, h2_⟩ := h_; have g1_ : k_ = gb121 := hs_; have := CH.out; omega)); have n17_ := Aside0.mk (blk_below (g := gb121) (o := .cells #[.slice Ao119 x23.length co120, .int .i64 x24] 34 (0, 0)) (by (with_reducible repeat (first | refine blk_drewN ?_ _ | refine blk_drew ?_ | refine blk_alloc ?_ _)); refine blk_put (cs := #[.slice Ao119 x23.length co120, .int .i64 0]) ?_ 1 _ rfl; (with_reducible repeat (first | refine blk_drewN ?_ _ | refine blk_drew ?_ | refine blk_alloc ?_ _)); refine blk_put (cs := #[.slice none 0 0, .int .i64 0]) ?_ 0 _ rfl; (with_reducible repeat (first | refine blk_drewN ?_ _ | refine blk_drew ?_ | refine blk_alloc ?_ _)); exact BKgb121.out) hb_); have ns_ := Aside0.mk (Nat.le_trans (Nat.le_trans hs1_ hs2_) (Nat.le_refl _)); have nB_ := Aside0.mk hB_; clear HB HS FA0_0 FA2 BKgb1 HS11 HR19 HR30 BKgb33 BKgb42 BKgb59 HS68 HR77 FM86 FM91 FM97 HS104 HR111 HR118 BKgb121; have FA0_0 := n0_; have FA2 := n1_; have BKgb1 := n2_; have HS11 := n3_; have HR19 := n4_; have HR30 := n5_; have BKgb33 := n6_; have BKgb42 := n7_; have BKgb59 := n8_; have HS68 := n9_; have HR77 := n10_; have FM86 := n11_; have FM91 := n12_; have FM97 := n13_; have HS104 := n14_; have HR111 := n15_; have HR118 := n16_; have BKgb121 := n17_; have HB := nB_; have HS := ns_; clear nB_ ns_ n0_ n1_ n2_ n3_ n4_ n5_ n6_ n7_ n8_ n9_ n10_ n11_ n12_ n13_ n14_ n15_ n16_ n17_; clear hk_ hs1_ hs2_ hw_ hB_ hb_; have hczgb1_0 : w123.cell? ⟨gb1, 0, none⟩ = some (.slice A0_0 l0_0.length c0_0) := (blk_cell BKgb1.out 0).trans rfl; have hfzgb1_0 := blk_frozen BKgb1.out 0; have hczgb33_0 : w123.cell? ⟨gb33, 0, none⟩ = some (.slice Ao31 x23.length co32) := (blk_cell BKgb33.out 0).trans rfl; have hczgb33_1 : w123.cell? ⟨gb33, 1, none⟩ = some (.int .i64 x24) := (blk_cell BKgb33.out 1).trans rfl; have hfzgb33_0 := blk_frozen BKgb33.out 0; have hfzgb33_1 := blk_frozen BKgb33.out 1; have hczgb42_0 : w123.cell? ⟨gb42, 0, none⟩ = some (.slice Ao40 l0_0.length co41) := (blk_cell BKgb42.out 0).trans rfl; have hfzgb42_0 := blk_frozen BKgb42.out 0; have hczgb59_0 : w123.cell? ⟨gb59, 0, none⟩ = some (.slice Ao57 x23.length co58) := (blk_cell BKgb59.out 0).trans rfl; have hczgb59_1 : w123.cell? ⟨gb59, 1, none⟩ = some (.int .i64 x24) := (blk_cell BKgb59.out 1).trans rfl; have hfzgb59_0 := blk_frozen BKgb59.out 0; have hfzgb59_1 := blk_frozen BKgb59.out 1; have hczgb121_0 : w123.cell? ⟨gb121, 0, none⟩ = some (.slice Ao119 x23.length co120) := (blk_cell BKgb121.out 0).trans rfl; have hczgb121_1 : w123.cell? ⟨gb121, 1, none⟩ = some (.int .i64 x24) := (blk_cell BKgb121.out 1).trans rfl; have hfzgb121_0 := blk_frozen BKgb121.out 0; have hfzgb121_1 := blk_frozen BKgb121.out 1; have hnbgb1gb33 : gb1 ≠ gb33 := (by have := CH.out; omega); have hnbgb1gb42 : gb1 ≠ gb42 := (by have := CH.out; omega); have hnbgb1gb59 : gb1 ≠ gb59 := (by have := CH.out; omega); have hnbgb1gb121 : gb1 ≠ gb121 := (by have := CH.out; omega); have hnbgb33gb1 : gb33 ≠ gb1 := (by have := CH.out; omega); have hnbgb33gb42 : gb33 ≠ gb42 := (by have := CH.out; omega); have hnbgb33gb59 : gb33 ≠ gb59 := (by have := CH.out; omega); have hnbgb33gb121 : gb33 ≠ gb121 := (by have := CH.out; omega); have hnbgb42gb1 : gb42 ≠ gb1 := (by have := CH.out; omega); have hnbgb42gb33 : gb42 ≠ gb33 := (by have := CH.out; omega); have hnbgb42gb59 : gb42 ≠ gb59 := (by have := CH.out; omega); have hnbgb42gb121 : gb42 ≠ gb121 := (by have := CH.out; omega); have hnbgb59gb1 : gb59 ≠ gb1 := (by have := CH.out; omega); have hnbgb59gb33 : gb59 ≠ gb33 := (by have := CH.out; omega); have hnbgb59gb42 : gb59 ≠ gb42 := (by have := CH.out; omega); have hnbgb59gb121 : gb59 ≠ gb121 := (by have := CH.out; omega); have hnbgb121gb1 : gb121 ≠ gb1 := (by have := CH.out; omega); have hnbgb121gb33 : gb121 ≠ gb33 := (by have := CH.out; omega); have hnbgb121gb42 : gb121 ≠ gb42 := (by have := CH.out; omega); have hnbgb121gb59 : gb121 ≠ gb59 := (by have := CH.out; omega)) | ((with_reducible refine gate_callee (f := 23) rfl ?_); refine goesL_ (some 121) rfl rfl Try.func23 (by kernel_rfl) rfl #[.agg #[.slice Ao57 x23.length co58, .int .i64 x24], .int .i64 1] rfl (by (try simp only [List.map_toArray, List.map_cons, List.map_nil]); first | done | rfl | (simp only [List.length_drop, List.length_take]; rfl)) ?_; refine calls_len (args' := #[.agg #[.slice Ao57 x95.length co58, .int .i64 x24], .int .i64 1]) (by simp only [HLFM97.out]) ?_; (with_reducible refine (laws_heldWalk.calls KE99 _ _ x95 x24 1 x94 _ ?sidehr0_0 ?sidehc0_0 E99.out).mono ?_); (case sidehr0_0 => exact F_at (S := (fun _ => False)) FM97.out (by repeat (first | (with_reducible first | exact Kept.refl _ _ | apply Kept.alloc | apply Kept.drewN | apply Kept.drew) | exact Kept.refl _ _)) (fun _ _ hs_ => hs_.elim)); (case sidehc0_0 => exact HCHR56_.out); rintro e w124 ⟨rfl, hb_⟩; refine ⟨_, rfl, ?_⟩; (try clear hczgb1_0); (try clear hfzgb1_0); (try clear hczgb33_0); (try clear hfzgb33_0); (try clear hczgb33_1); (try clear hfzgb33_1); (try clear hczgb42_0); (try clear hfzgb42_0); (try clear hczgb59_0); (try clear hfzgb59_0); (try clear hczgb59_1); (try clear hfzgb59_1); (try clear hczgb121_0); (try clear hfzgb121_0); (try clear hczgb121_1); (try clear hfzgb121_1); obtain ⟨hk_, hs1_, hs2_, hw_⟩ := ev_kept (S := (fun _ => False)) HS.out HB.out hb_ (by repeat (first | (with_reducible first | exact Kept.refl _ _ | apply Kept.alloc | apply Kept.drewN | apply Kept.drew) | exact Kept.refl _ _)); have hB_ := below_step (by repeat (first | (with_reducible first | exact HB.out | apply below_alloc | apply pw_below_drewN | apply below_drew1 | refine below_set ?_ GEgb1.out | refine below_set ?_ GEgb33.out | refine below_set ?_ GEgb42.out | refine below_set ?_ GEgb59.out | refine below_set ?_ GEgb121.out) | exact HB.out)) hb_; have n0_ := Aside0.mk (Kd.F_kept FA0_0.out hk_ (fun _ _ hs_ => hs_.elim)); have n1_ := Aside0.mk (Kd.F_kept FA2.out hk_ (fun _ _ hs_ => hs_.elim)); have n2_ := Aside0.mk (blk_below (g := gb1) (o := .cells #[.slice A0_0 l0_0.length c0_0] 30 (0, 0)) (by (with_reducible repeat (first | refine blk_drewN ?_ _ | refine blk_drew ?_ | refine blk_alloc ?_ _)); exact BKgb1.out) hb_); have n3_ := Aside0.mk (Kd.S_kept HS11.out hk_ (fun _ _ hs_ => hs_.elim)); have n4_ := Aside0.mk (Kd.R_kept HR19.out hk_ (fun _ _ hs_ => hs_.elim)); have n5_ := Aside0.mk (Kd.R_kept HR30.out hk_ (fun _ _ hs_ => hs_.elim)); have n6_ := Aside0.mk (blk_below (g := gb33) (o := .cells #[.slice Ao31 x23.length co32, .int .i64 x24] 34 (0, 0)) (by (with_reducible repeat (first | refine blk_drewN ?_ _ | refine blk_drew ?_ | refine blk_alloc ?_ _)); exact BKgb33.out) hb_); have n7_ := Aside0.mk (blk_below (g := gb42) (o := .cells #[.slice Ao40 l0_0.length co41] 24 (0, 0)) (by (with_reducible repeat (first | refine blk_drewN ?_ _ | refine blk_drew ?_ | refine blk_alloc ?_ _)); exact BKgb42.out) hb_); have n8_ := Aside0.mk (blk_below (g := gb59) (o := .cells #[.slice Ao57 x23.length co58, .int .i64 x24] 34 (0, 0)) (by (with_reducible repeat (first | refine blk_drewN ?_ _ | refine blk_drew ?_ | refine blk_alloc ?_ _)); exact BKgb59.out) hb_); have n9_ := Aside0.mk (Kd.S_kept HS68.out hk_ (fun _ _ hs_ => hs_.elim)); have n10_ := Aside0.mk (Kd.R_kept HR77.out hk_ (fun _ _ hs_ => hs_.elim)); have n11_ := Aside0.mk (Kd.F_kept FM86.out hk_ (fun _ _ hs_ => hs_.elim)); have n12_ := Aside0.mk (Kd.F_kept FM91.out hk_ (fun _ _ hs_ => hs_.elim)); have n13_ := Aside0.mk (Kd.F_kept FM97.out hk_ (fun _ _ hs_ => hs_.elim)); have n14_ := Aside0.mk (Kd.S_kept HS104.out hk_ (fun _ _ hs_ => hs_.elim)); have n15_ := Aside0.mk (Kd.R_kept HR111.out hk_ (fun _ _ hs_ => hs_.elim)); have n16_ := Aside0.mk (Kd.R_kept HR118.out hk_ (fun _ _ hs_ => hs_.elim)); have n17_ := Aside0.mk (blk_below (g := gb121) (o := .cells #[.slice Ao119 x23.length co120, .int .i64 x24] 34 (0, 0)) (by (with_reducible repeat (first | refine blk_drewN ?_ _ | refine blk_drew ?_ | refine blk_alloc ?_ _)); exact BKgb121.out) hb_); have ns_ := Aside0.mk (Nat.le_trans (Nat.le_trans hs1_ hs2_) (Nat.le_refl _)); have nB_ := Aside0.mk hB_; clear HB HS FA0_0 FA2 BKgb1 HS11 HR19 HR30 BKgb33 BKgb42 BKgb59 HS68 HR77 FM86 FM91 FM97 HS104 HR111 HR118 BKgb121; have FA0_0 := n0_; have FA2 := n1_; have BKgb1 := n2_; have HS11 := n3_; have HR19 := n4_; have HR30 := n5_; have BKgb33 := n6_; have BKgb42 := n7_; have BKgb59 := n8_; have HS68 := n9_; have HR77 := n10_; have FM86 := n11_; have FM91 := n12_; have FM97 := n13_; have HS104 := n14_; have HR111 := n15_; have HR118 := n16_; have BKgb121 := n17_; have HB := nB_; have HS := ns_; clear nB_ ns_ n0_ n1_ n2_ n3_ n4_ n5_ n6_ n7_ n8_ n9_ n10_ n11_ n12_ n13_ n14_ n15_ n16_ n17_; clear hk_ hs1_ hs2_ hw_ hB_ hb_; have hczgb1_0 : w124.cell? ⟨gb1, 0, none⟩ = some (.slice A0_0 l0_0.length c0_0) := (blk_cell BKgb1.out 0).trans rfl; have hfzgb1_0 := blk_frozen BKgb1.out 0; have hczgb33_0 : w124.cell? ⟨gb33, 0, none⟩ = some (.slice Ao31 x23.length co32) := (blk_cell BKgb33.out 0).trans rfl; have hczgb33_1 : w124.cell? ⟨gb33, 1, none⟩ = some (.int .i64 x24) := (blk_cell BKgb33.out 1).trans rfl; have hfzgb33_0 := blk_frozen BKgb33.out 0; have hfzgb33_1 := blk_frozen BKgb33.out 1; have hczgb42_0 : w124.cell? ⟨gb42, 0, none⟩ = some (.slice Ao40 l0_0.length co41) := (blk_cell BKgb42.out 0).trans rfl; have hfzgb42_0 := blk_frozen BKgb42.out 0; have hczgb59_0 : w124.cell? ⟨gb59, 0, none⟩ = some (.slice Ao57 x23.length co58) := (blk_cell BKgb59.out 0).trans rfl; have hczgb59_1 : w124.cell? ⟨gb59, 1, none⟩ = some (.int .i64 x24) := (blk_cell BKgb59.out 1).trans rfl; have hfzgb59_0 := blk_frozen BKgb59.out 0; have hfzgb59_1 := blk_frozen BKgb59.out 1; have hczgb121_0 : w124.cell? ⟨gb121, 0, none⟩ = some (.slice Ao119 x23.length co120) := (blk_cell BKgb121.out 0).trans rfl; have hczgb121_1 : w124.cell? ⟨gb121, 1, none⟩ = some (.int .i64 x24) := (blk_cell BKgb121.out 1).trans rfl; have hfzgb121_0 := blk_frozen BKgb121.out 0; have hfzgb121_1 := blk_frozen BKgb121.out 1; have hnbgb1gb33 : gb1 ≠ gb33 := (by have := CH.out; omega); have hnbgb1gb42 : gb1 ≠ gb42 := (by have := CH.out; omega); have hnbgb1gb59 : gb1 ≠ gb59 := (by have := CH.out; omega); have hnbgb1gb121 : gb1 ≠ gb121 := (by have := CH.out; omega); have hnbgb33gb1 : gb33 ≠ gb1 := (by have := CH.out; omega); have hnbgb33gb42 : gb33 ≠ gb42 := (by have := CH.out; omega); have hnbgb33gb59 : gb33 ≠ gb59 := (by have := CH.out; omega); have hnbgb33gb121 : gb33 ≠ gb121 := (by have := CH.out; omega); have hnbgb42gb1 : gb42 ≠ gb1 := (by have := CH.out; omega); have hnbgb42gb33 : gb42 ≠ gb33 := (by have := CH.out; omega); have hnbgb42gb59 : gb42 ≠ gb59 := (by have := CH.out; omega); have hnbgb42gb121 : gb42 ≠ gb121 := (by have := CH.out; omega); have hnbgb59gb1 : gb59 ≠ gb1 := (by have := CH.out; omega); have hnbgb59gb33 : gb59 ≠ gb33 := (by have := CH.out; omega); have hnbgb59gb42 : gb59 ≠ gb42 := (by have := CH.out; omega); have hnbgb59gb121 : gb59 ≠ gb121 := (by have := CH.out; omega); have hnbgb121gb1 : gb121 ≠ gb1 := (by have := CH.out; omega); have hnbgb121gb33 : gb121 ≠ gb33 := (by have := CH.out; omega); have hnbgb121gb42 : gb121 ≠ gb42 := (by have := CH.out; omega); have hnbgb121gb59 : gb121 ≠ gb59 := (by have := CH.out; omega)))
  go_ret
  exact ⟨by first | rfl | (simp; done), by repeat (first | (with_reducible first | exact HB.out | apply below_alloc | apply pw_below_drewN | apply below_drew1 | refine below_set ?_ GEgb1.out | refine below_set ?_ GEgb33.out | refine below_set ?_ GEgb42.out | refine below_set ?_ GEgb59.out | refine below_set ?_ GEgb121.out) | exact HB.out)⟩

end Go.Proofs.Ytcmfcleeohcgaaa.P
namespace Go.Proofs.Ytcmfcleeohcgaaa.M
open Go.RowKit Go.Proofs.Ytcmfcleeohcgaaa.P Go.Proofs.Ytcmfcleeohcgaaa.In Go.Proofs.YtcmfcleeohcgaaaW.PrintWords Go.Proofs.YtcmfcleeohcgaaaW.PrintLast
set_option linter.unusedVariables false
set_option linter.unusedSimpArgs false
/-! numbers -/
theorem wrap_id {x : Int} (h : -9223372036854775808 ≤ x ∧ x ≤ 9223372036854775807) : wrap64 x = x := by unfold wrap64; omega
theorem wrap_nat {n : Nat} (h : n < 9223372036854775807) : wrap64 ((n : Int) + 1) = ((n + 1 : Nat) : Int) := by unfold wrap64; omega
theorem rd_at {l : List Int} {n : Nat} (h : n < l.length) : rd l (n : Int) = l[n] := by simp [rd, h]
theorem rdL_at {l : List (List Int)} {n : Nat} (h : n < l.length) : rd_L1 l (n : Int) = l[n] := by simp [rd_L1, h]
theorem _root_.Go.Proofs.YtcmfcleeohcgaaaW.PrintWords.Ev.val {α : Type} {g : Nat → Option α} {r r' : α} (h : Ev g r) (e : r = r') : Ev g r' := e ▸ h
theorem _root_.Go.Proofs.YtcmfcleeohcgaaaW.PrintWords.Ev.const {α : Type} {g : Nat → Option α} {r : α} (h : ∀ k, g k = some r) : Ev g r := ⟨0, fun k _ => h k⟩
theorem _root_.Go.Proofs.YtcmfcleeohcgaaaW.PrintWords.Ev.const1 {α : Type} {g : Nat → Option α} {r : α} (h : ∀ k, g (k + 1) = some r) : Ev g r := Ev.step (f := fun _ => some r) h (Ev.const fun _ => rfl)
theorem _root_.Go.Proofs.YtcmfcleeohcgaaaW.PrintWords.Ev.succ {α : Type} {g : Nat → Option α} {r : α} (h : Ev (fun k => g (k + 1)) r) : Ev g r := Ev.step (f := fun k => g (k + 1)) (fun _ => rfl) h
theorem _root_.Go.Proofs.YtcmfcleeohcgaaaW.PrintWords.Ev.uniq {α : Type} {g : Nat → Option α} {r r' : α} (h : Ev g r) (h' : Ev g r') : r = r' := by
  obtain ⟨K, hK⟩ := h
  obtain ⟨K', hK'⟩ := h'
  have := (hK (max K K') (Nat.le_max_left _ _)).symm.trans (hK' (max K K') (Nat.le_max_right _ _))
  exact Option.some.inj this
theorem _root_.Go.Proofs.YtcmfcleeohcgaaaW.PrintWords.Ev.bind0 {α β : Type} {g : Option α} {f : Nat → α → Option β} {a : α} {r : β} (h : g = some a) (k : Ev (fun n => f n a) r) : Ev (fun n => g.bind (f n)) r := by
  subst h; exact k
theorem _root_.Go.Proofs.YtcmfcleeohcgaaaW.PrintWords.Ev.pos {α : Type} {g f : Nat → Option α} {r : α} {c : Prop} [Decidable c] (h : c) (k : Ev g r) : Ev (fun n => if c then g n else f n) r := by
  simp only [if_pos h]; exact k
theorem _root_.Go.Proofs.YtcmfcleeohcgaaaW.PrintWords.Ev.neg {α : Type} {g f : Nat → Option α} {r : α} {c : Prop} [Decidable c] (h : ¬ c) (k : Ev f r) : Ev (fun n => if c then g n else f n) r := by
  simp only [if_neg h]; exact k

/-! copies -/
theorem toIntS_l0 (l : List Int) (hl : l.length < 9223372036854775807) : ∀ (d i : Nat) (y : List Int), l.length - i = d → i ≤ l.length → y.length = l.length → y.take i = l.take i → Ev (fun k => laws_toIntS.l0 k l y i) l := by
  intro d
  induction d with
  | zero =>
    intro i y hd hi hy ht
    have : i = l.length := by omega
    subst this
    refine Ev.const1 (fun k => ?_)
    simp only [laws_toIntS.l0]
    rw [if_neg (by omega)]
    rw [List.take_of_length_le (by omega), List.take_of_length_le (by omega)] at ht
    rw [ht]
  | succ d ih =>
    intro i y hd hi hy ht
    have hlt : i < l.length := by omega
    refine Ev.step (f := fun k => laws_toIntS.l0 k l (y.set i l[i]) (i + 1 : Nat)) (fun k => ?_) (ih (i + 1) (y.set i l[i]) (by omega) (by omega) (by rw [List.length_set]; exact hy) ?_)
    · simp only [laws_toIntS.l0]
      rw [if_pos (by omega), if_pos (by omega), if_pos (by omega), wrap_nat (by omega), rd_at hlt, Int.toNat_natCast]
    · rw [List.take_succ_eq_append_getElem (by rw [List.length_set]; omega), List.take_succ_eq_append_getElem hlt, List.take_set_of_le (Nat.le_refl _), ht, List.getElem_set_self]
theorem toIntS (l : List Int) (hl : l.length ≤ 35184372088832) : Ev (fun k => laws_toIntS.f k l) l := by
  unfold laws_toIntS.f
  refine Ev.pos (by omega) (Ev.pos (by omega) ?_)
  exact toIntS_l0 l (by omega) l.length 0 _ (by omega) (by omega) (by simp) (by simp)
theorem toIntSS_l0 (l : List (List Int)) (hl : l.length < 9223372036854775807) (hr : ∀ row ∈ l, row.length ≤ 35184372088832) : ∀ (d i : Nat) (y : List (List Int)), l.length - i = d → i ≤ l.length → y.length = l.length → y.take i = l.take i → Ev (fun k => laws_toIntSS.l0 k l y i) l := by
  intro d
  induction d with
  | zero =>
    intro i y hd hi hy ht
    have : i = l.length := by omega
    subst this
    refine Ev.const1 (fun k => ?_)
    simp only [laws_toIntSS.l0]
    rw [if_neg (by omega)]
    rw [List.take_of_length_le (by omega), List.take_of_length_le (by omega)] at ht
    rw [ht]
  | succ d ih =>
    intro i y hd hi hy ht
    have hlt : i < l.length := by omega
    refine Ev.step (f := fun k => (laws_toIntS.f k l[i]).bind fun t => laws_toIntSS.l0 k l (y.set i t) (i + 1 : Nat)) (fun k => ?_) (Ev.bind (toIntS l[i] (hr _ (List.getElem_mem hlt))) (ih (i + 1) (y.set i l[i]) (by omega) (by omega) (by rw [List.length_set]; exact hy) ?_))
    · simp only [laws_toIntSS.l0]
      rw [if_pos (by omega), if_pos (by omega), wrap_nat (by omega), rdL_at hlt, Int.toNat_natCast]
      congr 1
      funext t
      rw [if_pos (by omega)]
    · rw [List.take_succ_eq_append_getElem (by rw [List.length_set]; omega), List.take_succ_eq_append_getElem hlt, List.take_set_of_le (Nat.le_refl _), ht, List.getElem_set_self]
theorem toIntSS (l : List (List Int)) (hl : l.length ≤ 11728124029610) (hr : ∀ row ∈ l, row.length ≤ 35184372088832) : Ev (fun k => laws_toIntSS.f k l) l := by
  unfold laws_toIntSS.f
  refine Ev.pos (by omega) (Ev.pos (by omega) ?_)
  exact toIntSS_l0 l (by omega) hr l.length 0 _ (by omega) (by omega) (by simp) (by simp)
/-- A graph that is small enough for a law to look at it. -/
def small (l : List (List Int)) : Prop := l.length ≤ 1048576 ∧ ∀ row ∈ l, row.length ≤ 1048576
theorem toGraph (l : List (List Int)) (h : small l) : Ev (fun k => laws_toGraph.f k l) l := by
  unfold laws_toGraph.f
  exact Ev.bind (toIntSS l (by have := h.1; omega) (fun row hr => by have := h.2 row hr; omega)) (Ev.now _)

/-! sizes -/
theorem szIntSS_l0 (l : List (List Int)) (hl : okSS l) : ∀ (d i : Nat) (a : Int), l.length - i = d → i ≤ l.length → 0 ≤ a → a ≤ 1048576 → ∃ r, Ev (fun k => laws_szIntSS.l0 k l a i) r ∧ r ≤ 1048576 ∧ (0 ≤ r → ∀ j (hj : j < l.length), i ≤ j → l[j].length ≤ 1048576) := by
  intro d
  induction d with
  | zero =>
    intro i a hd hi h0 h1
    refine ⟨a, Ev.const1 (fun k => ?_), h1, fun _ j hj hij => by omega⟩
    simp only [laws_szIntSS.l0]
    rw [if_neg (by omega)]
  | succ d ih =>
    intro i a hd hi h0 h1
    have hlt : i < l.length := by omega
    have hll := hl.1
    have hrow := (hl.2 _ (List.getElem_mem hlt)).1
    by_cases hneg : a - (l[i].length : Int) < 0
    · refine ⟨-1, Ev.const1 (fun k => ?_), by omega, fun h => by omega⟩
      simp only [laws_szIntSS.l0, laws_szIntS.f]
      rw [if_pos (by omega), if_pos (by omega), rdL_at hlt, if_pos (by rw [wrap_id (by omega)]; exact hneg)]
      rfl
    · obtain ⟨r, h2, h3, h4⟩ := ih (i + 1) (a - (l[i].length : Int)) (by omega) (by omega) (by omega) (by omega)
      refine ⟨r, Ev.step (fun k => ?_) h2, h3, fun h j hj hij => ?_⟩
      · simp only [laws_szIntSS.l0, laws_szIntS.f]
        rw [if_pos (by omega), if_pos (by omega), rdL_at hlt, wrap_id (by omega), if_neg hneg, wrap_nat (by omega)]
        simp only [Option.bind_some]
        rw [if_neg hneg]
      · by_cases e : j = i
        · subst e; omega
        · exact h4 h j hj (by omega)
theorem szGraph (l : List (List Int)) (hl : okSS l) : ∃ r, Ev (fun k => laws_szGraph.f k l 1048576) r ∧ r ≤ 1048576 ∧ (0 ≤ r → small l) := by
  have hll := hl.1
  unfold laws_szGraph.f laws_szIntSS.f
  rw [wrap_id (by omega)]
  by_cases h : (1048576 : Int) - (l.length : Int) < 0
  · exact ⟨-1, Ev.bind (Ev.pos h (Ev.now _)) (Ev.pos (by omega) (Ev.now _)), by omega, fun h => by omega⟩
  · obtain ⟨r, h2, h3, h4⟩ := szIntSS_l0 l hl l.length 0 (1048576 - (l.length : Int)) (by omega) (by omega) (by omega) (by omega)
    by_cases hr : r < 0
    · exact ⟨-1, Ev.bind (Ev.neg h h2) (Ev.pos hr (Ev.now _)), by omega, fun h => by omega⟩
    · refine ⟨r, Ev.bind (Ev.neg h h2) (Ev.neg hr (Ev.now _)), h3, fun h0 => ⟨by omega, fun row hrow => ?_⟩⟩
      obtain ⟨j, hj, rfl⟩ := List.getElem_of_mem hrow
      exact h4 h0 j hj (Nat.zero_le _)

/-! comparisons -/
theorem cons_dec {α : Type} [DecidableEq α] {a b : α} {l m : List α} (e : a = b) : decide (l = m) = decide (a :: l = b :: m) := by
  subst e; exact decide_eq_decide.mpr ⟨fun h => by rw [h], fun h => (List.cons.inj h).2⟩
theorem eqIntS_l0 (x y : List Int) (hl : x.length ≤ 9223372036854775807) (hxy : x.length = y.length) : ∀ (d i : Nat), x.length - i = d → i ≤ x.length → Ev (fun k => laws_eqIntS.l0 k x y i) (decide (x.drop i = y.drop i)) := by
  intro d
  induction d with
  | zero =>
    intro i hd hi
    refine Ev.const1 (fun k => ?_)
    simp only [laws_eqIntS.l0]
    rw [if_neg (by omega), List.drop_of_length_le (by omega), List.drop_of_length_le (by omega)]
    simp
  | succ d ih =>
    intro i hd hi
    have hlt : i < x.length := by omega
    have hlt2 : i < y.length := by omega
    rw [List.drop_eq_getElem_cons hlt, List.drop_eq_getElem_cons hlt2]
    by_cases e : x[i] = y[i]
    · refine Ev.step (f := fun k => laws_eqIntS.l0 k x y (i + 1 : Nat)) (fun k => ?_) ((ih (i + 1) (by omega) (by omega)).val (cons_dec e))
      simp only [laws_eqIntS.l0]
      rw [if_pos (by omega), if_pos (by omega), if_pos (by omega), rd_at hlt, rd_at hlt2, if_pos e, wrap_nat (by omega)]
    · refine Ev.const1 (fun k => ?_)
      simp only [laws_eqIntS.l0]
      rw [if_pos (by omega), if_pos (by omega), if_pos (by omega), rd_at hlt, rd_at hlt2, if_neg e, decide_eq_false (fun h => e (List.cons.inj h).1)]
theorem eqIntS (x y : List Int) (hl : x.length ≤ 9223372036854775807) : Ev (fun k => laws_eqIntS.f k x y) (decide (x = y)) := by
  unfold laws_eqIntS.f
  by_cases h : x.length = y.length
  · refine Ev.pos (by omega) ?_
    exact eqIntS_l0 x y hl h x.length 0 (by omega) (by omega)
  · refine Ev.neg (by omega) ?_
    exact (Ev.now _).val (by have : x ≠ y := fun e => h (by rw [e]); simp [this])
theorem eqIntSS_l0 (x y : List (List Int)) (hl : x.length ≤ 9223372036854775807) (hr : ∀ row ∈ x, row.length ≤ 9223372036854775807) (hxy : x.length = y.length) : ∀ (d i : Nat), x.length - i = d → i ≤ x.length → Ev (fun k => laws_eqIntSS.l0 k x y i) (decide (x.drop i = y.drop i)) := by
  intro d
  induction d with
  | zero =>
    intro i hd hi
    refine Ev.const1 (fun k => ?_)
    simp only [laws_eqIntSS.l0]
    rw [if_neg (by omega), List.drop_of_length_le (by omega), List.drop_of_length_le (by omega)]
    simp
  | succ d ih =>
    intro i hd hi
    have hlt : i < x.length := by omega
    have hlt2 : i < y.length := by omega
    rw [List.drop_eq_getElem_cons hlt, List.drop_eq_getElem_cons hlt2]
    refine Ev.step (f := fun k => (laws_eqIntS.f k x[i] y[i]).bind fun t => if t = true then laws_eqIntSS.l0 k x y (i + 1 : Nat) else some false) (fun k => ?_) ?_
    · simp only [laws_eqIntSS.l0]
      rw [if_pos (by omega), if_pos (by omega), if_pos (by omega), rdL_at hlt, rdL_at hlt2, wrap_nat (by omega)]
    · by_cases e : x[i] = y[i]
      · exact Ev.bind ((eqIntS x[i] y[i] (hr _ (List.getElem_mem hlt))).val (decide_eq_true e)) (Ev.pos rfl ((ih (i + 1) (by omega) (by omega)).val (cons_dec e)))
      · exact Ev.bind ((eqIntS x[i] y[i] (hr _ (List.getElem_mem hlt))).val (decide_eq_false e)) (Ev.neg (by simp) ((Ev.now _).val (decide_eq_false (fun h => e (List.cons.inj h).1)).symm))
theorem eqIntSS (x y : List (List Int)) (hl : x.length ≤ 9223372036854775807) (hr : ∀ row ∈ x, row.length ≤ 9223372036854775807) : Ev (fun k => laws_eqIntSS.f k x y) (decide (x = y)) := by
  unfold laws_eqIntSS.f
  by_cases h : x.length = y.length
  · refine Ev.pos (by omega) ?_
    exact eqIntSS_l0 x y hl hr h x.length 0 (by omega) (by omega)
  · refine Ev.neg (by omega) ?_
    exact (Ev.now _).val (by have : x ≠ y := fun e => h (by rw [e]); simp [this])
theorem eqGraph (x y : List (List Int)) (hl : x.length ≤ 9223372036854775807) (hr : ∀ row ∈ x, row.length ≤ 9223372036854775807) : Ev (fun k => laws_eqGraph.f k x y) (decide (x = y)) := by
  unfold laws_eqGraph.f
  refine Ev.bind (eqIntSS x y hl hr) ?_
  by_cases e : x = y
  · exact Ev.pos (decide_eq_true e) ((Ev.now _).val (decide_eq_true e).symm)
  · exact Ev.neg (by simp [e]) ((Ev.now _).val (decide_eq_false e).symm)
theorem small_eq (l : List (List Int)) (h : small l) : Ev (fun k => laws_eqGraph.f k l l) true := (eqGraph l l (by have := h.1; omega) (fun row hr => by have := h.2 row hr; omega)).val (decide_eq_true rfl)

/-! what a graph is -/
theorem l1In (a lo hi : Int) : spec_l1In.f a lo hi = some (decide (lo ≤ a) && decide (a ≤ hi)) := by
  unfold spec_l1In.f
  by_cases h : a ≥ lo
  · rw [if_pos h]; have : lo ≤ a := h; simp [this]
  · rw [if_neg h]; have : ¬ lo ≤ a := h; simp [this]
theorem implin (a lo hi : Int) : impl_in.f a lo hi = some (decide (lo ≤ a) && decide (a ≤ hi)) := by
  unfold impl_in.f
  by_cases h : lo ≤ a
  · rw [if_pos h]; simp [h]
  · rw [if_neg h]; simp [h]
theorem l1All_l0 (l : List Int) (lo hi : Int) (hl : l.length ≤ 9223372036854775807) : ∀ (d i : Nat), l.length - i = d → i ≤ l.length → Ev (fun k => spec_l1All.l0 k lo hi l l.length i) ((l.drop i).all fun x => decide (lo ≤ x) && decide (x ≤ hi)) := by
  intro d
  induction d with
  | zero =>
    intro i hd hi
    refine Ev.const1 (fun k => ?_)
    simp only [spec_l1All.l0]
    rw [if_neg (by omega), List.drop_of_length_le (by omega)]
    rfl
  | succ d ih =>
    intro i hd hi'
    have hlt : i < l.length := by omega
    rw [List.drop_eq_getElem_cons hlt, List.all_cons]
    by_cases e : (decide (lo ≤ l[i]) && decide (l[i] ≤ hi)) = true
    · refine Ev.step (f := fun k => spec_l1All.l0 k lo hi l l.length (i + 1 : Nat)) (fun k => ?_) ((ih (i + 1) (by omega) (by omega)).val (by rw [e]; simp))
      simp only [spec_l1All.l0, l1In]
      rw [if_pos (by omega), if_pos (by omega), if_pos (by omega), rd_at hlt, wrap_nat (by omega)]
      simp only [Option.bind_some]
      rw [if_pos e]
    · refine Ev.const1 (fun k => ?_)
      simp only [spec_l1All.l0, l1In]
      rw [if_pos (by omega), if_pos (by omega), if_pos (by omega), rd_at hlt]
      simp only [Option.bind_some]
      rw [if_neg e]
      simp only [Bool.not_eq_true] at e
      rw [e]; rfl
theorem l1All (l : List Int) (lo hi : Int) (hl : l.length ≤ 9223372036854775807) : Ev (fun k => spec_l1All.f k l lo hi) (l.all fun x => decide (lo ≤ x) && decide (x ≤ hi)) := by
  unfold spec_l1All.f
  exact l1All_l0 l lo hi hl l.length 0 (by omega) (by omega)
theorem grGood_l0 (l : List (List Int)) (hl : okSS l) : ∀ (d i : Nat), l.length - i = d → i ≤ l.length → Ev (fun k => spec_grGood.l0 k l.length l l.length i) ((l.drop i).all (goodRow l.length)) := by
  intro d
  induction d with
  | zero =>
    intro i hd hi
    refine Ev.const1 (fun k => ?_)
    simp only [spec_grGood.l0]
    rw [if_neg (by omega), List.drop_of_length_le (by omega)]
    rfl
  | succ d ih =>
    intro i hd hi'
    have hlt : i < l.length := by omega
    have hll := hl.1
    have hrow := (hl.2 _ (List.getElem_mem hlt)).1
    rw [List.drop_eq_getElem_cons hlt, List.all_cons]
    by_cases h5 : l[i].length ≤ 5
    · refine Ev.step (f := fun k => (spec_l1All.f k l[i] 0 ((l.length : Int) - 1)).bind fun t => if t = true then spec_grGood.l0 k l.length l l.length (i + 1 : Nat) else some false) (fun k => ?_) ?_
      · simp only [spec_grGood.l0]
        rw [if_pos (by omega), if_pos (by omega), if_pos (by omega), rdL_at hlt, if_neg (by omega), wrap_nat (by omega), wrap_id (by omega)]
      · by_cases e : (l[i].all fun x => decide (0 ≤ x) && decide (x ≤ (l.length : Int) - 1)) = true
        · exact Ev.bind ((l1All _ 0 _ hrow).val e) (Ev.pos rfl ((ih (i + 1) (by omega) (by omega)).val (by unfold goodRow; rw [e]; simp [h5])))
        · exact Ev.bind ((l1All _ 0 _ hrow).val (Bool.eq_false_iff.mpr e)) (Ev.neg (by simp) ((Ev.now _).val (by unfold goodRow; simp only [Bool.not_eq_true] at e; rw [e]; simp)))
    · refine Ev.const1 (fun k => ?_)
      simp only [spec_grGood.l0]
      rw [if_pos (by omega), if_pos (by omega), if_pos (by omega), rdL_at hlt, if_pos (by omega)]
      simp [goodRow, h5]
theorem grGood (l : List (List Int)) (hl : okSS l) : Ev (fun k => spec_grGood.f k l) (goodG l) := by
  unfold spec_grGood.f
  rw [l1In]
  simp only [Option.bind_some]
  by_cases h : 1 ≤ l.length ∧ l.length ≤ 8
  · have h1 : (1 : Int) ≤ l.length := by omega
    have h2 : (l.length : Int) ≤ 8 := by omega
    refine Ev.pos (by simp [h1, h2]) ?_
    exact (grGood_l0 l hl l.length 0 (by omega) (by omega)).val (by simp [goodG, h.1, h.2])
  · refine Ev.neg (by simp; omega) ((Ev.now _).val ?_)
    unfold goodG
    by_cases h1 : 1 ≤ l.length
    · have h2 : ¬ l.length ≤ 8 := by omega
      simp [h1, h2]
    · simp [h1]
theorem ok_small {l : List (List Int)} (h : okSS l) : l.length ≤ 9223372036854775807 ∧ ∀ row ∈ l, row.length ≤ 9223372036854775807 := ⟨h.1, fun row hr => (h.2 row hr).1⟩
end Go.Proofs.Ytcmfcleeohcgaaa.M
namespace Go.Proofs.Ytcmfcleeohcgaaa.M
open Go.RowKit Go.Proofs.Ytcmfcleeohcgaaa.P Go.Proofs.Ytcmfcleeohcgaaa.In Go.Proofs.YtcmfcleeohcgaaaW.PrintWords Go.Proofs.YtcmfcleeohcgaaaW.PrintLast
set_option linter.unusedVariables false
set_option linter.unusedSimpArgs false
theorem good_iff {l : List (List Int)} (h : goodG l = true) : (1 ≤ l.length ∧ l.length ≤ 8) ∧ ∀ row ∈ l, row.length ≤ 5 ∧ ∀ q ∈ row, 0 ≤ q ∧ q < (l.length : Int) := by
  simp only [goodG, goodRow, Bool.and_eq_true, decide_eq_true_eq, List.all_eq_true] at h
  refine ⟨⟨h.1, h.2.1⟩, fun row hr => ⟨(h.2.2 row hr).1, fun q hq => ?_⟩⟩
  have := (h.2.2 row hr).2 q hq
  omega
/-- A place of a graph. -/
def placeB (l : List (List Int)) (p : Int) : Bool := goodG l && (decide (0 ≤ p) && decide (p ≤ (l.length : Int) - 1))
theorem place_iff {l : List (List Int)} {p : Int} (h : placeB l p = true) : goodG l = true ∧ 0 ≤ p ∧ p < (l.length : Int) := by
  simp only [placeB, Bool.and_eq_true, decide_eq_true_eq] at h
  exact ⟨h.1, h.2.1, by omega⟩
theorem grPlace (l : List (List Int)) (p : Int) (hl : okSS l) : Ev (fun k => spec_grPlace.f k l p) (placeB l p) := by
  unfold spec_grPlace.f
  have hll := hl.1
  refine Ev.bind (grGood l hl) ?_
  by_cases h : goodG l = true
  · refine Ev.pos h ?_
    rw [l1In, wrap_id (by omega)]
    exact Ev.bind0 rfl ((Ev.now _).val (by simp [placeB, h]))
  · exact Ev.neg h ((Ev.now _).val (by simp only [Bool.not_eq_true] at h; simp [placeB, h]))
theorem has1 (l : List (List Int)) (p : Int) : impl_has.f l [p] = some (placeB l p) := by
  unfold impl_has.f placeB; simp
theorem has2 (l : List (List Int)) (p q : Int) : impl_has.f l [p, q] = some (placeB l p && placeB l q) := by
  unfold impl_has.f placeB
  cases goodG l <;> simp

theorem rd_get {l : List Int} {q : Int} (h0 : 0 ≤ q) (h1 : q < (l.length : Int)) : rd l q = l[q.toNat]'(by omega) := by
  unfold rd; rw [List.getD_eq_getElem?_getD, List.getElem?_eq_getElem (by omega)]; rfl
theorem rdL_get {l : List (List Int)} {q : Int} (h0 : 0 ≤ q) (h1 : q < (l.length : Int)) : rd_L1 l q = l[q.toNat]'(by omega) := by
  unfold rd_L1; rw [List.getD_eq_getElem?_getD, List.getElem?_eq_getElem (by omega)]; rfl
theorem rd_set {o : List Int} {q x v : Int} (hq0 : 0 ≤ q) (hq : q < (o.length : Int)) (hx0 : 0 ≤ x) : rd (o.set q.toNat v) x = if x = q then v else rd o x := by
  unfold rd
  rw [List.getD_eq_getElem?_getD, List.getElem?_set, List.getD_eq_getElem?_getD]
  by_cases e : x = q
  · subst e; rw [if_pos rfl, if_pos (by omega), if_pos rfl]; rfl
  · rw [if_neg (by omega), if_neg e]
theorem drop_rd {row : List Int} {i : Nat} (h : i < row.length) : row.drop i = rd row (i : Int) :: row.drop (i + 1) := by
  rw [List.drop_eq_getElem_cons h, rd_at h]
end Go.Proofs.Ytcmfcleeohcgaaa.M
namespace Go.Proofs.Ytcmfcleeohcgaaa.M
open Go.RowKit Go.Proofs.Ytcmfcleeohcgaaa.P Go.Proofs.Ytcmfcleeohcgaaa.In Go.Proofs.YtcmfcleeohcgaaaW.PrintWords Go.Proofs.YtcmfcleeohcgaaaW.PrintLast
set_option linter.unusedVariables false
set_option linter.unusedSimpArgs false
/-- Are these rotors of these rows. -/
def rotB : List Int → List (List Int) → Bool
  | r :: rs, row :: rows => (decide (0 ≤ r) && decide (r ≤ if (row.length : Int) - 1 < 0 then 0 else (row.length : Int) - 1)) && rotB rs rows
  | _, _ => true
/-- A walk on a graph. -/
def walkB (g : List (List Int)) (rot : List Int) (at_ : Int) : Bool := placeB g at_ && (decide (rot.length = g.length) && rotB rot g)
theorem most0 (n : Nat) : mx ((n : Int) - 1) 0 = if (n : Int) - 1 < 0 then 0 else (n : Int) - 1 := by unfold mx; rfl
theorem l1Most0 (n : Nat) : spec_l1Most.f 0 ((n : Int) - 1) = some (if (n : Int) - 1 < 0 then 0 else (n : Int) - 1) := by
  unfold spec_l1Most.f
  by_cases h : (n : Int) - 1 < 0
  · rw [if_pos h]; split <;> first | rfl | omega
  · rw [if_neg h]; split
    · congr 1; omega
    · rfl
theorem isWalk_l0 (g : List (List Int)) (h8 : g.length ≤ 8) (hr : ∀ row ∈ g, row.length ≤ 5) (rot : List Int) (hlen : rot.length = g.length) : ∀ (d i : Nat), g.length - i = d → i ≤ g.length → Ev (fun k => impl_isWalk.l0 k rot rot.length i g) (rotB (rot.drop i) (g.drop i)) := by
  intro d
  induction d with
  | zero =>
    intro i hd hi
    refine Ev.const1 (fun k => ?_)
    simp only [impl_isWalk.l0]
    rw [if_neg (by omega), List.drop_of_length_le (by omega)]
    rfl
  | succ d ih =>
    intro i hd hi
    have hlt : i < g.length := by omega
    have hlt2 : i < rot.length := by omega
    have hrow : (rd_L1 g i).length ≤ 5 := hr _ (by rw [rdL_at hlt]; exact List.getElem_mem _)
    rw [List.drop_eq_getElem_cons hlt, List.drop_eq_getElem_cons hlt2, ← rdL_at hlt, ← rd_at hlt2]
    simp only [rotB]
    refine Ev.step (f := fun k => if (decide (0 ≤ rd rot i) && decide (rd rot i ≤ if ((rd_L1 g i).length : Int) - 1 < 0 then 0 else ((rd_L1 g i).length : Int) - 1)) = true then impl_isWalk.l0 k rot rot.length (i + 1 : Nat) g else some false) (fun k => ?_) ?_
    · simp only [impl_isWalk.l0]
      rw [if_pos (by omega), if_pos (by omega), if_pos (by omega), if_pos (by omega), wrap_id (by omega), most0, implin, wrap_nat (by omega)]
      simp only [Option.bind_some]
    · by_cases e : (decide (0 ≤ rd rot i) && decide (rd rot i ≤ if ((rd_L1 g i).length : Int) - 1 < 0 then 0 else ((rd_L1 g i).length : Int) - 1)) = true
      · exact Ev.pos e ((ih (i + 1) (by omega) (by omega)).val (by rw [e]; simp))
      · exact Ev.neg e ((Ev.now _).val (by simp only [Bool.not_eq_true] at e; rw [e]; simp))
theorem waGood_l0 (g : List (List Int)) (h8 : g.length ≤ 8) (hr : ∀ row ∈ g, row.length ≤ 5) (rot : List Int) (a : Int) (hlen : rot.length = g.length) : ∀ (d i : Nat), g.length - i = d → i ≤ g.length → Ev (fun k => spec_waGood.l0 k g g.length i rot a) (rotB (rot.drop i) (g.drop i)) := by
  intro d
  induction d with
  | zero =>
    intro i hd hi
    refine Ev.const1 (fun k => ?_)
    simp only [spec_waGood.l0]
    rw [if_neg (by omega), List.drop_of_length_le (by omega)]
    rfl
  | succ d ih =>
    intro i hd hi
    have hlt : i < g.length := by omega
    have hlt2 : i < rot.length := by omega
    have hrow : (rd_L1 g i).length ≤ 5 := hr _ (by rw [rdL_at hlt]; exact List.getElem_mem _)
    rw [List.drop_eq_getElem_cons hlt, List.drop_eq_getElem_cons hlt2, ← rdL_at hlt, ← rd_at hlt2]
    simp only [rotB]
    refine Ev.step (f := fun k => if (decide (0 ≤ rd rot i) && decide (rd rot i ≤ if ((rd_L1 g i).length : Int) - 1 < 0 then 0 else ((rd_L1 g i).length : Int) - 1)) = true then spec_waGood.l0 k g g.length (i + 1 : Nat) rot a else some false) (fun k => ?_) ?_
    · simp only [spec_waGood.l0]
      rw [if_pos (by omega), if_pos (by omega), if_pos (by omega), if_pos (by omega), wrap_id (by omega), l1Most0, wrap_nat (by omega)]
      simp only [Option.bind_some, l1In]
    · by_cases e : (decide (0 ≤ rd rot i) && decide (rd rot i ≤ if ((rd_L1 g i).length : Int) - 1 < 0 then 0 else ((rd_L1 g i).length : Int) - 1)) = true
      · exact Ev.pos e ((ih (i + 1) (by omega) (by omega)).val (by rw [e]; simp))
      · exact Ev.neg e ((Ev.now _).val (by simp only [Bool.not_eq_true] at e; rw [e]; simp))
theorem isWalk (g : List (List Int)) (rot : List Int) (a : Int) : Ev (fun k => impl_isWalk.f k g rot a) (walkB g rot a) := by
  unfold impl_isWalk.f
  refine Ev.bind0 (has1 g a) ?_
  by_cases h : placeB g a = true
  · obtain ⟨hg, _, _⟩ := place_iff h
    obtain ⟨⟨h1, h8⟩, hrows⟩ := good_iff hg
    refine Ev.pos h (Ev.succ ?_)
    simp only [impl_isWalk.j0]
    by_cases e : rot.length = g.length
    · refine Ev.neg (by simp [e]) ?_
      exact (isWalk_l0 g h8 (fun row hr => (hrows row hr).1) rot e g.length 0 (by omega) (by omega)).val (by simp [walkB, h, e])
    · refine Ev.pos (by simp; omega) ((Ev.now _).val (by simp [walkB, e]))
  · refine Ev.neg h (Ev.succ ?_)
    simp only [impl_isWalk.j0]
    exact Ev.pos trivial ((Ev.now _).val (by simp only [Bool.not_eq_true] at h; simp [walkB, h]))
theorem waGood (g : List (List Int)) (hl : okSS g) (rot : List Int) (a : Int) : Ev (fun k => spec_waGood.f k g rot a) (walkB g rot a) := by
  unfold spec_waGood.f
  refine Ev.bind (grPlace g a hl) ?_
  by_cases h : placeB g a = true
  · obtain ⟨hg, _, _⟩ := place_iff h
    obtain ⟨⟨h1, h8⟩, hrows⟩ := good_iff hg
    refine Ev.pos h (Ev.succ ?_)
    simp only [spec_waGood.j0]
    by_cases e : rot.length = g.length
    · refine Ev.neg (by simp [e]) ?_
      exact (waGood_l0 g h8 (fun row hr => (hrows row hr).1) rot a e g.length 0 (by omega) (by omega)).val (by simp [walkB, h, e])
    · refine Ev.pos (by simp; omega) ((Ev.now _).val (by simp [walkB, e]))
  · refine Ev.neg h (Ev.succ ?_)
    simp only [spec_waGood.j0]
    exact Ev.pos trivial ((Ev.now _).val (by simp only [Bool.not_eq_true] at h; simp [walkB, h]))
/-! the laws' helpers -/
end Go.Proofs.Ytcmfcleeohcgaaa.M
namespace Go.Proofs.Ytcmfcleeohcgaaa.M
open Go.RowKit Go.Proofs.Ytcmfcleeohcgaaa.P Go.Proofs.Ytcmfcleeohcgaaa.In Go.Proofs.YtcmfcleeohcgaaaW.PrintWords Go.Proofs.YtcmfcleeohcgaaaW.PrintLast
set_option linter.unusedVariables false
set_option linter.unusedSimpArgs false
theorem szIntS (l : List Int) (hl : okIs l) (a : Int) (h0 : 0 ≤ a) (h1 : a ≤ 1048576) : ∃ r, laws_szIntS.f l a = some r ∧ r ≤ 1048576 ∧ (0 ≤ r → l.length ≤ 1048576) := by
  have := hl.1
  unfold laws_szIntS.f
  rw [wrap_id (by omega)]
  by_cases h : a - (l.length : Int) < 0
  · rw [if_pos h]; exact ⟨-1, rfl, by omega, fun h => by omega⟩
  · rw [if_neg h]; exact ⟨_, rfl, by omega, fun _ => by omega⟩
end Go.Proofs.Ytcmfcleeohcgaaa.M
namespace Go.Proofs.Ytcmfcleeohcgaaa.P
open Go.RowKit Go.Proofs.YtcmfcleeohcgaaaW.PrintWords Go.Proofs.YtcmfcleeohcgaaaW.PrintLast Go.Proofs.YtcmfcleeohcgaaaW.PrintMore
attribute [local go_sem] max2_int min2_int max_two min_two max_three min_three max_four min_four   -- for this text's walks alone
set_option linter.unusedVariables false
set_option linter.unusedSimpArgs false

/-! ### laws_szWalk: function 24 -/
def laws_szWalk.f (l0_0 : List Int) (a0_1 : Int) (a1 : Int) : Option (Int) := (laws_szIntS.f l0_0 a1).bind fun t515 => (if t515 < 0 then (some (-1)) else (some t515))
set_option maxHeartbeats 8000000 in
set_option maxRecDepth 100000 in
theorem laws_szWalk.calls (A0_0 : Option Addr) (c0_0 : Nat) (l0_0 : List Int) (a0_1 : Int) (a1 : Int) (r : Int) (w : World) (hr0_0 : Kd.C (Kd.int .i64) w A0_0 l0_0.length l0_0) (hc0_0 : l0_0.length ≤ c0_0) (h : laws_szWalk.f l0_0 a0_1 a1 = some r) :
    Calls Try.prog 24 #[.agg #[.slice A0_0 l0_0.length c0_0, .int .i64 a0_1], .int .i64 a1] w fun e w' => e = .returned (.int .i64 r) ∧ Below w.heap.size w w' := by
  have hu44 := Try.underlying44
  have HR0_0 := Aside0.mk hr0_0
  have HC0_0 := Aside0.mk hc0_0
  clear hr0_0 hc0_0
  have HB := Aside0.mk (Below.refl w.heap.size w)
  have H : ((laws_szIntS.f l0_0 a1).bind fun t515 => (if t515 < 0 then (some (-1)) else (some t515))) = some r := h
  clear h
  replace H := Option.bind_eq_some_iff.mp H
  obtain ⟨t515, A30, H⟩ := H
  replace H : (if t515 < 0 then (some (-1)) else (some t515)) = some r := H
  have A3 := Aside0.mk A30
  clear A30
  by_cases c4 : t515 < 0
  · rw [if_pos c4] at H
    have c4b0 : decide (t515 < 0) = true := decide_eq_true c4
    clear c4
    obtain rfl := Option.some.inj H
    go_enter Try.func24, Try.ntmps24
    go_wp2_with (first | ((with_reducible refine gate_dst (N := 2) rfl ?_); refine box_event ?hg (N := 2) ?hd (cs := #[.slice A0_0 l0_0.length c0_0, .int .i64 a0_1]) (t := 44) ?hr ?_; (case hd => rfl); (case hg => rfl); (case hr => first | (go_simp; done) | (go_simp; rfl)); intro gb514 hg w5 hbox hb; have n0_ := Aside0.mk (below_step (by repeat (first | (with_reducible first | exact HB.out | apply below_alloc | apply pw_below_drewN | apply below_drew1) | exact HB.out)) hb); have n1_ := Aside0.mk (hbox); have n2_ := Aside0.mk ((by rw [hg]; exact (below_size (by repeat (first | (with_reducible first | exact HB.out | apply below_alloc | apply pw_below_drewN | apply below_drew1) | exact HB.out))) : w.heap.size ≤ gb514)); have n3_ := Aside0.mk ((by rw [hg]; exact (below_size (by repeat (first | (with_reducible first | exact HB.out | apply below_alloc | apply pw_below_drewN | apply below_drew1) | exact HB.out))) : w.heap.size ≤ gb514)); clear HB; have HB := n0_; have BK514 := n1_; have GW514 := n2_; have GE514 := n3_; clear n0_ n1_ n2_ n3_; clear hb hbox hg; have hcz6_0 : w5.cell? ⟨gb514, 0, none⟩ = some (.slice A0_0 l0_0.length c0_0) := (blk_cell BK514.out 0).trans rfl; have hcz6_1 : w5.cell? ⟨gb514, 1, none⟩ = some (.int .i64 a0_1) := (blk_cell BK514.out 1).trans rfl; have hfz6_0 := blk_frozen BK514.out 0; have hfz6_1 := blk_frozen BK514.out 1) | ((with_reducible refine gate_callee (f := 49) rfl ?_); refine goesL_ (some 8) rfl rfl Try.func49 (by kernel_rfl) rfl #[.slice A0_0 l0_0.length c0_0, .int .i64 a1] rfl (by (try simp only [List.map_toArray, List.map_cons, List.map_nil]); first | done | rfl | (simp only [List.length_drop, List.length_take]; rfl)) ?_; (with_reducible refine (laws_szIntS.calls _ _ l0_0 a1 t515 _ ?side1 ?side2 A3.out).mono ?_); (case side1 => repeat (first | exact (Kd.C_below HR0_0.out HB.out) | (with_reducible refine Kd.C_alloc ?_ _) | (with_reducible refine Kd.C_drewN ?_ _) | (with_reducible refine Kd.C_drew ?_))); (case side2 => exact HC0_0.out); rintro e w' ⟨rfl, ⟨nd, rfl⟩⟩; refine ⟨_, rfl, ?_⟩))
    go_ret
    exact ⟨by first | rfl | (simp [errW_none, errW_some] <;> rfl) | (simp [*, errW_none, errW_some] <;> rfl), by repeat (first | (with_reducible first | exact HB.out | apply below_alloc | apply pw_below_drewN | apply below_drew1 | refine below_set ?_ GE514.out) | exact HB.out)⟩
  · rw [if_neg c4] at H
    have c4b0 : decide (t515 < 0) = false := decide_eq_false c4
    clear c4
    obtain rfl := Option.some.inj H
    go_enter Try.func24, Try.ntmps24
    go_wp2_with (first | ((with_reducible refine gate_dst (N := 2) rfl ?_); refine box_event ?hg (N := 2) ?hd (cs := #[.slice A0_0 l0_0.length c0_0, .int .i64 a0_1]) (t := 44) ?hr ?_; (case hd => rfl); (case hg => rfl); (case hr => first | (go_simp; done) | (go_simp; rfl)); intro gb514 hg w7 hbox hb; have n0_ := Aside0.mk (below_step (by repeat (first | (with_reducible first | exact HB.out | apply below_alloc | apply pw_below_drewN | apply below_drew1) | exact HB.out)) hb); have n1_ := Aside0.mk (hbox); have n2_ := Aside0.mk ((by rw [hg]; exact (below_size (by repeat (first | (with_reducible first | exact HB.out | apply below_alloc | apply pw_below_drewN | apply below_drew1) | exact HB.out))) : w.heap.size ≤ gb514)); have n3_ := Aside0.mk ((by rw [hg]; exact (below_size (by repeat (first | (with_reducible first | exact HB.out | apply below_alloc | apply pw_below_drewN | apply below_drew1) | exact HB.out))) : w.heap.size ≤ gb514)); clear HB; have HB := n0_; have BK514 := n1_; have GW514 := n2_; have GE514 := n3_; clear n0_ n1_ n2_ n3_; clear hb hbox hg; have hcz8_0 : w7.cell? ⟨gb514, 0, none⟩ = some (.slice A0_0 l0_0.length c0_0) := (blk_cell BK514.out 0).trans rfl; have hcz8_1 : w7.cell? ⟨gb514, 1, none⟩ = some (.int .i64 a0_1) := (blk_cell BK514.out 1).trans rfl; have hfz8_0 := blk_frozen BK514.out 0; have hfz8_1 := blk_frozen BK514.out 1) | ((with_reducible refine gate_callee (f := 49) rfl ?_); refine goesL_ (some 8) rfl rfl Try.func49 (by kernel_rfl) rfl #[.slice A0_0 l0_0.length c0_0, .int .i64 a1] rfl (by (try simp only [List.map_toArray, List.map_cons, List.map_nil]); first | done | rfl | (simp only [List.length_drop, List.length_take]; rfl)) ?_; (with_reducible refine (laws_szIntS.calls _ _ l0_0 a1 t515 _ ?side1 ?side2 A3.out).mono ?_); (case side1 => repeat (first | exact (Kd.C_below HR0_0.out HB.out) | (with_reducible refine Kd.C_alloc ?_ _) | (with_reducible refine Kd.C_drewN ?_ _) | (with_reducible refine Kd.C_drew ?_))); (case side2 => exact HC0_0.out); rintro e w' ⟨rfl, ⟨nd, rfl⟩⟩; refine ⟨_, rfl, ?_⟩))
    go_ret
    exact ⟨by first | rfl | (simp [errW_none, errW_some] <;> rfl) | (simp [*, errW_none, errW_some] <;> rfl), by repeat (first | (with_reducible first | exact HB.out | apply below_alloc | apply pw_below_drewN | apply below_drew1 | refine below_set ?_ GE514.out) | exact HB.out)⟩

end Go.Proofs.Ytcmfcleeohcgaaa.P
namespace Go.Proofs.Ytcmfcleeohcgaaa.P
open Go.RowKit Go.Proofs.YtcmfcleeohcgaaaW.PrintWords Go.Proofs.YtcmfcleeohcgaaaW.PrintLast Go.Proofs.YtcmfcleeohcgaaaW.PrintMore
attribute [local go_sem] max2_int min2_int max_two min_two max_three min_three max_four min_four   -- for this text's walks alone
set_option linter.unusedVariables false
set_option linter.unusedSimpArgs false

/-! ### laws_toWalk: function 26 -/
def laws_toWalk.f (k : Nat) (l0_0 : List Int) (a0_1 : Int) : Option (List Int × Int) := (laws_toIntS.f k l0_0).bind fun t519 => (some (t519, a0_1))
theorem laws_toWalk.mono : ∀ a0 a1 k, LeO (laws_toWalk.f k a0 a1) (laws_toWalk.f (k + 1) a0 a1) := by
  intro a0 a1 k
  unfold laws_toWalk.f
  repeat' first
      | (with_reducible exact laws_toIntS.mono _ _)
      | (with_reducible exact LeO.refl _)
      | (with_reducible exact LeO.none _)
      | (with_reducible refine LeO.ite ?_ ?_)
      | (with_reducible refine LeO.bind ?_ (fun _ => ?_))
      | exact laws_toIntS.mono _ _
      | exact LeO.none _
      | refine LeO.ite ?_ ?_
      | refine LeO.bind ?_ (fun _ => ?_)
set_option maxHeartbeats 8000000 in
set_option maxRecDepth 100000 in
theorem laws_toWalk.calls (k : Nat) (A0_0 : Option Addr) (c0_0 : Nat) (l0_0 : List Int) (a0_1 : Int) (r1 : List Int) (r2 : Int) (w : World) (hr0_0 : Kd.C (Kd.int .i64) w A0_0 l0_0.length l0_0) (hc0_0 : l0_0.length ≤ c0_0) (h : laws_toWalk.f k l0_0 a0_1 = some (r1, r2)) :
    Calls Try.prog 26 #[.agg #[.slice A0_0 l0_0.length c0_0, .int .i64 a0_1]] w fun e w' => ∃ v0_ : Value, e = .returned (.agg #[v0_, .int .i64 r2]) ∧ Kd.R (Kd.int .i64) 3 w' w.heap.size (fun _ => True) v0_ r1 ∧ Below w.heap.size w w' := by
  have hu44 := Try.underlying44
  have hu34 := Try.underlying34
  have HR0_0 := Aside0.mk hr0_0
  have HC0_0 := Aside0.mk hc0_0
  clear hr0_0 hc0_0
  have HB := Aside0.mk (Below.refl w.heap.size w)
  have H : ((laws_toIntS.f k l0_0).bind fun t519 => (some (t519, a0_1))) = some (r1, r2) := h
  clear h
  replace H := Option.bind_eq_some_iff.mp H
  obtain ⟨t519, A20, H⟩ := H
  replace H : (some (t519, a0_1)) = some (r1, r2) := H
  have A2 := Aside0.mk A20
  clear A20
  simp only [Option.some.injEq, Prod.mk.injEq] at H
  obtain ⟨rfl, rfl⟩ := H
  go_enter Try.func26, Try.ntmps26
  go_wp2_with (first | ((with_reducible refine gate_dst (N := 1) rfl ?_); refine box_event ?hg (N := 1) ?hd (cs := #[.slice A0_0 l0_0.length c0_0, .int .i64 a0_1]) (t := 44) ?hr ?_; (case hd => rfl); (case hg => rfl); (case hr => first | (go_simp; done) | (go_simp; rfl)); intro gb516 hg w3 hbox hb; have n0_ := Aside0.mk (below_step (by repeat (first | (with_reducible first | exact HB.out | apply below_alloc | apply pw_below_drewN | apply below_drew1) | exact HB.out)) hb); have n1_ := Aside0.mk (hbox); have n2_ := Aside0.mk ((by rw [hg]; exact (below_size (by repeat (first | (with_reducible first | exact HB.out | apply below_alloc | apply pw_below_drewN | apply below_drew1) | exact HB.out))) : w.heap.size ≤ gb516)); have n3_ := Aside0.mk ((by rw [hg]; exact (below_size (by repeat (first | (with_reducible first | exact HB.out | apply below_alloc | apply pw_below_drewN | apply below_drew1) | exact HB.out))) : w.heap.size ≤ gb516)); clear HB; have HB := n0_; have BK516 := n1_; have GW516 := n2_; have GE516 := n3_; clear n0_ n1_ n2_ n3_; clear hb hbox hg) | ((with_reducible refine gate_dst (N := 2) rfl ?_); refine box_event ?hg (N := 2) ?hd (cs := #[.slice none 0 0, .int .i64 0]) (t := 34) ?hr ?_; (case hd => rfl); (case hg => rfl); (case hr => first | (go_simp; done) | (go_simp; rfl)); intro gb517 hg w4 hbox hb; have n0_ := Aside0.mk (blk_below (g := gb516) (o := .cells #[.slice A0_0 l0_0.length c0_0, .int .i64 a0_1] 44 (0, 0)) (by (with_reducible repeat (first | refine blk_drewN ?_ _ | refine blk_drew ?_ | refine blk_alloc ?_ _)); exact BK516.out) hb); have n1_ := Aside0.mk (below_step (by repeat (first | (with_reducible first | exact HB.out | apply below_alloc | apply pw_below_drewN | apply below_drew1 | refine below_set ?_ GE516.out) | exact HB.out)) hb); have n2_ := Aside0.mk (hbox); have n3_ := Aside0.mk ((by rw [hg]; exact (below_size (by repeat (first | (with_reducible first | exact HB.out | apply below_alloc | apply pw_below_drewN | apply below_drew1 | refine below_set ?_ GE516.out) | exact HB.out))) : w.heap.size ≤ gb517)); have n4_ := Aside0.mk ((by rw [hg]; exact (below_size (by repeat (first | (with_reducible first | exact HB.out | apply below_alloc | apply pw_below_drewN | apply below_drew1 | refine below_set ?_ GE516.out) | exact HB.out))) : w.heap.size ≤ gb517)); have n5_ := Aside0.mk ((by rw [hg]; exact Nat.ne_of_lt (blk_lt (g := gb516) (o := .cells #[.slice A0_0 l0_0.length c0_0, .int .i64 a0_1] 44 (0, 0)) (by (with_reducible repeat (first | refine blk_drewN ?_ _ | refine blk_drew ?_ | refine blk_alloc ?_ _)); exact BK516.out)) : gb516 ≠ gb517)); have n6_ := Aside0.mk ((by rw [hg]; exact Nat.ne_of_gt (blk_lt (g := gb516) (o := .cells #[.slice A0_0 l0_0.length c0_0, .int .i64 a0_1] 44 (0, 0)) (by (with_reducible repeat (first | refine blk_drewN ?_ _ | refine blk_drew ?_ | refine blk_alloc ?_ _)); exact BK516.out)) : gb517 ≠ gb516)); clear BK516; clear HB; have BK516 := n0_; have HB := n1_; have BK517 := n2_; have GW517 := n3_; have GE517 := n4_; have NB516_517 := n5_; have NB517_516 := n6_; clear n0_ n1_ n2_ n3_ n4_ n5_ n6_; clear hb hbox hg) | ((with_reducible refine gate_dst (N := 3) rfl ?_); refine box_event ?hg (N := 3) ?hd (cs := #[.slice none 0 0, .int .i64 0]) (t := 34) ?hr ?_; (case hd => rfl); (case hg => rfl); (case hr => first | (go_simp; done) | (go_simp; rfl)); intro gb518 hg w5 hbox hb; have n0_ := Aside0.mk (blk_below (g := gb516) (o := .cells #[.slice A0_0 l0_0.length c0_0, .int .i64 a0_1] 44 (0, 0)) (by (with_reducible repeat (first | refine blk_drewN ?_ _ | refine blk_drew ?_ | refine blk_alloc ?_ _)); exact BK516.out) hb); have n1_ := Aside0.mk (blk_below (g := gb517) (o := .cells #[.slice none 0 0, .int .i64 0] 34 (0, 0)) (by (with_reducible repeat (first | refine blk_drewN ?_ _ | refine blk_drew ?_ | refine blk_alloc ?_ _)); exact BK517.out) hb); have n2_ := Aside0.mk (below_step (by repeat (first | (with_reducible first | exact HB.out | apply below_alloc | apply pw_below_drewN | apply below_drew1 | refine below_set ?_ GE516.out | refine below_set ?_ GE517.out) | exact HB.out)) hb); have n3_ := Aside0.mk (hbox); have n4_ := Aside0.mk ((by rw [hg]; exact (below_size (by repeat (first | (with_reducible first | exact HB.out | apply below_alloc | apply pw_below_drewN | apply below_drew1 | refine below_set ?_ GE516.out | refine below_set ?_ GE517.out) | exact HB.out))) : w.heap.size ≤ gb518)); have n5_ := Aside0.mk ((by rw [hg]; exact (below_size (by repeat (first | (with_reducible first | exact HB.out | apply below_alloc | apply pw_below_drewN | apply below_drew1 | refine below_set ?_ GE516.out | refine below_set ?_ GE517.out) | exact HB.out))) : w.heap.size ≤ gb518)); have n6_ := Aside0.mk ((by rw [hg]; exact Nat.ne_of_lt (blk_lt (g := gb516) (o := .cells #[.slice A0_0 l0_0.length c0_0, .int .i64 a0_1] 44 (0, 0)) (by (with_reducible repeat (first | refine blk_drewN ?_ _ | refine blk_drew ?_ | refine blk_alloc ?_ _)); exact BK516.out)) : gb516 ≠ gb518)); have n7_ := Aside0.mk ((by rw [hg]; exact Nat.ne_of_gt (blk_lt (g := gb516) (o := .cells #[.slice A0_0 l0_0.length c0_0, .int .i64 a0_1] 44 (0, 0)) (by (with_reducible repeat (first | refine blk_drewN ?_ _ | refine blk_drew ?_ | refine blk_alloc ?_ _)); exact BK516.out)) : gb518 ≠ gb516)); have n8_ := Aside0.mk ((by rw [hg]; exact Nat.ne_of_lt (blk_lt (g := gb517) (o := .cells #[.slice none 0 0, .int .i64 0] 34 (0, 0)) (by (with_reducible repeat (first | refine blk_drewN ?_ _ | refine blk_drew ?_ | refine blk_alloc ?_ _)); exact BK517.out)) : gb517 ≠ gb518)); have n9_ := Aside0.mk ((by rw [hg]; exact Nat.ne_of_gt (blk_lt (g := gb517) (o := .cells #[.slice none 0 0, .int .i64 0] 34 (0, 0)) (by (with_reducible repeat (first | refine blk_drewN ?_ _ | refine blk_drew ?_ | refine blk_alloc ?_ _)); exact BK517.out)) : gb518 ≠ gb517)); clear BK516; clear BK517; clear HB; have BK516 := n0_; have BK517 := n1_; have HB := n2_; have BK518 := n3_; have GW518 := n4_; have GE518 := n5_; have NB516_518 := n6_; have NB518_516 := n7_; have NB517_518 := n8_; have NB518_517 := n9_; clear n0_ n1_ n2_ n3_ n4_ n5_ n6_ n7_ n8_ n9_; clear hb hbox hg; have hnb6 := NB516_517.out; have hnc6 := NB517_516.out; have hnb7 := NB516_518.out; have hnc7 := NB518_516.out; have hcz8_0 : w5.cell? ⟨gb516, 0, none⟩ = some (.slice A0_0 l0_0.length c0_0) := (blk_cell BK516.out 0).trans rfl; have hcz8_1 : w5.cell? ⟨gb516, 1, none⟩ = some (.int .i64 a0_1) := (blk_cell BK516.out 1).trans rfl; have hfz8_0 := blk_frozen BK516.out 0; have hfz8_1 := blk_frozen BK516.out 1) | ((with_reducible refine gate_callee (f := 17) rfl ?_); refine goesL_ (some 6) rfl rfl Try.func17 (by kernel_rfl) rfl #[.slice A0_0 l0_0.length c0_0] rfl (by (try simp only [List.map_toArray, List.map_cons, List.map_nil]); first | done | rfl | (simp only [List.length_drop, List.length_take]; rfl)) ?_; (with_reducible refine (laws_toIntS.calls k _ _ l0_0 t519 _ ?side1 ?side2 A2.out).mono ?_); (case side1 => repeat (first | exact (Kd.C_below HR0_0.out HB.out) | (with_reducible refine Kd.C_alloc ?_ _) | (with_reducible refine Kd.C_drewN ?_ _) | (with_reducible refine Kd.C_drew ?_))); (case side2 => exact HC0_0.out); rintro e w9 ⟨v520, rfl, ho0, hb⟩; refine ⟨_, rfl, ?_⟩; have n0_ := Aside0.mk (Kd.R_lower ho0 (below_size (by repeat (first | (with_reducible first | exact HB.out | apply below_alloc | apply pw_below_drewN | apply below_drew1 | refine below_set ?_ GE516.out | refine below_set ?_ GE517.out | refine below_set ?_ GE518.out) | exact HB.out)))); have n1_ := Aside0.mk (blk_below (g := gb516) (o := .cells #[.slice A0_0 l0_0.length c0_0, .int .i64 a0_1] 44 (0, 0)) (by (with_reducible repeat (first | refine blk_drewN ?_ _ | refine blk_drew ?_ | refine blk_alloc ?_ _)); exact BK516.out) hb); have n2_ := Aside0.mk (blk_below (g := gb517) (o := .cells #[.slice none 0 0, .int .i64 0] 34 (0, 0)) (by (with_reducible repeat (first | refine blk_drewN ?_ _ | refine blk_drew ?_ | refine blk_alloc ?_ _)); exact BK517.out) hb); have n3_ := Aside0.mk (blk_below (g := gb518) (o := .cells #[.slice none 0 0, .int .i64 0] 34 (0, 0)) (by (with_reducible repeat (first | refine blk_drewN ?_ _ | refine blk_drew ?_ | refine blk_alloc ?_ _)); exact BK518.out) hb); have n4_ := Aside0.mk (below_step (by repeat (first | (with_reducible first | exact HB.out | apply below_alloc | apply pw_below_drewN | apply below_drew1 | refine below_set ?_ GE516.out | refine below_set ?_ GE517.out | refine below_set ?_ GE518.out) | exact HB.out)) hb); clear BK516; clear BK517; clear BK518; clear HB; have HO521 := n0_; have BK516 := n1_; have BK517 := n2_; have BK518 := n3_; have HB := n4_; clear n0_ n1_ n2_ n3_ n4_; (try clear hb); (try clear hb2); (try clear hk); (try clear hi); (try clear ho0); obtain ⟨Ao10, co10, eo10⟩ := Kd.R_slice HO521.out; subst eo10; have hnb11 := NB518_517.out; have hnc11 := NB517_518.out; have hcz12_0 : w9.cell? ⟨gb518, 0, none⟩ = some (.slice none 0 0) := (blk_cell BK518.out 0).trans rfl; have hcz12_1 : w9.cell? ⟨gb518, 1, none⟩ = some (.int .i64 0) := (blk_cell BK518.out 1).trans rfl; have hfz12_0 := blk_frozen BK518.out 0; have hfz12_1 := blk_frozen BK518.out 1; have hcz13_0 : w9.cell? ⟨gb516, 0, none⟩ = some (.slice A0_0 l0_0.length c0_0) := (blk_cell BK516.out 0).trans rfl; have hcz13_1 : w9.cell? ⟨gb516, 1, none⟩ = some (.int .i64 a0_1) := (blk_cell BK516.out 1).trans rfl; have hfz13_0 := blk_frozen BK516.out 0; have hfz13_1 := blk_frozen BK516.out 1; have hcz14_0 : w9.cell? ⟨gb517, 0, none⟩ = some (.slice none 0 0) := (blk_cell BK517.out 0).trans rfl; have hcz14_1 : w9.cell? ⟨gb517, 1, none⟩ = some (.int .i64 0) := (blk_cell BK517.out 1).trans rfl; have hfz14_0 := blk_frozen BK517.out 0; have hfz14_1 := blk_frozen BK517.out 1))
  refine bodyPost_ret (results_cell_row rfl _ _ gb517 34 #[.slice Ao10 t519.length co10, .int .i64 a0_1] (0, 0) _ rfl (by (with_reducible repeat (first | refine blk_drewN ?_ _ | refine blk_drew ?_ | refine blk_alloc ?_ _)); refine blk_put (cs := #[.slice Ao10 t519.length co10, .int .i64 0]) ?_ 1 _ rfl; (with_reducible repeat (first | refine blk_drewN ?_ _ | refine blk_drew ?_ | refine blk_alloc ?_ _)); refine blk_put (cs := #[.slice none 0 0, .int .i64 0]) ?_ 0 _ rfl; (with_reducible repeat (first | refine blk_drewN ?_ _ | refine blk_drew ?_ | refine blk_alloc ?_ _)); refine blk_far ?_ NB517_518.out _; (with_reducible repeat (first | refine blk_drewN ?_ _ | refine blk_drew ?_ | refine blk_alloc ?_ _)); refine blk_far ?_ NB517_518.out _; (with_reducible repeat (first | refine blk_drewN ?_ _ | refine blk_drew ?_ | refine blk_alloc ?_ _)); exact BK517.out) Try.underlying34 rfl (by kernel_rfl)) rfl ?_
  exact ⟨_, by first | rfl | (simp [errW_none, errW_some] <;> rfl) | (simp [*, errW_none, errW_some] <;> rfl), by (with_reducible repeat (first | apply Kd.R_alloc | apply Kd.R_drewN | apply Kd.R_drew)); exact Kd.R_mono (Kd.R_far (p := ⟨gb517, 1, none⟩) (Kd.R_far (p := ⟨gb517, 0, none⟩) (Kd.R_far (p := ⟨gb518, 1, none⟩) (Kd.R_far (p := ⟨gb518, 0, none⟩) (Kd.R_types (Kd.R_types HO521.out BK518.out (by decide)) BK517.out (by decide)) (fun _ hk => hk.1.2) (.slice Ao10 t519.length co10)) (fun _ hk => hk.1.2) (.int .i64 a0_1)) (fun _ hk => hk.2) (.slice Ao10 t519.length co10)) (fun _ hk => hk.2) (.int .i64 a0_1)) (fun _ hk => trivial), by repeat (first | (with_reducible first | exact HB.out | apply below_alloc | apply pw_below_drewN | apply below_drew1 | refine below_set ?_ GE516.out | refine below_set ?_ GE517.out | refine below_set ?_ GE518.out) | exact HB.out)⟩

end Go.Proofs.Ytcmfcleeohcgaaa.P
namespace Go.Proofs.Ytcmfcleeohcgaaa.M
open Go.RowKit Go.Proofs.Ytcmfcleeohcgaaa.P Go.Proofs.Ytcmfcleeohcgaaa.In Go.Proofs.YtcmfcleeohcgaaaW.PrintWords Go.Proofs.YtcmfcleeohcgaaaW.PrintLast
set_option linter.unusedVariables false
set_option linter.unusedSimpArgs false
theorem szWalk (l : List Int) (x : Int) (hl : okIs l) (a : Int) (h0 : 0 ≤ a) (h1 : a ≤ 1048576) : ∃ r, laws_szWalk.f l x a = some r ∧ r ≤ 1048576 ∧ (0 ≤ r → l.length ≤ 1048576) := by
  obtain ⟨r, h2, h3, h4⟩ := szIntS l hl a h0 h1
  unfold laws_szWalk.f
  rw [h2]
  simp only [Option.bind_some]
  by_cases h : r < 0
  · rw [if_pos h]; exact ⟨-1, rfl, by omega, fun h => by omega⟩
  · rw [if_neg h]; exact ⟨r, rfl, h3, h4⟩
theorem toWalk (l : List Int) (x : Int) (hl : l.length ≤ 1048576) : Ev (fun k => laws_toWalk.f k l x) (l, x) := by
  unfold laws_toWalk.f
  exact Ev.bind (toIntS l (by omega)) (Ev.now _)
theorem eqWalk (l : List Int) (x : Int) (hl : l.length ≤ 1048576) : Ev (fun k => laws_eqWalk.f k l x l x) true := by
  unfold laws_eqWalk.f
  exact Ev.bind ((eqIntS l l (by omega)).val (decide_eq_true rfl)) (Ev.pos rfl (Ev.pos rfl (Ev.now _)))
end Go.Proofs.Ytcmfcleeohcgaaa.M
namespace Go.Proofs.Ytcmfcleeohcgaaa.M
open Go.RowKit Go.Proofs.Ytcmfcleeohcgaaa.P Go.Proofs.Ytcmfcleeohcgaaa.In Go.Proofs.YtcmfcleeohcgaaaW.PrintWords Go.Proofs.YtcmfcleeohcgaaaW.PrintLast
set_option linter.unusedVariables false
set_option linter.unusedSimpArgs false
theorem pigeon : ∀ (n : Nat) (l : List Int), l.Nodup → (∀ x ∈ l, 0 ≤ x ∧ x < (n : Int)) → l.length ≤ n
  | 0, l, _, h => by
    cases l with
    | nil => simp
    | cons x l => have := h x (by simp); omega
  | n + 1, l, hn, h => by
    have h1 := pigeon n (l.erase (n : Int)) (hn.erase _) (fun x hx => by
      have hx' := hn.mem_erase_iff.1 hx
      have h2 := h x hx'.2
      have h3 := hx'.1
      omega)
    by_cases hm : (n : Int) ∈ l
    · have := List.length_erase_of_mem hm; omega
    · rw [List.erase_of_not_mem hm] at h1; omega
def it (f : Int → Int) : Nat → Int → Int
  | 0, p => p
  | i + 1, p => it f i (f p)
theorem it_succ (f : Int → Int) (i : Nat) (p : Int) : it f (i + 1) p = f (it f i p) := by
  induction i generalizing p with
  | zero => rfl
  | succ i ih => rw [it, ih]; rfl
theorem it_add (f : Int → Int) (i j : Nat) (p : Int) : it f (i + j) p = it f j (it f i p) := by
  induction i generalizing p with
  | zero => simp [it]
  | succ i ih => rw [Nat.succ_add, it, ih]; rfl
def orb (f : Int → Int) (p : Int) (m : Nat) : List Int := (List.range m).map fun j => it f j p
theorem orb_len (f : Int → Int) (p : Int) (m : Nat) : (orb f p m).length = m := by simp [orb]
theorem orb_succ (f : Int → Int) (p : Int) (m : Nat) : orb f p (m + 1) = orb f p m ++ [it f m p] := by simp [orb, List.range_succ]
theorem orb_mem {f : Int → Int} {p x : Int} {m : Nat} : x ∈ orb f p m ↔ ∃ j, j < m ∧ it f j p = x := by simp [orb]
theorem orb_get {f : Int → Int} {p : Int} {m j : Nat} (h : j < m) : (orb f p m)[j]'(by rw [orb_len]; exact h) = it f j p := by simp [orb]
theorem orb_drop (f : Int → Int) (p : Int) (s per : Nat) : (orb f p (s + per)).drop s = orb f (it f s p) per := by
  apply List.ext_getElem
  · simp [orb]
  · intro i h1 h2
    simp only [orb, List.getElem_drop, List.getElem_map, List.getElem_range]
    rw [it_add]
theorem orb_inj {f : Int → Int} {p : Int} {m i j : Nat} (hn : (orb f p m).Nodup) (hi : i < m) (hj : j < m) (h : it f i p = it f j p) : i = j := by
  have h1 : (orb f p m)[i]'(by rw [orb_len]; exact hi) = (orb f p m)[j]'(by rw [orb_len]; exact hj) := by rw [orb_get hi, orb_get hj, h]
  exact (List.getElem_inj hn).1 h1
theorem nodup_snoc {l : List Int} {x : Int} (hn : l.Nodup) (hx : x ∉ l) : (l ++ [x]).Nodup := by
  rw [List.nodup_append]
  refine ⟨hn, by simp, ?_⟩
  intro a ha b hb
  simp at hb
  subst hb
  intro e; subst e; exact hx ha
/-- A way that comes again: p leads over s places into a circle of per places. -/
structure Rho (f : Int → Int) (n : Nat) (p : Int) (s per : Nat) : Prop where
  pos : 0 < per
  le : s + per ≤ n
  nodup : (orb f p (s + per)).Nodup
  back : it f per (it f s p) = it f s p
theorem Rho.all {f : Int → Int} {n : Nat} {p : Int} {s per : Nat} (h : Rho f n p s per) (j : Nat) : it f j p ∈ orb f p (s + per) := by
  induction j with
  | zero => exact orb_mem.2 ⟨0, by have := h.pos; omega, rfl⟩
  | succ j ih =>
    obtain ⟨m, hm, he⟩ := orb_mem.1 ih
    rw [it_succ, ← he, ← it_succ f m p]
    by_cases h2 : m + 1 < s + per
    · exact orb_mem.2 ⟨m + 1, h2, rfl⟩
    · have h3 : m + 1 = s + per := by omega
      rw [h3, it_add, h.back]
      exact orb_mem.2 ⟨s, by have := h.pos; omega, rfl⟩
theorem Rho.far {f : Int → Int} {n : Nat} {p : Int} {s per : Nat} (h : Rho f n p s per) (j : Nat) : it f (s + j + per) p = it f (s + j) p := by
  rw [show s + j + per = s + per + j by omega, it_add f (s + per), it_add f s per, h.back, ← it_add]
/-- From s steps on, the way is in the circle. -/
theorem Rho.ring {f : Int → Int} {n : Nat} {p : Int} {s per : Nat} (h : Rho f n p s per) (j : Nat) : ∃ a, a < per ∧ it f (s + j) p = it f a (it f s p) := by
  induction j with
  | zero => exact ⟨0, h.pos, rfl⟩
  | succ j ih =>
    obtain ⟨a, ha, he⟩ := ih
    rw [show s + (j + 1) = (s + j) + 1 by omega, it_succ, he, ← it_succ f a]
    by_cases h2 : a + 1 < per
    · exact ⟨a + 1, h2, rfl⟩
    · rw [show a + 1 = per by omega, h.back]
      exact ⟨0, h.pos, rfl⟩
/-- The circle, from another of its places on: its places are the same, and it comes again behind as many steps, not before. -/
theorem Rho.turn {f : Int → Int} {n : Nat} {p : Int} {s per : Nat} (h : Rho f n p s per) (j : Nat) :
    (∀ x, x ∈ orb f (it f (s + j) p) per ↔ x ∈ orb f (it f s p) per) ∧ it f per (it f (s + j) p) = it f (s + j) p ∧ ∀ i, 0 < i → i < per → it f i (it f (s + j) p) ≠ it f (s + j) p := by
  have hb : it f per (it f (s + j) p) = it f (s + j) p := by rw [← it_add]; exact h.far j
  obtain ⟨a, ha, hea⟩ := h.ring j
  have hc : ∀ m x, it f m (it f s p) = x → ∃ b, b < per ∧ it f b (it f s p) = x := by
    intro m x hx
    obtain ⟨b, hb, he⟩ := h.ring m
    exact ⟨b, hb, by rw [← he, it_add]; exact hx⟩
  refine ⟨fun x => ⟨fun hx => ?_, fun hx => ?_⟩, hb, fun i h0 hi he => ?_⟩
  · obtain ⟨m, hm, he⟩ := orb_mem.1 hx
    rw [hea, ← it_add] at he
    obtain ⟨b, hb, he2⟩ := hc _ _ he
    exact orb_mem.2 ⟨b, hb, he2⟩
  · obtain ⟨m, hm, he⟩ := orb_mem.1 hx
    by_cases h2 : a ≤ m
    · exact orb_mem.2 ⟨m - a, by omega, by rw [hea, ← it_add, show a + (m - a) = m by omega, he]⟩
    · refine orb_mem.2 ⟨per - a + m, by omega, ?_⟩
      rw [hea, ← it_add, show a + (per - a + m) = per + m by omega, it_add, h.back, he]
  · rw [hea, ← it_add] at he
    by_cases h2 : a + i < per
    · have := orb_inj (i := s + (a + i)) (j := s + a) h.nodup (by omega) (by omega) (by rw [it_add, it_add f s a]; exact he)
      omega
    · have e2 : it f (a + i) (it f s p) = it f (a + i - per) (it f s p) := by
        rw [show a + i = per + (a + i - per) by omega, it_add, h.back]; congr 1; omega
      rw [e2] at he
      have := orb_inj (i := s + (a + i - per)) (j := s + a) h.nodup (by omega) (by omega) (by rw [it_add, it_add f s a]; exact he)
      omega
/-- Behind fewer than s steps the way isn't in the circle. -/
theorem Rho.out {f : Int → Int} {n : Nat} {p : Int} {s per : Nat} (h : Rho f n p s per) {i : Nat} (hi : i < s) : it f i p ∉ orb f (it f s p) per := by
  intro hm
  obtain ⟨m, hm, he⟩ := orb_mem.1 hm
  rw [← it_add] at he
  have := orb_inj (i := s + m) (j := i) h.nodup (by omega) (by omega) he
  omega
end Go.Proofs.Ytcmfcleeohcgaaa.M
namespace Go.Proofs.Ytcmfcleeohcgaaa.P
open Go.RowKit Go.Proofs.YtcmfcleeohcgaaaW.PrintWords Go.Proofs.YtcmfcleeohcgaaaW.PrintLast Go.Proofs.YtcmfcleeohcgaaaW.PrintMore
attribute [local go_sem] max2_int min2_int max_two min_two max_three min_three max_four min_four   -- for this text's walks alone
set_option linter.unusedVariables false
set_option linter.unusedSimpArgs false

/-! ### slices_Index_int_int: function 74 -/
def slices_Index_int_int.l0 : Nat → List Int → Int → Int → Int → Option (Int)
  | 0, _, _, _, _ => none
  | k + 1, x0, x1, x7, x8 => if x8 < x7 then (if 0 ≤ x8 then (if x8 < (x0.length : Int) then (if x1 = (rd x0 x8) then (some x8) else (slices_Index_int_int.l0 k x0 x1 x7 (wrap64 (x8 + 1)))) else (none)) else (none)) else (some (-1))
def slices_Index_int_int.f (k : Nat) (l0 : List Int) (a1 : Int) : Option (Int) := slices_Index_int_int.l0 k l0 a1 (l0.length : Int) 0
theorem slices_Index_int_int.mono_l : ∀ k, (∀ y0 y1 y2 y3, LeO (slices_Index_int_int.l0 k y0 y1 y2 y3) (slices_Index_int_int.l0 (k + 1) y0 y1 y2 y3))
  | 0 => fun _ _ _ _ r h => by simp [slices_Index_int_int.l0] at h
  | k + 1 => by
    have ih0 := slices_Index_int_int.mono_l k
    · intro y0 y1 y2 y3
      unfold slices_Index_int_int.l0
      repeat' first
      | (with_reducible exact ih0 _ _ _ _)
      | (with_reducible exact LeO.refl _)
      | (with_reducible exact LeO.none _)
      | (with_reducible refine LeO.ite ?_ ?_)
      | (with_reducible refine LeO.bind ?_ (fun _ => ?_))
      | exact ih0 _ _ _ _
      | exact LeO.none _
      | refine LeO.ite ?_ ?_
      | refine LeO.bind ?_ (fun _ => ?_)
theorem slices_Index_int_int.mono : ∀ a0 a1 k, LeO (slices_Index_int_int.f k a0 a1) (slices_Index_int_int.f (k + 1) a0 a1) := by
  intro a0 a1 k
  have ih0 := slices_Index_int_int.mono_l k
  unfold slices_Index_int_int.f
  repeat' first
      | (with_reducible exact ih0 _ _ _ _)
      | (with_reducible exact LeO.refl _)
      | (with_reducible exact LeO.none _)
      | (with_reducible refine LeO.ite ?_ ?_)
      | (with_reducible refine LeO.bind ?_ (fun _ => ?_))
      | exact ih0 _ _ _ _
      | exact LeO.none _
      | refine LeO.ite ?_ ?_
      | refine LeO.bind ?_ (fun _ => ?_)
set_option maxHeartbeats 8000000 in
set_option maxRecDepth 100000 in
theorem slices_Index_int_int.calls (k : Nat) (A0 : Option Addr) (c0 : Nat) (l0 : List Int) (a1 : Int) (r : Int) (w : World) (hr0 : Kd.C (Kd.int .i64) w A0 l0.length l0) (hc0 : l0.length ≤ c0) (h : slices_Index_int_int.f k l0 a1 = some r) :
    Calls Try.prog 74 #[.slice A0 l0.length c0, .int .i64 a1] w fun e w' => e = .returned (.int .i64 r) ∧ Drawn0 w w' := by
  have HR0 := Aside0.mk hr0
  have HC0 := Aside0.mk hc0
  clear hr0 hc0
  have H : (slices_Index_int_int.l0 k l0 a1 (l0.length : Int) 0) = some r := h
  clear h
  have H' := Aside0.mk H
  clear H
  go_enter Try.func74, Try.ntmps74
  go_wp2
  go_loopg [8] k (fun kq v8 w' => ∃ (x8_1 : Int), v8 = .int .i64 x8_1 ∧ Aside0 (slices_Index_int_int.l0 kq l0 a1 (l0.length : Int) x8_1 = some r) ∧ Aside0 (kq ≤ k) ∧ Drawn0 w w')
  case atStart => exact ⟨(0), (by first | rfl | (simp; done) | (simp [*]; done)), H', ⟨Nat.le_refl _⟩, by repeat (first | exact Drawn0.refl _ | apply Drawn0.step)⟩
  case round =>
    clear H'
    try clear p2
    obtain ⟨x8_1, rfl, HA, HK1, ⟨m1, rfl⟩⟩ := hrel
    cases gk with
    | zero => exact absurd HA.out (by simp [slices_Index_int_int.l0])
    | succ k1 =>
      have H := HA.out
      clear HA
      simp only [slices_Index_int_int.l0] at H
      by_cases c3 : x8_1 < (l0.length : Int)
      · rw [if_pos c3] at H
        have c3b0 : decide (x8_1 < (l0.length : Int)) = true := decide_eq_true c3
        clear c3
        by_cases c4 : 0 ≤ x8_1
        · rw [if_pos c4] at H
          have c4b0 : decide (0 ≤ x8_1) = true := decide_eq_true c4
          clear c4
          by_cases c5 : x8_1 < (l0.length : Int)
          · rw [if_pos c5] at H
            have c5b0 : decide (x8_1 < (l0.length : Int)) = true := decide_eq_true c5
            clear c5
            by_cases c6 : a1 = (rd l0 x8_1)
            · rw [if_pos c6] at H
              have c6b0 : (a1 == (rd l0 x8_1)) = true := beq_iff_eq.mpr c6
              have c6b1 : (a1 != (rd l0 x8_1)) = false := bne_eq_false_iff_eq.mpr c6
              clear c6
              obtain rfl := Option.some.inj H
              have p228 : 0 ≤ (x8_1 : Int) := of_decide_eq_true (by first | (with_reducible assumption) | assumption)
              have q228 : x8_1 < (l0.length : Int) := of_decide_eq_true (by first | (with_reducible assumption) | assumption)
              obtain ⟨ad228, e228, hx228_0⟩ := Kd.at_int HR0.out x8_1 p228 q228
              cases e228
              replace p228 := eq_true p228
              replace q228 := eq_true q228
              go_wp2
              go_ret
              exact ⟨by first | rfl | (simp; done) | (simp [*]; done), by repeat (first | exact Drawn0.refl _ | apply Drawn0.step)⟩
            · rw [if_neg c6] at H
              have c6b0 : (a1 == (rd l0 x8_1)) = false := beq_eq_false_iff_ne.mpr c6
              have c6b1 : (a1 != (rd l0 x8_1)) = true := bne_iff_ne.mpr c6
              have H' := Aside0.mk H
              clear H
              have p228 : 0 ≤ (x8_1 : Int) := of_decide_eq_true (by first | (with_reducible assumption) | assumption)
              have q228 : x8_1 < (l0.length : Int) := of_decide_eq_true (by first | (with_reducible assumption) | assumption)
              obtain ⟨ad228, e228, hx228_0⟩ := Kd.at_int HR0.out x8_1 p228 q228
              cases e228
              replace p228 := eq_true p228
              replace q228 := eq_true q228
              go_wp2
              go_roundg k1
              case measure => have := HK1.out; omega
              case rel => exact ⟨(wrap64 (x8_1 + 1)), (by first | rfl | (simp; done) | (simp [*]; done)), H', ⟨by have := HK1.out; omega⟩, by repeat (first | exact Drawn0.refl _ | apply Drawn0.step)⟩
          · rw [if_neg c5] at H
            exact absurd H (by simp)
        · rw [if_neg c4] at H
          exact absurd H (by simp)
      · rw [if_neg c3] at H
        have c3b0 : decide (x8_1 < (l0.length : Int)) = false := decide_eq_false c3
        clear c3
        obtain rfl := Option.some.inj H
        go_wp2
        go_ret
        exact ⟨by first | rfl | (simp; done) | (simp [*]; done), by repeat (first | exact Drawn0.refl _ | apply Drawn0.step)⟩

end Go.Proofs.Ytcmfcleeohcgaaa.P
namespace Go.Proofs.Ytcmfcleeohcgaaa.P
open Go.RowKit Go.Proofs.YtcmfcleeohcgaaaW.PrintWords Go.Proofs.YtcmfcleeohcgaaaW.PrintLast Go.Proofs.YtcmfcleeohcgaaaW.PrintMore
attribute [local go_sem] max2_int min2_int max_two min_two max_three min_three max_four min_four   -- for this text's walks alone
set_option linter.unusedVariables false
set_option linter.unusedSimpArgs false

/-! ### slices_Contains_int_int: function 61 -/
def slices_Contains_int_int.f (k : Nat) (l0 : List Int) (a1 : Int) : Option (Bool) := (slices_Index_int_int.f k l0 a1).bind fun t229 => (some (decide (t229 ≥ 0)))
theorem slices_Contains_int_int.mono : ∀ a0 a1 k, LeO (slices_Contains_int_int.f k a0 a1) (slices_Contains_int_int.f (k + 1) a0 a1) := by
  intro a0 a1 k
  unfold slices_Contains_int_int.f
  repeat' first
      | (with_reducible exact slices_Index_int_int.mono _ _ _)
      | (with_reducible exact LeO.refl _)
      | (with_reducible exact LeO.none _)
      | (with_reducible refine LeO.ite ?_ ?_)
      | (with_reducible refine LeO.bind ?_ (fun _ => ?_))
      | exact slices_Index_int_int.mono _ _ _
      | exact LeO.none _
      | refine LeO.ite ?_ ?_
      | refine LeO.bind ?_ (fun _ => ?_)
set_option maxHeartbeats 8000000 in
set_option maxRecDepth 100000 in
theorem slices_Contains_int_int.calls (k : Nat) (A0 : Option Addr) (c0 : Nat) (l0 : List Int) (a1 : Int) (r : Bool) (w : World) (hr0 : Kd.C (Kd.int .i64) w A0 l0.length l0) (hc0 : l0.length ≤ c0) (h : slices_Contains_int_int.f k l0 a1 = some r) :
    Calls Try.prog 61 #[.slice A0 l0.length c0, .int .i64 a1] w fun e w' => e = .returned (.bool r) ∧ Drawn0 w w' := by
  have HR0 := Aside0.mk hr0
  have HC0 := Aside0.mk hc0
  clear hr0 hc0
  have H : ((slices_Index_int_int.f k l0 a1).bind fun t229 => (some (decide (t229 ≥ 0)))) = some r := h
  clear h
  replace H := Option.bind_eq_some_iff.mp H
  obtain ⟨t229, A30, H⟩ := H
  replace H : (some (decide (t229 ≥ 0))) = some r := H
  have A3 := Aside0.mk A30
  clear A30
  obtain rfl := Option.some.inj H
  go_enter Try.func61, Try.ntmps61
  go_wp2_with (first | ((with_reducible refine gate_callee (f := 74) rfl ?_); refine goesL_ (some 7) rfl rfl Try.func74 (by kernel_rfl) rfl #[.slice A0 l0.length c0, .int .i64 a1] rfl (by (try simp only [List.map_toArray, List.map_cons, List.map_nil]); first | done | rfl | (simp only [List.length_drop, List.length_take]; rfl)) ?_; (with_reducible refine (slices_Index_int_int.calls k _ _ l0 a1 t229 _ ?side1 ?side2 A3.out).mono ?_); (case side1 => repeat (first | exact HR0.out | (with_reducible refine Kd.C_alloc ?_ _) | (with_reducible refine Kd.C_drewN ?_ _) | (with_reducible refine Kd.C_drew ?_))); (case side2 => exact HC0.out); rintro e w' ⟨rfl, ⟨nd, rfl⟩⟩; refine ⟨_, rfl, ?_⟩))
  go_ret
  exact ⟨by first | rfl | (simp; done) | (simp [*]; done), by repeat (first | exact Drawn0.refl _ | apply Drawn0.step)⟩

end Go.Proofs.Ytcmfcleeohcgaaa.P
namespace Go.Proofs.Ytcmfcleeohcgaaa.P
open Go.RowKit Go.Proofs.YtcmfcleeohcgaaaW.PrintWords Go.Proofs.YtcmfcleeohcgaaaW.PrintLast Go.Proofs.YtcmfcleeohcgaaaW.PrintMore
attribute [local go_sem] max2_int min2_int max_two min_two max_three min_three max_four min_four   -- for this text's walks alone
set_option linter.unusedVariables false
set_option linter.unusedSimpArgs false

/-! ### impl_Graph_cycleFrom: function 53 -/
def impl_Graph_cycleFrom.l0 : Nat → List Int → Int → List Int → List (List Int) → Option (List Int × Bool)
  | 0, _, _, _, _ => none
  | k + 1, x1, x2, x8, x231000 => (slices_Contains_int_int.f k x8 x2).bind fun t234 => (if t234 = true then ((slices_Index_int_int.f k x8 x2).bind fun t235 => (if 0 ≤ t235 then (if t235 ≤ (x8.length : Int) then (some ((x8.drop (t235 : Int).toNat), true)) else (none)) else (none))) else (if x8.length < 17592186044416 then ((impl_Graph_next.f x231000 x1 x2).bind fun t242 => (if t242 < 0 then (some (([] : List Int), false)) else (impl_Graph_cycleFrom.l0 k x1 t242 (x8 ++ [x2]) x231000))) else (none)))
def impl_Graph_cycleFrom.f (k : Nat) (l0_0 : List (List Int)) (l1 : List Int) (a2 : Int) : Option (List Int × Bool) := impl_Graph_cycleFrom.l0 k l1 a2 (([] : List Int)) l0_0
theorem impl_Graph_cycleFrom.mono_l : ∀ k, (∀ y0 y1 y2 y3, LeO (impl_Graph_cycleFrom.l0 k y0 y1 y2 y3) (impl_Graph_cycleFrom.l0 (k + 1) y0 y1 y2 y3))
  | 0 => fun _ _ _ _ r h => by simp [impl_Graph_cycleFrom.l0] at h
  | k + 1 => by
    have ih0 := impl_Graph_cycleFrom.mono_l k
    · intro y0 y1 y2 y3
      unfold impl_Graph_cycleFrom.l0
      repeat' first
      | (with_reducible exact ih0 _ _ _ _)
      | (with_reducible exact slices_Contains_int_int.mono _ _ _)
      | (with_reducible exact slices_Index_int_int.mono _ _ _)
      | (with_reducible exact LeO.refl _)
      | (with_reducible exact LeO.none _)
      | (with_reducible refine LeO.ite ?_ ?_)
      | (with_reducible refine LeO.bind ?_ (fun _ => ?_))
      | exact ih0 _ _ _ _
      | exact slices_Contains_int_int.mono _ _ _
      | exact slices_Index_int_int.mono _ _ _
      | exact LeO.none _
      | refine LeO.ite ?_ ?_
      | refine LeO.bind ?_ (fun _ => ?_)
theorem impl_Graph_cycleFrom.mono : ∀ a0 a1 a2 k, LeO (impl_Graph_cycleFrom.f k a0 a1 a2) (impl_Graph_cycleFrom.f (k + 1) a0 a1 a2) := by
  intro a0 a1 a2 k
  have ih0 := impl_Graph_cycleFrom.mono_l k
  unfold impl_Graph_cycleFrom.f
  repeat' first
      | (with_reducible exact ih0 _ _ _ _)
      | (with_reducible exact slices_Contains_int_int.mono _ _ _)
      | (with_reducible exact slices_Index_int_int.mono _ _ _)
      | (with_reducible exact LeO.refl _)
      | (with_reducible exact LeO.none _)
      | (with_reducible refine LeO.ite ?_ ?_)
      | (with_reducible refine LeO.bind ?_ (fun _ => ?_))
      | exact ih0 _ _ _ _
      | exact slices_Contains_int_int.mono _ _ _
      | exact slices_Index_int_int.mono _ _ _
      | exact LeO.none _
      | refine LeO.ite ?_ ?_
      | refine LeO.bind ?_ (fun _ => ?_)
set_option maxHeartbeats 8000000 in
set_option maxRecDepth 100000 in
theorem impl_Graph_cycleFrom.calls (k : Nat) (A0_0 : Option Addr) (c0_0 : Nat) (l0_0 : List (List Int)) (A1 : Option Addr) (c1 : Nat) (l1 : List Int) (a2 : Int) (r1 : List Int) (r2 : Bool) (w : World) (hr0_0 : Kd.C (Kd.slice 3 (Kd.int .i64)) w A0_0 l0_0.length l0_0) (hc0_0 : l0_0.length ≤ c0_0) (hr1 : Kd.C (Kd.int .i64) w A1 l1.length l1) (hc1 : l1.length ≤ c1) (h : impl_Graph_cycleFrom.f k l0_0 l1 a2 = some (r1, r2)) :
    Calls Try.prog 53 #[.agg #[.slice A0_0 l0_0.length c0_0], .slice A1 l1.length c1, .int .i64 a2] w fun e w' => ∃ v0_ : Value, e = .returned (.tuple #[v0_, .bool r2]) ∧ Kd.Q (Kd.int .i64) 3 w' w.heap.size (fun _ => True) v0_ r1 ∧ Below w.heap.size w w' := by
  have hu24 := Try.underlying24
  have HR0_0 := Aside0.mk hr0_0
  have HC0_0 := Aside0.mk hc0_0
  clear hr0_0 hc0_0
  have HR1 := Aside0.mk hr1
  have HC1 := Aside0.mk hc1
  clear hr1 hc1
  have HB := Aside0.mk (Below.refl w.heap.size w)
  have H : (impl_Graph_cycleFrom.l0 k l1 a2 (([] : List Int)) l0_0) = some (r1, r2) := h
  clear h
  obtain ⟨y231, hy231⟩ : ∃ y_ : List Int, y_ = (([] : List Int)) := ⟨_, rfl⟩
  replace H : (impl_Graph_cycleFrom.l0 k l1 a2 y231 l0_0) = some (r1, r2) := by first | (rw [hy231]; with_reducible exact H) | (have H2_ := (Option.bind_some _ _).symm.trans H; rw [hy231]; with_reducible exact H2_) | (have H2_ := (Option.bind_some _ _).symm.trans H; with_reducible exact H2_) | with_reducible exact H | (rw [hy231]; exact H) | exact H
  have Ny231 := Aside0.mk hy231
  clear hy231
  have H' := Aside0.mk H
  clear H
  go_enter Try.func53, Try.ntmps53
  go_wp2_with (first | ((with_reducible refine gate_dst (N := 3) rfl ?_); refine box_event ?hg (N := 3) ?hd (cs := #[.slice A0_0 l0_0.length c0_0]) (t := 24) ?hr ?_; (case hd => rfl); (case hg => rfl); (case hr => first | (go_simp; done) | (go_simp; rfl)); intro gb230 hg w4 hbox hb; have n0_ := Aside0.mk (below_step (by repeat (first | (with_reducible first | exact HB.out | apply below_alloc | apply pw_below_drewN | apply below_drew1) | exact HB.out)) hb); have n1_ := Aside0.mk (hbox); have n2_ := Aside0.mk ((by rw [hg]; exact (below_size (by repeat (first | (with_reducible first | exact HB.out | apply below_alloc | apply pw_below_drewN | apply below_drew1) | exact HB.out))) : w.heap.size ≤ gb230)); have n3_ := Aside0.mk ((by rw [hg]; exact (below_size (by repeat (first | (with_reducible first | exact HB.out | apply below_alloc | apply pw_below_drewN | apply below_drew1) | exact HB.out))) : w.heap.size ≤ gb230)); clear HB; have HB := n0_; have BK230 := n1_; have GW230 := n2_; have GE230 := n3_; clear n0_ n1_ n2_ n3_; clear hb hbox hg) | ((with_reducible refine gate_dst (N := 9) rfl ?_); refine Kd.R_lit (Kd.int .i64) _ 3 ?hg (N := 9) ?hd (xs := ([] : List Int)) (inner := []) (ok := fun _ => True) (okp := fun _ => True) ?hr ?hp (fun _ hk => hk) trivial (Below.refl _ _) (Nat.le_refl _) (by simp) ?_; (case hd => rfl); (case hg => rfl); (case hr => first | (go_simp; done) | (go_simp; rfl)); (case hp => exact (Reps.none _ _)); intro v232 w5 ho6 hb hg_ hnew_; clear hg_ hnew_; (first | rw [← Ny231.out] at ho6 | (simp only [Int.reduceToNat] at ho6; rw [← Ny231.out] at ho6)); have n0_ := Aside0.mk (Kd.R_lower ho6 (below_size (by repeat (first | (with_reducible first | exact HB.out | apply below_alloc | apply pw_below_drewN | apply below_drew1 | refine below_set ?_ GE230.out) | exact HB.out)))); have n1_ := Aside0.mk (blk_below (g := gb230) (o := .cells #[.slice A0_0 l0_0.length c0_0] 24 (0, 0)) (by (with_reducible repeat (first | refine blk_drewN ?_ _ | refine blk_drew ?_ | refine blk_alloc ?_ _)); exact BK230.out) hb); have n2_ := Aside0.mk (below_step (by repeat (first | (with_reducible first | exact HB.out | apply below_alloc | apply pw_below_drewN | apply below_drew1 | refine below_set ?_ GE230.out) | exact HB.out)) hb); clear BK230; clear HB; have HO233 := n0_; have BK230 := n1_; have HB := n2_; clear n0_ n1_ n2_; clear hb ho6))
  go_loopg [2, 8] k (fun kq v2 v8 w' => ∃ (x2_1 : Int) (x8_1 : List Int), v2 = .int .i64 x2_1 ∧ Aside0 (impl_Graph_cycleFrom.l0 kq l1 x2_1 x8_1 l0_0 = some (r1, r2)) ∧ Aside0 (kq ≤ k) ∧ Aside0 (Kd.R (Kd.int .i64) 3 w' w.heap.size (fun _ => True) v8 x8_1) ∧ Aside0 (w'.heap[gb230]? = some (.cells #[(.slice A0_0 l0_0.length c0_0)] 24 (0, 0))) ∧ Aside0 (Below w.heap.size w w'))
  case atStart => exact ⟨(a2), (y231), (by first | rfl | (simp; done) | (simp [*]; done)), H', ⟨Nat.le_refl _⟩, ⟨by (with_reducible repeat (first | apply Kd.R_alloc | apply Kd.R_drewN | apply Kd.R_drew)); exact HO233.out⟩, ⟨by (with_reducible repeat (first | refine blk_drewN ?_ _ | refine blk_drew ?_ | refine blk_alloc ?_ _)); exact BK230.out⟩, ⟨by repeat (first | (with_reducible first | exact HB.out | apply below_alloc | apply pw_below_drewN | apply below_drew1 | refine below_set ?_ GE230.out) | exact HB.out)⟩⟩
  case round =>
    clear H'
    try clear c1
    try clear p2
    try clear c5
    obtain ⟨x2_1, x8_1, rfl, HA, HK1, HO_8, BK230, HB⟩ := hrel
    cases gk with
    | zero => exact absurd HA.out (by simp [impl_Graph_cycleFrom.l0])
    | succ k1 =>
      have H := HA.out
      clear HA
      simp only [impl_Graph_cycleFrom.l0] at H
      replace H := Option.bind_eq_some_iff.mp H
      obtain ⟨t234, A70, H⟩ := H
      replace H : (if t234 = true then ((slices_Index_int_int.f k1 x8_1 x2_1).bind fun t235 => (if 0 ≤ t235 then (if t235 ≤ (x8_1.length : Int) then (some ((x8_1.drop (t235 : Int).toNat), true)) else (none)) else (none))) else (if x8_1.length < 17592186044416 then ((impl_Graph_next.f l0_0 l1 x2_1).bind fun t242 => (if t242 < 0 then (some (([] : List Int), false)) else (impl_Graph_cycleFrom.l0 k1 l1 t242 (x8_1 ++ [x2_1]) l0_0))) else (none))) = some (r1, r2) := H
      have A7 := Aside0.mk A70
      clear A70
      by_cases c8 : t234 = true
      · subst c8
        have H1 : ((slices_Index_int_int.f k1 x8_1 x2_1).bind fun t235 => (if 0 ≤ t235 then (if t235 ≤ (x8_1.length : Int) then (some ((x8_1.drop (t235 : Int).toNat), true)) else (none)) else (none))) = some (r1, r2) := by rw [if_pos rfl] at H; exact H
        clear H
        have H := H1
        clear H1
        replace H := Option.bind_eq_some_iff.mp H
        obtain ⟨t235, A90, H⟩ := H
        replace H : (if 0 ≤ t235 then (if t235 ≤ (x8_1.length : Int) then (some ((x8_1.drop (t235 : Int).toNat), true)) else (none)) else (none)) = some (r1, r2) := H
        have A9 := Aside0.mk A90
        clear A90
        by_cases c10 : 0 ≤ t235
        · rw [if_pos c10] at H
          have c10b0 := eq_true c10
          have c10b1 : decide (0 ≤ t235) = true := decide_eq_true c10
          clear c10
          by_cases c11 : t235 ≤ (x8_1.length : Int)
          · rw [if_pos c11] at H
            have c11b0 := eq_true c11
            have c11b1 : decide (t235 ≤ (x8_1.length : Int)) = true := decide_eq_true c11
            clear c11
            obtain ⟨y236, hy236⟩ : ∃ y_ : List Int, y_ = (x8_1.drop (t235 : Int).toNat) := ⟨_, rfl⟩
            replace H : (some (y236, true)) = some (r1, r2) := by first | (rw [hy236]; with_reducible exact H) | (have H2_ := (Option.bind_some _ _).symm.trans H; rw [hy236]; with_reducible exact H2_) | (have H2_ := (Option.bind_some _ _).symm.trans H; with_reducible exact H2_) | with_reducible exact H | (rw [hy236]; exact H) | exact H
            have Ny236 := Aside0.mk hy236
            clear hy236
            simp only [Option.some.injEq, Prod.mk.injEq] at H
            obtain ⟨rfl, rfl⟩ := H
            obtain ⟨Ao12, co12, eo12⟩ := Kd.R_slice HO_8.out
            subst eo12
            go_wp2_with (first | ((with_reducible refine gate_callee (f := 61) rfl ?_); refine goesL_ (some 12) rfl rfl Try.func61 (by kernel_rfl) rfl #[.slice Ao12 x8_1.length co12, .int .i64 x2_1] rfl (by (try simp only [List.map_toArray, List.map_cons, List.map_nil]); first | done | rfl | (simp only [List.length_drop, List.length_take]; rfl)) ?_; (with_reducible refine (slices_Contains_int_int.calls k1 _ _ x8_1 x2_1 true _ ?side1 ?side2 A7.out).mono ?_); (case side1 => repeat (first | exact (Kd.R_reads' HO_8.out).2.2 | (with_reducible refine Kd.C_alloc ?_ _) | (with_reducible refine Kd.C_drewN ?_ _) | (with_reducible refine Kd.C_drew ?_))); (case side2 => exact (Kd.R_reads' HO_8.out).2.1); rintro e w' ⟨rfl, ⟨nd, rfl⟩⟩; refine ⟨_, rfl, ?_⟩) | ((with_reducible refine gate_callee (f := 74) rfl ?_); refine goesL_ (some 27) rfl rfl Try.func74 (by kernel_rfl) rfl #[.slice Ao12 x8_1.length co12, .int .i64 x2_1] rfl (by (try simp only [List.map_toArray, List.map_cons, List.map_nil]); first | done | rfl | (simp only [List.length_drop, List.length_take]; rfl)) ?_; (with_reducible refine (slices_Index_int_int.calls k1 _ _ x8_1 x2_1 t235 _ ?side1 ?side2 A9.out).mono ?_); (case side1 => repeat (first | exact (Kd.R_reads' HO_8.out).2.2 | (with_reducible refine Kd.C_alloc ?_ _) | (with_reducible refine Kd.C_drewN ?_ _) | (with_reducible refine Kd.C_drew ?_))); (case side2 => exact (Kd.R_reads' HO_8.out).2.1); rintro e w' ⟨rfl, ⟨nd, rfl⟩⟩; refine ⟨_, rfl, ?_⟩; have q13 : (t235 : Int) ≤ ((x8_1.length : Int) : Int) := of_decide_eq_true (by first | (with_reducible assumption) | assumption); obtain ⟨i013, hi013, _, hsz13, _⟩ := info_parts info3; have hcut13 := cut_from (P := Try.prog) 31 3 .i64 Try.underlying31 hi013 1 hsz13 Ao12 x8_1.length co12 t235 (of_decide_eq_true (by first | (with_reducible assumption) | assumption)) q13; have hr13 := Kd.Q_drop (k := (t235 : Int).toNat) (Kd.Q_of_R HO_8.out) (by omega); obtain ⟨A13, hA13⟩ : ∃ A1, A1 = (if co12 = (t235 : Int).toNat then Ao12 else (Ao12 : Option Addr).map (·.add ((t235 : Int).toNat * 1))) := ⟨_, rfl⟩; obtain ⟨c13, hc13⟩ : ∃ c1, c1 = co12 - (t235 : Int).toNat := ⟨_, rfl⟩; have hy13 : y236.length = x8_1.length - (t235 : Int).toNat := (by rw [Ny236.out, List.length_drop]); rw [← Ny236.out] at hr13; rw [← hy13, ← hA13, ← hc13] at hcut13; replace hr13 : Kd.Q (Kd.int .i64) 3 wr w.heap.size (fun _ => True) (.slice A13 y236.length c13) y236 := (by rw [hA13, hc13, hy13]; exact hr13); have HE13 : Aside0 ((Value.slice A13 y236.length c13).ownBlock = (.slice Ao12 x8_1.length co12 : Value).ownBlock) := ⟨by rw [hA13]; split <;> (cases (Ao12 : Option Addr) <;> first | rfl | (simp only [Option.map, Value.ownBlock, Addr.add]; split <;> rfl))⟩; clear hy13 hi013 hsz13 HO_8 hA13 hc13; have HO238 := Aside0.mk hr13; clear hr13; replace q13 := eq_true q13))
            go_ret2
            exact ⟨_, by first | rfl | (simp [errW_none, errW_some] <;> rfl) | (simp [*, errW_none, errW_some] <;> rfl), by (with_reducible repeat (first | apply Kd.Q_alloc | apply Kd.Q_drewN | apply Kd.Q_drew)); exact HO238.out, by repeat (first | (with_reducible first | exact HB.out | apply below_alloc | apply pw_below_drewN | apply below_drew1 | refine below_set ?_ GE230.out) | exact HB.out)⟩
          · rw [if_neg c11] at H
            exact absurd H (by simp)
        · rw [if_neg c10] at H
          exact absurd H (by simp)
      · replace c8 := Bool.eq_false_iff.mpr c8
        subst c8
        have H1 : (if x8_1.length < 17592186044416 then ((impl_Graph_next.f l0_0 l1 x2_1).bind fun t242 => (if t242 < 0 then (some (([] : List Int), false)) else (impl_Graph_cycleFrom.l0 k1 l1 t242 (x8_1 ++ [x2_1]) l0_0))) else (none)) = some (r1, r2) := by rw [if_neg (show ¬ (false = true) by decide)] at H; exact H
        clear H
        have H := H1
        clear H1
        by_cases c14 : x8_1.length < 17592186044416
        · rw [if_pos c14] at H
          have LMc14 := Aside0.mk c14
          clear c14
          obtain ⟨y239, hy239⟩ : ∃ y_ : List Int, y_ = (x8_1 ++ [x2_1]) := ⟨_, rfl⟩
          replace H : ((impl_Graph_next.f l0_0 l1 x2_1).bind fun t242 => (if t242 < 0 then (some (([] : List Int), false)) else (impl_Graph_cycleFrom.l0 k1 l1 t242 y239 l0_0))) = some (r1, r2) := by first | (rw [hy239]; with_reducible exact H) | (have H2_ := (Option.bind_some _ _).symm.trans H; rw [hy239]; with_reducible exact H2_) | (have H2_ := (Option.bind_some _ _).symm.trans H; with_reducible exact H2_) | with_reducible exact H | (rw [hy239]; exact H) | exact H
          have Ny239 := Aside0.mk hy239
          clear hy239
          replace H := Option.bind_eq_some_iff.mp H
          obtain ⟨t242, A150, H⟩ := H
          replace H : (if t242 < 0 then (some (([] : List Int), false)) else (impl_Graph_cycleFrom.l0 k1 l1 t242 y239 l0_0)) = some (r1, r2) := H
          have A15 := Aside0.mk A150
          clear A150
          by_cases c16 : t242 < 0
          · rw [if_pos c16] at H
            have c16b0 : decide (t242 < 0) = true := decide_eq_true c16
            clear c16
            simp only [Option.some.injEq, Prod.mk.injEq] at H
            obtain ⟨rfl, rfl⟩ := H
            obtain ⟨Ao17, co17, eo17⟩ := Kd.R_slice HO_8.out
            subst eo17
            go_wp2_with (first | ((with_reducible refine gate_callee (f := 61) rfl ?_); refine goesL_ (some 12) rfl rfl Try.func61 (by kernel_rfl) rfl #[.slice Ao17 x8_1.length co17, .int .i64 x2_1] rfl (by (try simp only [List.map_toArray, List.map_cons, List.map_nil]); first | done | rfl | (simp only [List.length_drop, List.length_take]; rfl)) ?_; (with_reducible refine (slices_Contains_int_int.calls k1 _ _ x8_1 x2_1 false _ ?side1 ?side2 A7.out).mono ?_); (case side1 => repeat (first | exact (Kd.R_reads' HO_8.out).2.2 | (with_reducible refine Kd.C_alloc ?_ _) | (with_reducible refine Kd.C_drewN ?_ _) | (with_reducible refine Kd.C_drew ?_))); (case side2 => exact (Kd.R_reads' HO_8.out).2.1); rintro e w' ⟨rfl, ⟨nd, rfl⟩⟩; refine ⟨_, rfl, ?_⟩) | ((with_reducible refine gate_builtin (b := .append) (xs := #[.tmp 14, .tmp 16]) rfl ?_); at_builtin; refine Kd.R_append (Kd.int .i64) (w0 := w) w.heap.size rfl (.tmp 14) (.tmp 16) 31 3 (.int .i64 0) 8 rfl Try.underlying31 info3 rfl (by decide) (by omega) (.slice Ao17 x8_1.length co17) x8_1 x2_1 [.int .i64 x2_1] (fun _ => True) (fun _ => False) rfl rfl ?aP (fun _ hk => hk.elim) ?aF ?aO ?aB ?aS ?aL ?_; (case aP => exact rfl); (case aB => exact (by repeat (first | (with_reducible first | exact HB.out | apply below_alloc | apply pw_below_drewN | apply below_drew1 | refine below_set ?_ GE230.out) | exact HB.out))); (case aF => exact (fun _ _ => trivial)); (case aO => exact (by (with_reducible repeat (first | apply Kd.R_alloc | apply Kd.R_drewN | apply Kd.R_drew)); first | exact HO_8.out | exact Kd.R_mono HO_8.out (fun _ hk => ⟨hk.2, hk.1⟩))); (case aS => exact (below_size (by repeat (first | (with_reducible first | exact HB.out | apply below_alloc | apply pw_below_drewN | apply below_drew1 | refine below_set ?_ GE230.out) | exact HB.out)))); (case aL => have := LMc14.out; omega); intro v240 w18 ho hb hg hat; rw [← Ny239.out] at ho; have n0_ := Aside0.mk (blk_grown (g := gb230) (o := .cells #[.slice A0_0 l0_0.length c0_0] 24 (0, 0)) (by (with_reducible repeat (first | refine blk_drewN ?_ _ | refine blk_drew ?_ | refine blk_alloc ?_ _)); exact BK230.out) hg (Kd.R_ne HO_8.out BK230.out (by decide))); have n1_ := Aside0.mk (hb); have n2_ := Aside0.mk (ho); clear BK230; clear HB; clear HO_8; have BK230 := n0_; have HB := n1_; have HO241 := n2_; clear n0_ n1_ n2_; clear ho hb hg hat; have hcz19_0 : w18.cell? ⟨gb230, 0, none⟩ = some (.slice A0_0 l0_0.length c0_0) := (blk_cell BK230.out 0).trans rfl; have hfz19_0 := blk_frozen BK230.out 0) | ((with_reducible refine gate_callee (f := 73) rfl ?_); refine goesL_ (some 21) rfl rfl Try.func73 (by kernel_rfl) rfl #[.agg #[.slice A0_0 l0_0.length c0_0], .slice A1 l1.length c1, .int .i64 x2_1] rfl (by (try simp only [List.map_toArray, List.map_cons, List.map_nil]); first | done | rfl | (simp only [List.length_drop, List.length_take]; rfl)) ?_; (with_reducible refine (impl_Graph_next.calls _ _ l0_0 _ _ l1 x2_1 t242 _ ?side1 ?side2 ?side3 ?side4 A15.out).mono ?_); (case side1 => repeat (first | exact (Kd.C_below HR0_0.out HB.out) | (with_reducible refine Kd.C_alloc ?_ _) | (with_reducible refine Kd.C_drewN ?_ _) | (with_reducible refine Kd.C_drew ?_))); (case side2 => exact HC0_0.out); (case side3 => repeat (first | exact (Kd.C_below HR1.out HB.out) | (with_reducible refine Kd.C_alloc ?_ _) | (with_reducible refine Kd.C_drewN ?_ _) | (with_reducible refine Kd.C_drew ?_))); (case side4 => exact HC1.out); rintro e w20 ⟨rfl, hb⟩; refine ⟨_, rfl, ?_⟩; have n0_ := Aside0.mk (Kd.R_below (by (with_reducible repeat (first | apply Kd.R_alloc | apply Kd.R_drewN | apply Kd.R_drew)); exact HO241.out) hb); have n1_ := Aside0.mk (blk_below (g := gb230) (o := .cells #[.slice A0_0 l0_0.length c0_0] 24 (0, 0)) (by (with_reducible repeat (first | refine blk_drewN ?_ _ | refine blk_drew ?_ | refine blk_alloc ?_ _)); exact BK230.out) hb); have n2_ := Aside0.mk (below_step (by repeat (first | (with_reducible first | exact HB.out | apply below_alloc | apply pw_below_drewN | apply below_drew1 | refine below_set ?_ GE230.out) | exact HB.out)) hb); clear HO241; clear BK230; clear HB; have HO241 := n0_; have BK230 := n1_; have HB := n2_; clear n0_ n1_ n2_; (try clear hb); (try clear hb2); (try clear hk); (try clear hi)))
            go_ret2
            exact ⟨_, by first | rfl | (simp [errW_none, errW_some] <;> rfl) | (simp [*, errW_none, errW_some] <;> rfl), Kd.Q_of_R (by first | exact Kd.R_nil _ _ _ _ _ | exact Kd.N_nil _ _ _ _ _ | exact Kd.V_nil _ _ _ _ _ | exact Kd.Q_nil _ _ _ _ _ | exact Kd.S_nil _ _ _ _ _), by repeat (first | (with_reducible first | exact HB.out | apply below_alloc | apply pw_below_drewN | apply below_drew1 | refine below_set ?_ GE230.out) | exact HB.out)⟩
          · rw [if_neg c16] at H
            have c16b0 : decide (t242 < 0) = false := decide_eq_false c16
            clear c16
            have H' := Aside0.mk H
            clear H
            obtain ⟨Ao21, co21, eo21⟩ := Kd.R_slice HO_8.out
            subst eo21
            go_wp2_with (first | ((with_reducible refine gate_callee (f := 61) rfl ?_); refine goesL_ (some 12) rfl rfl Try.func61 (by kernel_rfl) rfl #[.slice Ao21 x8_1.length co21, .int .i64 x2_1] rfl (by (try simp only [List.map_toArray, List.map_cons, List.map_nil]); first | done | rfl | (simp only [List.length_drop, List.length_take]; rfl)) ?_; (with_reducible refine (slices_Contains_int_int.calls k1 _ _ x8_1 x2_1 false _ ?side1 ?side2 A7.out).mono ?_); (case side1 => repeat (first | exact (Kd.R_reads' HO_8.out).2.2 | (with_reducible refine Kd.C_alloc ?_ _) | (with_reducible refine Kd.C_drewN ?_ _) | (with_reducible refine Kd.C_drew ?_))); (case side2 => exact (Kd.R_reads' HO_8.out).2.1); rintro e w' ⟨rfl, ⟨nd, rfl⟩⟩; refine ⟨_, rfl, ?_⟩) | ((with_reducible refine gate_builtin (b := .append) (xs := #[.tmp 14, .tmp 16]) rfl ?_); at_builtin; refine Kd.R_append (Kd.int .i64) (w0 := w) w.heap.size rfl (.tmp 14) (.tmp 16) 31 3 (.int .i64 0) 8 rfl Try.underlying31 info3 rfl (by decide) (by omega) (.slice Ao21 x8_1.length co21) x8_1 x2_1 [.int .i64 x2_1] (fun _ => True) (fun _ => False) rfl rfl ?aP (fun _ hk => hk.elim) ?aF ?aO ?aB ?aS ?aL ?_; (case aP => exact rfl); (case aB => exact (by repeat (first | (with_reducible first | exact HB.out | apply below_alloc | apply pw_below_drewN | apply below_drew1 | refine below_set ?_ GE230.out) | exact HB.out))); (case aF => exact (fun _ _ => trivial)); (case aO => exact (by (with_reducible repeat (first | apply Kd.R_alloc | apply Kd.R_drewN | apply Kd.R_drew)); first | exact HO_8.out | exact Kd.R_mono HO_8.out (fun _ hk => ⟨hk.2, hk.1⟩))); (case aS => exact (below_size (by repeat (first | (with_reducible first | exact HB.out | apply below_alloc | apply pw_below_drewN | apply below_drew1 | refine below_set ?_ GE230.out) | exact HB.out)))); (case aL => have := LMc14.out; omega); intro v240 w22 ho hb hg hat; rw [← Ny239.out] at ho; have n0_ := Aside0.mk (blk_grown (g := gb230) (o := .cells #[.slice A0_0 l0_0.length c0_0] 24 (0, 0)) (by (with_reducible repeat (first | refine blk_drewN ?_ _ | refine blk_drew ?_ | refine blk_alloc ?_ _)); exact BK230.out) hg (Kd.R_ne HO_8.out BK230.out (by decide))); have n1_ := Aside0.mk (hb); have n2_ := Aside0.mk (ho); clear BK230; clear HB; clear HO_8; have BK230 := n0_; have HB := n1_; have HO241 := n2_; clear n0_ n1_ n2_; clear ho hb hg hat; have hcz23_0 : w22.cell? ⟨gb230, 0, none⟩ = some (.slice A0_0 l0_0.length c0_0) := (blk_cell BK230.out 0).trans rfl; have hfz23_0 := blk_frozen BK230.out 0) | ((with_reducible refine gate_callee (f := 73) rfl ?_); refine goesL_ (some 21) rfl rfl Try.func73 (by kernel_rfl) rfl #[.agg #[.slice A0_0 l0_0.length c0_0], .slice A1 l1.length c1, .int .i64 x2_1] rfl (by (try simp only [List.map_toArray, List.map_cons, List.map_nil]); first | done | rfl | (simp only [List.length_drop, List.length_take]; rfl)) ?_; (with_reducible refine (impl_Graph_next.calls _ _ l0_0 _ _ l1 x2_1 t242 _ ?side1 ?side2 ?side3 ?side4 A15.out).mono ?_); (case side1 => repeat (first | exact (Kd.C_below HR0_0.out HB.out) | (with_reducible refine Kd.C_alloc ?_ _) | (with_reducible refine Kd.C_drewN ?_ _) | (with_reducible refine Kd.C_drew ?_))); (case side2 => exact HC0_0.out); (case side3 => repeat (first | exact (Kd.C_below HR1.out HB.out) | (with_reducible refine Kd.C_alloc ?_ _) | (with_reducible refine Kd.C_drewN ?_ _) | (with_reducible refine Kd.C_drew ?_))); (case side4 => exact HC1.out); rintro e w24 ⟨rfl, hb⟩; refine ⟨_, rfl, ?_⟩; have n0_ := Aside0.mk (Kd.R_below (by (with_reducible repeat (first | apply Kd.R_alloc | apply Kd.R_drewN | apply Kd.R_drew)); exact HO241.out) hb); have n1_ := Aside0.mk (blk_below (g := gb230) (o := .cells #[.slice A0_0 l0_0.length c0_0] 24 (0, 0)) (by (with_reducible repeat (first | refine blk_drewN ?_ _ | refine blk_drew ?_ | refine blk_alloc ?_ _)); exact BK230.out) hb); have n2_ := Aside0.mk (below_step (by repeat (first | (with_reducible first | exact HB.out | apply below_alloc | apply pw_below_drewN | apply below_drew1 | refine below_set ?_ GE230.out) | exact HB.out)) hb); clear HO241; clear BK230; clear HB; have HO241 := n0_; have BK230 := n1_; have HB := n2_; clear n0_ n1_ n2_; (try clear hb); (try clear hb2); (try clear hk); (try clear hi)))
            go_roundg k1
            case measure => have := HK1.out; omega
            case rel => exact ⟨(t242), (y239), (by first | rfl | (simp; done) | (simp [*]; done)), H', ⟨by have := HK1.out; omega⟩, ⟨by (with_reducible repeat (first | apply Kd.R_alloc | apply Kd.R_drewN | apply Kd.R_drew)); exact HO241.out⟩, ⟨by (with_reducible repeat (first | refine blk_drewN ?_ _ | refine blk_drew ?_ | refine blk_alloc ?_ _)); exact BK230.out⟩, ⟨by repeat (first | (with_reducible first | exact HB.out | apply below_alloc | apply pw_below_drewN | apply below_drew1 | refine below_set ?_ GE230.out) | exact HB.out)⟩⟩
        · rw [if_neg c14] at H
          exact absurd H (by simp)

end Go.Proofs.Ytcmfcleeohcgaaa.P
namespace Go.Proofs.Ytcmfcleeohcgaaa.P
open Go.RowKit Go.Proofs.YtcmfcleeohcgaaaW.PrintWords Go.Proofs.YtcmfcleeohcgaaaW.PrintLast Go.Proofs.YtcmfcleeohcgaaaW.PrintMore
attribute [local go_sem] max2_int min2_int max_two min_two max_three min_three max_four min_four   -- for this text's walks alone
set_option linter.unusedVariables false
set_option linter.unusedSimpArgs false

/-! ### spec_trCycle: function 70 -/
mutual
def spec_trCycle.l0 : Nat → List Int → Int → Int → List (List Int) → Option (List Int × Bool)
  | 0, _, _, _, _ => none
  | k + 1, x1, x2, x8, x252000 => if x8 < (x252000.length : Int) then ((spec_trNext.f x252000 x1 x2).bind fun t252 => (if t252 < 0 then (some (([] : List Int), false)) else (spec_trCycle.l0 k x1 t252 (wrap64 (x8 + 1)) x252000))) else ((spec_trNext.f x252000 x1 x2).bind fun t256 => (spec_trCycle.l1 k x1 x2 (([x2] : List Int)) t256 x252000))
def spec_trCycle.l1 : Nat → List Int → Int → List Int → Int → List (List Int) → Option (List Int × Bool)
  | 0, _, _, _, _, _ => none
  | k + 1, x1, x2, x9, x10, x252000 => if x10 = x2 then (some (x9, true)) else (if x9.length < 17592186044416 then ((spec_trNext.f x252000 x1 x10).bind fun t260 => (spec_trCycle.l1 k x1 x2 (x9 ++ [x10]) t260 x252000)) else (none))
end
def spec_trCycle.f (k : Nat) (l0_0 : List (List Int)) (l1 : List Int) (a2 : Int) : Option (List Int × Bool) := spec_trCycle.l0 k l1 a2 0 l0_0
theorem spec_trCycle.mono_l : ∀ k, (∀ y0 y1 y2 y3, LeO (spec_trCycle.l0 k y0 y1 y2 y3) (spec_trCycle.l0 (k + 1) y0 y1 y2 y3)) ∧ (∀ y0 y1 y2 y3 y4, LeO (spec_trCycle.l1 k y0 y1 y2 y3 y4) (spec_trCycle.l1 (k + 1) y0 y1 y2 y3 y4))
  | 0 => ⟨fun _ _ _ _ r h => by simp [spec_trCycle.l0] at h, fun _ _ _ _ _ r h => by simp [spec_trCycle.l1] at h⟩
  | k + 1 => by
    obtain ⟨ih0, ih1⟩ := spec_trCycle.mono_l k
    refine ⟨?_, ?_⟩
    · intro y0 y1 y2 y3
      unfold spec_trCycle.l0
      repeat' first
      | (with_reducible exact ih0 _ _ _ _)
      | (with_reducible exact ih1 _ _ _ _ _)
      | (with_reducible exact LeO.refl _)
      | (with_reducible exact LeO.none _)
      | (with_reducible refine LeO.ite ?_ ?_)
      | (with_reducible refine LeO.bind ?_ (fun _ => ?_))
      | exact ih0 _ _ _ _
      | exact ih1 _ _ _ _ _
      | exact LeO.none _
      | refine LeO.ite ?_ ?_
      | refine LeO.bind ?_ (fun _ => ?_)
    · intro y0 y1 y2 y3 y4
      unfold spec_trCycle.l1
      repeat' first
      | (with_reducible exact ih0 _ _ _ _)
      | (with_reducible exact ih1 _ _ _ _ _)
      | (with_reducible exact LeO.refl _)
      | (with_reducible exact LeO.none _)
      | (with_reducible refine LeO.ite ?_ ?_)
      | (with_reducible refine LeO.bind ?_ (fun _ => ?_))
      | exact ih0 _ _ _ _
      | exact ih1 _ _ _ _ _
      | exact LeO.none _
      | refine LeO.ite ?_ ?_
      | refine LeO.bind ?_ (fun _ => ?_)
theorem spec_trCycle.mono : ∀ a0 a1 a2 k, LeO (spec_trCycle.f k a0 a1 a2) (spec_trCycle.f (k + 1) a0 a1 a2) := by
  intro a0 a1 a2 k
  obtain ⟨ih0, ih1⟩ := spec_trCycle.mono_l k
  unfold spec_trCycle.f
  repeat' first
      | (with_reducible exact ih0 _ _ _ _)
      | (with_reducible exact ih1 _ _ _ _ _)
      | (with_reducible exact LeO.refl _)
      | (with_reducible exact LeO.none _)
      | (with_reducible refine LeO.ite ?_ ?_)
      | (with_reducible refine LeO.bind ?_ (fun _ => ?_))
      | exact ih0 _ _ _ _
      | exact ih1 _ _ _ _ _
      | exact LeO.none _
      | refine LeO.ite ?_ ?_
      | refine LeO.bind ?_ (fun _ => ?_)
set_option maxHeartbeats 8000000 in
set_option maxRecDepth 100000 in
theorem spec_trCycle.calls (k : Nat) (A0_0 : Option Addr) (c0_0 : Nat) (l0_0 : List (List Int)) (A1 : Option Addr) (c1 : Nat) (l1 : List Int) (a2 : Int) (r1 : List Int) (r2 : Bool) (w : World) (hr0_0 : Kd.C (Kd.slice 3 (Kd.int .i64)) w A0_0 l0_0.length l0_0) (hc0_0 : l0_0.length ≤ c0_0) (hr1 : Kd.C (Kd.int .i64) w A1 l1.length l1) (hc1 : l1.length ≤ c1) (h : spec_trCycle.f k l0_0 l1 a2 = some (r1, r2)) :
    Calls Try.prog 70 #[.agg #[.slice A0_0 l0_0.length c0_0], .slice A1 l1.length c1, .int .i64 a2] w fun e w' => ∃ v0_ : Value, e = .returned (.tuple #[v0_, .bool r2]) ∧ Kd.R (Kd.int .i64) 3 w' w.heap.size (fun _ => True) v0_ r1 ∧ Below w.heap.size w w' := by
  have hu24 := Try.underlying24
  have HR0_0 := Aside0.mk hr0_0
  have HC0_0 := Aside0.mk hc0_0
  clear hr0_0 hc0_0
  have HR1 := Aside0.mk hr1
  have HC1 := Aside0.mk hc1
  clear hr1 hc1
  have HB := Aside0.mk (Below.refl w.heap.size w)
  have H : (spec_trCycle.l0 k l1 a2 0 l0_0) = some (r1, r2) := h
  clear h
  have H' := Aside0.mk H
  clear H
  go_enter Try.func70, Try.ntmps70
  go_wp2_with (first | ((with_reducible refine gate_dst (N := 3) rfl ?_); refine box_event ?hg (N := 3) ?hd (cs := #[.slice A0_0 l0_0.length c0_0]) (t := 24) ?hr ?_; (case hd => rfl); (case hg => rfl); (case hr => first | (go_simp; done) | (go_simp; rfl)); intro gb251 hg w4 hbox hb; have n0_ := Aside0.mk (below_step (by repeat (first | (with_reducible first | exact HB.out | apply below_alloc | apply pw_below_drewN | apply below_drew1) | exact HB.out)) hb); have n1_ := Aside0.mk (hbox); have n2_ := Aside0.mk ((by rw [hg]; exact (below_size (by repeat (first | (with_reducible first | exact HB.out | apply below_alloc | apply pw_below_drewN | apply below_drew1) | exact HB.out))) : w.heap.size ≤ gb251)); have n3_ := Aside0.mk ((by rw [hg]; exact (below_size (by repeat (first | (with_reducible first | exact HB.out | apply below_alloc | apply pw_below_drewN | apply below_drew1) | exact HB.out))) : w.heap.size ≤ gb251)); clear HB; have HB := n0_; have BK251 := n1_; have GW251 := n2_; have GE251 := n3_; clear n0_ n1_ n2_ n3_; clear hb hbox hg))
  go_loopg [2, 8] k (fun kq v2 v8 w' => ∃ (x2_1 : Int) (x8_1 : Int), v2 = .int .i64 x2_1 ∧ v8 = .int .i64 x8_1 ∧ Aside0 (spec_trCycle.l0 kq l1 x2_1 x8_1 l0_0 = some (r1, r2)) ∧ Aside0 (kq ≤ k) ∧ Aside0 (w'.heap[gb251]? = some (.cells #[(.slice A0_0 l0_0.length c0_0)] 24 (0, 0))) ∧ Aside0 (Below w.heap.size w w'))
  case atStart => exact ⟨(a2), (0), (by first | rfl | (simp; done) | (simp [*]; done)), (by first | rfl | (simp; done) | (simp [*]; done)), H', ⟨Nat.le_refl _⟩, ⟨by (with_reducible repeat (first | refine blk_drewN ?_ _ | refine blk_drew ?_ | refine blk_alloc ?_ _)); exact BK251.out⟩, ⟨by repeat (first | (with_reducible first | exact HB.out | apply below_alloc | apply pw_below_drewN | apply below_drew1 | refine below_set ?_ GE251.out) | exact HB.out)⟩⟩
  case round =>
    clear H'
    try clear c1
    try clear p2
    obtain ⟨x2_1, x8_1, rfl, rfl, HA, HK1, BK251, HB⟩ := hrel
    cases gk with
    | zero => exact absurd HA.out (by simp [spec_trCycle.l0])
    | succ k1 =>
      have H := HA.out
      clear HA
      simp only [spec_trCycle.l0] at H
      by_cases c5 : x8_1 < (l0_0.length : Int)
      · rw [if_pos c5] at H
        have c5b0 : decide (x8_1 < (l0_0.length : Int)) = true := decide_eq_true c5
        clear c5
        replace H := Option.bind_eq_some_iff.mp H
        obtain ⟨t252, A60, H⟩ := H
        replace H : (if t252 < 0 then (some (([] : List Int), false)) else (spec_trCycle.l0 k1 l1 t252 (wrap64 (x8_1 + 1)) l0_0)) = some (r1, r2) := H
        have A6 := Aside0.mk A60
        clear A60
        by_cases c7 : t252 < 0
        · rw [if_pos c7] at H
          have c7b0 : decide (t252 < 0) = true := decide_eq_true c7
          clear c7
          simp only [Option.some.injEq, Prod.mk.injEq] at H
          obtain ⟨rfl, rfl⟩ := H
          have hcz8_0 : wr.cell? ⟨gb251, 0, none⟩ = some (.slice A0_0 l0_0.length c0_0) := (blk_cell BK251.out 0).trans rfl
          have hfz8_0 := blk_frozen BK251.out 0
          go_wp2_with (first | ((with_reducible refine gate_callee (f := 71) rfl ?_); refine goesL_ (some 21) rfl rfl Try.func71 (by kernel_rfl) rfl #[.agg #[.slice A0_0 l0_0.length c0_0], .slice A1 l1.length c1, .int .i64 x2_1] rfl (by (try simp only [List.map_toArray, List.map_cons, List.map_nil]); first | done | rfl | (simp only [List.length_drop, List.length_take]; rfl)) ?_; (with_reducible refine (spec_trNext.calls _ _ l0_0 _ _ l1 x2_1 t252 _ ?side1 ?side2 ?side3 ?side4 A6.out).mono ?_); (case side1 => repeat (first | exact (Kd.C_below HR0_0.out HB.out) | (with_reducible refine Kd.C_alloc ?_ _) | (with_reducible refine Kd.C_drewN ?_ _) | (with_reducible refine Kd.C_drew ?_))); (case side2 => exact HC0_0.out); (case side3 => repeat (first | exact (Kd.C_below HR1.out HB.out) | (with_reducible refine Kd.C_alloc ?_ _) | (with_reducible refine Kd.C_drewN ?_ _) | (with_reducible refine Kd.C_drew ?_))); (case side4 => exact HC1.out); rintro e w9 ⟨rfl, hb⟩; refine ⟨_, rfl, ?_⟩; have n0_ := Aside0.mk (blk_below (g := gb251) (o := .cells #[.slice A0_0 l0_0.length c0_0] 24 (0, 0)) (by (with_reducible repeat (first | refine blk_drewN ?_ _ | refine blk_drew ?_ | refine blk_alloc ?_ _)); exact BK251.out) hb); have n1_ := Aside0.mk (below_step (by repeat (first | (with_reducible first | exact HB.out | apply below_alloc | apply pw_below_drewN | apply below_drew1 | refine below_set ?_ GE251.out) | exact HB.out)) hb); clear BK251; clear HB; have BK251 := n0_; have HB := n1_; clear n0_ n1_; (try clear hb); (try clear hb2); (try clear hk); (try clear hi)))
          go_ret2
          exact ⟨_, by first | rfl | (simp [errW_none, errW_some] <;> rfl) | (simp [*, errW_none, errW_some] <;> rfl), by first | exact Kd.R_nil _ _ _ _ _ | exact Kd.N_nil _ _ _ _ _ | exact Kd.V_nil _ _ _ _ _ | exact Kd.Q_nil _ _ _ _ _ | exact Kd.S_nil _ _ _ _ _, by repeat (first | (with_reducible first | exact HB.out | apply below_alloc | apply pw_below_drewN | apply below_drew1 | refine below_set ?_ GE251.out) | exact HB.out)⟩
        · rw [if_neg c7] at H
          have c7b0 : decide (t252 < 0) = false := decide_eq_false c7
          clear c7
          have H' := Aside0.mk H
          clear H
          have hcz10_0 : wr.cell? ⟨gb251, 0, none⟩ = some (.slice A0_0 l0_0.length c0_0) := (blk_cell BK251.out 0).trans rfl
          have hfz10_0 := blk_frozen BK251.out 0
          go_wp2_with (first | ((with_reducible refine gate_callee (f := 71) rfl ?_); refine goesL_ (some 21) rfl rfl Try.func71 (by kernel_rfl) rfl #[.agg #[.slice A0_0 l0_0.length c0_0], .slice A1 l1.length c1, .int .i64 x2_1] rfl (by (try simp only [List.map_toArray, List.map_cons, List.map_nil]); first | done | rfl | (simp only [List.length_drop, List.length_take]; rfl)) ?_; (with_reducible refine (spec_trNext.calls _ _ l0_0 _ _ l1 x2_1 t252 _ ?side1 ?side2 ?side3 ?side4 A6.out).mono ?_); (case side1 => repeat (first | exact (Kd.C_below HR0_0.out HB.out) | (with_reducible refine Kd.C_alloc ?_ _) | (with_reducible refine Kd.C_drewN ?_ _) | (with_reducible refine Kd.C_drew ?_))); (case side2 => exact HC0_0.out); (case side3 => repeat (first | exact (Kd.C_below HR1.out HB.out) | (with_reducible refine Kd.C_alloc ?_ _) | (with_reducible refine Kd.C_drewN ?_ _) | (with_reducible refine Kd.C_drew ?_))); (case side4 => exact HC1.out); rintro e w11 ⟨rfl, hb⟩; refine ⟨_, rfl, ?_⟩; have n0_ := Aside0.mk (blk_below (g := gb251) (o := .cells #[.slice A0_0 l0_0.length c0_0] 24 (0, 0)) (by (with_reducible repeat (first | refine blk_drewN ?_ _ | refine blk_drew ?_ | refine blk_alloc ?_ _)); exact BK251.out) hb); have n1_ := Aside0.mk (below_step (by repeat (first | (with_reducible first | exact HB.out | apply below_alloc | apply pw_below_drewN | apply below_drew1 | refine below_set ?_ GE251.out) | exact HB.out)) hb); clear BK251; clear HB; have BK251 := n0_; have HB := n1_; clear n0_ n1_; (try clear hb); (try clear hb2); (try clear hk); (try clear hi)))
          go_roundg k1
          case measure => have := HK1.out; omega
          case rel => exact ⟨(t252), (wrap64 (x8_1 + 1)), (by first | rfl | (simp; done) | (simp [*]; done)), (by first | rfl | (simp; done) | (simp [*]; done)), H', ⟨by have := HK1.out; omega⟩, ⟨by (with_reducible repeat (first | refine blk_drewN ?_ _ | refine blk_drew ?_ | refine blk_alloc ?_ _)); exact BK251.out⟩, ⟨by repeat (first | (with_reducible first | exact HB.out | apply below_alloc | apply pw_below_drewN | apply below_drew1 | refine below_set ?_ GE251.out) | exact HB.out)⟩⟩
      · rw [if_neg c5] at H
        have c5b0 : decide (x8_1 < (l0_0.length : Int)) = false := decide_eq_false c5
        clear c5
        obtain ⟨y253, hy253⟩ : ∃ y_ : List Int, y_ = (([x2_1] : List Int)) := ⟨_, rfl⟩
        replace H : ((spec_trNext.f l0_0 l1 x2_1).bind fun t256 => (spec_trCycle.l1 k1 l1 x2_1 y253 t256 l0_0)) = some (r1, r2) := by first | (rw [hy253]; with_reducible exact H) | (have H2_ := (Option.bind_some _ _).symm.trans H; rw [hy253]; with_reducible exact H2_) | (have H2_ := (Option.bind_some _ _).symm.trans H; with_reducible exact H2_) | with_reducible exact H | (rw [hy253]; exact H) | exact H
        have Ny253 := Aside0.mk hy253
        clear hy253
        replace H := Option.bind_eq_some_iff.mp H
        obtain ⟨t256, A120, H⟩ := H
        replace H : (spec_trCycle.l1 k1 l1 x2_1 y253 t256 l0_0) = some (r1, r2) := H
        have A12 := Aside0.mk A120
        clear A120
        have H' := Aside0.mk H
        clear H
        have hcz13_0 : wr.cell? ⟨gb251, 0, none⟩ = some (.slice A0_0 l0_0.length c0_0) := (blk_cell BK251.out 0).trans rfl
        have hfz13_0 := blk_frozen BK251.out 0
        go_wp2_with (first | ((with_reducible refine gate_dst (N := 25) rfl ?_); refine Kd.R_lit (Kd.int .i64) _ 3 ?hg (N := 25) ?hd (xs := ([x2_1] : List Int)) (inner := [.int .i64 x2_1]) (ok := fun _ => True) (okp := fun _ => True) ?hr ?hp (fun _ hk => hk) trivial (Below.refl _ _) (Nat.le_refl _) (by simp) ?_; (case hd => rfl); (case hg => rfl); (case hr => first | (go_simp; done) | (go_simp; rfl)); (case hp => exact (Reps.one (show Kd.M (Kd.int .i64) _ _ _ x2_1 [.int .i64 x2_1] from rfl) (Reps.none _ _))); intro v254 w14 ho15 hb hg_ hnew_; clear hg_ hnew_; (first | rw [← Ny253.out] at ho15 | (simp only [Int.reduceToNat] at ho15; rw [← Ny253.out] at ho15)); have n0_ := Aside0.mk (Kd.R_lower ho15 (below_size (by repeat (first | (with_reducible first | exact HB.out | apply below_alloc | apply pw_below_drewN | apply below_drew1 | refine below_set ?_ GE251.out) | exact HB.out)))); have n1_ := Aside0.mk (blk_below (g := gb251) (o := .cells #[.slice A0_0 l0_0.length c0_0] 24 (0, 0)) (by (with_reducible repeat (first | refine blk_drewN ?_ _ | refine blk_drew ?_ | refine blk_alloc ?_ _)); exact BK251.out) hb); have n2_ := Aside0.mk (below_step (by repeat (first | (with_reducible first | exact HB.out | apply below_alloc | apply pw_below_drewN | apply below_drew1 | refine below_set ?_ GE251.out) | exact HB.out)) hb); clear BK251; clear HB; have HO255 := n0_; have BK251 := n1_; have HB := n2_; clear n0_ n1_ n2_; clear hb ho15; have hcz16_0 : w14.cell? ⟨gb251, 0, none⟩ = some (.slice A0_0 l0_0.length c0_0) := (blk_cell BK251.out 0).trans rfl; have hfz16_0 := blk_frozen BK251.out 0) | ((with_reducible refine gate_callee (f := 71) rfl ?_); refine goesL_ (some 29) rfl rfl Try.func71 (by kernel_rfl) rfl #[.agg #[.slice A0_0 l0_0.length c0_0], .slice A1 l1.length c1, .int .i64 x2_1] rfl (by (try simp only [List.map_toArray, List.map_cons, List.map_nil]); first | done | rfl | (simp only [List.length_drop, List.length_take]; rfl)) ?_; (with_reducible refine (spec_trNext.calls _ _ l0_0 _ _ l1 x2_1 t256 _ ?side1 ?side2 ?side3 ?side4 A12.out).mono ?_); (case side1 => repeat (first | exact (Kd.C_below HR0_0.out HB.out) | (with_reducible refine Kd.C_alloc ?_ _) | (with_reducible refine Kd.C_drewN ?_ _) | (with_reducible refine Kd.C_drew ?_))); (case side2 => exact HC0_0.out); (case side3 => repeat (first | exact (Kd.C_below HR1.out HB.out) | (with_reducible refine Kd.C_alloc ?_ _) | (with_reducible refine Kd.C_drewN ?_ _) | (with_reducible refine Kd.C_drew ?_))); (case side4 => exact HC1.out); rintro e w17 ⟨rfl, hb⟩; refine ⟨_, rfl, ?_⟩; have n0_ := Aside0.mk (Kd.R_below (by (with_reducible repeat (first | apply Kd.R_alloc | apply Kd.R_drewN | apply Kd.R_drew)); exact HO255.out) hb); have n1_ := Aside0.mk (blk_below (g := gb251) (o := .cells #[.slice A0_0 l0_0.length c0_0] 24 (0, 0)) (by (with_reducible repeat (first | refine blk_drewN ?_ _ | refine blk_drew ?_ | refine blk_alloc ?_ _)); exact BK251.out) hb); have n2_ := Aside0.mk (below_step (by repeat (first | (with_reducible first | exact HB.out | apply below_alloc | apply pw_below_drewN | apply below_drew1 | refine below_set ?_ GE251.out) | exact HB.out)) hb); clear HO255; clear BK251; clear HB; have HO255 := n0_; have BK251 := n1_; have HB := n2_; clear n0_ n1_ n2_; (try clear hb); (try clear hb2); (try clear hk); (try clear hi)))
        go_loopg [9, 10] k1 (fun kq v9 v10 w' => ∃ (x9_2 : List Int) (x10_2 : Int), v10 = .int .i64 x10_2 ∧ Aside0 (spec_trCycle.l1 kq l1 x2_1 x9_2 x10_2 l0_0 = some (r1, r2)) ∧ Aside0 (kq ≤ k1) ∧ Aside0 (Kd.R (Kd.int .i64) 3 w' w.heap.size (fun _ => True) v9 x9_2) ∧ Aside0 (w'.heap[gb251]? = some (.cells #[(.slice A0_0 l0_0.length c0_0)] 24 (0, 0))) ∧ Aside0 (Below w.heap.size w w'))
        case atStart => exact ⟨(y253), (t256), (by first | rfl | (simp; done) | (simp [*]; done)), H', ⟨Nat.le_refl _⟩, ⟨by (with_reducible repeat (first | apply Kd.R_alloc | apply Kd.R_drewN | apply Kd.R_drew)); exact HO255.out⟩, ⟨by (with_reducible repeat (first | refine blk_drewN ?_ _ | refine blk_drew ?_ | refine blk_alloc ?_ _)); exact BK251.out⟩, ⟨by repeat (first | (with_reducible first | exact HB.out | apply below_alloc | apply pw_below_drewN | apply below_drew1 | refine below_set ?_ GE251.out) | exact HB.out)⟩⟩
        case round =>
          clear H'
          try clear c1
          try clear p2
          try clear c5
          try clear c5b0
          try clear p6
          try clear c7
          try clear c7b0
          try clear hcz10_0
          try clear hcz13_0
          try clear hcz16_0
          try clear hcz8_0
          try clear hfz10_0
          try clear hfz13_0
          try clear hfz16_0
          try clear hfz8_0
          try clear p2
          obtain ⟨x9_2, x10_2, rfl, HA, HK2, HO_9, BK251, HB⟩ := hrel
          cases gk with
          | zero => exact absurd HA.out (by simp [spec_trCycle.l1])
          | succ k2 =>
            have H := HA.out
            clear HA
            simp only [spec_trCycle.l1] at H
            by_cases c18 : x10_2 = x2_1
            · rw [if_pos c18] at H
              have c18b0 : (x10_2 == x2_1) = true := beq_iff_eq.mpr c18
              have c18b1 : (x10_2 != x2_1) = false := bne_eq_false_iff_eq.mpr c18
              clear c18
              simp only [Option.some.injEq, Prod.mk.injEq] at H
              obtain ⟨rfl, rfl⟩ := H
              go_wp2
              go_ret2
              exact ⟨_, by first | rfl | (simp [errW_none, errW_some] <;> rfl) | (simp [*, errW_none, errW_some] <;> rfl), by (with_reducible repeat (first | apply Kd.R_alloc | apply Kd.R_drewN | apply Kd.R_drew)); exact HO_9.out, by repeat (first | (with_reducible first | exact HB.out | apply below_alloc | apply pw_below_drewN | apply below_drew1 | refine below_set ?_ GE251.out) | exact HB.out)⟩
            · rw [if_neg c18] at H
              have c18b0 : (x10_2 == x2_1) = false := beq_eq_false_iff_ne.mpr c18
              have c18b1 : (x10_2 != x2_1) = true := bne_iff_ne.mpr c18
              by_cases c19 : x9_2.length < 17592186044416
              · rw [if_pos c19] at H
                have LMc19 := Aside0.mk c19
                clear c19
                obtain ⟨y257, hy257⟩ : ∃ y_ : List Int, y_ = (x9_2 ++ [x10_2]) := ⟨_, rfl⟩
                replace H : ((spec_trNext.f l0_0 l1 x10_2).bind fun t260 => (spec_trCycle.l1 k2 l1 x2_1 y257 t260 l0_0)) = some (r1, r2) := by first | (rw [hy257]; with_reducible exact H) | (have H2_ := (Option.bind_some _ _).symm.trans H; rw [hy257]; with_reducible exact H2_) | (have H2_ := (Option.bind_some _ _).symm.trans H; with_reducible exact H2_) | with_reducible exact H | (rw [hy257]; exact H) | exact H
                have Ny257 := Aside0.mk hy257
                clear hy257
                replace H := Option.bind_eq_some_iff.mp H
                obtain ⟨t260, A200, H⟩ := H
                replace H : (spec_trCycle.l1 k2 l1 x2_1 y257 t260 l0_0) = some (r1, r2) := H
                have A20 := Aside0.mk A200
                clear A200
                have H' := Aside0.mk H
                clear H
                go_wp2_with (first | ((with_reducible refine gate_builtin (b := .append) (xs := #[.tmp 37, .tmp 39]) rfl ?_); at_builtin; refine Kd.R_append (Kd.int .i64) (w0 := w) w.heap.size rfl (.tmp 37) (.tmp 39) 31 3 (.int .i64 0) 8 rfl Try.underlying31 info3 rfl (by decide) (by omega) u9 x9_2 x10_2 [.int .i64 x10_2] (fun _ => True) (fun _ => False) rfl rfl ?aP (fun _ hk => hk.elim) ?aF ?aO ?aB ?aS ?aL ?_; (case aP => exact rfl); (case aB => exact (by repeat (first | (with_reducible first | exact HB.out | apply below_alloc | apply pw_below_drewN | apply below_drew1 | refine below_set ?_ GE251.out) | exact HB.out))); (case aF => exact (fun _ _ => trivial)); (case aO => exact (by (with_reducible repeat (first | apply Kd.R_alloc | apply Kd.R_drewN | apply Kd.R_drew)); first | exact HO_9.out | exact Kd.R_mono HO_9.out (fun _ hk => ⟨hk.2, hk.1⟩))); (case aS => exact (below_size (by repeat (first | (with_reducible first | exact HB.out | apply below_alloc | apply pw_below_drewN | apply below_drew1 | refine below_set ?_ GE251.out) | exact HB.out)))); (case aL => have := LMc19.out; omega); intro v258 w21 ho hb hg hat; rw [← Ny257.out] at ho; have n0_ := Aside0.mk (blk_grown (g := gb251) (o := .cells #[.slice A0_0 l0_0.length c0_0] 24 (0, 0)) (by (with_reducible repeat (first | refine blk_drewN ?_ _ | refine blk_drew ?_ | refine blk_alloc ?_ _)); exact BK251.out) hg (Kd.R_ne HO_9.out BK251.out (by decide))); have n1_ := Aside0.mk (hb); have n2_ := Aside0.mk (ho); clear BK251; clear HB; clear HO_9; have BK251 := n0_; have HB := n1_; have HO259 := n2_; clear n0_ n1_ n2_; clear ho hb hg hat; have hcz22_0 : w21.cell? ⟨gb251, 0, none⟩ = some (.slice A0_0 l0_0.length c0_0) := (blk_cell BK251.out 0).trans rfl; have hfz22_0 := blk_frozen BK251.out 0) | ((with_reducible refine gate_callee (f := 71) rfl ?_); refine goesL_ (some 36) rfl rfl Try.func71 (by kernel_rfl) rfl #[.agg #[.slice A0_0 l0_0.length c0_0], .slice A1 l1.length c1, .int .i64 x10_2] rfl (by (try simp only [List.map_toArray, List.map_cons, List.map_nil]); first | done | rfl | (simp only [List.length_drop, List.length_take]; rfl)) ?_; (with_reducible refine (spec_trNext.calls _ _ l0_0 _ _ l1 x10_2 t260 _ ?side1 ?side2 ?side3 ?side4 A20.out).mono ?_); (case side1 => repeat (first | exact (Kd.C_below HR0_0.out HB.out) | (with_reducible refine Kd.C_alloc ?_ _) | (with_reducible refine Kd.C_drewN ?_ _) | (with_reducible refine Kd.C_drew ?_))); (case side2 => exact HC0_0.out); (case side3 => repeat (first | exact (Kd.C_below HR1.out HB.out) | (with_reducible refine Kd.C_alloc ?_ _) | (with_reducible refine Kd.C_drewN ?_ _) | (with_reducible refine Kd.C_drew ?_))); (case side4 => exact HC1.out); rintro e w23 ⟨rfl, hb⟩; refine ⟨_, rfl, ?_⟩; have n0_ := Aside0.mk (Kd.R_below (by (with_reducible repeat (first | apply Kd.R_alloc | apply Kd.R_drewN | apply Kd.R_drew)); exact HO259.out) hb); have n1_ := Aside0.mk (blk_below (g := gb251) (o := .cells #[.slice A0_0 l0_0.length c0_0] 24 (0, 0)) (by (with_reducible repeat (first | refine blk_drewN ?_ _ | refine blk_drew ?_ | refine blk_alloc ?_ _)); exact BK251.out) hb); have n2_ := Aside0.mk (below_step (by repeat (first | (with_reducible first | exact HB.out | apply below_alloc | apply pw_below_drewN | apply below_drew1 | refine below_set ?_ GE251.out) | exact HB.out)) hb); clear HO259; clear BK251; clear HB; have HO259 := n0_; have BK251 := n1_; have HB := n2_; clear n0_ n1_ n2_; (try clear hb); (try clear hb2); (try clear hk); (try clear hi)))
                go_roundg k2
                case measure => have := HK1.out; have := HK2.out; omega
                case rel => exact ⟨(y257), (t260), (by first | rfl | (simp; done) | (simp [*]; done)), H', ⟨by have := HK1.out; have := HK2.out; omega⟩, ⟨by (with_reducible repeat (first | apply Kd.R_alloc | apply Kd.R_drewN | apply Kd.R_drew)); exact HO259.out⟩, ⟨by (with_reducible repeat (first | refine blk_drewN ?_ _ | refine blk_drew ?_ | refine blk_alloc ?_ _)); exact BK251.out⟩, ⟨by repeat (first | (with_reducible first | exact HB.out | apply below_alloc | apply pw_below_drewN | apply below_drew1 | refine below_set ?_ GE251.out) | exact HB.out)⟩⟩
              · rw [if_neg c19] at H
                exact absurd H (by simp)

end Go.Proofs.Ytcmfcleeohcgaaa.P
