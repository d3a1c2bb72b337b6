/- Merged texts of this session, for the law FnExactIsUnicycle. -/
import Derived.Test.YtnphoaecjeenjaaP0
import Derived.Test.YtnphoaecjeenjaaPlawstoIntS
import Derived.Test.YtnphoaecjeenjaaPlawseqIntS
import Derived.Test.YtnphoaecjeenjaaPimplIsUnicycle
import Derived.Test.YtnphoaecjeenjaaPspecIsUnicycle
import Derived.Test.YtnphoaecjeenjaaPlawsszGraph
import Derived.Test.YtnphoaecjeenjaaPlawstoGraph
import Derived.Test.YtnphoaecjeenjaaPlawseqGraph
import Derived.Test.YtnphoaecjeenjaaPlawsszWalk
import Derived.Test.YtnphoaecjeenjaaWMore
import Derived.WalkKit
import Derived.ProofKit
import Derived.OpenShut
import Derived.ShutString
import Derived.ChangeOld
import Derived.Below
import Derived.SizedLaws
import Derived.Deep.Matrix
import Derived.Lib.SmallJoins
import Derived.Test.YtnphoaecjeenjaaPspecgrGood
import Derived.Test.YtnphoaecjeenjaaPspecl1All
import Derived.Test.YtnphoaecjeenjaaPspecl1In
import Derived.Test.YtnphoaecjeenjaaPimplisGraph
namespace Go.Proofs.Ytnphoaecjeenjaa.P
open Go.RowKit Go.Proofs.YtnphoaecjeenjaaW.PrintWords Go.Proofs.YtnphoaecjeenjaaW.PrintLast Go.Proofs.YtnphoaecjeenjaaW.PrintMore
attribute [local go_sem] max2_int min2_int max_two min_two max_three min_three max_four min_four   -- for this text's walks alone
set_option linter.unusedVariables false
set_option linter.unusedSimpArgs false

/-! ### laws_toWalk: function 46 -/
def laws_toWalk.f (k : Nat) (l0_0 : List Int) (a0_1 : Int) : Option (List Int × Int) := (laws_toIntS.f k l0_0).bind fun t588 => (some (t588, a0_1))
theorem laws_toWalk.mono : ∀ a0 a1 k, LeO (laws_toWalk.f k a0 a1) (laws_toWalk.f (k + 1) a0 a1) := by
  intro a0 a1 k
  unfold laws_toWalk.f
  repeat' first
      | (with_reducible exact laws_toIntS.mono _ _)
      | (with_reducible exact LeO.refl _)
      | (with_reducible exact LeO.none _)
      | (with_reducible refine LeO.ite ?_ ?_)
      | (with_reducible refine LeO.bind ?_ (fun _ => ?_))
      | exact laws_toIntS.mono _ _
      | exact LeO.none _
      | refine LeO.ite ?_ ?_
      | refine LeO.bind ?_ (fun _ => ?_)
set_option maxHeartbeats 8000000 in
set_option maxRecDepth 100000 in
theorem laws_toWalk.calls (k : Nat) (A0_0 : Option Addr) (c0_0 : Nat) (l0_0 : List Int) (a0_1 : Int) (r1 : List Int) (r2 : Int) (w : World) (hr0_0 : Kd.C (Kd.int .i64) w A0_0 l0_0.length l0_0) (hc0_0 : l0_0.length ≤ c0_0) (h : laws_toWalk.f k l0_0 a0_1 = some (r1, r2)) :
    Calls Try.prog 46 #[.agg #[.slice A0_0 l0_0.length c0_0, .int .i64 a0_1]] w fun e w' => ∃ v0_ : Value, e = .returned (.agg #[v0_, .int .i64 r2]) ∧ Kd.R (Kd.int .i64) 3 w' w.heap.size (fun _ => True) v0_ r1 ∧ Below w.heap.size w w' := by
  have hu52 := Try.underlying52
  have hu55 := Try.underlying55
  have HR0_0 := Aside0.mk hr0_0
  have HC0_0 := Aside0.mk hc0_0
  clear hr0_0 hc0_0
  have HB := Aside0.mk (Below.refl w.heap.size w)
  have H : ((laws_toIntS.f k l0_0).bind fun t588 => (some (t588, a0_1))) = some (r1, r2) := h
  clear h
  replace H := Option.bind_eq_some_iff.mp H
  obtain ⟨t588, A20, H⟩ := H
  replace H : (some (t588, a0_1)) = some (r1, r2) := H
  have A2 := Aside0.mk A20
  clear A20
  simp only [Option.some.injEq, Prod.mk.injEq] at H
  obtain ⟨rfl, rfl⟩ := H
  go_enter Try.func46, Try.ntmps46
  go_wp2_with (first | ((with_reducible refine gate_dst (N := 1) rfl ?_); refine box_event ?hg (N := 1) ?hd (cs := #[.slice A0_0 l0_0.length c0_0, .int .i64 a0_1]) (t := 52) ?hr ?_; (case hd => rfl); (case hg => rfl); (case hr => first | (go_simp; done) | (go_simp; rfl)); intro gb585 hg w3 hbox hb; have n0_ := Aside0.mk (below_step (by repeat (first | (with_reducible first | exact HB.out | apply below_alloc | apply pw_below_drewN | apply below_drew1) | exact HB.out)) hb); have n1_ := Aside0.mk (hbox); have n2_ := Aside0.mk ((by rw [hg]; exact (below_size (by repeat (first | (with_reducible first | exact HB.out | apply below_alloc | apply pw_below_drewN | apply below_drew1) | exact HB.out))) : w.heap.size ≤ gb585)); have n3_ := Aside0.mk ((by rw [hg]; exact (below_size (by repeat (first | (with_reducible first | exact HB.out | apply below_alloc | apply pw_below_drewN | apply below_drew1) | exact HB.out))) : w.heap.size ≤ gb585)); clear HB; have HB := n0_; have BK585 := n1_; have GW585 := n2_; have GE585 := n3_; clear n0_ n1_ n2_ n3_; clear hb hbox hg) | ((with_reducible refine gate_dst (N := 2) rfl ?_); refine box_event ?hg (N := 2) ?hd (cs := #[.slice none 0 0, .int .i64 0]) (t := 55) ?hr ?_; (case hd => rfl); (case hg => rfl); (case hr => first | (go_simp; done) | (go_simp; rfl)); intro gb586 hg w4 hbox hb; have n0_ := Aside0.mk (blk_below (g := gb585) (o := .cells #[.slice A0_0 l0_0.length c0_0, .int .i64 a0_1] 52 (0, 0)) (by (with_reducible repeat (first | refine blk_drewN ?_ _ | refine blk_drew ?_ | refine blk_alloc ?_ _)); exact BK585.out) hb); have n1_ := Aside0.mk (below_step (by repeat (first | (with_reducible first | exact HB.out | apply below_alloc | apply pw_below_drewN | apply below_drew1 | refine below_set ?_ GE585.out) | exact HB.out)) hb); have n2_ := Aside0.mk (hbox); have n3_ := Aside0.mk ((by rw [hg]; exact (below_size (by repeat (first | (with_reducible first | exact HB.out | apply below_alloc | apply pw_below_drewN | apply below_drew1 | refine below_set ?_ GE585.out) | exact HB.out))) : w.heap.size ≤ gb586)); have n4_ := Aside0.mk ((by rw [hg]; exact (below_size (by repeat (first | (with_reducible first | exact HB.out | apply below_alloc | apply pw_below_drewN | apply below_drew1 | refine below_set ?_ GE585.out) | exact HB.out))) : w.heap.size ≤ gb586)); have n5_ := Aside0.mk ((by rw [hg]; exact Nat.ne_of_lt (blk_lt (g := gb585) (o := .cells #[.slice A0_0 l0_0.length c0_0, .int .i64 a0_1] 52 (0, 0)) (by (with_reducible repeat (first | refine blk_drewN ?_ _ | refine blk_drew ?_ | refine blk_alloc ?_ _)); exact BK585.out)) : gb585 ≠ gb586)); have n6_ := Aside0.mk ((by rw [hg]; exact Nat.ne_of_gt (blk_lt (g := gb585) (o := .cells #[.slice A0_0 l0_0.length c0_0, .int .i64 a0_1] 52 (0, 0)) (by (with_reducible repeat (first | refine blk_drewN ?_ _ | refine blk_drew ?_ | refine blk_alloc ?_ _)); exact BK585.out)) : gb586 ≠ gb585)); clear BK585; clear HB; have BK585 := n0_; have HB := n1_; have BK586 := n2_; have GW586 := n3_; have GE586 := n4_; have NB585_586 := n5_; have NB586_585 := n6_; clear n0_ n1_ n2_ n3_ n4_ n5_ n6_; clear hb hbox hg) | ((with_reducible refine gate_dst (N := 3) rfl ?_); refine box_event ?hg (N := 3) ?hd (cs := #[.slice none 0 0, .int .i64 0]) (t := 55) ?hr ?_; (case hd => rfl); (case hg => rfl); (case hr => first | (go_simp; done) | (go_simp; rfl)); intro gb587 hg w5 hbox hb; have n0_ := Aside0.mk (blk_below (g := gb585) (o := .cells #[.slice A0_0 l0_0.length c0_0, .int .i64 a0_1] 52 (0, 0)) (by (with_reducible repeat (first | refine blk_drewN ?_ _ | refine blk_drew ?_ | refine blk_alloc ?_ _)); exact BK585.out) hb); have n1_ := Aside0.mk (blk_below (g := gb586) (o := .cells #[.slice none 0 0, .int .i64 0] 55 (0, 0)) (by (with_reducible repeat (first | refine blk_drewN ?_ _ | refine blk_drew ?_ | refine blk_alloc ?_ _)); exact BK586.out) hb); have n2_ := Aside0.mk (below_step (by repeat (first | (with_reducible first | exact HB.out | apply below_alloc | apply pw_below_drewN | apply below_drew1 | refine below_set ?_ GE585.out | refine below_set ?_ GE586.out) | exact HB.out)) hb); have n3_ := Aside0.mk (hbox); have n4_ := Aside0.mk ((by rw [hg]; exact (below_size (by repeat (first | (with_reducible first | exact HB.out | apply below_alloc | apply pw_below_drewN | apply below_drew1 | refine below_set ?_ GE585.out | refine below_set ?_ GE586.out) | exact HB.out))) : w.heap.size ≤ gb587)); have n5_ := Aside0.mk ((by rw [hg]; exact (below_size (by repeat (first | (with_reducible first | exact HB.out | apply below_alloc | apply pw_below_drewN | apply below_drew1 | refine below_set ?_ GE585.out | refine below_set ?_ GE586.out) | exact HB.out))) : w.heap.size ≤ gb587)); have n6_ := Aside0.mk ((by rw [hg]; exact Nat.ne_of_lt (blk_lt (g := gb585) (o := .cells #[.slice A0_0 l0_0.length c0_0, .int .i64 a0_1] 52 (0, 0)) (by (with_reducible repeat (first | refine blk_drewN ?_ _ | refine blk_drew ?_ | refine blk_alloc ?_ _)); exact BK585.out)) : gb585 ≠ gb587)); have n7_ := Aside0.mk ((by rw [hg]; exact Nat.ne_of_gt (blk_lt (g := gb585) (o := .cells #[.slice A0_0 l0_0.length c0_0, .int .i64 a0_1] 52 (0, 0)) (by (with_reducible repeat (first | refine blk_drewN ?_ _ | refine blk_drew ?_ | refine blk_alloc ?_ _)); exact BK585.out)) : gb587 ≠ gb585)); have n8_ := Aside0.mk ((by rw [hg]; exact Nat.ne_of_lt (blk_lt (g := gb586) (o := .cells #[.slice none 0 0, .int .i64 0] 55 (0, 0)) (by (with_reducible repeat (first | refine blk_drewN ?_ _ | refine blk_drew ?_ | refine blk_alloc ?_ _)); exact BK586.out)) : gb586 ≠ gb587)); have n9_ := Aside0.mk ((by rw [hg]; exact Nat.ne_of_gt (blk_lt (g := gb586) (o := .cells #[.slice none 0 0, .int .i64 0] 55 (0, 0)) (by (with_reducible repeat (first | refine blk_drewN ?_ _ | refine blk_drew ?_ | refine blk_alloc ?_ _)); exact BK586.out)) : gb587 ≠ gb586)); clear BK585; clear BK586; clear HB; have BK585 := n0_; have BK586 := n1_; have HB := n2_; have BK587 := n3_; have GW587 := n4_; have GE587 := n5_; have NB585_587 := n6_; have NB587_585 := n7_; have NB586_587 := n8_; have NB587_586 := n9_; clear n0_ n1_ n2_ n3_ n4_ n5_ n6_ n7_ n8_ n9_; clear hb hbox hg; have hnb6 := NB585_586.out; have hnc6 := NB586_585.out; have hnb7 := NB585_587.out; have hnc7 := NB587_585.out; have hcz8_0 : w5.cell? ⟨gb585, 0, none⟩ = some (.slice A0_0 l0_0.length c0_0) := (blk_cell BK585.out 0).trans rfl; have hcz8_1 : w5.cell? ⟨gb585, 1, none⟩ = some (.int .i64 a0_1) := (blk_cell BK585.out 1).trans rfl; have hfz8_0 := blk_frozen BK585.out 0; have hfz8_1 := blk_frozen BK585.out 1) | ((with_reducible refine gate_callee (f := 25) rfl ?_); refine goesL_ (some 6) rfl rfl Try.func25 (by kernel_rfl) rfl #[.slice A0_0 l0_0.length c0_0] rfl (by (try simp only [List.map_toArray, List.map_cons, List.map_nil]); first | done | rfl | (simp only [List.length_drop, List.length_take]; rfl)) ?_; (with_reducible refine (laws_toIntS.calls k _ _ l0_0 t588 _ ?side1 ?side2 A2.out).mono ?_); (case side1 => repeat (first | exact (Kd.C_below HR0_0.out HB.out) | (with_reducible refine Kd.C_alloc ?_ _) | (with_reducible refine Kd.C_drewN ?_ _) | (with_reducible refine Kd.C_drew ?_))); (case side2 => exact HC0_0.out); rintro e w9 ⟨v589, rfl, ho0, hb⟩; refine ⟨_, rfl, ?_⟩; have n0_ := Aside0.mk (Kd.R_lower ho0 (below_size (by repeat (first | (with_reducible first | exact HB.out | apply below_alloc | apply pw_below_drewN | apply below_drew1 | refine below_set ?_ GE585.out | refine below_set ?_ GE586.out | refine below_set ?_ GE587.out) | exact HB.out)))); have n1_ := Aside0.mk (blk_below (g := gb585) (o := .cells #[.slice A0_0 l0_0.length c0_0, .int .i64 a0_1] 52 (0, 0)) (by (with_reducible repeat (first | refine blk_drewN ?_ _ | refine blk_drew ?_ | refine blk_alloc ?_ _)); exact BK585.out) hb); have n2_ := Aside0.mk (blk_below (g := gb586) (o := .cells #[.slice none 0 0, .int .i64 0] 55 (0, 0)) (by (with_reducible repeat (first | refine blk_drewN ?_ _ | refine blk_drew ?_ | refine blk_alloc ?_ _)); exact BK586.out) hb); have n3_ := Aside0.mk (blk_below (g := gb587) (o := .cells #[.slice none 0 0, .int .i64 0] 55 (0, 0)) (by (with_reducible repeat (first | refine blk_drewN ?_ _ | refine blk_drew ?_ | refine blk_alloc ?_ _)); exact BK587.out) hb); have n4_ := Aside0.mk (below_step (by repeat (first | (with_reducible first | exact HB.out | apply below_alloc | apply pw_below_drewN | apply below_drew1 | refine below_set ?_ GE585.out | refine below_set ?_ GE586.out | refine below_set ?_ GE587.out) | exact HB.out)) hb); clear BK585; clear BK586; clear BK587; clear HB; have HO590 := n0_; have BK585 := n1_; have BK586 := n2_; have BK587 := n3_; have HB := n4_; clear n0_ n1_ n2_ n3_ n4_; (try clear hb); (try clear hb2); (try clear hk); (try clear hi); (try clear ho0); obtain ⟨Ao10, co10, eo10⟩ := Kd.R_slice HO590.out; subst eo10; have hnb11 := NB587_586.out; have hnc11 := NB586_587.out; have hcz12_0 : w9.cell? ⟨gb587, 0, none⟩ = some (.slice none 0 0) := (blk_cell BK587.out 0).trans rfl; have hcz12_1 : w9.cell? ⟨gb587, 1, none⟩ = some (.int .i64 0) := (blk_cell BK587.out 1).trans rfl; have hfz12_0 := blk_frozen BK587.out 0; have hfz12_1 := blk_frozen BK587.out 1; have hcz13_0 : w9.cell? ⟨gb585, 0, none⟩ = some (.slice A0_0 l0_0.length c0_0) := (blk_cell BK585.out 0).trans rfl; have hcz13_1 : w9.cell? ⟨gb585, 1, none⟩ = some (.int .i64 a0_1) := (blk_cell BK585.out 1).trans rfl; have hfz13_0 := blk_frozen BK585.out 0; have hfz13_1 := blk_frozen BK585.out 1; have hcz14_0 : w9.cell? ⟨gb586, 0, none⟩ = some (.slice none 0 0) := (blk_cell BK586.out 0).trans rfl; have hcz14_1 : w9.cell? ⟨gb586, 1, none⟩ = some (.int .i64 0) := (blk_cell BK586.out 1).trans rfl; have hfz14_0 := blk_frozen BK586.out 0; have hfz14_1 := blk_frozen BK586.out 1))
  refine bodyPost_ret (results_cell_row rfl _ _ gb586 55 #[.slice Ao10 t588.length co10, .int .i64 a0_1] (0, 0) _ rfl (by (with_reducible repeat (first | refine blk_drewN ?_ _ | refine blk_drew ?_ | refine blk_alloc ?_ _)); refine blk_put (cs := #[.slice Ao10 t588.length co10, .int .i64 0]) ?_ 1 _ rfl; (with_reducible repeat (first | refine blk_drewN ?_ _ | refine blk_drew ?_ | refine blk_alloc ?_ _)); refine blk_put (cs := #[.slice none 0 0, .int .i64 0]) ?_ 0 _ rfl; (with_reducible repeat (first | refine blk_drewN ?_ _ | refine blk_drew ?_ | refine blk_alloc ?_ _)); refine blk_far ?_ NB586_587.out _; (with_reducible repeat (first | refine blk_drewN ?_ _ | refine blk_drew ?_ | refine blk_alloc ?_ _)); refine blk_far ?_ NB586_587.out _; (with_reducible repeat (first | refine blk_drewN ?_ _ | refine blk_drew ?_ | refine blk_alloc ?_ _)); exact BK586.out) Try.underlying55 rfl (by kernel_rfl)) rfl ?_
  exact ⟨_, by first | rfl | (simp [errW_none, errW_some] <;> rfl) | (simp [*, errW_none, errW_some] <;> rfl), by (with_reducible repeat (first | apply Kd.R_alloc | apply Kd.R_drewN | apply Kd.R_drew)); exact Kd.R_mono (Kd.R_far (p := ⟨gb586, 1, none⟩) (Kd.R_far (p := ⟨gb586, 0, none⟩) (Kd.R_far (p := ⟨gb587, 1, none⟩) (Kd.R_far (p := ⟨gb587, 0, none⟩) (Kd.R_types (Kd.R_types HO590.out BK587.out (by decide)) BK586.out (by decide)) (fun _ hk => hk.1.2) (.slice Ao10 t588.length co10)) (fun _ hk => hk.1.2) (.int .i64 a0_1)) (fun _ hk => hk.2) (.slice Ao10 t588.length co10)) (fun _ hk => hk.2) (.int .i64 a0_1)) (fun _ hk => trivial), by repeat (first | (with_reducible first | exact HB.out | apply below_alloc | apply pw_below_drewN | apply below_drew1 | refine below_set ?_ GE585.out | refine below_set ?_ GE586.out | refine below_set ?_ GE587.out) | exact HB.out)⟩

end Go.Proofs.Ytnphoaecjeenjaa.P
namespace Go.Proofs.Ytnphoaecjeenjaa.P
open Go.RowKit Go.Proofs.YtnphoaecjeenjaaW.PrintWords Go.Proofs.YtnphoaecjeenjaaW.PrintLast Go.Proofs.YtnphoaecjeenjaaW.PrintMore
attribute [local go_sem] max2_int min2_int max_two min_two max_three min_three max_four min_four   -- for this text's walks alone
set_option linter.unusedVariables false
set_option linter.unusedSimpArgs false

/-! ### laws_eqWalk: function 48 -/
def laws_eqWalk.f (k : Nat) (l0_0 : List Int) (a0_1 : Int) (l1_0 : List Int) (a1_1 : Int) : Option (Bool) := (laws_eqIntS.f k l0_0 l1_0).bind fun t593 => (if t593 = true then (if a0_1 = a1_1 then (some true) else (some false)) else (some false))
theorem laws_eqWalk.mono : ∀ a0 a1 a2 a3 k, LeO (laws_eqWalk.f k a0 a1 a2 a3) (laws_eqWalk.f (k + 1) a0 a1 a2 a3) := by
  intro a0 a1 a2 a3 k
  unfold laws_eqWalk.f
  repeat' first
      | (with_reducible exact laws_eqIntS.mono _ _ _)
      | (with_reducible exact LeO.refl _)
      | (with_reducible exact LeO.none _)
      | (with_reducible refine LeO.ite ?_ ?_)
      | (with_reducible refine LeO.bind ?_ (fun _ => ?_))
      | exact laws_eqIntS.mono _ _ _
      | exact LeO.none _
      | refine LeO.ite ?_ ?_
      | refine LeO.bind ?_ (fun _ => ?_)
set_option maxHeartbeats 8000000 in
set_option maxRecDepth 100000 in
theorem laws_eqWalk.calls (k : Nat) (A0_0 : Option Addr) (c0_0 : Nat) (l0_0 : List Int) (a0_1 : Int) (A1_0 : Option Addr) (c1_0 : Nat) (l1_0 : List Int) (a1_1 : Int) (r : Bool) (w : World) (hr0_0 : Kd.C (Kd.int .i64) w A0_0 l0_0.length l0_0) (hc0_0 : l0_0.length ≤ c0_0) (hr1_0 : Kd.C (Kd.int .i64) w A1_0 l1_0.length l1_0) (hc1_0 : l1_0.length ≤ c1_0) (h : laws_eqWalk.f k l0_0 a0_1 l1_0 a1_1 = some r) :
    Calls Try.prog 48 #[.agg #[.slice A0_0 l0_0.length c0_0, .int .i64 a0_1], .agg #[.slice A1_0 l1_0.length c1_0, .int .i64 a1_1]] w fun e w' => e = .returned (.bool r) ∧ Below w.heap.size w w' := by
  have hu55 := Try.underlying55
  have HR0_0 := Aside0.mk hr0_0
  have HC0_0 := Aside0.mk hc0_0
  clear hr0_0 hc0_0
  have HR1_0 := Aside0.mk hr1_0
  have HC1_0 := Aside0.mk hc1_0
  clear hr1_0 hc1_0
  have HB := Aside0.mk (Below.refl w.heap.size w)
  have H : ((laws_eqIntS.f k l0_0 l1_0).bind fun t593 => (if t593 = true then (if a0_1 = a1_1 then (some true) else (some false)) else (some false))) = some r := h
  clear h
  replace H := Option.bind_eq_some_iff.mp H
  obtain ⟨t593, A30, H⟩ := H
  replace H : (if t593 = true then (if a0_1 = a1_1 then (some true) else (some false)) else (some false)) = some r := H
  have A3 := Aside0.mk A30
  clear A30
  by_cases c4 : t593 = true
  · subst c4
    have H1 : (if a0_1 = a1_1 then (some true) else (some false)) = some r := by rw [if_pos rfl] at H; exact H
    clear H
    have H := H1
    clear H1
    by_cases c5 : a0_1 = a1_1
    · rw [if_pos c5] at H
      have c5b0 : (a0_1 == a1_1) = true := beq_iff_eq.mpr c5
      have c5b1 : (a0_1 != a1_1) = false := bne_eq_false_iff_eq.mpr c5
      clear c5
      obtain rfl := Option.some.inj H
      go_enter Try.func48, Try.ntmps48
      go_wp2_with (first | ((with_reducible refine gate_dst (N := 2) rfl ?_); refine box_event ?hg (N := 2) ?hd (cs := #[.slice A0_0 l0_0.length c0_0, .int .i64 a0_1]) (t := 55) ?hr ?_; (case hd => rfl); (case hg => rfl); (case hr => first | (go_simp; done) | (go_simp; rfl)); intro gb591 hg w6 hbox hb; have n0_ := Aside0.mk (below_step (by repeat (first | (with_reducible first | exact HB.out | apply below_alloc | apply pw_below_drewN | apply below_drew1) | exact HB.out)) hb); have n1_ := Aside0.mk (hbox); have n2_ := Aside0.mk ((by rw [hg]; exact (below_size (by repeat (first | (with_reducible first | exact HB.out | apply below_alloc | apply pw_below_drewN | apply below_drew1) | exact HB.out))) : w.heap.size ≤ gb591)); have n3_ := Aside0.mk ((by rw [hg]; exact (below_size (by repeat (first | (with_reducible first | exact HB.out | apply below_alloc | apply pw_below_drewN | apply below_drew1) | exact HB.out))) : w.heap.size ≤ gb591)); clear HB; have HB := n0_; have BK591 := n1_; have GW591 := n2_; have GE591 := n3_; clear n0_ n1_ n2_ n3_; clear hb hbox hg) | ((with_reducible refine gate_dst (N := 3) rfl ?_); refine box_event ?hg (N := 3) ?hd (cs := #[.slice A1_0 l1_0.length c1_0, .int .i64 a1_1]) (t := 55) ?hr ?_; (case hd => rfl); (case hg => rfl); (case hr => first | (go_simp; done) | (go_simp; rfl)); intro gb592 hg w7 hbox hb; have n0_ := Aside0.mk (blk_below (g := gb591) (o := .cells #[.slice A0_0 l0_0.length c0_0, .int .i64 a0_1] 55 (0, 0)) (by (with_reducible repeat (first | refine blk_drewN ?_ _ | refine blk_drew ?_ | refine blk_alloc ?_ _)); exact BK591.out) hb); have n1_ := Aside0.mk (below_step (by repeat (first | (with_reducible first | exact HB.out | apply below_alloc | apply pw_below_drewN | apply below_drew1 | refine below_set ?_ GE591.out) | exact HB.out)) hb); have n2_ := Aside0.mk (hbox); have n3_ := Aside0.mk ((by rw [hg]; exact (below_size (by repeat (first | (with_reducible first | exact HB.out | apply below_alloc | apply pw_below_drewN | apply below_drew1 | refine below_set ?_ GE591.out) | exact HB.out))) : w.heap.size ≤ gb592)); have n4_ := Aside0.mk ((by rw [hg]; exact (below_size (by repeat (first | (with_reducible first | exact HB.out | apply below_alloc | apply pw_below_drewN | apply below_drew1 | refine below_set ?_ GE591.out) | exact HB.out))) : w.heap.size ≤ gb592)); have n5_ := Aside0.mk ((by rw [hg]; exact Nat.ne_of_lt (blk_lt (g := gb591) (o := .cells #[.slice A0_0 l0_0.length c0_0, .int .i64 a0_1] 55 (0, 0)) (by (with_reducible repeat (first | refine blk_drewN ?_ _ | refine blk_drew ?_ | refine blk_alloc ?_ _)); exact BK591.out)) : gb591 ≠ gb592)); have n6_ := Aside0.mk ((by rw [hg]; exact Nat.ne_of_gt (blk_lt (g := gb591) (o := .cells #[.slice A0_0 l0_0.length c0_0, .int .i64 a0_1] 55 (0, 0)) (by (with_reducible repeat (first | refine blk_drewN ?_ _ | refine blk_drew ?_ | refine blk_alloc ?_ _)); exact BK591.out)) : gb592 ≠ gb591)); clear BK591; clear HB; have BK591 := n0_; have HB := n1_; have BK592 := n2_; have GW592 := n3_; have GE592 := n4_; have NB591_592 := n5_; have NB592_591 := n6_; clear n0_ n1_ n2_ n3_ n4_ n5_ n6_; clear hb hbox hg; have hnb8 := NB591_592.out; have hnc8 := NB592_591.out; have hcz9_0 : w7.cell? ⟨gb591, 0, none⟩ = some (.slice A0_0 l0_0.length c0_0) := (blk_cell BK591.out 0).trans rfl; have hcz9_1 : w7.cell? ⟨gb591, 1, none⟩ = some (.int .i64 a0_1) := (blk_cell BK591.out 1).trans rfl; have hfz9_0 := blk_frozen BK591.out 0; have hfz9_1 := blk_frozen BK591.out 1; have hcz10_0 : w7.cell? ⟨gb592, 0, none⟩ = some (.slice A1_0 l1_0.length c1_0) := (blk_cell BK592.out 0).trans rfl; have hcz10_1 : w7.cell? ⟨gb592, 1, none⟩ = some (.int .i64 a1_1) := (blk_cell BK592.out 1).trans rfl; have hfz10_0 := blk_frozen BK592.out 0; have hfz10_1 := blk_frozen BK592.out 1) | ((with_reducible refine gate_callee (f := 27) rfl ?_); refine goesL_ (some 9) rfl rfl Try.func27 (by kernel_rfl) rfl #[.slice A0_0 l0_0.length c0_0, .slice A1_0 l1_0.length c1_0] rfl (by (try simp only [List.map_toArray, List.map_cons, List.map_nil]); first | done | rfl | (simp only [List.length_drop, List.length_take]; rfl)) ?_; (with_reducible refine (laws_eqIntS.calls k _ _ l0_0 _ _ l1_0 true _ ?side1 ?side2 ?side3 ?side4 A3.out).mono ?_); (case side1 => repeat (first | exact (Kd.C_below HR0_0.out HB.out) | (with_reducible refine Kd.C_alloc ?_ _) | (with_reducible refine Kd.C_drewN ?_ _) | (with_reducible refine Kd.C_drew ?_))); (case side2 => exact HC0_0.out); (case side3 => repeat (first | exact (Kd.C_below HR1_0.out HB.out) | (with_reducible refine Kd.C_alloc ?_ _) | (with_reducible refine Kd.C_drewN ?_ _) | (with_reducible refine Kd.C_drew ?_))); (case side4 => exact HC1_0.out); rintro e w' ⟨rfl, ⟨nd, rfl⟩⟩; refine ⟨_, rfl, ?_⟩))
      go_ret
      exact ⟨by first | rfl | (simp [errW_none, errW_some] <;> rfl) | (simp [*, errW_none, errW_some] <;> rfl), by repeat (first | (with_reducible first | exact HB.out | apply below_alloc | apply pw_below_drewN | apply below_drew1 | refine below_set ?_ GE591.out | refine below_set ?_ GE592.out) | exact HB.out)⟩
    · rw [if_neg c5] at H
      have c5b0 : (a0_1 == a1_1) = false := beq_eq_false_iff_ne.mpr c5
      have c5b1 : (a0_1 != a1_1) = true := bne_iff_ne.mpr c5
      obtain rfl := Option.some.inj H
      go_enter Try.func48, Try.ntmps48
      go_wp2_with (first | ((with_reducible refine gate_dst (N := 2) rfl ?_); refine box_event ?hg (N := 2) ?hd (cs := #[.slice A0_0 l0_0.length c0_0, .int .i64 a0_1]) (t := 55) ?hr ?_; (case hd => rfl); (case hg => rfl); (case hr => first | (go_simp; done) | (go_simp; rfl)); intro gb591 hg w11 hbox hb; have n0_ := Aside0.mk (below_step (by repeat (first | (with_reducible first | exact HB.out | apply below_alloc | apply pw_below_drewN | apply below_drew1) | exact HB.out)) hb); have n1_ := Aside0.mk (hbox); have n2_ := Aside0.mk ((by rw [hg]; exact (below_size (by repeat (first | (with_reducible first | exact HB.out | apply below_alloc | apply pw_below_drewN | apply below_drew1) | exact HB.out))) : w.heap.size ≤ gb591)); have n3_ := Aside0.mk ((by rw [hg]; exact (below_size (by repeat (first | (with_reducible first | exact HB.out | apply below_alloc | apply pw_below_drewN | apply below_drew1) | exact HB.out))) : w.heap.size ≤ gb591)); clear HB; have HB := n0_; have BK591 := n1_; have GW591 := n2_; have GE591 := n3_; clear n0_ n1_ n2_ n3_; clear hb hbox hg) | ((with_reducible refine gate_dst (N := 3) rfl ?_); refine box_event ?hg (N := 3) ?hd (cs := #[.slice A1_0 l1_0.length c1_0, .int .i64 a1_1]) (t := 55) ?hr ?_; (case hd => rfl); (case hg => rfl); (case hr => first | (go_simp; done) | (go_simp; rfl)); intro gb592 hg w12 hbox hb; have n0_ := Aside0.mk (blk_below (g := gb591) (o := .cells #[.slice A0_0 l0_0.length c0_0, .int .i64 a0_1] 55 (0, 0)) (by (with_reducible repeat (first | refine blk_drewN ?_ _ | refine blk_drew ?_ | refine blk_alloc ?_ _)); exact BK591.out) hb); have n1_ := Aside0.mk (below_step (by repeat (first | (with_reducible first | exact HB.out | apply below_alloc | apply pw_below_drewN | apply below_drew1 | refine below_set ?_ GE591.out) | exact HB.out)) hb); have n2_ := Aside0.mk (hbox); have n3_ := Aside0.mk ((by rw [hg]; exact (below_size (by repeat (first | (with_reducible first | exact HB.out | apply below_alloc | apply pw_below_drewN | apply below_drew1 | refine below_set ?_ GE591.out) | exact HB.out))) : w.heap.size ≤ gb592)); have n4_ := Aside0.mk ((by rw [hg]; exact (below_size (by repeat (first | (with_reducible first | exact HB.out | apply below_alloc | apply pw_below_drewN | apply below_drew1 | refine below_set ?_ GE591.out) | exact HB.out))) : w.heap.size ≤ gb592)); have n5_ := Aside0.mk ((by rw [hg]; exact Nat.ne_of_lt (blk_lt (g := gb591) (o := .cells #[.slice A0_0 l0_0.length c0_0, .int .i64 a0_1] 55 (0, 0)) (by (with_reducible repeat (first | refine blk_drewN ?_ _ | refine blk_drew ?_ | refine blk_alloc ?_ _)); exact BK591.out)) : gb591 ≠ gb592)); have n6_ := Aside0.mk ((by rw [hg]; exact Nat.ne_of_gt (blk_lt (g := gb591) (o := .cells #[.slice A0_0 l0_0.length c0_0, .int .i64 a0_1] 55 (0, 0)) (by (with_reducible repeat (first | refine blk_drewN ?_ _ | refine blk_drew ?_ | refine blk_alloc ?_ _)); exact BK591.out)) : gb592 ≠ gb591)); clear BK591; clear HB; have BK591 := n0_; have HB := n1_; have BK592 := n2_; have GW592 := n3_; have GE592 := n4_; have NB591_592 := n5_; have NB592_591 := n6_; clear n0_ n1_ n2_ n3_ n4_ n5_ n6_; clear hb hbox hg; have hnb13 := NB591_592.out; have hnc13 := NB592_591.out; have hcz14_0 : w12.cell? ⟨gb591, 0, none⟩ = some (.slice A0_0 l0_0.length c0_0) := (blk_cell BK591.out 0).trans rfl; have hcz14_1 : w12.cell? ⟨gb591, 1, none⟩ = some (.int .i64 a0_1) := (blk_cell BK591.out 1).trans rfl; have hfz14_0 := blk_frozen BK591.out 0; have hfz14_1 := blk_frozen BK591.out 1; have hcz15_0 : w12.cell? ⟨gb592, 0, none⟩ = some (.slice A1_0 l1_0.length c1_0) := (blk_cell BK592.out 0).trans rfl; have hcz15_1 : w12.cell? ⟨gb592, 1, none⟩ = some (.int .i64 a1_1) := (blk_cell BK592.out 1).trans rfl; have hfz15_0 := blk_frozen BK592.out 0; have hfz15_1 := blk_frozen BK592.out 1) | ((with_reducible refine gate_callee (f := 27) rfl ?_); refine goesL_ (some 9) rfl rfl Try.func27 (by kernel_rfl) rfl #[.slice A0_0 l0_0.length c0_0, .slice A1_0 l1_0.length c1_0] rfl (by (try simp only [List.map_toArray, List.map_cons, List.map_nil]); first | done | rfl | (simp only [List.length_drop, List.length_take]; rfl)) ?_; (with_reducible refine (laws_eqIntS.calls k _ _ l0_0 _ _ l1_0 true _ ?side1 ?side2 ?side3 ?side4 A3.out).mono ?_); (case side1 => repeat (first | exact (Kd.C_below HR0_0.out HB.out) | (with_reducible refine Kd.C_alloc ?_ _) | (with_reducible refine Kd.C_drewN ?_ _) | (with_reducible refine Kd.C_drew ?_))); (case side2 => exact HC0_0.out); (case side3 => repeat (first | exact (Kd.C_below HR1_0.out HB.out) | (with_reducible refine Kd.C_alloc ?_ _) | (with_reducible refine Kd.C_drewN ?_ _) | (with_reducible refine Kd.C_drew ?_))); (case side4 => exact HC1_0.out); rintro e w' ⟨rfl, ⟨nd, rfl⟩⟩; refine ⟨_, rfl, ?_⟩))
      go_ret
      exact ⟨by first | rfl | (simp [errW_none, errW_some] <;> rfl) | (simp [*, errW_none, errW_some] <;> rfl), by repeat (first | (with_reducible first | exact HB.out | apply below_alloc | apply pw_below_drewN | apply below_drew1 | refine below_set ?_ GE591.out | refine below_set ?_ GE592.out) | exact HB.out)⟩
  · replace c4 := Bool.eq_false_iff.mpr c4
    subst c4
    have H1 : (some false) = some r := by rw [if_neg (show ¬ (false = true) by decide)] at H; exact H
    clear H
    have H := H1
    clear H1
    obtain rfl := Option.some.inj H
    go_enter Try.func48, Try.ntmps48
    go_wp2_with (first | ((with_reducible refine gate_dst (N := 2) rfl ?_); refine box_event ?hg (N := 2) ?hd (cs := #[.slice A0_0 l0_0.length c0_0, .int .i64 a0_1]) (t := 55) ?hr ?_; (case hd => rfl); (case hg => rfl); (case hr => first | (go_simp; done) | (go_simp; rfl)); intro gb591 hg w16 hbox hb; have n0_ := Aside0.mk (below_step (by repeat (first | (with_reducible first | exact HB.out | apply below_alloc | apply pw_below_drewN | apply below_drew1) | exact HB.out)) hb); have n1_ := Aside0.mk (hbox); have n2_ := Aside0.mk ((by rw [hg]; exact (below_size (by repeat (first | (with_reducible first | exact HB.out | apply below_alloc | apply pw_below_drewN | apply below_drew1) | exact HB.out))) : w.heap.size ≤ gb591)); have n3_ := Aside0.mk ((by rw [hg]; exact (below_size (by repeat (first | (with_reducible first | exact HB.out | apply below_alloc | apply pw_below_drewN | apply below_drew1) | exact HB.out))) : w.heap.size ≤ gb591)); clear HB; have HB := n0_; have BK591 := n1_; have GW591 := n2_; have GE591 := n3_; clear n0_ n1_ n2_ n3_; clear hb hbox hg) | ((with_reducible refine gate_dst (N := 3) rfl ?_); refine box_event ?hg (N := 3) ?hd (cs := #[.slice A1_0 l1_0.length c1_0, .int .i64 a1_1]) (t := 55) ?hr ?_; (case hd => rfl); (case hg => rfl); (case hr => first | (go_simp; done) | (go_simp; rfl)); intro gb592 hg w17 hbox hb; have n0_ := Aside0.mk (blk_below (g := gb591) (o := .cells #[.slice A0_0 l0_0.length c0_0, .int .i64 a0_1] 55 (0, 0)) (by (with_reducible repeat (first | refine blk_drewN ?_ _ | refine blk_drew ?_ | refine blk_alloc ?_ _)); exact BK591.out) hb); have n1_ := Aside0.mk (below_step (by repeat (first | (with_reducible first | exact HB.out | apply below_alloc | apply pw_below_drewN | apply below_drew1 | refine below_set ?_ GE591.out) | exact HB.out)) hb); have n2_ := Aside0.mk (hbox); have n3_ := Aside0.mk ((by rw [hg]; exact (below_size (by repeat (first | (with_reducible first | exact HB.out | apply below_alloc | apply pw_below_drewN | apply below_drew1 | refine below_set ?_ GE591.out) | exact HB.out))) : w.heap.size ≤ gb592)); have n4_ := Aside0.mk ((by rw [hg]; exact (below_size (by repeat (first | (with_reducible first | exact HB.out | apply below_alloc | apply pw_below_drewN | apply below_drew1 | refine below_set ?_ GE591.out) | exact HB.out))) : w.heap.size ≤ gb592)); have n5_ := Aside0.mk ((by rw [hg]; exact Nat.ne_of_lt (blk_lt (g := gb591) (o := .cells #[.slice A0_0 l0_0.length c0_0, .int .i64 a0_1] 55 (0, 0)) (by (with_reducible repeat (first | refine blk_drewN ?_ _ | refine blk_drew ?_ | refine blk_alloc ?_ _)); exact BK591.out)) : gb591 ≠ gb592)); have n6_ := Aside0.mk ((by rw [hg]; exact Nat.ne_of_gt (blk_lt (g := gb591) (o := .cells #[.slice A0_0 l0_0.length c0_0, .int .i64 a0_1] 55 (0, 0)) (by (with_reducible repeat (first | refine blk_drewN ?_ _ | refine blk_drew ?_ | refine blk_alloc ?_ _)); exact BK591.out)) : gb592 ≠ gb591)); clear BK591; clear HB; have BK591 := n0_; have HB := n1_; have BK592 := n2_; have GW592 := n3_; have GE592 := n4_; have NB591_592 := n5_; have NB592_591 := n6_; clear n0_ n1_ n2_ n3_ n4_ n5_ n6_; clear hb hbox hg; have hnb18 := NB591_592.out; have hnc18 := NB592_591.out; have hcz19_0 : w17.cell? ⟨gb591, 0, none⟩ = some (.slice A0_0 l0_0.length c0_0) := (blk_cell BK591.out 0).trans rfl; have hcz19_1 : w17.cell? ⟨gb591, 1, none⟩ = some (.int .i64 a0_1) := (blk_cell BK591.out 1).trans rfl; have hfz19_0 := blk_frozen BK591.out 0; have hfz19_1 := blk_frozen BK591.out 1; have hcz20_0 : w17.cell? ⟨gb592, 0, none⟩ = some (.slice A1_0 l1_0.length c1_0) := (blk_cell BK592.out 0).trans rfl; have hcz20_1 : w17.cell? ⟨gb592, 1, none⟩ = some (.int .i64 a1_1) := (blk_cell BK592.out 1).trans rfl; have hfz20_0 := blk_frozen BK592.out 0; have hfz20_1 := blk_frozen BK592.out 1) | ((with_reducible refine gate_callee (f := 27) rfl ?_); refine goesL_ (some 9) rfl rfl Try.func27 (by kernel_rfl) rfl #[.slice A0_0 l0_0.length c0_0, .slice A1_0 l1_0.length c1_0] rfl (by (try simp only [List.map_toArray, List.map_cons, List.map_nil]); first | done | rfl | (simp only [List.length_drop, List.length_take]; rfl)) ?_; (with_reducible refine (laws_eqIntS.calls k _ _ l0_0 _ _ l1_0 false _ ?side1 ?side2 ?side3 ?side4 A3.out).mono ?_); (case side1 => repeat (first | exact (Kd.C_below HR0_0.out HB.out) | (with_reducible refine Kd.C_alloc ?_ _) | (with_reducible refine Kd.C_drewN ?_ _) | (with_reducible refine Kd.C_drew ?_))); (case side2 => exact HC0_0.out); (case side3 => repeat (first | exact (Kd.C_below HR1_0.out HB.out) | (with_reducible refine Kd.C_alloc ?_ _) | (with_reducible refine Kd.C_drewN ?_ _) | (with_reducible refine Kd.C_drew ?_))); (case side4 => exact HC1_0.out); rintro e w' ⟨rfl, ⟨nd, rfl⟩⟩; refine ⟨_, rfl, ?_⟩))
    go_ret
    exact ⟨by first | rfl | (simp [errW_none, errW_some] <;> rfl) | (simp [*, errW_none, errW_some] <;> rfl), by repeat (first | (with_reducible first | exact HB.out | apply below_alloc | apply pw_below_drewN | apply below_drew1 | refine below_set ?_ GE591.out | refine below_set ?_ GE592.out) | exact HB.out)⟩

end Go.Proofs.Ytnphoaecjeenjaa.P
namespace Go.Proofs.Ytnphoaecjeenjaa.P
open Go.RowKit Go.Proofs.YtnphoaecjeenjaaW.PrintWords Go.Proofs.YtnphoaecjeenjaaW.PrintLast Go.Proofs.YtnphoaecjeenjaaW.PrintMore
attribute [local go_sem] max2_int min2_int max_two min_two max_three min_three max_four min_four   -- for this text's walks alone
set_option linter.unusedVariables false
set_option linter.unusedSimpArgs false

/-! ### laws_FnExactIsUnicycle: function 12 -/
def laws_FnExactIsUnicycle.j0 : Nat → Bool → List (List Int) → List Int → Int → List (List Int) → List Int → Int → Option (Bool)
  | 0, _, _, _, _, _, _, _ => none
  | k + 1, x47, x695000, x696000, x696001, x711000, x716000, x716001 => if x47 = true then (some false) else ((laws_toGraph.f k x695000).bind fun t718 => ((laws_eqGraph.f k x711000 t718).bind fun t721 => (if t721 = true then ((laws_toWalk.f k x696000 x696001).bind fun bt722 => ((laws_eqWalk.f k x716000 x716001 bt722.1 bt722.2).bind fun t726 => (if t726 = true then (some true) else (some false)))) else (some false))))
def laws_FnExactIsUnicycle.f (k : Nat) (l0_0 : List (List Int)) (l1_0 : List Int) (a1_1 : Int) : Option (Bool) := (laws_szGraph.f k l0_0 1048576).bind fun t696 => (if t696 < 0 then (some true) else ((laws_szWalk.f l1_0 a1_1 t696).bind fun t697 => (if t697 < 0 then (some true) else ((laws_toGraph.f k l0_0).bind fun t698 => ((laws_toWalk.f k l1_0 a1_1).bind fun bt701 => ((spec_IsUnicycle.f k t698 bt701.1 bt701.2).bind fun bt705 => ((laws_toGraph.f k l0_0).bind fun t707 => ((laws_toWalk.f k l1_0 a1_1).bind fun bt711 => ((impl_IsUnicycle.f k t707 bt711.1 bt711.2).bind fun bt716 => (if (bt716.1 != bt705.1) = true then (laws_FnExactIsUnicycle.j0 k true l0_0 l1_0 a1_1 t707 bt711.1 bt711.2) else (laws_FnExactIsUnicycle.j0 k (bt716.2 != bt705.2) l0_0 l1_0 a1_1 t707 bt711.1 bt711.2)))))))))))
theorem laws_FnExactIsUnicycle.mono_l : ∀ k, (∀ y0 y1 y2 y3 y4 y5 y6, LeO (laws_FnExactIsUnicycle.j0 k y0 y1 y2 y3 y4 y5 y6) (laws_FnExactIsUnicycle.j0 (k + 1) y0 y1 y2 y3 y4 y5 y6))
  | 0 => fun _ _ _ _ _ _ _ r h => by simp [laws_FnExactIsUnicycle.j0] at h
  | k + 1 => by
    have ih0 := laws_FnExactIsUnicycle.mono_l k
    · intro y0 y1 y2 y3 y4 y5 y6
      unfold laws_FnExactIsUnicycle.j0
      repeat' first
      | (with_reducible exact ih0 _ _ _ _ _ _ _)
      | (with_reducible exact impl_IsUnicycle.mono _ _ _ _)
      | (with_reducible exact laws_eqGraph.mono _ _ _)
      | (with_reducible exact laws_eqWalk.mono _ _ _ _ _)
      | (with_reducible exact laws_szGraph.mono _ _ _)
      | (with_reducible exact laws_toGraph.mono _ _)
      | (with_reducible exact laws_toWalk.mono _ _ _)
      | (with_reducible exact spec_IsUnicycle.mono _ _ _ _)
      | (with_reducible exact LeO.refl _)
      | (with_reducible exact LeO.none _)
      | (with_reducible refine LeO.ite ?_ ?_)
      | (with_reducible refine LeO.bind ?_ (fun _ => ?_))
      | exact ih0 _ _ _ _ _ _ _
      | exact impl_IsUnicycle.mono _ _ _ _
      | exact laws_eqGraph.mono _ _ _
      | exact laws_eqWalk.mono _ _ _ _ _
      | exact laws_szGraph.mono _ _ _
      | exact laws_toGraph.mono _ _
      | exact laws_toWalk.mono _ _ _
      | exact spec_IsUnicycle.mono _ _ _ _
      | exact LeO.none _
      | refine LeO.ite ?_ ?_
      | refine LeO.bind ?_ (fun _ => ?_)
theorem laws_FnExactIsUnicycle.mono : ∀ a0 a1 a2 k, LeO (laws_FnExactIsUnicycle.f k a0 a1 a2) (laws_FnExactIsUnicycle.f (k + 1) a0 a1 a2) := by
  intro a0 a1 a2 k
  have ih0 := laws_FnExactIsUnicycle.mono_l k
  unfold laws_FnExactIsUnicycle.f
  repeat' first
      | (with_reducible exact ih0 _ _ _ _ _ _ _)
      | (with_reducible exact impl_IsUnicycle.mono _ _ _ _)
      | (with_reducible exact laws_eqGraph.mono _ _ _)
      | (with_reducible exact laws_eqWalk.mono _ _ _ _ _)
      | (with_reducible exact laws_szGraph.mono _ _ _)
      | (with_reducible exact laws_toGraph.mono _ _)
      | (with_reducible exact laws_toWalk.mono _ _ _)
      | (with_reducible exact spec_IsUnicycle.mono _ _ _ _)
      | (with_reducible exact LeO.refl _)
      | (with_reducible exact LeO.none _)
      | (with_reducible refine LeO.ite ?_ ?_)
      | (with_reducible refine LeO.bind ?_ (fun _ => ?_))
      | exact ih0 _ _ _ _ _ _ _
      | exact impl_IsUnicycle.mono _ _ _ _
      | exact laws_eqGraph.mono _ _ _
      | exact laws_eqWalk.mono _ _ _ _ _
      | exact laws_szGraph.mono _ _ _
      | exact laws_toGraph.mono _ _
      | exact laws_toWalk.mono _ _ _
      | exact spec_IsUnicycle.mono _ _ _ _
      | exact LeO.none _
      | refine LeO.ite ?_ ?_
      | refine LeO.bind ?_ (fun _ => ?_)
def laws_FnExactIsUnicycle.T8 : Bool × List (List Nat × List Nat) := (true, [([], []), ([0], [0]), ([], []), ([2, 1], [2]), ([1, 3, 3], [1, 3]), ([4], [4]), ([5], [5]), ([5], [5]), ([6, 4, 0, 1, 2, 3, 4, 5, 6], [6]), ([7, 8, 0, 1, 2, 3, 4, 5, 6, 7, 8], [7])])
def laws_FnExactIsUnicycle.B8 : List Nat := [0, 1, 0, 7, 15, 31, 63, 63, 127, 511]
theorem laws_FnExactIsUnicycle.tab8 : rtab .any (opsOf Try.f12 8) = laws_FnExactIsUnicycle.T8 := by kernel_rfl
theorem laws_FnExactIsUnicycle.bits8 : waitsOk laws_FnExactIsUnicycle.T8.2 laws_FnExactIsUnicycle.B8 = true := by kernel_rfl
set_option maxHeartbeats 8000000 in
set_option maxRecDepth 100000 in
theorem laws_FnExactIsUnicycle.calls (k : Nat) (A0_0 : Option Addr) (c0_0 : Nat) (l0_0 : List (List Int)) (A1_0 : Option Addr) (c1_0 : Nat) (l1_0 : List Int) (a1_1 : Int) (r : Bool) (w : World) (hr0_0 : Kd.C (Kd.slice 3 (Kd.int .i64)) w A0_0 l0_0.length l0_0) (hc0_0 : l0_0.length ≤ c0_0) (hr1_0 : Kd.C (Kd.int .i64) w A1_0 l1_0.length l1_0) (hc1_0 : l1_0.length ≤ c1_0) (h : laws_FnExactIsUnicycle.f k l0_0 l1_0 a1_1 = some r) :
    Calls Try.prog 12 #[.agg #[.slice A0_0 l0_0.length c0_0], .agg #[.slice A1_0 l1_0.length c1_0, .int .i64 a1_1]] w fun e w' => e = .returned (.bool r) ∧ Below w.heap.size w w' := by
  have hu24 := Try.underlying24
  have hu52 := Try.underlying52
  have hu28 := Try.underlying28
  have hu55 := Try.underlying55
  have HR0_0 := Aside0.mk hr0_0
  have HC0_0 := Aside0.mk hc0_0
  clear hr0_0 hc0_0
  have HR1_0 := Aside0.mk hr1_0
  have HC1_0 := Aside0.mk hc1_0
  clear hr1_0 hc1_0
  have HB := Aside0.mk (Below.refl w.heap.size w)
  have H : ((laws_szGraph.f k l0_0 1048576).bind fun t696 => (if t696 < 0 then (some true) else ((laws_szWalk.f l1_0 a1_1 t696).bind fun t697 => (if t697 < 0 then (some true) else ((laws_toGraph.f k l0_0).bind fun t698 => ((laws_toWalk.f k l1_0 a1_1).bind fun bt701 => ((spec_IsUnicycle.f k t698 bt701.1 bt701.2).bind fun bt705 => ((laws_toGraph.f k l0_0).bind fun t707 => ((laws_toWalk.f k l1_0 a1_1).bind fun bt711 => ((impl_IsUnicycle.f k t707 bt711.1 bt711.2).bind fun bt716 => (if (bt716.1 != bt705.1) = true then (laws_FnExactIsUnicycle.j0 k true l0_0 l1_0 a1_1 t707 bt711.1 bt711.2) else (laws_FnExactIsUnicycle.j0 k (bt716.2 != bt705.2) l0_0 l1_0 a1_1 t707 bt711.1 bt711.2)))))))))))) = some r := h
  clear h
  replace H := Option.bind_eq_some_iff.mp H
  obtain ⟨t696, A30, H⟩ := H
  replace H : (if t696 < 0 then (some true) else ((laws_szWalk.f l1_0 a1_1 t696).bind fun t697 => (if t697 < 0 then (some true) else ((laws_toGraph.f k l0_0).bind fun t698 => ((laws_toWalk.f k l1_0 a1_1).bind fun bt701 => ((spec_IsUnicycle.f k t698 bt701.1 bt701.2).bind fun bt705 => ((laws_toGraph.f k l0_0).bind fun t707 => ((laws_toWalk.f k l1_0 a1_1).bind fun bt711 => ((impl_IsUnicycle.f k t707 bt711.1 bt711.2).bind fun bt716 => (if (bt716.1 != bt705.1) = true then (laws_FnExactIsUnicycle.j0 k true l0_0 l1_0 a1_1 t707 bt711.1 bt711.2) else (laws_FnExactIsUnicycle.j0 k (bt716.2 != bt705.2) l0_0 l1_0 a1_1 t707 bt711.1 bt711.2))))))))))) = some r := H
  have A3 := Aside0.mk A30
  clear A30
  by_cases c4 : t696 < 0
  · rw [if_pos c4] at H
    have c4b0 : decide (t696 < 0) = true := decide_eq_true c4
    clear c4
    obtain rfl := Option.some.inj H
    go_enter Try.func12, Try.ntmps12
    go_wp2_with (first | ((with_reducible refine gate_dst (N := 2) rfl ?_); refine box_event ?hg (N := 2) ?hd (cs := #[.slice A0_0 l0_0.length c0_0]) (t := 24) ?hr ?_; (case hd => rfl); (case hg => rfl); (case hr => first | (go_simp; done) | (go_simp; rfl)); intro gb694 hg w5 hbox hb; have n0_ := Aside0.mk (below_step (by repeat (first | (with_reducible first | exact HB.out | apply below_alloc | apply pw_below_drewN | apply below_drew1) | exact HB.out)) hb); have n1_ := Aside0.mk (hbox); have n2_ := Aside0.mk ((by rw [hg]; exact (below_size (by repeat (first | (with_reducible first | exact HB.out | apply below_alloc | apply pw_below_drewN | apply below_drew1) | exact HB.out))) : w.heap.size ≤ gb694)); have n3_ := Aside0.mk ((by rw [hg]; exact (below_size (by repeat (first | (with_reducible first | exact HB.out | apply below_alloc | apply pw_below_drewN | apply below_drew1) | exact HB.out))) : w.heap.size ≤ gb694)); clear HB; have HB := n0_; have BK694 := n1_; have GW694 := n2_; have GE694 := n3_; clear n0_ n1_ n2_ n3_; clear hb hbox hg) | ((with_reducible refine gate_dst (N := 3) rfl ?_); refine box_event ?hg (N := 3) ?hd (cs := #[.slice A1_0 l1_0.length c1_0, .int .i64 a1_1]) (t := 52) ?hr ?_; (case hd => rfl); (case hg => rfl); (case hr => first | (go_simp; done) | (go_simp; rfl)); intro gb695 hg w6 hbox hb; have n0_ := Aside0.mk (blk_below (g := gb694) (o := .cells #[.slice A0_0 l0_0.length c0_0] 24 (0, 0)) (by (with_reducible repeat (first | refine blk_drewN ?_ _ | refine blk_drew ?_ | refine blk_alloc ?_ _)); exact BK694.out) hb); have n1_ := Aside0.mk (below_step (by repeat (first | (with_reducible first | exact HB.out | apply below_alloc | apply pw_below_drewN | apply below_drew1 | refine below_set ?_ GE694.out) | exact HB.out)) hb); have n2_ := Aside0.mk (hbox); have n3_ := Aside0.mk ((by rw [hg]; exact (below_size (by repeat (first | (with_reducible first | exact HB.out | apply below_alloc | apply pw_below_drewN | apply below_drew1 | refine below_set ?_ GE694.out) | exact HB.out))) : w.heap.size ≤ gb695)); have n4_ := Aside0.mk ((by rw [hg]; exact (below_size (by repeat (first | (with_reducible first | exact HB.out | apply below_alloc | apply pw_below_drewN | apply below_drew1 | refine below_set ?_ GE694.out) | exact HB.out))) : w.heap.size ≤ gb695)); have n5_ := Aside0.mk ((by rw [hg]; exact Nat.ne_of_lt (blk_lt (g := gb694) (o := .cells #[.slice A0_0 l0_0.length c0_0] 24 (0, 0)) (by (with_reducible repeat (first | refine blk_drewN ?_ _ | refine blk_drew ?_ | refine blk_alloc ?_ _)); exact BK694.out)) : gb694 ≠ gb695)); have n6_ := Aside0.mk ((by rw [hg]; exact Nat.ne_of_gt (blk_lt (g := gb694) (o := .cells #[.slice A0_0 l0_0.length c0_0] 24 (0, 0)) (by (with_reducible repeat (first | refine blk_drewN ?_ _ | refine blk_drew ?_ | refine blk_alloc ?_ _)); exact BK694.out)) : gb695 ≠ gb694)); clear BK694; clear HB; have BK694 := n0_; have HB := n1_; have BK695 := n2_; have GW695 := n3_; have GE695 := n4_; have NB694_695 := n5_; have NB695_694 := n6_; clear n0_ n1_ n2_ n3_ n4_ n5_ n6_; clear hb hbox hg; have hnb7 := NB694_695.out; have hnc7 := NB695_694.out; have hcz8_0 : w6.cell? ⟨gb694, 0, none⟩ = some (.slice A0_0 l0_0.length c0_0) := (blk_cell BK694.out 0).trans rfl; have hfz8_0 := blk_frozen BK694.out 0) | ((with_reducible refine gate_callee (f := 15) rfl ?_); refine goesL_ (some 14) rfl rfl Try.func15 (by kernel_rfl) rfl #[.agg #[.slice A0_0 l0_0.length c0_0], .int .i64 1048576] rfl (by (try simp only [List.map_toArray, List.map_cons, List.map_nil]); first | done | rfl | (simp only [List.length_drop, List.length_take]; rfl)) ?_; (with_reducible refine (laws_szGraph.calls k _ _ l0_0 1048576 t696 _ ?side1 ?side2 A3.out).mono ?_); (case side1 => repeat (first | exact (Kd.C_below HR0_0.out HB.out) | (with_reducible refine Kd.C_alloc ?_ _) | (with_reducible refine Kd.C_drewN ?_ _) | (with_reducible refine Kd.C_drew ?_))); (case side2 => exact HC0_0.out); rintro e w9 ⟨rfl, hb⟩; refine ⟨_, rfl, ?_⟩; have n0_ := Aside0.mk (blk_below (g := gb694) (o := .cells #[.slice A0_0 l0_0.length c0_0] 24 (0, 0)) (by (with_reducible repeat (first | refine blk_drewN ?_ _ | refine blk_drew ?_ | refine blk_alloc ?_ _)); exact BK694.out) hb); have n1_ := Aside0.mk (blk_below (g := gb695) (o := .cells #[.slice A1_0 l1_0.length c1_0, .int .i64 a1_1] 52 (0, 0)) (by (with_reducible repeat (first | refine blk_drewN ?_ _ | refine blk_drew ?_ | refine blk_alloc ?_ _)); exact BK695.out) hb); have n2_ := Aside0.mk (below_step (by repeat (first | (with_reducible first | exact HB.out | apply below_alloc | apply pw_below_drewN | apply below_drew1 | refine below_set ?_ GE694.out | refine below_set ?_ GE695.out) | exact HB.out)) hb); clear BK694; clear BK695; clear HB; have BK694 := n0_; have BK695 := n1_; have HB := n2_; clear n0_ n1_ n2_; (try clear hb); (try clear hb2); (try clear hk); (try clear hi)))
    go_ret
    exact ⟨by first | rfl | (simp [errW_none, errW_some] <;> rfl) | (simp [*, errW_none, errW_some] <;> rfl), by repeat (first | (with_reducible first | exact HB.out | apply below_alloc | apply pw_below_drewN | apply below_drew1 | refine below_set ?_ GE694.out | refine below_set ?_ GE695.out) | exact HB.out)⟩
  · rw [if_neg c4] at H
    have c4b0 : decide (t696 < 0) = false := decide_eq_false c4
    clear c4
    replace H := Option.bind_eq_some_iff.mp H
    obtain ⟨t697, A100, H⟩ := H
    replace H : (if t697 < 0 then (some true) else ((laws_toGraph.f k l0_0).bind fun t698 => ((laws_toWalk.f k l1_0 a1_1).bind fun bt701 => ((spec_IsUnicycle.f k t698 bt701.1 bt701.2).bind fun bt705 => ((laws_toGraph.f k l0_0).bind fun t707 => ((laws_toWalk.f k l1_0 a1_1).bind fun bt711 => ((impl_IsUnicycle.f k t707 bt711.1 bt711.2).bind fun bt716 => (if (bt716.1 != bt705.1) = true then (laws_FnExactIsUnicycle.j0 k true l0_0 l1_0 a1_1 t707 bt711.1 bt711.2) else (laws_FnExactIsUnicycle.j0 k (bt716.2 != bt705.2) l0_0 l1_0 a1_1 t707 bt711.1 bt711.2))))))))) = some r := H
    have A10 := Aside0.mk A100
    clear A100
    by_cases c11 : t697 < 0
    · rw [if_pos c11] at H
      have c11b0 : decide (t697 < 0) = true := decide_eq_true c11
      clear c11
      obtain rfl := Option.some.inj H
      go_enter Try.func12, Try.ntmps12
      go_wp2_with (first | ((with_reducible refine gate_dst (N := 2) rfl ?_); refine box_event ?hg (N := 2) ?hd (cs := #[.slice A0_0 l0_0.length c0_0]) (t := 24) ?hr ?_; (case hd => rfl); (case hg => rfl); (case hr => first | (go_simp; done) | (go_simp; rfl)); intro gb694 hg w12 hbox hb; have n0_ := Aside0.mk (below_step (by repeat (first | (with_reducible first | exact HB.out | apply below_alloc | apply pw_below_drewN | apply below_drew1) | exact HB.out)) hb); have n1_ := Aside0.mk (hbox); have n2_ := Aside0.mk ((by rw [hg]; exact (below_size (by repeat (first | (with_reducible first | exact HB.out | apply below_alloc | apply pw_below_drewN | apply below_drew1) | exact HB.out))) : w.heap.size ≤ gb694)); have n3_ := Aside0.mk ((by rw [hg]; exact (below_size (by repeat (first | (with_reducible first | exact HB.out | apply below_alloc | apply pw_below_drewN | apply below_drew1) | exact HB.out))) : w.heap.size ≤ gb694)); clear HB; have HB := n0_; have BK694 := n1_; have GW694 := n2_; have GE694 := n3_; clear n0_ n1_ n2_ n3_; clear hb hbox hg) | ((with_reducible refine gate_dst (N := 3) rfl ?_); refine box_event ?hg (N := 3) ?hd (cs := #[.slice A1_0 l1_0.length c1_0, .int .i64 a1_1]) (t := 52) ?hr ?_; (case hd => rfl); (case hg => rfl); (case hr => first | (go_simp; done) | (go_simp; rfl)); intro gb695 hg w13 hbox hb; have n0_ := Aside0.mk (blk_below (g := gb694) (o := .cells #[.slice A0_0 l0_0.length c0_0] 24 (0, 0)) (by (with_reducible repeat (first | refine blk_drewN ?_ _ | refine blk_drew ?_ | refine blk_alloc ?_ _)); exact BK694.out) hb); have n1_ := Aside0.mk (below_step (by repeat (first | (with_reducible first | exact HB.out | apply below_alloc | apply pw_below_drewN | apply below_drew1 | refine below_set ?_ GE694.out) | exact HB.out)) hb); have n2_ := Aside0.mk (hbox); have n3_ := Aside0.mk ((by rw [hg]; exact (below_size (by repeat (first | (with_reducible first | exact HB.out | apply below_alloc | apply pw_below_drewN | apply below_drew1 | refine below_set ?_ GE694.out) | exact HB.out))) : w.heap.size ≤ gb695)); have n4_ := Aside0.mk ((by rw [hg]; exact (below_size (by repeat (first | (with_reducible first | exact HB.out | apply below_alloc | apply pw_below_drewN | apply below_drew1 | refine below_set ?_ GE694.out) | exact HB.out))) : w.heap.size ≤ gb695)); have n5_ := Aside0.mk ((by rw [hg]; exact Nat.ne_of_lt (blk_lt (g := gb694) (o := .cells #[.slice A0_0 l0_0.length c0_0] 24 (0, 0)) (by (with_reducible repeat (first | refine blk_drewN ?_ _ | refine blk_drew ?_ | refine blk_alloc ?_ _)); exact BK694.out)) : gb694 ≠ gb695)); have n6_ := Aside0.mk ((by rw [hg]; exact Nat.ne_of_gt (blk_lt (g := gb694) (o := .cells #[.slice A0_0 l0_0.length c0_0] 24 (0, 0)) (by (with_reducible repeat (first | refine blk_drewN ?_ _ | refine blk_drew ?_ | refine blk_alloc ?_ _)); exact BK694.out)) : gb695 ≠ gb694)); clear BK694; clear HB; have BK694 := n0_; have HB := n1_; have BK695 := n2_; have GW695 := n3_; have GE695 := n4_; have NB694_695 := n5_; have NB695_694 := n6_; clear n0_ n1_ n2_ n3_ n4_ n5_ n6_; clear hb hbox hg; have hnb14 := NB694_695.out; have hnc14 := NB695_694.out; have hcz15_0 : w13.cell? ⟨gb694, 0, none⟩ = some (.slice A0_0 l0_0.length c0_0) := (blk_cell BK694.out 0).trans rfl; have hfz15_0 := blk_frozen BK694.out 0) | ((with_reducible refine gate_callee (f := 15) rfl ?_); refine goesL_ (some 14) rfl rfl Try.func15 (by kernel_rfl) rfl #[.agg #[.slice A0_0 l0_0.length c0_0], .int .i64 1048576] rfl (by (try simp only [List.map_toArray, List.map_cons, List.map_nil]); first | done | rfl | (simp only [List.length_drop, List.length_take]; rfl)) ?_; (with_reducible refine (laws_szGraph.calls k _ _ l0_0 1048576 t696 _ ?side1 ?side2 A3.out).mono ?_); (case side1 => repeat (first | exact (Kd.C_below HR0_0.out HB.out) | (with_reducible refine Kd.C_alloc ?_ _) | (with_reducible refine Kd.C_drewN ?_ _) | (with_reducible refine Kd.C_drew ?_))); (case side2 => exact HC0_0.out); rintro e w16 ⟨rfl, hb⟩; refine ⟨_, rfl, ?_⟩; have n0_ := Aside0.mk (blk_below (g := gb694) (o := .cells #[.slice A0_0 l0_0.length c0_0] 24 (0, 0)) (by (with_reducible repeat (first | refine blk_drewN ?_ _ | refine blk_drew ?_ | refine blk_alloc ?_ _)); exact BK694.out) hb); have n1_ := Aside0.mk (blk_below (g := gb695) (o := .cells #[.slice A1_0 l1_0.length c1_0, .int .i64 a1_1] 52 (0, 0)) (by (with_reducible repeat (first | refine blk_drewN ?_ _ | refine blk_drew ?_ | refine blk_alloc ?_ _)); exact BK695.out) hb); have n2_ := Aside0.mk (below_step (by repeat (first | (with_reducible first | exact HB.out | apply below_alloc | apply pw_below_drewN | apply below_drew1 | refine below_set ?_ GE694.out | refine below_set ?_ GE695.out) | exact HB.out)) hb); clear BK694; clear BK695; clear HB; have BK694 := n0_; have BK695 := n1_; have HB := n2_; clear n0_ n1_ n2_; (try clear hb); (try clear hb2); (try clear hk); (try clear hi); have hcz17_0 : w16.cell? ⟨gb695, 0, none⟩ = some (.slice A1_0 l1_0.length c1_0) := (blk_cell BK695.out 0).trans rfl; have hcz17_1 : w16.cell? ⟨gb695, 1, none⟩ = some (.int .i64 a1_1) := (blk_cell BK695.out 1).trans rfl; have hfz17_0 := blk_frozen BK695.out 0; have hfz17_1 := blk_frozen BK695.out 1) | ((with_reducible refine gate_callee (f := 44) rfl ?_); refine goesL_ (some 19) rfl rfl Try.func44 (by kernel_rfl) rfl #[.agg #[.slice A1_0 l1_0.length c1_0, .int .i64 a1_1], .int .i64 t696] rfl (by (try simp only [List.map_toArray, List.map_cons, List.map_nil]); first | done | rfl | (simp only [List.length_drop, List.length_take]; rfl)) ?_; (with_reducible refine (laws_szWalk.calls _ _ l1_0 a1_1 t696 t697 _ ?side1 ?side2 A10.out).mono ?_); (case side1 => repeat (first | exact (Kd.C_below HR1_0.out HB.out) | (with_reducible refine Kd.C_alloc ?_ _) | (with_reducible refine Kd.C_drewN ?_ _) | (with_reducible refine Kd.C_drew ?_))); (case side2 => exact HC1_0.out); rintro e w18 ⟨rfl, hb⟩; refine ⟨_, rfl, ?_⟩; have n0_ := Aside0.mk (blk_below (g := gb694) (o := .cells #[.slice A0_0 l0_0.length c0_0] 24 (0, 0)) (by (with_reducible repeat (first | refine blk_drewN ?_ _ | refine blk_drew ?_ | refine blk_alloc ?_ _)); exact BK694.out) hb); have n1_ := Aside0.mk (blk_below (g := gb695) (o := .cells #[.slice A1_0 l1_0.length c1_0, .int .i64 a1_1] 52 (0, 0)) (by (with_reducible repeat (first | refine blk_drewN ?_ _ | refine blk_drew ?_ | refine blk_alloc ?_ _)); exact BK695.out) hb); have n2_ := Aside0.mk (below_step (by repeat (first | (with_reducible first | exact HB.out | apply below_alloc | apply pw_below_drewN | apply below_drew1 | refine below_set ?_ GE694.out | refine below_set ?_ GE695.out) | exact HB.out)) hb); clear BK694; clear BK695; clear HB; have BK694 := n0_; have BK695 := n1_; have HB := n2_; clear n0_ n1_ n2_; (try clear hb); (try clear hb2); (try clear hk); (try clear hi)))
      go_ret
      exact ⟨by first | rfl | (simp [errW_none, errW_some] <;> rfl) | (simp [*, errW_none, errW_some] <;> rfl), by repeat (first | (with_reducible first | exact HB.out | apply below_alloc | apply pw_below_drewN | apply below_drew1 | refine below_set ?_ GE694.out | refine below_set ?_ GE695.out) | exact HB.out)⟩
    · rw [if_neg c11] at H
      have c11b0 : decide (t697 < 0) = false := decide_eq_false c11
      clear c11
      replace H := Option.bind_eq_some_iff.mp H
      obtain ⟨t698, A190, H⟩ := H
      replace H : ((laws_toWalk.f k l1_0 a1_1).bind fun bt701 => ((spec_IsUnicycle.f k t698 bt701.1 bt701.2).bind fun bt705 => ((laws_toGraph.f k l0_0).bind fun t707 => ((laws_toWalk.f k l1_0 a1_1).bind fun bt711 => ((impl_IsUnicycle.f k t707 bt711.1 bt711.2).bind fun bt716 => (if (bt716.1 != bt705.1) = true then (laws_FnExactIsUnicycle.j0 k true l0_0 l1_0 a1_1 t707 bt711.1 bt711.2) else (laws_FnExactIsUnicycle.j0 k (bt716.2 != bt705.2) l0_0 l1_0 a1_1 t707 bt711.1 bt711.2))))))) = some r := H
      have A19 := Aside0.mk A190
      clear A190
      replace H := Option.bind_eq_some_iff.mp H
      obtain ⟨⟨t701, t704⟩, A200, H⟩ := H
      replace H : ((spec_IsUnicycle.f k t698 t701 t704).bind fun bt705 => ((laws_toGraph.f k l0_0).bind fun t707 => ((laws_toWalk.f k l1_0 a1_1).bind fun bt711 => ((impl_IsUnicycle.f k t707 bt711.1 bt711.2).bind fun bt716 => (if (bt716.1 != bt705.1) = true then (laws_FnExactIsUnicycle.j0 k true l0_0 l1_0 a1_1 t707 bt711.1 bt711.2) else (laws_FnExactIsUnicycle.j0 k (bt716.2 != bt705.2) l0_0 l1_0 a1_1 t707 bt711.1 bt711.2)))))) = some r := H
      have A20 := Aside0.mk A200
      clear A200
      replace H := Option.bind_eq_some_iff.mp H
      obtain ⟨⟨t705, t706⟩, A210, H⟩ := H
      replace H : ((laws_toGraph.f k l0_0).bind fun t707 => ((laws_toWalk.f k l1_0 a1_1).bind fun bt711 => ((impl_IsUnicycle.f k t707 bt711.1 bt711.2).bind fun bt716 => (if (bt716.1 != t705) = true then (laws_FnExactIsUnicycle.j0 k true l0_0 l1_0 a1_1 t707 bt711.1 bt711.2) else (laws_FnExactIsUnicycle.j0 k (bt716.2 != t706) l0_0 l1_0 a1_1 t707 bt711.1 bt711.2))))) = some r := H
      have A21 := Aside0.mk A210
      clear A210
      replace H := Option.bind_eq_some_iff.mp H
      obtain ⟨t707, A220, H⟩ := H
      replace H : ((laws_toWalk.f k l1_0 a1_1).bind fun bt711 => ((impl_IsUnicycle.f k t707 bt711.1 bt711.2).bind fun bt716 => (if (bt716.1 != t705) = true then (laws_FnExactIsUnicycle.j0 k true l0_0 l1_0 a1_1 t707 bt711.1 bt711.2) else (laws_FnExactIsUnicycle.j0 k (bt716.2 != t706) l0_0 l1_0 a1_1 t707 bt711.1 bt711.2)))) = some r := H
      have A22 := Aside0.mk A220
      clear A220
      replace H := Option.bind_eq_some_iff.mp H
      obtain ⟨⟨t711, t714⟩, A230, H⟩ := H
      replace H : ((impl_IsUnicycle.f k t707 t711 t714).bind fun bt716 => (if (bt716.1 != t705) = true then (laws_FnExactIsUnicycle.j0 k true l0_0 l1_0 a1_1 t707 t711 t714) else (laws_FnExactIsUnicycle.j0 k (bt716.2 != t706) l0_0 l1_0 a1_1 t707 t711 t714))) = some r := H
      have A23 := Aside0.mk A230
      clear A230
      replace H := Option.bind_eq_some_iff.mp H
      obtain ⟨⟨t716, t717⟩, A240, H⟩ := H
      replace H : (if (t716 != t705) = true then (laws_FnExactIsUnicycle.j0 k true l0_0 l1_0 a1_1 t707 t711 t714) else (laws_FnExactIsUnicycle.j0 k (t717 != t706) l0_0 l1_0 a1_1 t707 t711 t714)) = some r := H
      have A24 := Aside0.mk A240
      clear A240
      have HC25 := Aside0.mk H
      clear H
      go_enter Try.func12, Try.ntmps12
      try go_wp2_with (first | ((with_reducible refine gate_dst (N := 2) rfl ?_); refine box_event ?hg (N := 2) ?hd (cs := #[.slice A0_0 l0_0.length c0_0]) (t := 24) ?hr ?_; (case hd => rfl); (case hg => rfl); (case hr => first | (go_simp; done) | (go_simp; rfl)); intro gb694 hg w26 hbox hb; have n0_ := Aside0.mk (below_step (by repeat (first | (with_reducible first | exact HB.out | apply below_alloc | apply pw_below_drewN | apply below_drew1) | exact HB.out)) hb); have n1_ := Aside0.mk (hbox); have n2_ := Aside0.mk ((by rw [hg]; exact (below_size (by repeat (first | (with_reducible first | exact HB.out | apply below_alloc | apply pw_below_drewN | apply below_drew1) | exact HB.out))) : w.heap.size ≤ gb694)); have n3_ := Aside0.mk ((by rw [hg]; exact (below_size (by repeat (first | (with_reducible first | exact HB.out | apply below_alloc | apply pw_below_drewN | apply below_drew1) | exact HB.out))) : w.heap.size ≤ gb694)); clear HB; have HB := n0_; have BK694 := n1_; have GW694 := n2_; have GE694 := n3_; clear n0_ n1_ n2_ n3_; clear hb hbox hg) | ((with_reducible refine gate_dst (N := 3) rfl ?_); refine box_event ?hg (N := 3) ?hd (cs := #[.slice A1_0 l1_0.length c1_0, .int .i64 a1_1]) (t := 52) ?hr ?_; (case hd => rfl); (case hg => rfl); (case hr => first | (go_simp; done) | (go_simp; rfl)); intro gb695 hg w27 hbox hb; have n0_ := Aside0.mk (blk_below (g := gb694) (o := .cells #[.slice A0_0 l0_0.length c0_0] 24 (0, 0)) (by (with_reducible repeat (first | refine blk_drewN ?_ _ | refine blk_drew ?_ | refine blk_alloc ?_ _)); exact BK694.out) hb); have n1_ := Aside0.mk (below_step (by repeat (first | (with_reducible first | exact HB.out | apply below_alloc | apply pw_below_drewN | apply below_drew1 | refine below_set ?_ GE694.out) | exact HB.out)) hb); have n2_ := Aside0.mk (hbox); have n3_ := Aside0.mk ((by rw [hg]; exact (below_size (by repeat (first | (with_reducible first | exact HB.out | apply below_alloc | apply pw_below_drewN | apply below_drew1 | refine below_set ?_ GE694.out) | exact HB.out))) : w.heap.size ≤ gb695)); have n4_ := Aside0.mk ((by rw [hg]; exact (below_size (by repeat (first | (with_reducible first | exact HB.out | apply below_alloc | apply pw_below_drewN | apply below_drew1 | refine below_set ?_ GE694.out) | exact HB.out))) : w.heap.size ≤ gb695)); have n5_ := Aside0.mk ((by rw [hg]; exact Nat.ne_of_lt (blk_lt (g := gb694) (o := .cells #[.slice A0_0 l0_0.length c0_0] 24 (0, 0)) (by (with_reducible repeat (first | refine blk_drewN ?_ _ | refine blk_drew ?_ | refine blk_alloc ?_ _)); exact BK694.out)) : gb694 ≠ gb695)); have n6_ := Aside0.mk ((by rw [hg]; exact Nat.ne_of_gt (blk_lt (g := gb694) (o := .cells #[.slice A0_0 l0_0.length c0_0] 24 (0, 0)) (by (with_reducible repeat (first | refine blk_drewN ?_ _ | refine blk_drew ?_ | refine blk_alloc ?_ _)); exact BK694.out)) : gb695 ≠ gb694)); clear BK694; clear HB; have BK694 := n0_; have HB := n1_; have BK695 := n2_; have GW695 := n3_; have GE695 := n4_; have NB694_695 := n5_; have NB695_694 := n6_; clear n0_ n1_ n2_ n3_ n4_ n5_ n6_; clear hb hbox hg; have hnb28 := NB694_695.out; have hnc28 := NB695_694.out; have hcz29_0 : w27.cell? ⟨gb694, 0, none⟩ = some (.slice A0_0 l0_0.length c0_0) := (blk_cell BK694.out 0).trans rfl; have hfz29_0 := blk_frozen BK694.out 0) | ((with_reducible refine gate_callee (f := 15) rfl ?_); refine goesL_ (some 14) rfl rfl Try.func15 (by kernel_rfl) rfl #[.agg #[.slice A0_0 l0_0.length c0_0], .int .i64 1048576] rfl (by (try simp only [List.map_toArray, List.map_cons, List.map_nil]); first | done | rfl | (simp only [List.length_drop, List.length_take]; rfl)) ?_; (with_reducible refine (laws_szGraph.calls k _ _ l0_0 1048576 t696 _ ?side1 ?side2 A3.out).mono ?_); (case side1 => repeat (first | exact (Kd.C_below HR0_0.out HB.out) | (with_reducible refine Kd.C_alloc ?_ _) | (with_reducible refine Kd.C_drewN ?_ _) | (with_reducible refine Kd.C_drew ?_))); (case side2 => exact HC0_0.out); rintro e w30 ⟨rfl, hb⟩; refine ⟨_, rfl, ?_⟩; have n0_ := Aside0.mk (blk_below (g := gb694) (o := .cells #[.slice A0_0 l0_0.length c0_0] 24 (0, 0)) (by (with_reducible repeat (first | refine blk_drewN ?_ _ | refine blk_drew ?_ | refine blk_alloc ?_ _)); exact BK694.out) hb); have n1_ := Aside0.mk (blk_below (g := gb695) (o := .cells #[.slice A1_0 l1_0.length c1_0, .int .i64 a1_1] 52 (0, 0)) (by (with_reducible repeat (first | refine blk_drewN ?_ _ | refine blk_drew ?_ | refine blk_alloc ?_ _)); exact BK695.out) hb); have n2_ := Aside0.mk (below_step (by repeat (first | (with_reducible first | exact HB.out | apply below_alloc | apply pw_below_drewN | apply below_drew1 | refine below_set ?_ GE694.out | refine below_set ?_ GE695.out) | exact HB.out)) hb); clear BK694; clear BK695; clear HB; have BK694 := n0_; have BK695 := n1_; have HB := n2_; clear n0_ n1_ n2_; (try clear hb); (try clear hb2); (try clear hk); (try clear hi); have hcz31_0 : w30.cell? ⟨gb695, 0, none⟩ = some (.slice A1_0 l1_0.length c1_0) := (blk_cell BK695.out 0).trans rfl; have hcz31_1 : w30.cell? ⟨gb695, 1, none⟩ = some (.int .i64 a1_1) := (blk_cell BK695.out 1).trans rfl; have hfz31_0 := blk_frozen BK695.out 0; have hfz31_1 := blk_frozen BK695.out 1) | ((with_reducible refine gate_callee (f := 44) rfl ?_); refine goesL_ (some 19) rfl rfl Try.func44 (by kernel_rfl) rfl #[.agg #[.slice A1_0 l1_0.length c1_0, .int .i64 a1_1], .int .i64 t696] rfl (by (try simp only [List.map_toArray, List.map_cons, List.map_nil]); first | done | rfl | (simp only [List.length_drop, List.length_take]; rfl)) ?_; (with_reducible refine (laws_szWalk.calls _ _ l1_0 a1_1 t696 t697 _ ?side1 ?side2 A10.out).mono ?_); (case side1 => repeat (first | exact (Kd.C_below HR1_0.out HB.out) | (with_reducible refine Kd.C_alloc ?_ _) | (with_reducible refine Kd.C_drewN ?_ _) | (with_reducible refine Kd.C_drew ?_))); (case side2 => exact HC1_0.out); rintro e w32 ⟨rfl, hb⟩; refine ⟨_, rfl, ?_⟩; have n0_ := Aside0.mk (blk_below (g := gb694) (o := .cells #[.slice A0_0 l0_0.length c0_0] 24 (0, 0)) (by (with_reducible repeat (first | refine blk_drewN ?_ _ | refine blk_drew ?_ | refine blk_alloc ?_ _)); exact BK694.out) hb); have n1_ := Aside0.mk (blk_below (g := gb695) (o := .cells #[.slice A1_0 l1_0.length c1_0, .int .i64 a1_1] 52 (0, 0)) (by (with_reducible repeat (first | refine blk_drewN ?_ _ | refine blk_drew ?_ | refine blk_alloc ?_ _)); exact BK695.out) hb); have n2_ := Aside0.mk (below_step (by repeat (first | (with_reducible first | exact HB.out | apply below_alloc | apply pw_below_drewN | apply below_drew1 | refine below_set ?_ GE694.out | refine below_set ?_ GE695.out) | exact HB.out)) hb); clear BK694; clear BK695; clear HB; have BK694 := n0_; have BK695 := n1_; have HB := n2_; clear n0_ n1_ n2_; (try clear hb); (try clear hb2); (try clear hk); (try clear hi)))
      have n0_ := Aside0.mk (blk_drew BK694.out)
      have n1_ := Aside0.mk (blk_drew BK695.out)
      have n2_ := Aside0.mk (below_drew1 HB.out)
      clear BK694
      clear BK695
      clear HB
      have BK694 := n0_
      have BK695 := n1_
      have HB := n2_
      clear n0_ n1_ n2_
      refine start_ (n := 10) (S := fun w' => w'.cell? ⟨gb694, 0, none⟩ = some (.slice A0_0 l0_0.length c0_0) ∧ w'.cell? ⟨gb695, 0, none⟩ = some (.slice A1_0 l1_0.length c1_0) ∧ w'.cell? ⟨gb695, 1, none⟩ = some (.int .i64 a1_1)) (ds := []) #[false, false, false, false, false, false, false, false, false, false] (by kernel_rfl) rfl rfl ⟨(blk_cell BK694.out 0).trans rfl, (blk_cell BK695.out 0).trans rfl, (blk_cell BK695.out 1).trans rfl⟩ (fun hHeld => ?_); refine with_tabW laws_FnExactIsUnicycle.tab8 laws_FnExactIsUnicycle.bits8 (fun HT_ HW_ => ?_)
      generalize w32.drew = w33 at BK694 BK695 HB hHeld ⊢
      refine take_ (i := 0) (N := some 23) (v := ?_) (a' := ?_) #[true, false, false, false, false, false, false, false, false, false] rfl rfl (take_ofW HT_.out HW_.out (by kernel_rfl)) (fun _ _ _ h => h) (Or.inl ⟨by rfl, ?_⟩) hHeld ?_ ?_
      rotate_left
      · rintro w' ⟨s0, s1, s2⟩
        go_simp
        with_reducible rfl
      rotate_left
      · simp only [Act.put, List.setIfInBounds_toArray, List.set_cons_zero, List.set_cons_succ, i64_w, i32_w]
        rfl
      refine take_ (i := 2) (N := some 25) (v := ?_) (a' := ?_) #[true, false, true, false, false, false, false, false, false, false] rfl rfl (take_ofW HT_.out HW_.out (by kernel_rfl)) (fun _ _ _ h => h) (Or.inl ⟨by rfl, ?_⟩) hHeld ?_ ?_
      rotate_left
      · rintro w' ⟨s0, s1, s2⟩
        go_simp
        with_reducible rfl
      rotate_left
      · simp only [Act.put, List.setIfInBounds_toArray, List.set_cons_zero, List.set_cons_succ, i64_w, i32_w]
        rfl
      refine one_ (i := 1) (N := some 24) #[true, true, true, false, false, false, false, false, false, false] rfl rfl (one_of HT_.out (by kernel_rfl)) (by decide) (fun K hK => ?_)
      refine goes_ Try.func17 (by kernel_rfl) rfl #[.agg #[.slice A0_0 l0_0.length c0_0]] (by rfl) rfl rfl (by (try simp only [List.map_toArray, List.map_cons, List.map_nil]); first | done | rfl | (simp only [List.length_drop, List.length_take]; rfl)) ?_
      with_reducible refine (laws_toGraph.calls k _ _ l0_0 t698 _ ?side1 ?side2 A19.out).mono ?_
      (case side1 => repeat (first | exact (Kd.C_below HR0_0.out HB.out) | (with_reducible refine Kd.C_alloc ?_ _) | (with_reducible refine Kd.C_drewN ?_ _) | (with_reducible refine Kd.C_drew ?_)))
      (case side2 => exact HC0_0.out)
      rintro e w34 ⟨v699, rfl, ho0, hb⟩
      refine ⟨_, rfl, ?_⟩
      have n0_ := Aside0.mk (Kd.S_lower ho0 (below_size (by repeat (first | (with_reducible first | exact HB.out | apply below_alloc | apply pw_below_drewN | apply below_drew1 | refine below_set ?_ GE694.out | refine below_set ?_ GE695.out) | exact HB.out))))
      have n1_ := Aside0.mk (blk_below (g := gb694) (o := .cells #[.slice A0_0 l0_0.length c0_0] 24 (0, 0)) (by (with_reducible repeat (first | refine blk_drewN ?_ _ | refine blk_drew ?_ | refine blk_alloc ?_ _)); exact BK694.out) hb)
      have n2_ := Aside0.mk (blk_below (g := gb695) (o := .cells #[.slice A1_0 l1_0.length c1_0, .int .i64 a1_1] 52 (0, 0)) (by (with_reducible repeat (first | refine blk_drewN ?_ _ | refine blk_drew ?_ | refine blk_alloc ?_ _)); exact BK695.out) hb)
      have n3_ := Aside0.mk (below_step (by repeat (first | (with_reducible first | exact HB.out | apply below_alloc | apply pw_below_drewN | apply below_drew1 | refine below_set ?_ GE694.out | refine below_set ?_ GE695.out) | exact HB.out)) hb)
      clear BK694
      clear BK695
      clear HB
      have HO700 := n0_
      have BK694 := n1_
      have BK695 := n2_
      have HB := n3_
      clear n0_ n1_ n2_ n3_
      (try clear hb)
      (try clear hb2)
      (try clear hk)
      (try clear hi)
      (try clear ho0)
      refine hK.out _ _ ⟨(blk_cell BK694.out 0).trans rfl, (blk_cell BK695.out 0).trans rfl, (blk_cell BK695.out 1).trans rfl⟩ (fun hHeld => ?_)
      clear hK K
      refine norm_ (a' := ?_) ?_ ?_
      rotate_left
      · show Act.put _ (some 24) _ = _
        simp only [Act.put, List.setIfInBounds_toArray, List.set_cons_zero, List.set_cons_succ, i64_w, i32_w]
        rfl
      refine one_ (i := 3) (N := some 26) #[true, true, true, true, false, false, false, false, false, false] rfl rfl (one_of HT_.out (by kernel_rfl)) (by decide) (fun K hK => ?_)
      refine goes_ Try.func46 (by kernel_rfl) rfl #[.agg #[.slice A1_0 l1_0.length c1_0, .int .i64 a1_1]] (by rfl) rfl rfl (by (try simp only [List.map_toArray, List.map_cons, List.map_nil]); first | done | rfl | (simp only [List.length_drop, List.length_take]; rfl)) ?_
      with_reducible refine (laws_toWalk.calls k _ _ l1_0 a1_1 t701 t704 _ ?side1 ?side2 A20.out).mono ?_
      (case side1 => repeat (first | exact (Kd.C_below HR1_0.out HB.out) | (with_reducible refine Kd.C_alloc ?_ _) | (with_reducible refine Kd.C_drewN ?_ _) | (with_reducible refine Kd.C_drew ?_)))
      (case side2 => exact HC1_0.out)
      rintro e w35 ⟨v702, rfl, ho0, hb⟩
      refine ⟨_, rfl, ?_⟩
      have n0_ := Aside0.mk (Kd.S_elder' (by (with_reducible repeat (first | apply Kd.S_alloc | apply Kd.S_drewN | apply Kd.S_drew)); exact HO700.out) (Kd.R_base ho0) hb)
      have n1_ := Aside0.mk (Kd.R_lower ho0 (below_size (by repeat (first | (with_reducible first | exact HB.out | apply below_alloc | apply pw_below_drewN | apply below_drew1 | refine below_set ?_ GE694.out | refine below_set ?_ GE695.out) | exact HB.out))))
      have n2_ := Aside0.mk (blk_below (g := gb694) (o := .cells #[.slice A0_0 l0_0.length c0_0] 24 (0, 0)) (by (with_reducible repeat (first | refine blk_drewN ?_ _ | refine blk_drew ?_ | refine blk_alloc ?_ _)); exact BK694.out) hb)
      have n3_ := Aside0.mk (blk_below (g := gb695) (o := .cells #[.slice A1_0 l1_0.length c1_0, .int .i64 a1_1] 52 (0, 0)) (by (with_reducible repeat (first | refine blk_drewN ?_ _ | refine blk_drew ?_ | refine blk_alloc ?_ _)); exact BK695.out) hb)
      have n4_ := Aside0.mk (below_step (by repeat (first | (with_reducible first | exact HB.out | apply below_alloc | apply pw_below_drewN | apply below_drew1 | refine below_set ?_ GE694.out | refine below_set ?_ GE695.out) | exact HB.out)) hb)
      clear HO700
      clear BK694
      clear BK695
      clear HB
      have HO700 := n0_
      have HO703 := n1_
      have BK694 := n2_
      have BK695 := n3_
      have HB := n4_
      clear n0_ n1_ n2_ n3_ n4_
      (try clear hb)
      (try clear hb2)
      (try clear hk)
      (try clear hi)
      (try clear ho0)
      obtain ⟨Ao36, co36, eo36⟩ := Kd.S_slice HO700.out
      (first | subst eo36 | (injection eo36 with f1_ f2_ f3_; have f4_ := f1_.symm; have f5_ := f3_.symm; clear f1_ f2_ f3_; subst f4_; subst f5_))
      obtain ⟨Ao37, co37, eo37⟩ := Kd.R_slice HO703.out
      (first | subst eo37 | (injection eo37 with f1_ f2_ f3_; have f4_ := f1_.symm; have f5_ := f3_.symm; clear f1_ f2_ f3_; subst f4_; subst f5_))
      refine hK.out _ _ ⟨(blk_cell BK694.out 0).trans rfl, (blk_cell BK695.out 0).trans rfl, (blk_cell BK695.out 1).trans rfl⟩ (fun hHeld => ?_)
      clear hK K
      refine norm_ (a' := ?_) ?_ ?_
      rotate_left
      · show Act.put _ (some 26) _ = _
        simp only [Act.put, List.setIfInBounds_toArray, List.set_cons_zero, List.set_cons_succ, i64_w, i32_w]
        rfl
      refine one_ (i := 4) (N := some 27) #[true, true, true, true, true, false, false, false, false, false] rfl rfl (one_of HT_.out (by kernel_rfl)) (by decide) (fun K hK => ?_)
      refine goes_ Try.func45 (by kernel_rfl) rfl #[.agg #[.slice Ao36 t698.length co36], .agg #[.slice Ao37 t701.length co37, .int .i64 t704]] (by rfl) rfl rfl (by (try simp only [List.map_toArray, List.map_cons, List.map_nil]); first | done | rfl | (simp only [List.length_drop, List.length_take]; rfl)) ?_
      with_reducible refine (spec_IsUnicycle.calls k _ _ t698 _ _ t701 t704 t705 t706 _ ?side1 ?side2 ?side3 ?side4 A21.out).mono ?_
      (case side1 => repeat (first | exact (Kd.S_reads' HO700.out).2.2 | (with_reducible refine Kd.C_alloc ?_ _) | (with_reducible refine Kd.C_drewN ?_ _) | (with_reducible refine Kd.C_drew ?_)))
      (case side2 => exact (Kd.S_reads' HO700.out).2.1)
      (case side3 => repeat (first | exact (Kd.R_reads' HO703.out).2.2 | (with_reducible refine Kd.C_alloc ?_ _) | (with_reducible refine Kd.C_drewN ?_ _) | (with_reducible refine Kd.C_drew ?_)))
      (case side4 => exact (Kd.R_reads' HO703.out).2.1)
      rintro e w38 ⟨rfl, hb⟩
      refine ⟨_, rfl, ?_⟩
      have n0_ := Aside0.mk (Kd.S_below (by (with_reducible repeat (first | apply Kd.S_alloc | apply Kd.S_drewN | apply Kd.S_drew)); exact HO700.out) hb)
      have n1_ := Aside0.mk (Kd.R_below (by (with_reducible repeat (first | apply Kd.R_alloc | apply Kd.R_drewN | apply Kd.R_drew)); exact HO703.out) hb)
      have n2_ := Aside0.mk (blk_below (g := gb694) (o := .cells #[.slice A0_0 l0_0.length c0_0] 24 (0, 0)) (by (with_reducible repeat (first | refine blk_drewN ?_ _ | refine blk_drew ?_ | refine blk_alloc ?_ _)); exact BK694.out) hb)
      have n3_ := Aside0.mk (blk_below (g := gb695) (o := .cells #[.slice A1_0 l1_0.length c1_0, .int .i64 a1_1] 52 (0, 0)) (by (with_reducible repeat (first | refine blk_drewN ?_ _ | refine blk_drew ?_ | refine blk_alloc ?_ _)); exact BK695.out) hb)
      have n4_ := Aside0.mk (below_step (by repeat (first | (with_reducible first | exact HB.out | apply below_alloc | apply pw_below_drewN | apply below_drew1 | refine below_set ?_ GE694.out | refine below_set ?_ GE695.out) | exact HB.out)) hb)
      clear HO700
      clear HO703
      clear BK694
      clear BK695
      clear HB
      have HO700 := n0_
      have HO703 := n1_
      have BK694 := n2_
      have BK695 := n3_
      have HB := n4_
      clear n0_ n1_ n2_ n3_ n4_
      (try clear hb)
      (try clear hb2)
      (try clear hk)
      (try clear hi)
      refine hK.out _ _ ⟨(blk_cell BK694.out 0).trans rfl, (blk_cell BK695.out 0).trans rfl, (blk_cell BK695.out 1).trans rfl⟩ (fun hHeld => ?_)
      clear hK K
      refine norm_ (a' := ?_) ?_ ?_
      rotate_left
      · show Act.put _ (some 27) _ = _
        simp only [Act.put, List.setIfInBounds_toArray, List.set_cons_zero, List.set_cons_succ, i64_w, i32_w]
        rfl
      refine pure_ (i := 5) (N := some 22) (v := ?_) (a' := ?_) #[true, true, true, true, true, true, false, false, false, false] rfl rfl (any_of HT_.out (by kernel_rfl)) (fun _ _ _ h => h) (Or.inl ⟨by rfl, ?_⟩) ?_ ?_
      rotate_left
      · intro w'
        go_simp
        with_reducible rfl
      rotate_left
      · simp only [Act.put, List.setIfInBounds_toArray, List.set_cons_zero, List.set_cons_succ, i64_w, i32_w]
        rfl
      refine pure_ (i := 6) (N := some 28) (v := ?_) (a' := ?_) #[true, true, true, true, true, true, true, false, false, false] rfl rfl (any_of HT_.out (by kernel_rfl)) (fun _ _ _ h => h) (Or.inl ⟨by rfl, ?_⟩) ?_ ?_
      rotate_left
      · intro w'
        go_simp
        with_reducible rfl
      rotate_left
      · simp only [Act.put, List.setIfInBounds_toArray, List.set_cons_zero, List.set_cons_succ, i64_w, i32_w]
        rfl
      refine pure_ (i := 7) (N := some 29) (v := ?_) (a' := ?_) #[true, true, true, true, true, true, true, true, false, false] rfl rfl (any_of HT_.out (by kernel_rfl)) (fun _ _ _ h => h) (Or.inl ⟨by rfl, ?_⟩) ?_ ?_
      rotate_left
      · intro w'
        go_simp
        with_reducible rfl
      rotate_left
      · simp only [Act.put, List.setIfInBounds_toArray, List.set_cons_zero, List.set_cons_succ, i64_w, i32_w]
        rfl
      refine pure_ (i := 8) (N := some 6) (v := ?_) (a' := ?_) #[true, true, true, true, true, true, true, true, true, false] rfl rfl (any_of HT_.out (by kernel_rfl)) (fun _ _ _ h => h) (Or.inl ⟨by rfl, ?_⟩) ?_ ?_
      rotate_left
      · intro w'
        go_simp
        with_reducible rfl
      rotate_left
      · simp only [Act.put, List.setIfInBounds_toArray, List.set_cons_zero, List.set_cons_succ, i64_w, i32_w]
        rfl
      refine pure_ (i := 9) (N := some 7) (v := ?_) (a' := ?_) #[true, true, true, true, true, true, true, true, true, true] rfl rfl (any_of HT_.out (by kernel_rfl)) (fun _ _ _ h => h) (Or.inl ⟨by rfl, ?_⟩) ?_ ?_
      rotate_left
      · intro w'
        go_simp
        with_reducible rfl
      rotate_left
      · simp only [Act.put, List.setIfInBounds_toArray, List.set_cons_zero, List.set_cons_succ, i64_w, i32_w]
        rfl
      refine done_ (done_of HT_.out (by kernel_rfl)) ?_
      have hcz39_0 : w38.cell? ⟨gb694, 0, none⟩ = some (.slice A0_0 l0_0.length c0_0) := (blk_cell BK694.out 0).trans rfl
      have hfz39_0 := blk_frozen BK694.out 0
      go_upto_region 12 with (first | ((with_reducible refine gate_callee (f := 17) rfl ?_); refine goesL_ (some 31) rfl rfl Try.func17 (by kernel_rfl) rfl #[.agg #[.slice A0_0 l0_0.length c0_0]] rfl (by (try simp only [List.map_toArray, List.map_cons, List.map_nil]); first | done | rfl | (simp only [List.length_drop, List.length_take]; rfl)) ?_; (with_reducible refine (laws_toGraph.calls k _ _ l0_0 t707 _ ?side1 ?side2 A22.out).mono ?_); (case side1 => repeat (first | exact (Kd.C_below HR0_0.out HB.out) | (with_reducible refine Kd.C_alloc ?_ _) | (with_reducible refine Kd.C_drewN ?_ _) | (with_reducible refine Kd.C_drew ?_))); (case side2 => exact HC0_0.out); rintro e w40 ⟨v708, rfl, ho0, hb⟩; refine ⟨_, rfl, ?_⟩; have n0_ := Aside0.mk (Kd.S_elder' (by (with_reducible repeat (first | apply Kd.S_alloc | apply Kd.S_drewN | apply Kd.S_drew)); exact HO700.out) (Kd.S_base ho0) hb); have n1_ := Aside0.mk (Kd.R_below (by (with_reducible repeat (first | apply Kd.R_alloc | apply Kd.R_drewN | apply Kd.R_drew)); exact HO703.out) hb); have n2_ := Aside0.mk (Kd.S_lower (Kd.S_new' (Kd.S_new' ho0 (Kd.S_lt (by (with_reducible repeat (first | apply Kd.S_alloc | apply Kd.S_drewN | apply Kd.S_drew)); exact HO700.out))) (Kd.R_lt (by (with_reducible repeat (first | apply Kd.R_alloc | apply Kd.R_drewN | apply Kd.R_drew)); exact HO703.out))) (below_size (by repeat (first | (with_reducible first | exact HB.out | apply below_alloc | apply pw_below_drewN | apply below_drew1 | refine below_set ?_ GE694.out | refine below_set ?_ GE695.out) | exact HB.out)))); have n3_ := Aside0.mk (blk_below (g := gb694) (o := .cells #[.slice A0_0 l0_0.length c0_0] 24 (0, 0)) (by (with_reducible repeat (first | refine blk_drewN ?_ _ | refine blk_drew ?_ | refine blk_alloc ?_ _)); exact BK694.out) hb); have n4_ := Aside0.mk (blk_below (g := gb695) (o := .cells #[.slice A1_0 l1_0.length c1_0, .int .i64 a1_1] 52 (0, 0)) (by (with_reducible repeat (first | refine blk_drewN ?_ _ | refine blk_drew ?_ | refine blk_alloc ?_ _)); exact BK695.out) hb); have n5_ := Aside0.mk (below_step (by repeat (first | (with_reducible first | exact HB.out | apply below_alloc | apply pw_below_drewN | apply below_drew1 | refine below_set ?_ GE694.out | refine below_set ?_ GE695.out) | exact HB.out)) hb); clear HO700; clear HO703; clear BK694; clear BK695; clear HB; have HO700 := n0_; have HO703 := n1_; have HO709 := n2_; have BK694 := n3_; have BK695 := n4_; have HB := n5_; clear n0_ n1_ n2_ n3_ n4_ n5_; (try clear hb); (try clear hb2); (try clear hk); (try clear hi); (try clear ho0)) | ((with_reducible refine gate_dst (N := 8) rfl ?_); refine box_event ?hg (N := 8) ?hd (cs := #[.slice none 0 0]) (t := 28) ?hr ?_; (case hd => rfl); (case hg => rfl); (case hr => first | (go_simp; done) | (go_simp; rfl)); intro gb710 hg w41 hbox hb; have n0_ := Aside0.mk (Kd.S_below (by (with_reducible repeat (first | apply Kd.S_alloc | apply Kd.S_drewN | apply Kd.S_drew)); exact HO700.out) hb); have n1_ := Aside0.mk (Kd.R_below (by (with_reducible repeat (first | apply Kd.R_alloc | apply Kd.R_drewN | apply Kd.R_drew)); exact HO703.out) hb); have n2_ := Aside0.mk (Kd.S_below (by (with_reducible repeat (first | apply Kd.S_alloc | apply Kd.S_drewN | apply Kd.S_drew)); exact HO709.out) hb); have n3_ := Aside0.mk (blk_below (g := gb694) (o := .cells #[.slice A0_0 l0_0.length c0_0] 24 (0, 0)) (by (with_reducible repeat (first | refine blk_drewN ?_ _ | refine blk_drew ?_ | refine blk_alloc ?_ _)); exact BK694.out) hb); have n4_ := Aside0.mk (blk_below (g := gb695) (o := .cells #[.slice A1_0 l1_0.length c1_0, .int .i64 a1_1] 52 (0, 0)) (by (with_reducible repeat (first | refine blk_drewN ?_ _ | refine blk_drew ?_ | refine blk_alloc ?_ _)); exact BK695.out) hb); have n5_ := Aside0.mk (below_step (by repeat (first | (with_reducible first | exact HB.out | apply below_alloc | apply pw_below_drewN | apply below_drew1 | refine below_set ?_ GE694.out | refine below_set ?_ GE695.out) | exact HB.out)) hb); have n6_ := Aside0.mk (hbox); have n7_ := Aside0.mk ((by rw [hg]; exact (below_size (by repeat (first | (with_reducible first | exact HB.out | apply below_alloc | apply pw_below_drewN | apply below_drew1 | refine below_set ?_ GE694.out | refine below_set ?_ GE695.out) | exact HB.out))) : w.heap.size ≤ gb710)); have n8_ := Aside0.mk ((by rw [hg]; exact (below_size (by repeat (first | (with_reducible first | exact HB.out | apply below_alloc | apply pw_below_drewN | apply below_drew1 | refine below_set ?_ GE694.out | refine below_set ?_ GE695.out) | exact HB.out))) : w.heap.size ≤ gb710)); have n9_ := Aside0.mk ((by rw [hg]; exact Nat.ne_of_lt (blk_lt (g := gb694) (o := .cells #[.slice A0_0 l0_0.length c0_0] 24 (0, 0)) (by (with_reducible repeat (first | refine blk_drewN ?_ _ | refine blk_drew ?_ | refine blk_alloc ?_ _)); exact BK694.out)) : gb694 ≠ gb710)); have n10_ := Aside0.mk ((by rw [hg]; exact Nat.ne_of_gt (blk_lt (g := gb694) (o := .cells #[.slice A0_0 l0_0.length c0_0] 24 (0, 0)) (by (with_reducible repeat (first | refine blk_drewN ?_ _ | refine blk_drew ?_ | refine blk_alloc ?_ _)); exact BK694.out)) : gb710 ≠ gb694)); have n11_ := Aside0.mk ((by rw [hg]; exact Nat.ne_of_lt (blk_lt (g := gb695) (o := .cells #[.slice A1_0 l1_0.length c1_0, .int .i64 a1_1] 52 (0, 0)) (by (with_reducible repeat (first | refine blk_drewN ?_ _ | refine blk_drew ?_ | refine blk_alloc ?_ _)); exact BK695.out)) : gb695 ≠ gb710)); have n12_ := Aside0.mk ((by rw [hg]; exact Nat.ne_of_gt (blk_lt (g := gb695) (o := .cells #[.slice A1_0 l1_0.length c1_0, .int .i64 a1_1] 52 (0, 0)) (by (with_reducible repeat (first | refine blk_drewN ?_ _ | refine blk_drew ?_ | refine blk_alloc ?_ _)); exact BK695.out)) : gb710 ≠ gb695)); clear HO700; clear HO703; clear HO709; clear BK694; clear BK695; clear HB; have HO700 := n0_; have HO703 := n1_; have HO709 := n2_; have BK694 := n3_; have BK695 := n4_; have HB := n5_; have BK710 := n6_; have GW710 := n7_; have GE710 := n8_; have NB694_710 := n9_; have NB710_694 := n10_; have NB695_710 := n11_; have NB710_695 := n12_; clear n0_ n1_ n2_ n3_ n4_ n5_ n6_ n7_ n8_ n9_ n10_ n11_ n12_; clear hb hbox hg; obtain ⟨Ao42, co42, eo42⟩ := Kd.S_slice HO709.out; subst eo42; have hnb43 := NB710_694.out; have hnc43 := NB694_710.out; have hnb44 := NB710_695.out; have hnc44 := NB695_710.out; have hcz45_0 : w41.cell? ⟨gb710, 0, none⟩ = some (.slice none 0 0) := (blk_cell BK710.out 0).trans rfl; have hfz45_0 := blk_frozen BK710.out 0; have hcz46_0 : w41.cell? ⟨gb695, 0, none⟩ = some (.slice A1_0 l1_0.length c1_0) := (blk_cell BK695.out 0).trans rfl; have hcz46_1 : w41.cell? ⟨gb695, 1, none⟩ = some (.int .i64 a1_1) := (blk_cell BK695.out 1).trans rfl; have hfz46_0 := blk_frozen BK695.out 0; have hfz46_1 := blk_frozen BK695.out 1) | ((with_reducible refine gate_callee (f := 46) rfl ?_); refine goesL_ (some 33) rfl rfl Try.func46 (by kernel_rfl) rfl #[.agg #[.slice A1_0 l1_0.length c1_0, .int .i64 a1_1]] rfl (by (try simp only [List.map_toArray, List.map_cons, List.map_nil]); first | done | rfl | (simp only [List.length_drop, List.length_take]; rfl)) ?_; (with_reducible refine (laws_toWalk.calls k _ _ l1_0 a1_1 t711 t714 _ ?side1 ?side2 A23.out).mono ?_); (case side1 => exact Kd.C_below HR1_0.out (by repeat (first | (with_reducible first | exact HB.out | apply below_alloc | apply pw_below_drewN | apply below_drew1 | refine below_set ?_ GE694.out | refine below_set ?_ GE695.out | refine below_set ?_ GE710.out) | exact HB.out))); (case side2 => exact HC1_0.out); rintro e w47 ⟨v712, rfl, ho0, hb⟩; refine ⟨_, rfl, ?_⟩; have n0_ := Aside0.mk (Kd.S_elder' (by (with_reducible repeat (first | apply Kd.S_alloc | apply Kd.S_drewN | apply Kd.S_drew)); exact (Kd.S_mono (Kd.S_far (p := ⟨gb710, 0, none⟩) (Kd.S_types HO700.out BK710.out (by decide)) (fun _ hk => hk.2) (.slice Ao42 t707.length co42)) (fun _ h_ => h_.1))) (Kd.R_base ho0) hb); have n1_ := Aside0.mk (Kd.R_elder' (by (with_reducible repeat (first | apply Kd.R_alloc | apply Kd.R_drewN | apply Kd.R_drew)); exact (Kd.R_mono (Kd.R_far (p := ⟨gb710, 0, none⟩) (Kd.R_types HO703.out BK710.out (by decide)) (fun _ hk => hk.2) (.slice Ao42 t707.length co42)) (fun _ h_ => h_.1))) (Kd.R_base ho0) hb); have n2_ := Aside0.mk (Kd.S_elder' (by (with_reducible repeat (first | apply Kd.S_alloc | apply Kd.S_drewN | apply Kd.S_drew)); exact (Kd.S_mono (Kd.S_far (p := ⟨gb710, 0, none⟩) (Kd.S_types HO709.out BK710.out (by decide)) (fun _ hk => hk.2) (.slice Ao42 t707.length co42)) (fun _ h_ => h_.1))) (Kd.R_base ho0) hb); have n3_ := Aside0.mk (Kd.R_lower (Kd.R_new' ho0 (Kd.R_lt (by (with_reducible repeat (first | apply Kd.R_alloc | apply Kd.R_drewN | apply Kd.R_drew)); exact (Kd.R_mono (Kd.R_far (p := ⟨gb710, 0, none⟩) (Kd.R_types HO703.out BK710.out (by decide)) (fun _ hk => hk.2) (.slice Ao42 t707.length co42)) (fun _ h_ => h_.1))))) (below_size (by repeat (first | (with_reducible first | exact HB.out | apply below_alloc | apply pw_below_drewN | apply below_drew1 | refine below_set ?_ GE694.out | refine below_set ?_ GE695.out | refine below_set ?_ GE710.out) | exact HB.out)))); have n4_ := Aside0.mk (blk_below (g := gb694) (o := .cells #[.slice A0_0 l0_0.length c0_0] 24 (0, 0)) (by (with_reducible repeat (first | refine blk_drewN ?_ _ | refine blk_drew ?_ | refine blk_alloc ?_ _)); refine blk_far ?_ NB694_710.out _; (with_reducible repeat (first | refine blk_drewN ?_ _ | refine blk_drew ?_ | refine blk_alloc ?_ _)); exact BK694.out) hb); have n5_ := Aside0.mk (blk_below (g := gb695) (o := .cells #[.slice A1_0 l1_0.length c1_0, .int .i64 a1_1] 52 (0, 0)) (by (with_reducible repeat (first | refine blk_drewN ?_ _ | refine blk_drew ?_ | refine blk_alloc ?_ _)); refine blk_far ?_ NB695_710.out _; (with_reducible repeat (first | refine blk_drewN ?_ _ | refine blk_drew ?_ | refine blk_alloc ?_ _)); exact BK695.out) hb); have n6_ := Aside0.mk (blk_below (g := gb710) (o := .cells #[.slice Ao42 t707.length co42] 28 (0, 0)) (by (with_reducible repeat (first | refine blk_drewN ?_ _ | refine blk_drew ?_ | refine blk_alloc ?_ _)); refine blk_put (cs := #[.slice none 0 0]) ?_ 0 _ rfl; (with_reducible repeat (first | refine blk_drewN ?_ _ | refine blk_drew ?_ | refine blk_alloc ?_ _)); exact BK710.out) hb); have n7_ := Aside0.mk (below_step (by repeat (first | (with_reducible first | exact HB.out | apply below_alloc | apply pw_below_drewN | apply below_drew1 | refine below_set ?_ GE694.out | refine below_set ?_ GE695.out | refine below_set ?_ GE710.out) | exact HB.out)) hb); clear HO700; clear HO703; clear HO709; clear BK694; clear BK695; clear BK710; clear HB; have HO700 := n0_; have HO703 := n1_; have HO709 := n2_; have HO713 := n3_; have BK694 := n4_; have BK695 := n5_; have BK710 := n6_; have HB := n7_; clear n0_ n1_ n2_ n3_ n4_ n5_ n6_ n7_; (try clear hb); (try clear hb2); (try clear hk); (try clear hi); (try clear ho0)) | ((with_reducible refine gate_dst (N := 9) rfl ?_); refine box_event ?hg (N := 9) ?hd (cs := #[.slice none 0 0, .int .i64 0]) (t := 55) ?hr ?_; (case hd => rfl); (case hg => rfl); (case hr => first | (go_simp; done) | (go_simp; rfl)); intro gb715 hg w48 hbox hb; have n0_ := Aside0.mk (Kd.S_below (by (with_reducible repeat (first | apply Kd.S_alloc | apply Kd.S_drewN | apply Kd.S_drew)); exact HO700.out) hb); have n1_ := Aside0.mk (Kd.R_below (by (with_reducible repeat (first | apply Kd.R_alloc | apply Kd.R_drewN | apply Kd.R_drew)); exact HO703.out) hb); have n2_ := Aside0.mk (Kd.S_below (by (with_reducible repeat (first | apply Kd.S_alloc | apply Kd.S_drewN | apply Kd.S_drew)); exact HO709.out) hb); have n3_ := Aside0.mk (Kd.R_below (by (with_reducible repeat (first | apply Kd.R_alloc | apply Kd.R_drewN | apply Kd.R_drew)); exact HO713.out) hb); have n4_ := Aside0.mk (blk_below (g := gb694) (o := .cells #[.slice A0_0 l0_0.length c0_0] 24 (0, 0)) (by (with_reducible repeat (first | refine blk_drewN ?_ _ | refine blk_drew ?_ | refine blk_alloc ?_ _)); exact BK694.out) hb); have n5_ := Aside0.mk (blk_below (g := gb695) (o := .cells #[.slice A1_0 l1_0.length c1_0, .int .i64 a1_1] 52 (0, 0)) (by (with_reducible repeat (first | refine blk_drewN ?_ _ | refine blk_drew ?_ | refine blk_alloc ?_ _)); exact BK695.out) hb); have n6_ := Aside0.mk (blk_below (g := gb710) (o := .cells #[.slice Ao42 t707.length co42] 28 (0, 0)) (by (with_reducible repeat (first | refine blk_drewN ?_ _ | refine blk_drew ?_ | refine blk_alloc ?_ _)); exact BK710.out) hb); have n7_ := Aside0.mk (below_step (by repeat (first | (with_reducible first | exact HB.out | apply below_alloc | apply pw_below_drewN | apply below_drew1 | refine below_set ?_ GE694.out | refine below_set ?_ GE695.out | refine below_set ?_ GE710.out) | exact HB.out)) hb); have n8_ := Aside0.mk (hbox); have n9_ := Aside0.mk ((by rw [hg]; exact (below_size (by repeat (first | (with_reducible first | exact HB.out | apply below_alloc | apply pw_below_drewN | apply below_drew1 | refine below_set ?_ GE694.out | refine below_set ?_ GE695.out | refine below_set ?_ GE710.out) | exact HB.out))) : w.heap.size ≤ gb715)); have n10_ := Aside0.mk ((by rw [hg]; exact (below_size (by repeat (first | (with_reducible first | exact HB.out | apply below_alloc | apply pw_below_drewN | apply below_drew1 | refine below_set ?_ GE694.out | refine below_set ?_ GE695.out | refine below_set ?_ GE710.out) | exact HB.out))) : w.heap.size ≤ gb715)); have n11_ := Aside0.mk ((by rw [hg]; exact Nat.ne_of_lt (blk_lt (g := gb694) (o := .cells #[.slice A0_0 l0_0.length c0_0] 24 (0, 0)) (by (with_reducible repeat (first | refine blk_drewN ?_ _ | refine blk_drew ?_ | refine blk_alloc ?_ _)); exact BK694.out)) : gb694 ≠ gb715)); have n12_ := Aside0.mk ((by rw [hg]; exact Nat.ne_of_gt (blk_lt (g := gb694) (o := .cells #[.slice A0_0 l0_0.length c0_0] 24 (0, 0)) (by (with_reducible repeat (first | refine blk_drewN ?_ _ | refine blk_drew ?_ | refine blk_alloc ?_ _)); exact BK694.out)) : gb715 ≠ gb694)); have n13_ := Aside0.mk ((by rw [hg]; exact Nat.ne_of_lt (blk_lt (g := gb695) (o := .cells #[.slice A1_0 l1_0.length c1_0, .int .i64 a1_1] 52 (0, 0)) (by (with_reducible repeat (first | refine blk_drewN ?_ _ | refine blk_drew ?_ | refine blk_alloc ?_ _)); exact BK695.out)) : gb695 ≠ gb715)); have n14_ := Aside0.mk ((by rw [hg]; exact Nat.ne_of_gt (blk_lt (g := gb695) (o := .cells #[.slice A1_0 l1_0.length c1_0, .int .i64 a1_1] 52 (0, 0)) (by (with_reducible repeat (first | refine blk_drewN ?_ _ | refine blk_drew ?_ | refine blk_alloc ?_ _)); exact BK695.out)) : gb715 ≠ gb695)); have n15_ := Aside0.mk ((by rw [hg]; exact Nat.ne_of_lt (blk_lt (g := gb710) (o := .cells #[.slice Ao42 t707.length co42] 28 (0, 0)) (by (with_reducible repeat (first | refine blk_drewN ?_ _ | refine blk_drew ?_ | refine blk_alloc ?_ _)); exact BK710.out)) : gb710 ≠ gb715)); have n16_ := Aside0.mk ((by rw [hg]; exact Nat.ne_of_gt (blk_lt (g := gb710) (o := .cells #[.slice Ao42 t707.length co42] 28 (0, 0)) (by (with_reducible repeat (first | refine blk_drewN ?_ _ | refine blk_drew ?_ | refine blk_alloc ?_ _)); exact BK710.out)) : gb715 ≠ gb710)); clear HO700; clear HO703; clear HO709; clear HO713; clear BK694; clear BK695; clear BK710; clear HB; have HO700 := n0_; have HO703 := n1_; have HO709 := n2_; have HO713 := n3_; have BK694 := n4_; have BK695 := n5_; have BK710 := n6_; have HB := n7_; have BK715 := n8_; have GW715 := n9_; have GE715 := n10_; have NB694_715 := n11_; have NB715_694 := n12_; have NB695_715 := n13_; have NB715_695 := n14_; have NB710_715 := n15_; have NB715_710 := n16_; clear n0_ n1_ n2_ n3_ n4_ n5_ n6_ n7_ n8_ n9_ n10_ n11_ n12_ n13_ n14_ n15_ n16_; clear hb hbox hg; obtain ⟨Ao49, co49, eo49⟩ := Kd.R_slice HO713.out; subst eo49; have hnb50 := NB715_694.out; have hnc50 := NB694_715.out; have hnb51 := NB715_695.out; have hnc51 := NB695_715.out; have hnb52 := NB715_710.out; have hnc52 := NB710_715.out; have hcz53_0 : w48.cell? ⟨gb715, 0, none⟩ = some (.slice none 0 0) := (blk_cell BK715.out 0).trans rfl; have hcz53_1 : w48.cell? ⟨gb715, 1, none⟩ = some (.int .i64 0) := (blk_cell BK715.out 1).trans rfl; have hfz53_0 := blk_frozen BK715.out 0; have hfz53_1 := blk_frozen BK715.out 1; have hcz54_0 : w48.cell? ⟨gb710, 0, none⟩ = some (.slice Ao42 t707.length co42) := (blk_cell BK710.out 0).trans rfl; have hfz54_0 := blk_frozen BK710.out 0) | ((with_reducible refine gate_callee (f := 47) rfl ?_); refine goesL_ (some 37) rfl rfl Try.func47 (by kernel_rfl) rfl #[.agg #[.slice Ao42 t707.length co42], .agg #[.slice Ao49 t711.length co49, .int .i64 t714]] rfl (by (try simp only [List.map_toArray, List.map_cons, List.map_nil]); first | done | rfl | (simp only [List.length_drop, List.length_take]; rfl)) ?_; (with_reducible refine (impl_IsUnicycle.calls k _ _ t707 _ _ t711 t714 t716 t717 _ ?side1 ?side2 ?side3 ?side4 A24.out).mono ?_); (case side1 => refine (Kd.S_reads' (e := 35) (base := w.heap.size) (ok := fun k_ => (((True ∧ some k_ ≠ (.slice Ao36 t698.length co36 : Value).ownBlock) ∧ some k_ ≠ (.slice Ao37 t701.length co37 : Value).ownBlock) ∧ some k_ ≠ (.slice Ao49 t711.length co49 : Value).ownBlock)) (n := t707.length) (c := co42) ?_).2.2; exact (by (with_reducible repeat (first | apply Kd.S_alloc | apply Kd.S_drewN | apply Kd.S_drew)); exact (Kd.S_mono (Kd.S_far (p := ⟨gb715, 1, none⟩) (Kd.S_far (p := ⟨gb715, 0, none⟩) (Kd.S_types HO709.out BK715.out (by decide)) (fun _ hk => hk.2) (.slice Ao49 t711.length co49)) (fun _ hk => hk.2) (.int .i64 t714)) (fun _ h_ => h_.1)))); (case side2 => exact (Kd.S_reads' HO709.out).2.1); (case side3 => refine (Kd.R_reads' (e := 3) (base := w.heap.size) (ok := fun k_ => (True ∧ some k_ ≠ (.slice Ao37 t701.length co37 : Value).ownBlock)) (n := t711.length) (c := co49) ?_).2.2; exact (by (with_reducible repeat (first | apply Kd.R_alloc | apply Kd.R_drewN | apply Kd.R_drew)); exact (Kd.R_mono (Kd.R_far (p := ⟨gb715, 1, none⟩) (Kd.R_far (p := ⟨gb715, 0, none⟩) (Kd.R_types HO713.out BK715.out (by decide)) (fun _ hk => hk.2) (.slice Ao49 t711.length co49)) (fun _ hk => hk.2) (.int .i64 t714)) (fun _ h_ => h_.1)))); (case side4 => exact (Kd.R_reads' HO713.out).2.1); rintro e w55 ⟨rfl, hb⟩; refine ⟨_, rfl, ?_⟩; have n0_ := Aside0.mk (Kd.S_below (by (with_reducible repeat (first | apply Kd.S_alloc | apply Kd.S_drewN | apply Kd.S_drew)); exact (Kd.S_mono (Kd.S_far (p := ⟨gb715, 1, none⟩) (Kd.S_far (p := ⟨gb715, 0, none⟩) (Kd.S_types HO700.out BK715.out (by decide)) (fun _ hk => hk.2) (.slice Ao49 t711.length co49)) (fun _ hk => hk.2) (.int .i64 t714)) (fun _ h_ => h_.1))) hb); have n1_ := Aside0.mk (Kd.R_below (by (with_reducible repeat (first | apply Kd.R_alloc | apply Kd.R_drewN | apply Kd.R_drew)); exact (Kd.R_mono (Kd.R_far (p := ⟨gb715, 1, none⟩) (Kd.R_far (p := ⟨gb715, 0, none⟩) (Kd.R_types HO703.out BK715.out (by decide)) (fun _ hk => hk.2) (.slice Ao49 t711.length co49)) (fun _ hk => hk.2) (.int .i64 t714)) (fun _ h_ => h_.1))) hb); have n2_ := Aside0.mk (Kd.S_below (by (with_reducible repeat (first | apply Kd.S_alloc | apply Kd.S_drewN | apply Kd.S_drew)); exact (Kd.S_mono (Kd.S_far (p := ⟨gb715, 1, none⟩) (Kd.S_far (p := ⟨gb715, 0, none⟩) (Kd.S_types HO709.out BK715.out (by decide)) (fun _ hk => hk.2) (.slice Ao49 t711.length co49)) (fun _ hk => hk.2) (.int .i64 t714)) (fun _ h_ => h_.1))) hb); have n3_ := Aside0.mk (Kd.R_below (by (with_reducible repeat (first | apply Kd.R_alloc | apply Kd.R_drewN | apply Kd.R_drew)); exact (Kd.R_mono (Kd.R_far (p := ⟨gb715, 1, none⟩) (Kd.R_far (p := ⟨gb715, 0, none⟩) (Kd.R_types HO713.out BK715.out (by decide)) (fun _ hk => hk.2) (.slice Ao49 t711.length co49)) (fun _ hk => hk.2) (.int .i64 t714)) (fun _ h_ => h_.1))) hb); have n4_ := Aside0.mk (blk_below (g := gb694) (o := .cells #[.slice A0_0 l0_0.length c0_0] 24 (0, 0)) (by (with_reducible repeat (first | refine blk_drewN ?_ _ | refine blk_drew ?_ | refine blk_alloc ?_ _)); refine blk_far ?_ NB694_715.out _; (with_reducible repeat (first | refine blk_drewN ?_ _ | refine blk_drew ?_ | refine blk_alloc ?_ _)); refine blk_far ?_ NB694_715.out _; (with_reducible repeat (first | refine blk_drewN ?_ _ | refine blk_drew ?_ | refine blk_alloc ?_ _)); exact BK694.out) hb); have n5_ := Aside0.mk (blk_below (g := gb695) (o := .cells #[.slice A1_0 l1_0.length c1_0, .int .i64 a1_1] 52 (0, 0)) (by (with_reducible repeat (first | refine blk_drewN ?_ _ | refine blk_drew ?_ | refine blk_alloc ?_ _)); refine blk_far ?_ NB695_715.out _; (with_reducible repeat (first | refine blk_drewN ?_ _ | refine blk_drew ?_ | refine blk_alloc ?_ _)); refine blk_far ?_ NB695_715.out _; (with_reducible repeat (first | refine blk_drewN ?_ _ | refine blk_drew ?_ | refine blk_alloc ?_ _)); exact BK695.out) hb); have n6_ := Aside0.mk (blk_below (g := gb710) (o := .cells #[.slice Ao42 t707.length co42] 28 (0, 0)) (by (with_reducible repeat (first | refine blk_drewN ?_ _ | refine blk_drew ?_ | refine blk_alloc ?_ _)); refine blk_far ?_ NB710_715.out _; (with_reducible repeat (first | refine blk_drewN ?_ _ | refine blk_drew ?_ | refine blk_alloc ?_ _)); refine blk_far ?_ NB710_715.out _; (with_reducible repeat (first | refine blk_drewN ?_ _ | refine blk_drew ?_ | refine blk_alloc ?_ _)); exact BK710.out) hb); have n7_ := Aside0.mk (blk_below (g := gb715) (o := .cells #[.slice Ao49 t711.length co49, .int .i64 t714] 55 (0, 0)) (by (with_reducible repeat (first | refine blk_drewN ?_ _ | refine blk_drew ?_ | refine blk_alloc ?_ _)); refine blk_put (cs := #[.slice Ao49 t711.length co49, .int .i64 0]) ?_ 1 _ rfl; (with_reducible repeat (first | refine blk_drewN ?_ _ | refine blk_drew ?_ | refine blk_alloc ?_ _)); refine blk_put (cs := #[.slice none 0 0, .int .i64 0]) ?_ 0 _ rfl; (with_reducible repeat (first | refine blk_drewN ?_ _ | refine blk_drew ?_ | refine blk_alloc ?_ _)); exact BK715.out) hb); have n8_ := Aside0.mk (below_step (by repeat (first | (with_reducible first | exact HB.out | apply below_alloc | apply pw_below_drewN | apply below_drew1 | refine below_set ?_ GE694.out | refine below_set ?_ GE695.out | refine below_set ?_ GE710.out | refine below_set ?_ GE715.out) | exact HB.out)) hb); clear HO700; clear HO703; clear HO709; clear HO713; clear BK694; clear BK695; clear BK710; clear BK715; clear HB; have HO700 := n0_; have HO703 := n1_; have HO709 := n2_; have HO713 := n3_; have BK694 := n4_; have BK695 := n5_; have BK710 := n6_; have BK715 := n7_; have HB := n8_; clear n0_ n1_ n2_ n3_ n4_ n5_ n6_ n7_ n8_; (try clear hb); (try clear hb2); (try clear hk); (try clear hi)))
      (try simp only [Act.put, List.setIfInBounds_toArray, List.set_cons_zero, List.set_cons_succ])
      go_cut [47] (fun v47 wc => ∃ (kq : Nat) (x47_24 : Bool), v47 = .bool x47_24 ∧ Aside0 (laws_FnExactIsUnicycle.j0 kq x47_24 l0_0 l1_0 a1_1 t707 t711 t714 = some r) ∧ Aside0 (kq ≤ k) ∧ Aside0 (Kd.S (Kd.slice 3 (Kd.int .i64)) 35 wc w.heap.size (fun k_ => some k_ ≠ ((.slice Ao49 t711.length co49) : Value).ownBlock) (.slice Ao42 t707.length co42) t707) ∧ Aside0 (Kd.R (Kd.int .i64) 3 wc w.heap.size (fun _ => True) (.slice Ao49 t711.length co49) t711) ∧ Aside0 (wc.heap[gb694]? = some (.cells #[(.slice A0_0 l0_0.length c0_0)] 24 (0, 0))) ∧ Aside0 (wc.heap[gb695]? = some (.cells #[(.slice A1_0 l1_0.length c1_0), .int .i64 a1_1] 52 (0, 0))) ∧ Aside0 (wc.heap[gb710]? = some (.cells #[(.slice Ao42 t707.length co42)] 28 (0, 0))) ∧ Aside0 (wc.heap[gb715]? = some (.cells #[(.slice Ao49 t711.length co49), .int .i64 t714] 55 (0, 0))) ∧ Aside0 (Below w.heap.size w wc))
      case first =>
        have H := HC25.out
        clear HC25
        by_cases c56 : (t716 != t705) = true
        · rw [if_pos c56] at H
          have c56b0 : (t716 != t705) = true := c56
          (try (have c56b1 : decide (t716 = t705) = false := by simpa using c56))
          (try (have c56b2 : (t716 == t705) = false := by simpa using c56))
          (try (have c56b3 : ¬ (t716 = t705) := by simpa using c56))
          clear c56
          (first | rw [c56b0] | (simp only [i64_w, i32_w]; rw [c56b0]) | skip)
          have H' := Aside0.mk H
          clear H
          go_wp2
          go_meet
          case rel => exact ⟨_, (true), (by first | rfl | (simp; done) | (simp [*]; done)), H', ⟨by first | omega | exact Nat.le_refl _⟩, ⟨by (with_reducible repeat (first | apply Kd.S_alloc | apply Kd.S_drewN | apply Kd.S_drew)); exact Kd.S_mono HO709.out (fun _ hk => hk.2)⟩, ⟨by (with_reducible repeat (first | apply Kd.R_alloc | apply Kd.R_drewN | apply Kd.R_drew)); exact Kd.R_mono HO713.out (fun _ hk => trivial)⟩, ⟨by (with_reducible repeat (first | refine blk_drewN ?_ _ | refine blk_drew ?_ | refine blk_alloc ?_ _)); exact BK694.out⟩, ⟨by (with_reducible repeat (first | refine blk_drewN ?_ _ | refine blk_drew ?_ | refine blk_alloc ?_ _)); exact BK695.out⟩, ⟨by (with_reducible repeat (first | refine blk_drewN ?_ _ | refine blk_drew ?_ | refine blk_alloc ?_ _)); exact BK710.out⟩, ⟨by (with_reducible repeat (first | refine blk_drewN ?_ _ | refine blk_drew ?_ | refine blk_alloc ?_ _)); exact BK715.out⟩, ⟨by repeat (first | (with_reducible first | exact HB.out | apply below_alloc | apply pw_below_drewN | apply below_drew1 | refine below_set ?_ GE694.out | refine below_set ?_ GE695.out | refine below_set ?_ GE710.out | refine below_set ?_ GE715.out) | exact HB.out)⟩⟩
        · rw [if_neg c56] at H
          have c56b0 : (t716 != t705) = false := by simpa using c56
          (try (have c56b1 : decide (t716 = t705) = true := by simpa using c56))
          (try (have c56b2 : (t716 == t705) = true := by simpa using c56))
          clear c56
          (first | rw [c56b0] | (simp only [i64_w, i32_w]; rw [c56b0]) | skip)
          have H' := Aside0.mk H
          clear H
          go_wp2
          go_meet
          case rel => exact ⟨_, ((t717 != t706)), (by first | rfl | (simp; done) | (simp [*]; done)), H', ⟨by first | omega | exact Nat.le_refl _⟩, ⟨by (with_reducible repeat (first | apply Kd.S_alloc | apply Kd.S_drewN | apply Kd.S_drew)); exact Kd.S_mono HO709.out (fun _ hk => hk.2)⟩, ⟨by (with_reducible repeat (first | apply Kd.R_alloc | apply Kd.R_drewN | apply Kd.R_drew)); exact Kd.R_mono HO713.out (fun _ hk => trivial)⟩, ⟨by (with_reducible repeat (first | refine blk_drewN ?_ _ | refine blk_drew ?_ | refine blk_alloc ?_ _)); exact BK694.out⟩, ⟨by (with_reducible repeat (first | refine blk_drewN ?_ _ | refine blk_drew ?_ | refine blk_alloc ?_ _)); exact BK695.out⟩, ⟨by (with_reducible repeat (first | refine blk_drewN ?_ _ | refine blk_drew ?_ | refine blk_alloc ?_ _)); exact BK710.out⟩, ⟨by (with_reducible repeat (first | refine blk_drewN ?_ _ | refine blk_drew ?_ | refine blk_alloc ?_ _)); exact BK715.out⟩, ⟨by repeat (first | (with_reducible first | exact HB.out | apply below_alloc | apply pw_below_drewN | apply below_drew1 | refine below_set ?_ GE694.out | refine below_set ?_ GE695.out | refine below_set ?_ GE710.out | refine below_set ?_ GE715.out) | exact HB.out)⟩⟩
      case rest =>
        clear HC25
        try clear c1
        try clear c2
        try clear p2
        try clear c4
        try clear c4b0
        try clear c5
        try clear c7
        try clear c11
        try clear c11b0
        try clear c12
        try clear c14
        try clear c15
        try clear c17
        try clear c28
        try clear c43
        try clear c44
        try clear c45
        try clear c46
        try clear c47
        try clear c50
        try clear c51
        try clear c52
        try clear c56
        try clear c56b0
        try clear c56b1
        try clear c56b2
        try clear hcz15_0
        try clear hcz17_0
        try clear hcz17_1
        try clear hcz29_0
        try clear hcz31_0
        try clear hcz31_1
        try clear hcz39_0
        try clear hcz45_0
        try clear hcz46_0
        try clear hcz46_1
        try clear hcz53_0
        try clear hcz53_1
        try clear hcz54_0
        try clear hcz8_0
        try clear hfz15_0
        try clear hfz17_0
        try clear hfz17_1
        try clear hfz29_0
        try clear hfz31_0
        try clear hfz31_1
        try clear hfz39_0
        try clear hfz45_0
        try clear hfz46_0
        try clear hfz46_1
        try clear hfz53_0
        try clear hfz53_1
        try clear hfz54_0
        try clear hfz8_0
        obtain ⟨kq, x47_24, rfl, HA, HJ24, HO_711000, HO_716000, BK694, BK695, BK710, BK715, HB⟩ := hcut
        cases kq with
        | zero => exact absurd HA.out (by simp [laws_FnExactIsUnicycle.j0])
        | succ kj24 =>
          have H := HA.out
          clear HA
          simp only [laws_FnExactIsUnicycle.j0] at H
          by_cases c57 : x47_24 = true
          · subst c57
            have H1 : (some false) = some r := by rw [if_pos rfl] at H; exact H
            clear H
            have H := H1
            clear H1
            obtain rfl := Option.some.inj H
            go_wp2
            go_ret
            exact ⟨by first | rfl | (simp [errW_none, errW_some] <;> rfl) | (simp [*, errW_none, errW_some] <;> rfl), by repeat (first | (with_reducible first | exact HB.out | apply below_alloc | apply pw_below_drewN | apply below_drew1 | refine below_set ?_ GE694.out | refine below_set ?_ GE695.out | refine below_set ?_ GE710.out | refine below_set ?_ GE715.out) | exact HB.out)⟩
          · replace c57 := Bool.eq_false_iff.mpr c57
            subst c57
            have H1 : ((laws_toGraph.f kj24 l0_0).bind fun t718 => ((laws_eqGraph.f kj24 t707 t718).bind fun t721 => (if t721 = true then ((laws_toWalk.f kj24 l1_0 a1_1).bind fun bt722 => ((laws_eqWalk.f kj24 t711 t714 bt722.1 bt722.2).bind fun t726 => (if t726 = true then (some true) else (some false)))) else (some false)))) = some r := by rw [if_neg (show ¬ (false = true) by decide)] at H; exact H
            clear H
            have H := H1
            clear H1
            replace H := Option.bind_eq_some_iff.mp H
            obtain ⟨t718, A580, H⟩ := H
            replace H : ((laws_eqGraph.f kj24 t707 t718).bind fun t721 => (if t721 = true then ((laws_toWalk.f kj24 l1_0 a1_1).bind fun bt722 => ((laws_eqWalk.f kj24 t711 t714 bt722.1 bt722.2).bind fun t726 => (if t726 = true then (some true) else (some false)))) else (some false))) = some r := H
            have A58 := Aside0.mk A580
            clear A580
            replace H := Option.bind_eq_some_iff.mp H
            obtain ⟨t721, A590, H⟩ := H
            replace H : (if t721 = true then ((laws_toWalk.f kj24 l1_0 a1_1).bind fun bt722 => ((laws_eqWalk.f kj24 t711 t714 bt722.1 bt722.2).bind fun t726 => (if t726 = true then (some true) else (some false)))) else (some false)) = some r := H
            have A59 := Aside0.mk A590
            clear A590
            by_cases c60 : t721 = true
            · subst c60
              have H1 : ((laws_toWalk.f kj24 l1_0 a1_1).bind fun bt722 => ((laws_eqWalk.f kj24 t711 t714 bt722.1 bt722.2).bind fun t726 => (if t726 = true then (some true) else (some false)))) = some r := by rw [if_pos rfl] at H; exact H
              clear H
              have H := H1
              clear H1
              replace H := Option.bind_eq_some_iff.mp H
              obtain ⟨⟨t722, t725⟩, A610, H⟩ := H
              replace H : ((laws_eqWalk.f kj24 t711 t714 t722 t725).bind fun t726 => (if t726 = true then (some true) else (some false))) = some r := H
              have A61 := Aside0.mk A610
              clear A610
              replace H := Option.bind_eq_some_iff.mp H
              obtain ⟨t726, A620, H⟩ := H
              replace H : (if t726 = true then (some true) else (some false)) = some r := H
              have A62 := Aside0.mk A620
              clear A620
              by_cases c63 : t726 = true
              · subst c63
                have H1 : (some true) = some r := by rw [if_pos rfl] at H; exact H
                clear H
                have H := H1
                clear H1
                obtain rfl := Option.some.inj H
                try go_wp2
                have n0_ := Aside0.mk (Kd.S_drew HO_711000.out)
                have n1_ := Aside0.mk (Kd.R_drew HO_716000.out)
                have n2_ := Aside0.mk (blk_drew BK694.out)
                have n3_ := Aside0.mk (blk_drew BK695.out)
                have n4_ := Aside0.mk (blk_drew BK710.out)
                have n5_ := Aside0.mk (blk_drew BK715.out)
                have n6_ := Aside0.mk (below_drew1 HB.out)
                clear HO_711000
                clear HO_716000
                clear BK694
                clear BK695
                clear BK710
                clear BK715
                clear HB
                have HO_711000 := n0_
                have HO_716000 := n1_
                have BK694 := n2_
                have BK695 := n3_
                have BK710 := n4_
                have BK715 := n5_
                have HB := n6_
                clear n0_ n1_ n2_ n3_ n4_ n5_ n6_
                refine start_ (n := 5) (S := fun w' => w'.cell? ⟨gb710, 0, none⟩ = some (.slice Ao42 t707.length co42) ∧ w'.cell? ⟨gb694, 0, none⟩ = some (.slice A0_0 l0_0.length c0_0)) (ds := []) #[false, false, false, false, false] (by kernel_rfl) rfl rfl ⟨(blk_cell BK710.out 0).trans rfl, (blk_cell BK694.out 0).trans rfl⟩ (fun hHeld => ?_)
                generalize wc.drew = w64 at HO_711000 HO_716000 BK694 BK695 BK710 BK715 HB hHeld ⊢
                refine take_ (i := 0) (N := some 48) (v := ?_) (a' := ?_) #[true, false, false, false, false] rfl rfl (by kernel_rfl) (fun _ _ _ h => h) (Or.inl ⟨by rfl, ?_⟩) hHeld ?_ ?_
                rotate_left
                · rintro w' ⟨s0, s1⟩
                  go_simp
                  with_reducible rfl
                rotate_left
                · simp only [Act.put, List.setIfInBounds_toArray, List.set_cons_zero, List.set_cons_succ, i64_w, i32_w]
                  rfl
                refine take_ (i := 1) (N := some 49) (v := ?_) (a' := ?_) #[true, true, false, false, false] rfl rfl (by kernel_rfl) (fun _ _ _ h => h) (Or.inl ⟨by rfl, ?_⟩) hHeld ?_ ?_
                rotate_left
                · rintro w' ⟨s0, s1⟩
                  go_simp
                  with_reducible rfl
                rotate_left
                · simp only [Act.put, List.setIfInBounds_toArray, List.set_cons_zero, List.set_cons_succ, i64_w, i32_w]
                  rfl
                refine one_ (i := 2) (N := some 50) #[true, true, true, false, false] rfl rfl (by kernel_rfl) (by decide) (fun K hK => ?_)
                refine goes_ Try.func17 (by kernel_rfl) rfl #[.agg #[.slice A0_0 l0_0.length c0_0]] (by rfl) rfl rfl (by (try simp only [List.map_toArray, List.map_cons, List.map_nil]); first | done | rfl | (simp only [List.length_drop, List.length_take]; rfl)) ?_
                with_reducible refine (laws_toGraph.calls kj24 _ _ l0_0 t718 _ ?side1 ?side2 A58.out).mono ?_
                (case side1 => repeat (first | exact (Kd.C_below HR0_0.out HB.out) | (with_reducible refine Kd.C_alloc ?_ _) | (with_reducible refine Kd.C_drewN ?_ _) | (with_reducible refine Kd.C_drew ?_)))
                (case side2 => exact HC0_0.out)
                rintro e w65 ⟨v719, rfl, ho0, hb⟩
                refine ⟨_, rfl, ?_⟩
                have n0_ := Aside0.mk (Kd.S_elder' (by (with_reducible repeat (first | apply Kd.S_alloc | apply Kd.S_drewN | apply Kd.S_drew)); exact HO_711000.out) (Kd.S_base ho0) hb)
                have n1_ := Aside0.mk (Kd.R_below (by (with_reducible repeat (first | apply Kd.R_alloc | apply Kd.R_drewN | apply Kd.R_drew)); exact HO_716000.out) hb)
                have n2_ := Aside0.mk (Kd.S_lower (Kd.S_new' (Kd.S_new' ho0 (Kd.S_lt (by (with_reducible repeat (first | apply Kd.S_alloc | apply Kd.S_drewN | apply Kd.S_drew)); exact HO_711000.out))) (Kd.R_lt (by (with_reducible repeat (first | apply Kd.R_alloc | apply Kd.R_drewN | apply Kd.R_drew)); exact HO_716000.out))) (below_size (by repeat (first | (with_reducible first | exact HB.out | apply below_alloc | apply pw_below_drewN | apply below_drew1 | refine below_set ?_ GE694.out | refine below_set ?_ GE695.out | refine below_set ?_ GE710.out | refine below_set ?_ GE715.out) | exact HB.out))))
                have n3_ := Aside0.mk (blk_below (g := gb694) (o := .cells #[.slice A0_0 l0_0.length c0_0] 24 (0, 0)) (by (with_reducible repeat (first | refine blk_drewN ?_ _ | refine blk_drew ?_ | refine blk_alloc ?_ _)); exact BK694.out) hb)
                have n4_ := Aside0.mk (blk_below (g := gb695) (o := .cells #[.slice A1_0 l1_0.length c1_0, .int .i64 a1_1] 52 (0, 0)) (by (with_reducible repeat (first | refine blk_drewN ?_ _ | refine blk_drew ?_ | refine blk_alloc ?_ _)); exact BK695.out) hb)
                have n5_ := Aside0.mk (blk_below (g := gb710) (o := .cells #[.slice Ao42 t707.length co42] 28 (0, 0)) (by (with_reducible repeat (first | refine blk_drewN ?_ _ | refine blk_drew ?_ | refine blk_alloc ?_ _)); exact BK710.out) hb)
                have n6_ := Aside0.mk (blk_below (g := gb715) (o := .cells #[.slice Ao49 t711.length co49, .int .i64 t714] 55 (0, 0)) (by (with_reducible repeat (first | refine blk_drewN ?_ _ | refine blk_drew ?_ | refine blk_alloc ?_ _)); exact BK715.out) hb)
                have n7_ := Aside0.mk (below_step (by repeat (first | (with_reducible first | exact HB.out | apply below_alloc | apply pw_below_drewN | apply below_drew1 | refine below_set ?_ GE694.out | refine below_set ?_ GE695.out | refine below_set ?_ GE710.out | refine below_set ?_ GE715.out) | exact HB.out)) hb)
                clear HO_711000
                clear HO_716000
                clear BK694
                clear BK695
                clear BK710
                clear BK715
                clear HB
                have HO_711000 := n0_
                have HO_716000 := n1_
                have HO720 := n2_
                have BK694 := n3_
                have BK695 := n4_
                have BK710 := n5_
                have BK715 := n6_
                have HB := n7_
                clear n0_ n1_ n2_ n3_ n4_ n5_ n6_ n7_
                (try clear hb)
                (try clear hb2)
                (try clear hk)
                (try clear hi)
                (try clear ho0)
                obtain ⟨Ao66, co66, eo66⟩ := Kd.S_slice HO720.out
                (first | subst eo66 | (injection eo66 with f1_ f2_ f3_; have f4_ := f1_.symm; have f5_ := f3_.symm; clear f1_ f2_ f3_; subst f4_; subst f5_))
                refine hK.out _ _ ⟨(blk_cell BK710.out 0).trans rfl, (blk_cell BK694.out 0).trans rfl⟩ (fun hHeld => ?_)
                clear hK K
                refine norm_ (a' := ?_) ?_ ?_
                rotate_left
                · show Act.put _ (some 50) _ = _
                  simp only [Act.put, List.setIfInBounds_toArray, List.set_cons_zero, List.set_cons_succ, i64_w, i32_w]
                  rfl
                refine one_ (i := 3) (N := some 51) #[true, true, true, true, false] rfl rfl (by kernel_rfl) (by decide) (fun K hK => ?_)
                refine goes_ Try.func20 (by kernel_rfl) rfl #[.agg #[.slice Ao42 t707.length co42], .agg #[.slice Ao66 t718.length co66]] (by rfl) rfl rfl (by (try simp only [List.map_toArray, List.map_cons, List.map_nil]); first | done | rfl | (simp only [List.length_drop, List.length_take]; rfl)) ?_
                with_reducible refine (laws_eqGraph.calls kj24 _ _ t707 _ _ t718 true _ ?side1 ?side2 ?side3 ?side4 A59.out).mono ?_
                (case side1 => repeat (first | exact (Kd.S_reads' HO_711000.out).2.2 | (with_reducible refine Kd.C_alloc ?_ _) | (with_reducible refine Kd.C_drewN ?_ _) | (with_reducible refine Kd.C_drew ?_)))
                (case side2 => exact (Kd.S_reads' HO_711000.out).2.1)
                (case side3 => repeat (first | exact (Kd.S_reads' HO720.out).2.2 | (with_reducible refine Kd.C_alloc ?_ _) | (with_reducible refine Kd.C_drewN ?_ _) | (with_reducible refine Kd.C_drew ?_)))
                (case side4 => exact (Kd.S_reads' HO720.out).2.1)
                rintro e w67 ⟨rfl, hb⟩
                refine ⟨_, rfl, ?_⟩
                have n0_ := Aside0.mk (Kd.S_below (by (with_reducible repeat (first | apply Kd.S_alloc | apply Kd.S_drewN | apply Kd.S_drew)); exact HO_711000.out) hb)
                have n1_ := Aside0.mk (Kd.R_below (by (with_reducible repeat (first | apply Kd.R_alloc | apply Kd.R_drewN | apply Kd.R_drew)); exact HO_716000.out) hb)
                have n2_ := Aside0.mk (Kd.S_below (by (with_reducible repeat (first | apply Kd.S_alloc | apply Kd.S_drewN | apply Kd.S_drew)); exact HO720.out) hb)
                have n3_ := Aside0.mk (blk_below (g := gb694) (o := .cells #[.slice A0_0 l0_0.length c0_0] 24 (0, 0)) (by (with_reducible repeat (first | refine blk_drewN ?_ _ | refine blk_drew ?_ | refine blk_alloc ?_ _)); exact BK694.out) hb)
                have n4_ := Aside0.mk (blk_below (g := gb695) (o := .cells #[.slice A1_0 l1_0.length c1_0, .int .i64 a1_1] 52 (0, 0)) (by (with_reducible repeat (first | refine blk_drewN ?_ _ | refine blk_drew ?_ | refine blk_alloc ?_ _)); exact BK695.out) hb)
                have n5_ := Aside0.mk (blk_below (g := gb710) (o := .cells #[.slice Ao42 t707.length co42] 28 (0, 0)) (by (with_reducible repeat (first | refine blk_drewN ?_ _ | refine blk_drew ?_ | refine blk_alloc ?_ _)); exact BK710.out) hb)
                have n6_ := Aside0.mk (blk_below (g := gb715) (o := .cells #[.slice Ao49 t711.length co49, .int .i64 t714] 55 (0, 0)) (by (with_reducible repeat (first | refine blk_drewN ?_ _ | refine blk_drew ?_ | refine blk_alloc ?_ _)); exact BK715.out) hb)
                have n7_ := Aside0.mk (below_step (by repeat (first | (with_reducible first | exact HB.out | apply below_alloc | apply pw_below_drewN | apply below_drew1 | refine below_set ?_ GE694.out | refine below_set ?_ GE695.out | refine below_set ?_ GE710.out | refine below_set ?_ GE715.out) | exact HB.out)) hb)
                clear HO_711000
                clear HO_716000
                clear HO720
                clear BK694
                clear BK695
                clear BK710
                clear BK715
                clear HB
                have HO_711000 := n0_
                have HO_716000 := n1_
                have HO720 := n2_
                have BK694 := n3_
                have BK695 := n4_
                have BK710 := n5_
                have BK715 := n6_
                have HB := n7_
                clear n0_ n1_ n2_ n3_ n4_ n5_ n6_ n7_
                (try clear hb)
                (try clear hb2)
                (try clear hk)
                (try clear hi)
                refine hK.out _ _ ⟨(blk_cell BK710.out 0).trans rfl, (blk_cell BK694.out 0).trans rfl⟩ (fun hHeld => ?_)
                clear hK K
                refine norm_ (a' := ?_) ?_ ?_
                rotate_left
                · show Act.put _ (some 51) _ = _
                  simp only [Act.put, List.setIfInBounds_toArray, List.set_cons_zero, List.set_cons_succ, i64_w, i32_w]
                  rfl
                refine pure_ (i := 4) (N := some 52) (v := ?_) (a' := ?_) #[true, true, true, true, true] rfl rfl (by kernel_rfl) (fun _ _ _ h => h) (Or.inl ⟨by rfl, ?_⟩) ?_ ?_
                rotate_left
                · intro w'
                  go_simp
                  with_reducible rfl
                rotate_left
                · simp only [Act.put, List.setIfInBounds_toArray, List.set_cons_zero, List.set_cons_succ, i64_w, i32_w]
                  rfl
                refine done_ (by kernel_rfl) ?_
                try go_wp2
                have n0_ := Aside0.mk (Kd.S_drew HO_711000.out)
                have n1_ := Aside0.mk (Kd.R_drew HO_716000.out)
                have n2_ := Aside0.mk (Kd.S_drew HO720.out)
                have n3_ := Aside0.mk (blk_drew BK694.out)
                have n4_ := Aside0.mk (blk_drew BK695.out)
                have n5_ := Aside0.mk (blk_drew BK710.out)
                have n6_ := Aside0.mk (blk_drew BK715.out)
                have n7_ := Aside0.mk (below_drew1 HB.out)
                clear HO_711000
                clear HO_716000
                clear HO720
                clear BK694
                clear BK695
                clear BK710
                clear BK715
                clear HB
                have HO_711000 := n0_
                have HO_716000 := n1_
                have HO720 := n2_
                have BK694 := n3_
                have BK695 := n4_
                have BK710 := n5_
                have BK715 := n6_
                have HB := n7_
                clear n0_ n1_ n2_ n3_ n4_ n5_ n6_ n7_
                refine start_ (n := 5) (S := fun w' => w'.cell? ⟨gb715, 0, none⟩ = some (.slice Ao49 t711.length co49) ∧ w'.cell? ⟨gb715, 1, none⟩ = some (.int .i64 t714) ∧ w'.cell? ⟨gb695, 0, none⟩ = some (.slice A1_0 l1_0.length c1_0) ∧ w'.cell? ⟨gb695, 1, none⟩ = some (.int .i64 a1_1)) (ds := []) #[false, false, false, false, false] (by kernel_rfl) rfl rfl ⟨(blk_cell BK715.out 0).trans rfl, (blk_cell BK715.out 1).trans rfl, (blk_cell BK695.out 0).trans rfl, (blk_cell BK695.out 1).trans rfl⟩ (fun hHeld => ?_)
                generalize w67.drew = w68 at HO_711000 HO_716000 HO720 BK694 BK695 BK710 BK715 HB hHeld ⊢
                refine take_ (i := 0) (N := some 53) (v := ?_) (a' := ?_) #[true, false, false, false, false] rfl rfl (by kernel_rfl) (fun _ _ _ h => h) (Or.inl ⟨by rfl, ?_⟩) hHeld ?_ ?_
                rotate_left
                · rintro w' ⟨s0, s1, s2, s3⟩
                  go_simp
                  with_reducible rfl
                rotate_left
                · simp only [Act.put, List.setIfInBounds_toArray, List.set_cons_zero, List.set_cons_succ, i64_w, i32_w]
                  rfl
                refine take_ (i := 1) (N := some 54) (v := ?_) (a' := ?_) #[true, true, false, false, false] rfl rfl (by kernel_rfl) (fun _ _ _ h => h) (Or.inl ⟨by rfl, ?_⟩) hHeld ?_ ?_
                rotate_left
                · rintro w' ⟨s0, s1, s2, s3⟩
                  go_simp
                  with_reducible rfl
                rotate_left
                · simp only [Act.put, List.setIfInBounds_toArray, List.set_cons_zero, List.set_cons_succ, i64_w, i32_w]
                  rfl
                refine one_ (i := 2) (N := some 55) #[true, true, true, false, false] rfl rfl (by kernel_rfl) (by decide) (fun K hK => ?_)
                refine goes_ Try.func46 (by kernel_rfl) rfl #[.agg #[.slice A1_0 l1_0.length c1_0, .int .i64 a1_1]] (by rfl) rfl rfl (by (try simp only [List.map_toArray, List.map_cons, List.map_nil]); first | done | rfl | (simp only [List.length_drop, List.length_take]; rfl)) ?_
                with_reducible refine (laws_toWalk.calls kj24 _ _ l1_0 a1_1 t722 t725 _ ?side1 ?side2 A61.out).mono ?_
                (case side1 => repeat (first | exact (Kd.C_below HR1_0.out HB.out) | (with_reducible refine Kd.C_alloc ?_ _) | (with_reducible refine Kd.C_drewN ?_ _) | (with_reducible refine Kd.C_drew ?_)))
                (case side2 => exact HC1_0.out)
                rintro e w69 ⟨v723, rfl, ho0, hb⟩
                refine ⟨_, rfl, ?_⟩
                have n0_ := Aside0.mk (Kd.S_elder' (by (with_reducible repeat (first | apply Kd.S_alloc | apply Kd.S_drewN | apply Kd.S_drew)); exact HO_711000.out) (Kd.R_base ho0) hb)
                have n1_ := Aside0.mk (Kd.R_elder' (by (with_reducible repeat (first | apply Kd.R_alloc | apply Kd.R_drewN | apply Kd.R_drew)); exact HO_716000.out) (Kd.R_base ho0) hb)
                have n2_ := Aside0.mk (Kd.S_elder' (by (with_reducible repeat (first | apply Kd.S_alloc | apply Kd.S_drewN | apply Kd.S_drew)); exact HO720.out) (Kd.R_base ho0) hb)
                have n3_ := Aside0.mk (Kd.R_lower (Kd.R_new' ho0 (Kd.R_lt (by (with_reducible repeat (first | apply Kd.R_alloc | apply Kd.R_drewN | apply Kd.R_drew)); exact HO_716000.out))) (below_size (by repeat (first | (with_reducible first | exact HB.out | apply below_alloc | apply pw_below_drewN | apply below_drew1 | refine below_set ?_ GE694.out | refine below_set ?_ GE695.out | refine below_set ?_ GE710.out | refine below_set ?_ GE715.out) | exact HB.out))))
                have n4_ := Aside0.mk (blk_below (g := gb694) (o := .cells #[.slice A0_0 l0_0.length c0_0] 24 (0, 0)) (by (with_reducible repeat (first | refine blk_drewN ?_ _ | refine blk_drew ?_ | refine blk_alloc ?_ _)); exact BK694.out) hb)
                have n5_ := Aside0.mk (blk_below (g := gb695) (o := .cells #[.slice A1_0 l1_0.length c1_0, .int .i64 a1_1] 52 (0, 0)) (by (with_reducible repeat (first | refine blk_drewN ?_ _ | refine blk_drew ?_ | refine blk_alloc ?_ _)); exact BK695.out) hb)
                have n6_ := Aside0.mk (blk_below (g := gb710) (o := .cells #[.slice Ao42 t707.length co42] 28 (0, 0)) (by (with_reducible repeat (first | refine blk_drewN ?_ _ | refine blk_drew ?_ | refine blk_alloc ?_ _)); exact BK710.out) hb)
                have n7_ := Aside0.mk (blk_below (g := gb715) (o := .cells #[.slice Ao49 t711.length co49, .int .i64 t714] 55 (0, 0)) (by (with_reducible repeat (first | refine blk_drewN ?_ _ | refine blk_drew ?_ | refine blk_alloc ?_ _)); exact BK715.out) hb)
                have n8_ := Aside0.mk (below_step (by repeat (first | (with_reducible first | exact HB.out | apply below_alloc | apply pw_below_drewN | apply below_drew1 | refine below_set ?_ GE694.out | refine below_set ?_ GE695.out | refine below_set ?_ GE710.out | refine below_set ?_ GE715.out) | exact HB.out)) hb)
                clear HO_711000
                clear HO_716000
                clear HO720
                clear BK694
                clear BK695
                clear BK710
                clear BK715
                clear HB
                have HO_711000 := n0_
                have HO_716000 := n1_
                have HO720 := n2_
                have HO724 := n3_
                have BK694 := n4_
                have BK695 := n5_
                have BK710 := n6_
                have BK715 := n7_
                have HB := n8_
                clear n0_ n1_ n2_ n3_ n4_ n5_ n6_ n7_ n8_
                (try clear hb)
                (try clear hb2)
                (try clear hk)
                (try clear hi)
                (try clear ho0)
                obtain ⟨Ao70, co70, eo70⟩ := Kd.R_slice HO724.out
                (first | subst eo70 | (injection eo70 with f1_ f2_ f3_; have f4_ := f1_.symm; have f5_ := f3_.symm; clear f1_ f2_ f3_; subst f4_; subst f5_))
                refine hK.out _ _ ⟨(blk_cell BK715.out 0).trans rfl, (blk_cell BK715.out 1).trans rfl, (blk_cell BK695.out 0).trans rfl, (blk_cell BK695.out 1).trans rfl⟩ (fun hHeld => ?_)
                clear hK K
                refine norm_ (a' := ?_) ?_ ?_
                rotate_left
                · show Act.put _ (some 55) _ = _
                  simp only [Act.put, List.setIfInBounds_toArray, List.set_cons_zero, List.set_cons_succ, i64_w, i32_w]
                  rfl
                refine one_ (i := 3) (N := some 56) #[true, true, true, true, false] rfl rfl (by kernel_rfl) (by decide) (fun K hK => ?_)
                refine goes_ Try.func48 (by kernel_rfl) rfl #[.agg #[.slice Ao49 t711.length co49, .int .i64 t714], .agg #[.slice Ao70 t722.length co70, .int .i64 t725]] (by rfl) rfl rfl (by (try simp only [List.map_toArray, List.map_cons, List.map_nil]); first | done | rfl | (simp only [List.length_drop, List.length_take]; rfl)) ?_
                with_reducible refine (laws_eqWalk.calls kj24 _ _ t711 t714 _ _ t722 t725 true _ ?side1 ?side2 ?side3 ?side4 A62.out).mono ?_
                (case side1 => repeat (first | exact (Kd.R_reads' HO_716000.out).2.2 | (with_reducible refine Kd.C_alloc ?_ _) | (with_reducible refine Kd.C_drewN ?_ _) | (with_reducible refine Kd.C_drew ?_)))
                (case side2 => exact (Kd.R_reads' HO_716000.out).2.1)
                (case side3 => repeat (first | exact (Kd.R_reads' HO724.out).2.2 | (with_reducible refine Kd.C_alloc ?_ _) | (with_reducible refine Kd.C_drewN ?_ _) | (with_reducible refine Kd.C_drew ?_)))
                (case side4 => exact (Kd.R_reads' HO724.out).2.1)
                rintro e w71 ⟨rfl, hb⟩
                refine ⟨_, rfl, ?_⟩
                have n0_ := Aside0.mk (Kd.S_below (by (with_reducible repeat (first | apply Kd.S_alloc | apply Kd.S_drewN | apply Kd.S_drew)); exact HO_711000.out) hb)
                have n1_ := Aside0.mk (Kd.R_below (by (with_reducible repeat (first | apply Kd.R_alloc | apply Kd.R_drewN | apply Kd.R_drew)); exact HO_716000.out) hb)
                have n2_ := Aside0.mk (Kd.S_below (by (with_reducible repeat (first | apply Kd.S_alloc | apply Kd.S_drewN | apply Kd.S_drew)); exact HO720.out) hb)
                have n3_ := Aside0.mk (Kd.R_below (by (with_reducible repeat (first | apply Kd.R_alloc | apply Kd.R_drewN | apply Kd.R_drew)); exact HO724.out) hb)
                have n4_ := Aside0.mk (blk_below (g := gb694) (o := .cells #[.slice A0_0 l0_0.length c0_0] 24 (0, 0)) (by (with_reducible repeat (first | refine blk_drewN ?_ _ | refine blk_drew ?_ | refine blk_alloc ?_ _)); exact BK694.out) hb)
                have n5_ := Aside0.mk (blk_below (g := gb695) (o := .cells #[.slice A1_0 l1_0.length c1_0, .int .i64 a1_1] 52 (0, 0)) (by (with_reducible repeat (first | refine blk_drewN ?_ _ | refine blk_drew ?_ | refine blk_alloc ?_ _)); exact BK695.out) hb)
                have n6_ := Aside0.mk (blk_below (g := gb710) (o := .cells #[.slice Ao42 t707.length co42] 28 (0, 0)) (by (with_reducible repeat (first | refine blk_drewN ?_ _ | refine blk_drew ?_ | refine blk_alloc ?_ _)); exact BK710.out) hb)
                have n7_ := Aside0.mk (blk_below (g := gb715) (o := .cells #[.slice Ao49 t711.length co49, .int .i64 t714] 55 (0, 0)) (by (with_reducible repeat (first | refine blk_drewN ?_ _ | refine blk_drew ?_ | refine blk_alloc ?_ _)); exact BK715.out) hb)
                have n8_ := Aside0.mk (below_step (by repeat (first | (with_reducible first | exact HB.out | apply below_alloc | apply pw_below_drewN | apply below_drew1 | refine below_set ?_ GE694.out | refine below_set ?_ GE695.out | refine below_set ?_ GE710.out | refine below_set ?_ GE715.out) | exact HB.out)) hb)
                clear HO_711000
                clear HO_716000
                clear HO720
                clear HO724
                clear BK694
                clear BK695
                clear BK710
                clear BK715
                clear HB
                have HO_711000 := n0_
                have HO_716000 := n1_
                have HO720 := n2_
                have HO724 := n3_
                have BK694 := n4_
                have BK695 := n5_
                have BK710 := n6_
                have BK715 := n7_
                have HB := n8_
                clear n0_ n1_ n2_ n3_ n4_ n5_ n6_ n7_ n8_
                (try clear hb)
                (try clear hb2)
                (try clear hk)
                (try clear hi)
                refine hK.out _ _ ⟨(blk_cell BK715.out 0).trans rfl, (blk_cell BK715.out 1).trans rfl, (blk_cell BK695.out 0).trans rfl, (blk_cell BK695.out 1).trans rfl⟩ (fun hHeld => ?_)
                clear hK K
                refine norm_ (a' := ?_) ?_ ?_
                rotate_left
                · show Act.put _ (some 56) _ = _
                  simp only [Act.put, List.setIfInBounds_toArray, List.set_cons_zero, List.set_cons_succ, i64_w, i32_w]
                  rfl
                refine pure_ (i := 4) (N := some 57) (v := ?_) (a' := ?_) #[true, true, true, true, true] rfl rfl (by kernel_rfl) (fun _ _ _ h => h) (Or.inl ⟨by rfl, ?_⟩) ?_ ?_
                rotate_left
                · intro w'
                  go_simp
                  with_reducible rfl
                rotate_left
                · simp only [Act.put, List.setIfInBounds_toArray, List.set_cons_zero, List.set_cons_succ, i64_w, i32_w]
                  rfl
                refine done_ (by kernel_rfl) ?_
                try go_wp2
                go_ret
                exact ⟨by first | rfl | (simp [errW_none, errW_some] <;> rfl) | (simp [*, errW_none, errW_some] <;> rfl), by repeat (first | (with_reducible first | exact HB.out | apply below_alloc | apply pw_below_drewN | apply below_drew1 | refine below_set ?_ GE694.out | refine below_set ?_ GE695.out | refine below_set ?_ GE710.out | refine below_set ?_ GE715.out) | exact HB.out)⟩
              · replace c63 := Bool.eq_false_iff.mpr c63
                subst c63
                have H1 : (some false) = some r := by rw [if_neg (show ¬ (false = true) by decide)] at H; exact H
                clear H
                have H := H1
                clear H1
                obtain rfl := Option.some.inj H
                try go_wp2
                have n0_ := Aside0.mk (Kd.S_drew HO_711000.out)
                have n1_ := Aside0.mk (Kd.R_drew HO_716000.out)
                have n2_ := Aside0.mk (blk_drew BK694.out)
                have n3_ := Aside0.mk (blk_drew BK695.out)
                have n4_ := Aside0.mk (blk_drew BK710.out)
                have n5_ := Aside0.mk (blk_drew BK715.out)
                have n6_ := Aside0.mk (below_drew1 HB.out)
                clear HO_711000
                clear HO_716000
                clear BK694
                clear BK695
                clear BK710
                clear BK715
                clear HB
                have HO_711000 := n0_
                have HO_716000 := n1_
                have BK694 := n2_
                have BK695 := n3_
                have BK710 := n4_
                have BK715 := n5_
                have HB := n6_
                clear n0_ n1_ n2_ n3_ n4_ n5_ n6_
                refine start_ (n := 5) (S := fun w' => w'.cell? ⟨gb710, 0, none⟩ = some (.slice Ao42 t707.length co42) ∧ w'.cell? ⟨gb694, 0, none⟩ = some (.slice A0_0 l0_0.length c0_0)) (ds := []) #[false, false, false, false, false] (by kernel_rfl) rfl rfl ⟨(blk_cell BK710.out 0).trans rfl, (blk_cell BK694.out 0).trans rfl⟩ (fun hHeld => ?_)
                generalize wc.drew = w72 at HO_711000 HO_716000 BK694 BK695 BK710 BK715 HB hHeld ⊢
                refine take_ (i := 0) (N := some 48) (v := ?_) (a' := ?_) #[true, false, false, false, false] rfl rfl (by kernel_rfl) (fun _ _ _ h => h) (Or.inl ⟨by rfl, ?_⟩) hHeld ?_ ?_
                rotate_left
                · rintro w' ⟨s0, s1⟩
                  go_simp
                  with_reducible rfl
                rotate_left
                · simp only [Act.put, List.setIfInBounds_toArray, List.set_cons_zero, List.set_cons_succ, i64_w, i32_w]
                  rfl
                refine take_ (i := 1) (N := some 49) (v := ?_) (a' := ?_) #[true, true, false, false, false] rfl rfl (by kernel_rfl) (fun _ _ _ h => h) (Or.inl ⟨by rfl, ?_⟩) hHeld ?_ ?_
                rotate_left
                · rintro w' ⟨s0, s1⟩
                  go_simp
                  with_reducible rfl
                rotate_left
                · simp only [Act.put, List.setIfInBounds_toArray, List.set_cons_zero, List.set_cons_succ, i64_w, i32_w]
                  rfl
                refine one_ (i := 2) (N := some 50) #[true, true, true, false, false] rfl rfl (by kernel_rfl) (by decide) (fun K hK => ?_)
                refine goes_ Try.func17 (by kernel_rfl) rfl #[.agg #[.slice A0_0 l0_0.length c0_0]] (by rfl) rfl rfl (by (try simp only [List.map_toArray, List.map_cons, List.map_nil]); first | done | rfl | (simp only [List.length_drop, List.length_take]; rfl)) ?_
                with_reducible refine (laws_toGraph.calls kj24 _ _ l0_0 t718 _ ?side1 ?side2 A58.out).mono ?_
                (case side1 => repeat (first | exact (Kd.C_below HR0_0.out HB.out) | (with_reducible refine Kd.C_alloc ?_ _) | (with_reducible refine Kd.C_drewN ?_ _) | (with_reducible refine Kd.C_drew ?_)))
                (case side2 => exact HC0_0.out)
                rintro e w73 ⟨v719, rfl, ho0, hb⟩
                refine ⟨_, rfl, ?_⟩
                have n0_ := Aside0.mk (Kd.S_elder' (by (with_reducible repeat (first | apply Kd.S_alloc | apply Kd.S_drewN | apply Kd.S_drew)); exact HO_711000.out) (Kd.S_base ho0) hb)
                have n1_ := Aside0.mk (Kd.R_below (by (with_reducible repeat (first | apply Kd.R_alloc | apply Kd.R_drewN | apply Kd.R_drew)); exact HO_716000.out) hb)
                have n2_ := Aside0.mk (Kd.S_lower (Kd.S_new' (Kd.S_new' ho0 (Kd.S_lt (by (with_reducible repeat (first | apply Kd.S_alloc | apply Kd.S_drewN | apply Kd.S_drew)); exact HO_711000.out))) (Kd.R_lt (by (with_reducible repeat (first | apply Kd.R_alloc | apply Kd.R_drewN | apply Kd.R_drew)); exact HO_716000.out))) (below_size (by repeat (first | (with_reducible first | exact HB.out | apply below_alloc | apply pw_below_drewN | apply below_drew1 | refine below_set ?_ GE694.out | refine below_set ?_ GE695.out | refine below_set ?_ GE710.out | refine below_set ?_ GE715.out) | exact HB.out))))
                have n3_ := Aside0.mk (blk_below (g := gb694) (o := .cells #[.slice A0_0 l0_0.length c0_0] 24 (0, 0)) (by (with_reducible repeat (first | refine blk_drewN ?_ _ | refine blk_drew ?_ | refine blk_alloc ?_ _)); exact BK694.out) hb)
                have n4_ := Aside0.mk (blk_below (g := gb695) (o := .cells #[.slice A1_0 l1_0.length c1_0, .int .i64 a1_1] 52 (0, 0)) (by (with_reducible repeat (first | refine blk_drewN ?_ _ | refine blk_drew ?_ | refine blk_alloc ?_ _)); exact BK695.out) hb)
                have n5_ := Aside0.mk (blk_below (g := gb710) (o := .cells #[.slice Ao42 t707.length co42] 28 (0, 0)) (by (with_reducible repeat (first | refine blk_drewN ?_ _ | refine blk_drew ?_ | refine blk_alloc ?_ _)); exact BK710.out) hb)
                have n6_ := Aside0.mk (blk_below (g := gb715) (o := .cells #[.slice Ao49 t711.length co49, .int .i64 t714] 55 (0, 0)) (by (with_reducible repeat (first | refine blk_drewN ?_ _ | refine blk_drew ?_ | refine blk_alloc ?_ _)); exact BK715.out) hb)
                have n7_ := Aside0.mk (below_step (by repeat (first | (with_reducible first | exact HB.out | apply below_alloc | apply pw_below_drewN | apply below_drew1 | refine below_set ?_ GE694.out | refine below_set ?_ GE695.out | refine below_set ?_ GE710.out | refine below_set ?_ GE715.out) | exact HB.out)) hb)
                clear HO_711000
                clear HO_716000
                clear BK694
                clear BK695
                clear BK710
                clear BK715
                clear HB
                have HO_711000 := n0_
                have HO_716000 := n1_
                have HO720 := n2_
                have BK694 := n3_
                have BK695 := n4_
                have BK710 := n5_
                have BK715 := n6_
                have HB := n7_
                clear n0_ n1_ n2_ n3_ n4_ n5_ n6_ n7_
                (try clear hb)
                (try clear hb2)
                (try clear hk)
                (try clear hi)
                (try clear ho0)
                obtain ⟨Ao74, co74, eo74⟩ := Kd.S_slice HO720.out
                (first | subst eo74 | (injection eo74 with f1_ f2_ f3_; have f4_ := f1_.symm; have f5_ := f3_.symm; clear f1_ f2_ f3_; subst f4_; subst f5_))
                refine hK.out _ _ ⟨(blk_cell BK710.out 0).trans rfl, (blk_cell BK694.out 0).trans rfl⟩ (fun hHeld => ?_)
                clear hK K
                refine norm_ (a' := ?_) ?_ ?_
                rotate_left
                · show Act.put _ (some 50) _ = _
                  simp only [Act.put, List.setIfInBounds_toArray, List.set_cons_zero, List.set_cons_succ, i64_w, i32_w]
                  rfl
                refine one_ (i := 3) (N := some 51) #[true, true, true, true, false] rfl rfl (by kernel_rfl) (by decide) (fun K hK => ?_)
                refine goes_ Try.func20 (by kernel_rfl) rfl #[.agg #[.slice Ao42 t707.length co42], .agg #[.slice Ao74 t718.length co74]] (by rfl) rfl rfl (by (try simp only [List.map_toArray, List.map_cons, List.map_nil]); first | done | rfl | (simp only [List.length_drop, List.length_take]; rfl)) ?_
                with_reducible refine (laws_eqGraph.calls kj24 _ _ t707 _ _ t718 true _ ?side1 ?side2 ?side3 ?side4 A59.out).mono ?_
                (case side1 => repeat (first | exact (Kd.S_reads' HO_711000.out).2.2 | (with_reducible refine Kd.C_alloc ?_ _) | (with_reducible refine Kd.C_drewN ?_ _) | (with_reducible refine Kd.C_drew ?_)))
                (case side2 => exact (Kd.S_reads' HO_711000.out).2.1)
                (case side3 => repeat (first | exact (Kd.S_reads' HO720.out).2.2 | (with_reducible refine Kd.C_alloc ?_ _) | (with_reducible refine Kd.C_drewN ?_ _) | (with_reducible refine Kd.C_drew ?_)))
                (case side4 => exact (Kd.S_reads' HO720.out).2.1)
                rintro e w75 ⟨rfl, hb⟩
                refine ⟨_, rfl, ?_⟩
                have n0_ := Aside0.mk (Kd.S_below (by (with_reducible repeat (first | apply Kd.S_alloc | apply Kd.S_drewN | apply Kd.S_drew)); exact HO_711000.out) hb)
                have n1_ := Aside0.mk (Kd.R_below (by (with_reducible repeat (first | apply Kd.R_alloc | apply Kd.R_drewN | apply Kd.R_drew)); exact HO_716000.out) hb)
                have n2_ := Aside0.mk (Kd.S_below (by (with_reducible repeat (first | apply Kd.S_alloc | apply Kd.S_drewN | apply Kd.S_drew)); exact HO720.out) hb)
                have n3_ := Aside0.mk (blk_below (g := gb694) (o := .cells #[.slice A0_0 l0_0.length c0_0] 24 (0, 0)) (by (with_reducible repeat (first | refine blk_drewN ?_ _ | refine blk_drew ?_ | refine blk_alloc ?_ _)); exact BK694.out) hb)
                have n4_ := Aside0.mk (blk_below (g := gb695) (o := .cells #[.slice A1_0 l1_0.length c1_0, .int .i64 a1_1] 52 (0, 0)) (by (with_reducible repeat (first | refine blk_drewN ?_ _ | refine blk_drew ?_ | refine blk_alloc ?_ _)); exact BK695.out) hb)
                have n5_ := Aside0.mk (blk_below (g := gb710) (o := .cells #[.slice Ao42 t707.length co42] 28 (0, 0)) (by (with_reducible repeat (first | refine blk_drewN ?_ _ | refine blk_drew ?_ | refine blk_alloc ?_ _)); exact BK710.out) hb)
                have n6_ := Aside0.mk (blk_below (g := gb715) (o := .cells #[.slice Ao49 t711.length co49, .int .i64 t714] 55 (0, 0)) (by (with_reducible repeat (first | refine blk_drewN ?_ _ | refine blk_drew ?_ | refine blk_alloc ?_ _)); exact BK715.out) hb)
                have n7_ := Aside0.mk (below_step (by repeat (first | (with_reducible first | exact HB.out | apply below_alloc | apply pw_below_drewN | apply below_drew1 | refine below_set ?_ GE694.out | refine below_set ?_ GE695.out | refine below_set ?_ GE710.out | refine below_set ?_ GE715.out) | exact HB.out)) hb)
                clear HO_711000
                clear HO_716000
                clear HO720
                clear BK694
                clear BK695
                clear BK710
                clear BK715
                clear HB
                have HO_711000 := n0_
                have HO_716000 := n1_
                have HO720 := n2_
                have BK694 := n3_
                have BK695 := n4_
                have BK710 := n5_
                have BK715 := n6_
                have HB := n7_
                clear n0_ n1_ n2_ n3_ n4_ n5_ n6_ n7_
                (try clear hb)
                (try clear hb2)
                (try clear hk)
                (try clear hi)
                refine hK.out _ _ ⟨(blk_cell BK710.out 0).trans rfl, (blk_cell BK694.out 0).trans rfl⟩ (fun hHeld => ?_)
                clear hK K
                refine norm_ (a' := ?_) ?_ ?_
                rotate_left
                · show Act.put _ (some 51) _ = _
                  simp only [Act.put, List.setIfInBounds_toArray, List.set_cons_zero, List.set_cons_succ, i64_w, i32_w]
                  rfl
                refine pure_ (i := 4) (N := some 52) (v := ?_) (a' := ?_) #[true, true, true, true, true] rfl rfl (by kernel_rfl) (fun _ _ _ h => h) (Or.inl ⟨by rfl, ?_⟩) ?_ ?_
                rotate_left
                · intro w'
                  go_simp
                  with_reducible rfl
                rotate_left
                · simp only [Act.put, List.setIfInBounds_toArray, List.set_cons_zero, List.set_cons_succ, i64_w, i32_w]
                  rfl
                refine done_ (by kernel_rfl) ?_
                try go_wp2
                have n0_ := Aside0.mk (Kd.S_drew HO_711000.out)
                have n1_ := Aside0.mk (Kd.R_drew HO_716000.out)
                have n2_ := Aside0.mk (Kd.S_drew HO720.out)
                have n3_ := Aside0.mk (blk_drew BK694.out)
                have n4_ := Aside0.mk (blk_drew BK695.out)
                have n5_ := Aside0.mk (blk_drew BK710.out)
                have n6_ := Aside0.mk (blk_drew BK715.out)
                have n7_ := Aside0.mk (below_drew1 HB.out)
                clear HO_711000
                clear HO_716000
                clear HO720
                clear BK694
                clear BK695
                clear BK710
                clear BK715
                clear HB
                have HO_711000 := n0_
                have HO_716000 := n1_
                have HO720 := n2_
                have BK694 := n3_
                have BK695 := n4_
                have BK710 := n5_
                have BK715 := n6_
                have HB := n7_
                clear n0_ n1_ n2_ n3_ n4_ n5_ n6_ n7_
                refine start_ (n := 5) (S := fun w' => w'.cell? ⟨gb715, 0, none⟩ = some (.slice Ao49 t711.length co49) ∧ w'.cell? ⟨gb715, 1, none⟩ = some (.int .i64 t714) ∧ w'.cell? ⟨gb695, 0, none⟩ = some (.slice A1_0 l1_0.length c1_0) ∧ w'.cell? ⟨gb695, 1, none⟩ = some (.int .i64 a1_1)) (ds := []) #[false, false, false, false, false] (by kernel_rfl) rfl rfl ⟨(blk_cell BK715.out 0).trans rfl, (blk_cell BK715.out 1).trans rfl, (blk_cell BK695.out 0).trans rfl, (blk_cell BK695.out 1).trans rfl⟩ (fun hHeld => ?_)
                generalize w75.drew = w76 at HO_711000 HO_716000 HO720 BK694 BK695 BK710 BK715 HB hHeld ⊢
                refine take_ (i := 0) (N := some 53) (v := ?_) (a' := ?_) #[true, false, false, false, false] rfl rfl (by kernel_rfl) (fun _ _ _ h => h) (Or.inl ⟨by rfl, ?_⟩) hHeld ?_ ?_
                rotate_left
                · rintro w' ⟨s0, s1, s2, s3⟩
                  go_simp
                  with_reducible rfl
                rotate_left
                · simp only [Act.put, List.setIfInBounds_toArray, List.set_cons_zero, List.set_cons_succ, i64_w, i32_w]
                  rfl
                refine take_ (i := 1) (N := some 54) (v := ?_) (a' := ?_) #[true, true, false, false, false] rfl rfl (by kernel_rfl) (fun _ _ _ h => h) (Or.inl ⟨by rfl, ?_⟩) hHeld ?_ ?_
                rotate_left
                · rintro w' ⟨s0, s1, s2, s3⟩
                  go_simp
                  with_reducible rfl
                rotate_left
                · simp only [Act.put, List.setIfInBounds_toArray, List.set_cons_zero, List.set_cons_succ, i64_w, i32_w]
                  rfl
                refine one_ (i := 2) (N := some 55) #[true, true, true, false, false] rfl rfl (by kernel_rfl) (by decide) (fun K hK => ?_)
                refine goes_ Try.func46 (by kernel_rfl) rfl #[.agg #[.slice A1_0 l1_0.length c1_0, .int .i64 a1_1]] (by rfl) rfl rfl (by (try simp only [List.map_toArray, List.map_cons, List.map_nil]); first | done | rfl | (simp only [List.length_drop, List.length_take]; rfl)) ?_
                with_reducible refine (laws_toWalk.calls kj24 _ _ l1_0 a1_1 t722 t725 _ ?side1 ?side2 A61.out).mono ?_
                (case side1 => repeat (first | exact (Kd.C_below HR1_0.out HB.out) | (with_reducible refine Kd.C_alloc ?_ _) | (with_reducible refine Kd.C_drewN ?_ _) | (with_reducible refine Kd.C_drew ?_)))
                (case side2 => exact HC1_0.out)
                rintro e w77 ⟨v723, rfl, ho0, hb⟩
                refine ⟨_, rfl, ?_⟩
                have n0_ := Aside0.mk (Kd.S_elder' (by (with_reducible repeat (first | apply Kd.S_alloc | apply Kd.S_drewN | apply Kd.S_drew)); exact HO_711000.out) (Kd.R_base ho0) hb)
                have n1_ := Aside0.mk (Kd.R_elder' (by (with_reducible repeat (first | apply Kd.R_alloc | apply Kd.R_drewN | apply Kd.R_drew)); exact HO_716000.out) (Kd.R_base ho0) hb)
                have n2_ := Aside0.mk (Kd.S_elder' (by (with_reducible repeat (first | apply Kd.S_alloc | apply Kd.S_drewN | apply Kd.S_drew)); exact HO720.out) (Kd.R_base ho0) hb)
                have n3_ := Aside0.mk (Kd.R_lower (Kd.R_new' ho0 (Kd.R_lt (by (with_reducible repeat (first | apply Kd.R_alloc | apply Kd.R_drewN | apply Kd.R_drew)); exact HO_716000.out))) (below_size (by repeat (first | (with_reducible first | exact HB.out | apply below_alloc | apply pw_below_drewN | apply below_drew1 | refine below_set ?_ GE694.out | refine below_set ?_ GE695.out | refine below_set ?_ GE710.out | refine below_set ?_ GE715.out) | exact HB.out))))
                have n4_ := Aside0.mk (blk_below (g := gb694) (o := .cells #[.slice A0_0 l0_0.length c0_0] 24 (0, 0)) (by (with_reducible repeat (first | refine blk_drewN ?_ _ | refine blk_drew ?_ | refine blk_alloc ?_ _)); exact BK694.out) hb)
                have n5_ := Aside0.mk (blk_below (g := gb695) (o := .cells #[.slice A1_0 l1_0.length c1_0, .int .i64 a1_1] 52 (0, 0)) (by (with_reducible repeat (first | refine blk_drewN ?_ _ | refine blk_drew ?_ | refine blk_alloc ?_ _)); exact BK695.out) hb)
                have n6_ := Aside0.mk (blk_below (g := gb710) (o := .cells #[.slice Ao42 t707.length co42] 28 (0, 0)) (by (with_reducible repeat (first | refine blk_drewN ?_ _ | refine blk_drew ?_ | refine blk_alloc ?_ _)); exact BK710.out) hb)
                have n7_ := Aside0.mk (blk_below (g := gb715) (o := .cells #[.slice Ao49 t711.length co49, .int .i64 t714] 55 (0, 0)) (by (with_reducible repeat (first | refine blk_drewN ?_ _ | refine blk_drew ?_ | refine blk_alloc ?_ _)); exact BK715.out) hb)
                have n8_ := Aside0.mk (below_step (by repeat (first | (with_reducible first | exact HB.out | apply below_alloc | apply pw_below_drewN | apply below_drew1 | refine below_set ?_ GE694.out | refine below_set ?_ GE695.out | refine below_set ?_ GE710.out | refine below_set ?_ GE715.out) | exact HB.out)) hb)
                clear HO_711000
                clear HO_716000
                clear HO720
                clear BK694
                clear BK695
                clear BK710
                clear BK715
                clear HB
                have HO_711000 := n0_
                have HO_716000 := n1_
                have HO720 := n2_
                have HO724 := n3_
                have BK694 := n4_
                have BK695 := n5_
                have BK710 := n6_
                have BK715 := n7_
                have HB := n8_
                clear n0_ n1_ n2_ n3_ n4_ n5_ n6_ n7_ n8_
                (try clear hb)
                (try clear hb2)
                (try clear hk)
                (try clear hi)
                (try clear ho0)
                obtain ⟨Ao78, co78, eo78⟩ := Kd.R_slice HO724.out
                (first | subst eo78 | (injection eo78 with f1_ f2_ f3_; have f4_ := f1_.symm; have f5_ := f3_.symm; clear f1_ f2_ f3_; subst f4_; subst f5_))
                refine hK.out _ _ ⟨(blk_cell BK715.out 0).trans rfl, (blk_cell BK715.out 1).trans rfl, (blk_cell BK695.out 0).trans rfl, (blk_cell BK695.out 1).trans rfl⟩ (fun hHeld => ?_)
                clear hK K
                refine norm_ (a' := ?_) ?_ ?_
                rotate_left
                · show Act.put _ (some 55) _ = _
                  simp only [Act.put, List.setIfInBounds_toArray, List.set_cons_zero, List.set_cons_succ, i64_w, i32_w]
                  rfl
                refine one_ (i := 3) (N := some 56) #[true, true, true, true, false] rfl rfl (by kernel_rfl) (by decide) (fun K hK => ?_)
                refine goes_ Try.func48 (by kernel_rfl) rfl #[.agg #[.slice Ao49 t711.length co49, .int .i64 t714], .agg #[.slice Ao78 t722.length co78, .int .i64 t725]] (by rfl) rfl rfl (by (try simp only [List.map_toArray, List.map_cons, List.map_nil]); first | done | rfl | (simp only [List.length_drop, List.length_take]; rfl)) ?_
                with_reducible refine (laws_eqWalk.calls kj24 _ _ t711 t714 _ _ t722 t725 false _ ?side1 ?side2 ?side3 ?side4 A62.out).mono ?_
                (case side1 => repeat (first | exact (Kd.R_reads' HO_716000.out).2.2 | (with_reducible refine Kd.C_alloc ?_ _) | (with_reducible refine Kd.C_drewN ?_ _) | (with_reducible refine Kd.C_drew ?_)))
                (case side2 => exact (Kd.R_reads' HO_716000.out).2.1)
                (case side3 => repeat (first | exact (Kd.R_reads' HO724.out).2.2 | (with_reducible refine Kd.C_alloc ?_ _) | (with_reducible refine Kd.C_drewN ?_ _) | (with_reducible refine Kd.C_drew ?_)))
                (case side4 => exact (Kd.R_reads' HO724.out).2.1)
                rintro e w79 ⟨rfl, hb⟩
                refine ⟨_, rfl, ?_⟩
                have n0_ := Aside0.mk (Kd.S_below (by (with_reducible repeat (first | apply Kd.S_alloc | apply Kd.S_drewN | apply Kd.S_drew)); exact HO_711000.out) hb)
                have n1_ := Aside0.mk (Kd.R_below (by (with_reducible repeat (first | apply Kd.R_alloc | apply Kd.R_drewN | apply Kd.R_drew)); exact HO_716000.out) hb)
                have n2_ := Aside0.mk (Kd.S_below (by (with_reducible repeat (first | apply Kd.S_alloc | apply Kd.S_drewN | apply Kd.S_drew)); exact HO720.out) hb)
                have n3_ := Aside0.mk (Kd.R_below (by (with_reducible repeat (first | apply Kd.R_alloc | apply Kd.R_drewN | apply Kd.R_drew)); exact HO724.out) hb)
                have n4_ := Aside0.mk (blk_below (g := gb694) (o := .cells #[.slice A0_0 l0_0.length c0_0] 24 (0, 0)) (by (with_reducible repeat (first | refine blk_drewN ?_ _ | refine blk_drew ?_ | refine blk_alloc ?_ _)); exact BK694.out) hb)
                have n5_ := Aside0.mk (blk_below (g := gb695) (o := .cells #[.slice A1_0 l1_0.length c1_0, .int .i64 a1_1] 52 (0, 0)) (by (with_reducible repeat (first | refine blk_drewN ?_ _ | refine blk_drew ?_ | refine blk_alloc ?_ _)); exact BK695.out) hb)
                have n6_ := Aside0.mk (blk_below (g := gb710) (o := .cells #[.slice Ao42 t707.length co42] 28 (0, 0)) (by (with_reducible repeat (first | refine blk_drewN ?_ _ | refine blk_drew ?_ | refine blk_alloc ?_ _)); exact BK710.out) hb)
                have n7_ := Aside0.mk (blk_below (g := gb715) (o := .cells #[.slice Ao49 t711.length co49, .int .i64 t714] 55 (0, 0)) (by (with_reducible repeat (first | refine blk_drewN ?_ _ | refine blk_drew ?_ | refine blk_alloc ?_ _)); exact BK715.out) hb)
                have n8_ := Aside0.mk (below_step (by repeat (first | (with_reducible first | exact HB.out | apply below_alloc | apply pw_below_drewN | apply below_drew1 | refine below_set ?_ GE694.out | refine below_set ?_ GE695.out | refine below_set ?_ GE710.out | refine below_set ?_ GE715.out) | exact HB.out)) hb)
                clear HO_711000
                clear HO_716000
                clear HO720
                clear HO724
                clear BK694
                clear BK695
                clear BK710
                clear BK715
                clear HB
                have HO_711000 := n0_
                have HO_716000 := n1_
                have HO720 := n2_
                have HO724 := n3_
                have BK694 := n4_
                have BK695 := n5_
                have BK710 := n6_
                have BK715 := n7_
                have HB := n8_
                clear n0_ n1_ n2_ n3_ n4_ n5_ n6_ n7_ n8_
                (try clear hb)
                (try clear hb2)
                (try clear hk)
                (try clear hi)
                refine hK.out _ _ ⟨(blk_cell BK715.out 0).trans rfl, (blk_cell BK715.out 1).trans rfl, (blk_cell BK695.out 0).trans rfl, (blk_cell BK695.out 1).trans rfl⟩ (fun hHeld => ?_)
                clear hK K
                refine norm_ (a' := ?_) ?_ ?_
                rotate_left
                · show Act.put _ (some 56) _ = _
                  simp only [Act.put, List.setIfInBounds_toArray, List.set_cons_zero, List.set_cons_succ, i64_w, i32_w]
                  rfl
                refine pure_ (i := 4) (N := some 57) (v := ?_) (a' := ?_) #[true, true, true, true, true] rfl rfl (by kernel_rfl) (fun _ _ _ h => h) (Or.inl ⟨by rfl, ?_⟩) ?_ ?_
                rotate_left
                · intro w'
                  go_simp
                  with_reducible rfl
                rotate_left
                · simp only [Act.put, List.setIfInBounds_toArray, List.set_cons_zero, List.set_cons_succ, i64_w, i32_w]
                  rfl
                refine done_ (by kernel_rfl) ?_
                try go_wp2
                go_ret
                exact ⟨by first | rfl | (simp [errW_none, errW_some] <;> rfl) | (simp [*, errW_none, errW_some] <;> rfl), by repeat (first | (with_reducible first | exact HB.out | apply below_alloc | apply pw_below_drewN | apply below_drew1 | refine below_set ?_ GE694.out | refine below_set ?_ GE695.out | refine below_set ?_ GE710.out | refine below_set ?_ GE715.out) | exact HB.out)⟩
            · replace c60 := Bool.eq_false_iff.mpr c60
              subst c60
              have H1 : (some false) = some r := by rw [if_neg (show ¬ (false = true) by decide)] at H; exact H
              clear H
              have H := H1
              clear H1
              obtain rfl := Option.some.inj H
              try go_wp2
              have n0_ := Aside0.mk (Kd.S_drew HO_711000.out)
              have n1_ := Aside0.mk (Kd.R_drew HO_716000.out)
              have n2_ := Aside0.mk (blk_drew BK694.out)
              have n3_ := Aside0.mk (blk_drew BK695.out)
              have n4_ := Aside0.mk (blk_drew BK710.out)
              have n5_ := Aside0.mk (blk_drew BK715.out)
              have n6_ := Aside0.mk (below_drew1 HB.out)
              clear HO_711000
              clear HO_716000
              clear BK694
              clear BK695
              clear BK710
              clear BK715
              clear HB
              have HO_711000 := n0_
              have HO_716000 := n1_
              have BK694 := n2_
              have BK695 := n3_
              have BK710 := n4_
              have BK715 := n5_
              have HB := n6_
              clear n0_ n1_ n2_ n3_ n4_ n5_ n6_
              refine start_ (n := 5) (S := fun w' => w'.cell? ⟨gb710, 0, none⟩ = some (.slice Ao42 t707.length co42) ∧ w'.cell? ⟨gb694, 0, none⟩ = some (.slice A0_0 l0_0.length c0_0)) (ds := []) #[false, false, false, false, false] (by kernel_rfl) rfl rfl ⟨(blk_cell BK710.out 0).trans rfl, (blk_cell BK694.out 0).trans rfl⟩ (fun hHeld => ?_)
              generalize wc.drew = w80 at HO_711000 HO_716000 BK694 BK695 BK710 BK715 HB hHeld ⊢
              refine take_ (i := 0) (N := some 48) (v := ?_) (a' := ?_) #[true, false, false, false, false] rfl rfl (by kernel_rfl) (fun _ _ _ h => h) (Or.inl ⟨by rfl, ?_⟩) hHeld ?_ ?_
              rotate_left
              · rintro w' ⟨s0, s1⟩
                go_simp
                with_reducible rfl
              rotate_left
              · simp only [Act.put, List.setIfInBounds_toArray, List.set_cons_zero, List.set_cons_succ, i64_w, i32_w]
                rfl
              refine take_ (i := 1) (N := some 49) (v := ?_) (a' := ?_) #[true, true, false, false, false] rfl rfl (by kernel_rfl) (fun _ _ _ h => h) (Or.inl ⟨by rfl, ?_⟩) hHeld ?_ ?_
              rotate_left
              · rintro w' ⟨s0, s1⟩
                go_simp
                with_reducible rfl
              rotate_left
              · simp only [Act.put, List.setIfInBounds_toArray, List.set_cons_zero, List.set_cons_succ, i64_w, i32_w]
                rfl
              refine one_ (i := 2) (N := some 50) #[true, true, true, false, false] rfl rfl (by kernel_rfl) (by decide) (fun K hK => ?_)
              refine goes_ Try.func17 (by kernel_rfl) rfl #[.agg #[.slice A0_0 l0_0.length c0_0]] (by rfl) rfl rfl (by (try simp only [List.map_toArray, List.map_cons, List.map_nil]); first | done | rfl | (simp only [List.length_drop, List.length_take]; rfl)) ?_
              with_reducible refine (laws_toGraph.calls kj24 _ _ l0_0 t718 _ ?side1 ?side2 A58.out).mono ?_
              (case side1 => repeat (first | exact (Kd.C_below HR0_0.out HB.out) | (with_reducible refine Kd.C_alloc ?_ _) | (with_reducible refine Kd.C_drewN ?_ _) | (with_reducible refine Kd.C_drew ?_)))
              (case side2 => exact HC0_0.out)
              rintro e w81 ⟨v719, rfl, ho0, hb⟩
              refine ⟨_, rfl, ?_⟩
              have n0_ := Aside0.mk (Kd.S_elder' (by (with_reducible repeat (first | apply Kd.S_alloc | apply Kd.S_drewN | apply Kd.S_drew)); exact HO_711000.out) (Kd.S_base ho0) hb)
              have n1_ := Aside0.mk (Kd.R_below (by (with_reducible repeat (first | apply Kd.R_alloc | apply Kd.R_drewN | apply Kd.R_drew)); exact HO_716000.out) hb)
              have n2_ := Aside0.mk (Kd.S_lower (Kd.S_new' (Kd.S_new' ho0 (Kd.S_lt (by (with_reducible repeat (first | apply Kd.S_alloc | apply Kd.S_drewN | apply Kd.S_drew)); exact HO_711000.out))) (Kd.R_lt (by (with_reducible repeat (first | apply Kd.R_alloc | apply Kd.R_drewN | apply Kd.R_drew)); exact HO_716000.out))) (below_size (by repeat (first | (with_reducible first | exact HB.out | apply below_alloc | apply pw_below_drewN | apply below_drew1 | refine below_set ?_ GE694.out | refine below_set ?_ GE695.out | refine below_set ?_ GE710.out | refine below_set ?_ GE715.out) | exact HB.out))))
              have n3_ := Aside0.mk (blk_below (g := gb694) (o := .cells #[.slice A0_0 l0_0.length c0_0] 24 (0, 0)) (by (with_reducible repeat (first | refine blk_drewN ?_ _ | refine blk_drew ?_ | refine blk_alloc ?_ _)); exact BK694.out) hb)
              have n4_ := Aside0.mk (blk_below (g := gb695) (o := .cells #[.slice A1_0 l1_0.length c1_0, .int .i64 a1_1] 52 (0, 0)) (by (with_reducible repeat (first | refine blk_drewN ?_ _ | refine blk_drew ?_ | refine blk_alloc ?_ _)); exact BK695.out) hb)
              have n5_ := Aside0.mk (blk_below (g := gb710) (o := .cells #[.slice Ao42 t707.length co42] 28 (0, 0)) (by (with_reducible repeat (first | refine blk_drewN ?_ _ | refine blk_drew ?_ | refine blk_alloc ?_ _)); exact BK710.out) hb)
              have n6_ := Aside0.mk (blk_below (g := gb715) (o := .cells #[.slice Ao49 t711.length co49, .int .i64 t714] 55 (0, 0)) (by (with_reducible repeat (first | refine blk_drewN ?_ _ | refine blk_drew ?_ | refine blk_alloc ?_ _)); exact BK715.out) hb)
              have n7_ := Aside0.mk (below_step (by repeat (first | (with_reducible first | exact HB.out | apply below_alloc | apply pw_below_drewN | apply below_drew1 | refine below_set ?_ GE694.out | refine below_set ?_ GE695.out | refine below_set ?_ GE710.out | refine below_set ?_ GE715.out) | exact HB.out)) hb)
              clear HO_711000
              clear HO_716000
              clear BK694
              clear BK695
              clear BK710
              clear BK715
              clear HB
              have HO_711000 := n0_
              have HO_716000 := n1_
              have HO720 := n2_
              have BK694 := n3_
              have BK695 := n4_
              have BK710 := n5_
              have BK715 := n6_
              have HB := n7_
              clear n0_ n1_ n2_ n3_ n4_ n5_ n6_ n7_
              (try clear hb)
              (try clear hb2)
              (try clear hk)
              (try clear hi)
              (try clear ho0)
              obtain ⟨Ao82, co82, eo82⟩ := Kd.S_slice HO720.out
              (first | subst eo82 | (injection eo82 with f1_ f2_ f3_; have f4_ := f1_.symm; have f5_ := f3_.symm; clear f1_ f2_ f3_; subst f4_; subst f5_))
              refine hK.out _ _ ⟨(blk_cell BK710.out 0).trans rfl, (blk_cell BK694.out 0).trans rfl⟩ (fun hHeld => ?_)
              clear hK K
              refine norm_ (a' := ?_) ?_ ?_
              rotate_left
              · show Act.put _ (some 50) _ = _
                simp only [Act.put, List.setIfInBounds_toArray, List.set_cons_zero, List.set_cons_succ, i64_w, i32_w]
                rfl
              refine one_ (i := 3) (N := some 51) #[true, true, true, true, false] rfl rfl (by kernel_rfl) (by decide) (fun K hK => ?_)
              refine goes_ Try.func20 (by kernel_rfl) rfl #[.agg #[.slice Ao42 t707.length co42], .agg #[.slice Ao82 t718.length co82]] (by rfl) rfl rfl (by (try simp only [List.map_toArray, List.map_cons, List.map_nil]); first | done | rfl | (simp only [List.length_drop, List.length_take]; rfl)) ?_
              with_reducible refine (laws_eqGraph.calls kj24 _ _ t707 _ _ t718 false _ ?side1 ?side2 ?side3 ?side4 A59.out).mono ?_
              (case side1 => repeat (first | exact (Kd.S_reads' HO_711000.out).2.2 | (with_reducible refine Kd.C_alloc ?_ _) | (with_reducible refine Kd.C_drewN ?_ _) | (with_reducible refine Kd.C_drew ?_)))
              (case side2 => exact (Kd.S_reads' HO_711000.out).2.1)
              (case side3 => repeat (first | exact (Kd.S_reads' HO720.out).2.2 | (with_reducible refine Kd.C_alloc ?_ _) | (with_reducible refine Kd.C_drewN ?_ _) | (with_reducible refine Kd.C_drew ?_)))
              (case side4 => exact (Kd.S_reads' HO720.out).2.1)
              rintro e w83 ⟨rfl, hb⟩
              refine ⟨_, rfl, ?_⟩
              have n0_ := Aside0.mk (Kd.S_below (by (with_reducible repeat (first | apply Kd.S_alloc | apply Kd.S_drewN | apply Kd.S_drew)); exact HO_711000.out) hb)
              have n1_ := Aside0.mk (Kd.R_below (by (with_reducible repeat (first | apply Kd.R_alloc | apply Kd.R_drewN | apply Kd.R_drew)); exact HO_716000.out) hb)
              have n2_ := Aside0.mk (Kd.S_below (by (with_reducible repeat (first | apply Kd.S_alloc | apply Kd.S_drewN | apply Kd.S_drew)); exact HO720.out) hb)
              have n3_ := Aside0.mk (blk_below (g := gb694) (o := .cells #[.slice A0_0 l0_0.length c0_0] 24 (0, 0)) (by (with_reducible repeat (first | refine blk_drewN ?_ _ | refine blk_drew ?_ | refine blk_alloc ?_ _)); exact BK694.out) hb)
              have n4_ := Aside0.mk (blk_below (g := gb695) (o := .cells #[.slice A1_0 l1_0.length c1_0, .int .i64 a1_1] 52 (0, 0)) (by (with_reducible repeat (first | refine blk_drewN ?_ _ | refine blk_drew ?_ | refine blk_alloc ?_ _)); exact BK695.out) hb)
              have n5_ := Aside0.mk (blk_below (g := gb710) (o := .cells #[.slice Ao42 t707.length co42] 28 (0, 0)) (by (with_reducible repeat (first | refine blk_drewN ?_ _ | refine blk_drew ?_ | refine blk_alloc ?_ _)); exact BK710.out) hb)
              have n6_ := Aside0.mk (blk_below (g := gb715) (o := .cells #[.slice Ao49 t711.length co49, .int .i64 t714] 55 (0, 0)) (by (with_reducible repeat (first | refine blk_drewN ?_ _ | refine blk_drew ?_ | refine blk_alloc ?_ _)); exact BK715.out) hb)
              have n7_ := Aside0.mk (below_step (by repeat (first | (with_reducible first | exact HB.out | apply below_alloc | apply pw_below_drewN | apply below_drew1 | refine below_set ?_ GE694.out | refine below_set ?_ GE695.out | refine below_set ?_ GE710.out | refine below_set ?_ GE715.out) | exact HB.out)) hb)
              clear HO_711000
              clear HO_716000
              clear HO720
              clear BK694
              clear BK695
              clear BK710
              clear BK715
              clear HB
              have HO_711000 := n0_
              have HO_716000 := n1_
              have HO720 := n2_
              have BK694 := n3_
              have BK695 := n4_
              have BK710 := n5_
              have BK715 := n6_
              have HB := n7_
              clear n0_ n1_ n2_ n3_ n4_ n5_ n6_ n7_
              (try clear hb)
              (try clear hb2)
              (try clear hk)
              (try clear hi)
              refine hK.out _ _ ⟨(blk_cell BK710.out 0).trans rfl, (blk_cell BK694.out 0).trans rfl⟩ (fun hHeld => ?_)
              clear hK K
              refine norm_ (a' := ?_) ?_ ?_
              rotate_left
              · show Act.put _ (some 51) _ = _
                simp only [Act.put, List.setIfInBounds_toArray, List.set_cons_zero, List.set_cons_succ, i64_w, i32_w]
                rfl
              refine pure_ (i := 4) (N := some 52) (v := ?_) (a' := ?_) #[true, true, true, true, true] rfl rfl (by kernel_rfl) (fun _ _ _ h => h) (Or.inl ⟨by rfl, ?_⟩) ?_ ?_
              rotate_left
              · intro w'
                go_simp
                with_reducible rfl
              rotate_left
              · simp only [Act.put, List.setIfInBounds_toArray, List.set_cons_zero, List.set_cons_succ, i64_w, i32_w]
                rfl
              refine done_ (by kernel_rfl) ?_
              try go_wp2
              go_ret
              exact ⟨by first | rfl | (simp [errW_none, errW_some] <;> rfl) | (simp [*, errW_none, errW_some] <;> rfl), by repeat (first | (with_reducible first | exact HB.out | apply below_alloc | apply pw_below_drewN | apply below_drew1 | refine below_set ?_ GE694.out | refine below_set ?_ GE695.out | refine below_set ?_ GE710.out | refine below_set ?_ GE715.out) | exact HB.out)⟩

end Go.Proofs.Ytnphoaecjeenjaa.P
namespace Go.Proofs.Ytnphoaecjeenjaa.In
open Go.RowKit Go.Proofs.YtnphoaecjeenjaaW.PrintWords Go.Proofs.YtnphoaecjeenjaaW.PrintLast Go.Proofs.YtnphoaecjeenjaaW.PrintMore
set_option linter.unusedVariables false
/-- A row of numbers, as the reading of an argument tells it. -/
theorem in_ints {w : World} {A : Option Addr} {L C : Nat} {zs : List Int} (hl : L ≤ C) (hm : C ≤ maxLen) (hz : zs.length = C) (hn : A = none → C = 0) (hc : ∀ a', A = some a' → ∀ c, c < C → w.cell? (a'.add c) = some (.int .i64 (zs.getD c 0))) :
    Kd.C (Kd.int .i64) w A (zs.take L).length (zs.take L) := by
  have hlen : (zs.take L).length = L := by rw [List.length_take]; omega
  refine ⟨rfl, by rw [hlen]; unfold maxLen at hm; omega, fun h => ?_⟩
  rw [hlen] at h
  cases A with
  | none => have := hn rfl; omega
  | some a =>
    refine ⟨a, rfl, fun j p hj => ⟨[.int .i64 p], rfl, rfl, fun i u hi => ?_⟩⟩
    have hi0 : i = 0 := by
      cases i with
      | zero => rfl
      | succ i => simp at hi
    subst hi0
    obtain rfl := Option.some.inj hi
    show w.cell? (a.add (j * 1 + 0)) = _
    rw [List.getElem?_take] at hj
    split at hj
    · rename_i hjl
      have h2 : zs.getD j 0 = p := by rw [List.getD_eq_getElem?_getD, hj]; rfl
      rw [Nat.mul_one, Nat.add_zero, hc a rfl j (by omega), h2]
    · cases hj
/-- Rows of numbers. -/
theorem in_rows {w : World} {q : Nat} {a : Addr} {len cap : Nat} {A : Nat → Option Addr} {L C : Nat → Nat} {Z : Nat → List Int} (hl : len ≤ cap) (hm : cap ≤ maxLen)
    (h : ∀ r, r < cap → w.cell? (a.add r) = some (.slice (A r) (L r) (C r)) ∧ L r ≤ C r ∧ C r ≤ maxLen ∧ (Z r).length = C r ∧ (∀ n ∈ Z r, (Lit.int .i64 n).wf = true) ∧ (A r = none → C r = 0) ∧ ∀ a', A r = some a' → ∀ c, c < C r → w.cell? (a'.add c) = some (.int .i64 ((Z r).getD c 0))) :
    ∃ ll : List (List Int), len = ll.length ∧ Kd.C (Kd.slice q (Kd.int .i64)) w (some a) ll.length ll ∧ (∀ row ∈ ll, row.length ≤ maxLen ∧ ∀ x ∈ row, (Lit.int .i64 x).wf = true) := by
  refine ⟨(List.range len).map fun r => (Z r).take (L r), by simp, ⟨by simp, by simp; unfold maxLen at hm; omega, fun _ => ⟨a, rfl, fun j p hj => ?_⟩⟩, fun row hrow => ?_⟩
  · rw [List.getElem?_map] at hj
    have hjl : j < len := by
      rcases Nat.lt_or_ge j len with h1 | h1
      · exact h1
      · rw [List.getElem?_eq_none (by simpa using h1)] at hj; cases hj
    rw [List.getElem?_range hjl] at hj
    simp at hj
    subst hj
    obtain ⟨h1, h2, h3, h4, h5, h6, h7⟩ := h j (by omega)
    have hlen : ((Z j).take (L j)).length = L j := by rw [List.length_take]; omega
    refine ⟨[.slice (A j) ((Z j).take (L j)).length (C j)], rfl, ⟨A j, C j, rfl, by omega, in_ints h2 h3 h4 h6 h7⟩, fun i u hi => ?_⟩
    have hi0 : i = 0 := by
      cases i with
      | zero => rfl
      | succ i => simp at hi
    subst hi0
    obtain rfl := Option.some.inj hi
    show w.cell? (a.add (j * 1 + 0)) = _
    rw [Nat.mul_one, Nat.add_zero, h1, hlen]
  · simp only [List.mem_map, List.mem_range] at hrow
    obtain ⟨r, hr, rfl⟩ := hrow
    obtain ⟨h1, h2, h3, h4, h5, h6, h7⟩ := h r (by omega)
    exact ⟨by rw [List.length_take]; omega, fun x hx => h5 x (List.mem_of_mem_take hx)⟩
section
variable {H : Type} {enc : TypeId × Value → H} {P : Program} {w : World} {base : Nat} {held : Bool}
open Go.ChangeShapes Go.WideShapes Go.Deep in
/-- Rows of numbers, in a cell. -/
theorem in_rows_cell {t e q : TypeId} {fuel : Nat} {cs : List Value} {x : DataW H × List MemPlace} (ht : P.underlying t = some (.slice e)) (he : P.underlying e = some (.slice q)) (hq : P.underlying q = some (.int .i64))
    (ce : P.cellsOf e = 1) (cq : P.cellsOf q = 1) (h : DataW.trod enc P w base (fun _ => true) held fuel t cs = some x) :
    ∃ (A : Option Addr) (ll : List (List Int)) (cap : Nat), cs = [.slice A ll.length cap] ∧ ll.length ≤ cap ∧ Kd.C (Kd.slice q (Kd.int .i64)) w A ll.length ll ∧ (∀ row ∈ ll, row.length ≤ maxLen ∧ ∀ x ∈ row, (Lit.int .i64 x).wf = true) := by
  rcases open_int_rows ht he hq ce cq h with ⟨rfl, _⟩ | ⟨a, len, cap, A, L, C, Z, rfl, _, hl, hm, _, hr⟩
  · exact ⟨none, [], 0, rfl, Nat.le_refl _, Kd.C_nil _ _, by simp⟩
  · obtain ⟨ll, rfl, hc, hw⟩ := in_rows (q := q) hl hm (fun r hr' => by
      obtain ⟨h1, h2, h3, h4, h5, h6, h7⟩ := hr r hr'
      exact ⟨h1, h2, h3, h4, h5, h6, fun a' ha c hc => (h7 a' ha).2 c hc⟩)
    exact ⟨some a, ll, cap, rfl, hl, hc, hw⟩
open Go.ChangeShapes Go.WideShapes Go.Deep in
/-- Numbers, in a cell. -/
theorem in_ints_cell {t q : TypeId} {fuel : Nat} {cs : List Value} {x : DataW H × List MemPlace} (ht : P.underlying t = some (.slice q)) (hq : P.underlying q = some (.int .i64))
    (cq : P.cellsOf q = 1) (h : DataW.trod enc P w base (fun _ => true) held fuel t cs = some x) :
    ∃ (A : Option Addr) (l : List Int) (cap : Nat), cs = [.slice A l.length cap] ∧ l.length ≤ cap ∧ Kd.C (Kd.int .i64) w A l.length l ∧ (l.length ≤ maxLen ∧ ∀ x ∈ l, (Lit.int .i64 x).wf = true) := by
  rcases open_ints ht hq cq h with ⟨rfl, _⟩ | ⟨a, len, cap, zs, rfl, _, hl, hm, hz, _, hc, hw⟩
  · exact ⟨none, [], 0, rfl, Nat.le_refl _, Kd.C_nil _ _, by simp⟩
  · simp only [if_true] at hz
    have hlen : (zs.take len).length = len := by rw [List.length_take]; omega
    refine ⟨some a, zs.take len, cap, by rw [hlen], by omega, in_ints hl hm hz (fun e => by cases e) (fun a' e c hlt => by cases e; exact hc c (by omega)), by omega, fun x hx => hw x (List.mem_of_mem_take hx)⟩
theorem array1 {α : Type} {cs : Array α} (h : cs.size = 1) : ∃ c0, cs = #[c0] := by
  obtain ⟨l⟩ := cs
  match l, h with
  | [c0], _ => exact ⟨c0, rfl⟩
open Go.ChangeShapes Go.WideShapes Go.Deep in
/-- A struct of one field: rows of numbers. -/
theorem in_graph {r : Reach} {b0 : Nat} {t ts te q : TypeId} {f0 : Field} {v : Value} {d : DataW H} {p : List MemPlace} (hs : P.underlying t = some (.struct #[f0])) (hone : oneCellFields P #[f0] = true) (hC : P.cellsOf t = 1) (hf0 : f0.type = ts)
    (ht : P.underlying ts = some (.slice te)) (he : P.underlying te = some (.slice q)) (hq : P.underlying q = some (.int .i64)) (ce : P.cellsOf te = 1) (cq : P.cellsOf q = 1) (hv : Value.okWide P w r b0 t v) (h : DataW.Trod enc P w base (fun _ => true) held t v d p) :
    ∃ (A : Option Addr) (ll : List (List Int)) (cap : Nat), v = .agg #[.slice A ll.length cap] ∧ ll.length ≤ cap ∧ Kd.C (Kd.slice q (Kd.int .i64)) w A ll.length ll ∧ (∀ row ∈ ll, row.length ≤ maxLen ∧ ∀ x ∈ row, (Lit.int .i64 x).wf = true) := by
  subst hf0
  obtain ⟨cs, rfl, hsz⟩ := okWide_struct hs hv
  obtain ⟨c0, rfl⟩ := array1 (hsz.trans hC)
  obtain ⟨fuel, hf⟩ := h
  obtain ⟨y0, n, hx, _, h0⟩ := trod_struct1 hs hf
  obtain ⟨o0, k0⟩ := hone_of hone 0 f0 rfl
  obtain ⟨A, ll, cap, hcs, h1, h2, h3⟩ := in_rows_cell ht he hq ce cq h0
  simp [Value.cells, o0, k0] at hcs
  subst hcs
  exact ⟨A, ll, cap, rfl, h1, h2, h3⟩
end
section
variable {H : Type} {enc : TypeId × Value → H} {P : Program} {w : World} {base : Nat} {held : Bool}
open Go.ChangeShapes Go.WideShapes Go.Deep in
/-- A struct of numbers and a number. -/
theorem in_walk {r : Reach} {b0 : Nat} {t ts q tx : TypeId} {f0 f1 : Field} {v : Value} {d : DataW H} {p : List MemPlace} (hs : P.underlying t = some (.struct #[f0, f1])) (hone : oneCellFields P #[f0, f1] = true) (hC : P.cellsOf t = 2) (hf0 : f0.type = ts) (hf1 : f1.type = tx)
    (ht : P.underlying ts = some (.slice q)) (hq : P.underlying q = some (.int .i64)) (hx : P.underlying tx = some (.int .i64)) (cq : P.cellsOf q = 1) (hv : Value.okWide P w r b0 t v) (h : DataW.Trod enc P w base (fun _ => true) held t v d p) :
    ∃ (A : Option Addr) (l : List Int) (cap : Nat) (x : Int), v = .agg #[.slice A l.length cap, .int .i64 x] ∧ l.length ≤ cap ∧ Kd.C (Kd.int .i64) w A l.length l ∧ (l.length ≤ maxLen ∧ ∀ y ∈ l, (Lit.int .i64 y).wf = true) ∧ (Lit.int .i64 x).wf = true := by
  subst hf0 hf1
  obtain ⟨v0, v1, y0, y1, n, rfl, _, _, h0, h1⟩ := Go.Joins.open_agg2 hs hone hC hv h
  obtain ⟨A, l, cap, hcs, hl, hc, hw⟩ := in_ints_cell ht hq cq h0
  simp only [List.cons.injEq, and_true] at hcs
  subst hcs
  obtain ⟨x, hxs, _, hxw⟩ := DataW.trod_int hx h1
  simp only [List.cons.injEq, and_true] at hxs
  subst hxs
  exact ⟨A, l, cap, x, rfl, hl, hc, hw, hxw⟩
open Go.ChangeShapes Go.WideShapes Go.Deep in
/-- A struct of numbers and numbers. -/
theorem in_load {r : Reach} {b0 : Nat} {t ts q : TypeId} {f0 f1 : Field} {v : Value} {d : DataW H} {p : List MemPlace} (hs : P.underlying t = some (.struct #[f0, f1])) (hone : oneCellFields P #[f0, f1] = true) (hC : P.cellsOf t = 2) (hf0 : f0.type = ts) (hf1 : f1.type = ts)
    (ht : P.underlying ts = some (.slice q)) (hq : P.underlying q = some (.int .i64)) (cq : P.cellsOf q = 1) (hv : Value.okWide P w r b0 t v) (h : DataW.Trod enc P w base (fun _ => true) held t v d p) :
    ∃ (A : Option Addr) (l : List Int) (cap : Nat) (B : Option Addr) (m : List Int) (bcap : Nat), v = .agg #[.slice A l.length cap, .slice B m.length bcap] ∧ l.length ≤ cap ∧ Kd.C (Kd.int .i64) w A l.length l ∧ (l.length ≤ maxLen ∧ ∀ y ∈ l, (Lit.int .i64 y).wf = true) ∧ m.length ≤ bcap ∧ Kd.C (Kd.int .i64) w B m.length m ∧ (m.length ≤ maxLen ∧ ∀ y ∈ m, (Lit.int .i64 y).wf = true) := by
  subst hf0
  obtain ⟨v0, v1, y0, y1, n, rfl, _, _, h0, h1⟩ := Go.Joins.open_agg2 hs hone hC hv h
  obtain ⟨A, l, cap, hcs, hl, hc, hw⟩ := in_ints_cell ht hq cq h0
  simp only [List.cons.injEq, and_true] at hcs
  subst hcs
  rw [hf1] at h1
  obtain ⟨B, m, bcap, hcs, hm, hd, hx⟩ := in_ints_cell ht hq cq h1
  simp only [List.cons.injEq, and_true] at hcs
  subst hcs
  exact ⟨A, l, cap, B, m, bcap, rfl, hl, hc, hw, hm, hd, hx⟩
open Go.ChangeShapes Go.WideShapes Go.Deep in
theorem in_slice {r : Reach} {b0 : Nat} {t q : TypeId} {v : Value} {d : DataW H} {p : List MemPlace} (ht : P.underlying t = some (.slice q)) (hq : P.underlying q = some (.int .i64)) (cq : P.cellsOf q = 1) (hv : Value.okWide P w r b0 t v) (h : DataW.Trod enc P w base (fun _ => true) held t v d p) :
    ∃ (A : Option Addr) (l : List Int) (cap : Nat), v = .slice A l.length cap ∧ l.length ≤ cap ∧ Kd.C (Kd.int .i64) w A l.length l ∧ (l.length ≤ maxLen ∧ ∀ y ∈ l, (Lit.int .i64 y).wf = true) := by
  obtain ⟨A0, n0, c0, rfl⟩ := okWide_slice ht hv
  obtain ⟨fuel, hf⟩ := h
  obtain ⟨A, l, cap, hcs, hl, hc, hw⟩ := in_ints_cell ht hq cq hf
  simp [Value.cells] at hcs
  obtain ⟨rfl, rfl, rfl⟩ := hcs
  exact ⟨_, l, _, rfl, hl, hc, hw⟩
open Go.ChangeShapes Go.WideShapes Go.Deep in
theorem in_slices {r : Reach} {b0 : Nat} {t e q : TypeId} {v : Value} {d : DataW H} {p : List MemPlace} (ht : P.underlying t = some (.slice e)) (he : P.underlying e = some (.slice q)) (hq : P.underlying q = some (.int .i64)) (ce : P.cellsOf e = 1) (cq : P.cellsOf q = 1) (hv : Value.okWide P w r b0 t v) (h : DataW.Trod enc P w base (fun _ => true) held t v d p) :
    ∃ (A : Option Addr) (ll : List (List Int)) (cap : Nat), v = .slice A ll.length cap ∧ ll.length ≤ cap ∧ Kd.C (Kd.slice q (Kd.int .i64)) w A ll.length ll ∧ (∀ row ∈ ll, row.length ≤ maxLen ∧ ∀ x ∈ row, (Lit.int .i64 x).wf = true) := by
  obtain ⟨A0, n0, c0, rfl⟩ := okWide_slice ht hv
  obtain ⟨fuel, hf⟩ := h
  obtain ⟨A, ll, cap, hcs, hl, hc, hw⟩ := in_rows_cell ht he hq ce cq hf
  simp [Value.cells] at hcs
  obtain ⟨rfl, rfl, rfl⟩ := hcs
  exact ⟨_, ll, _, rfl, hl, hc, hw⟩
end
/-! What an argument's numbers are like. -/
def okI (x : Int) : Prop := -9223372036854775808 ≤ x ∧ x ≤ 9223372036854775807
def okIs (l : List Int) : Prop := l.length ≤ 9223372036854775807 ∧ ∀ x ∈ l, okI x
def okSS (ll : List (List Int)) : Prop := ll.length ≤ 9223372036854775807 ∧ ∀ row ∈ ll, okIs row
theorem okI_wf {x : Int} (h : (Lit.int .i64 x).wf = true) : okI x := by
  simp only [Lit.wf, Bool.and_eq_true, decide_eq_true_eq] at h
  exact h
theorem okIs_wf {l : List Int} (h : l.length ≤ maxLen ∧ ∀ x ∈ l, (Lit.int .i64 x).wf = true) : okIs l := ⟨h.1, fun x hx => okI_wf (h.2 x hx)⟩
theorem okSS_wf {w : World} {q : Nat} {A : Option Addr} {ll : List (List Int)} (hc : Kd.C (Kd.slice q (Kd.int .i64)) w A ll.length ll) (h : ∀ row ∈ ll, row.length ≤ maxLen ∧ ∀ x ∈ row, (Lit.int .i64 x).wf = true) : okSS ll := ⟨hc.2.1, fun row hr => okIs_wf (h row hr)⟩

end Go.Proofs.Ytnphoaecjeenjaa.In
namespace Go.Proofs.Ytnphoaecjeenjaa.M
open Go.RowKit Go.Proofs.Ytnphoaecjeenjaa.P Go.Proofs.Ytnphoaecjeenjaa.In Go.Proofs.YtnphoaecjeenjaaW.PrintWords Go.Proofs.YtnphoaecjeenjaaW.PrintLast
set_option linter.unusedVariables false
set_option linter.unusedSimpArgs false
/-! numbers -/
theorem wrap_id {x : Int} (h : -9223372036854775808 ≤ x ∧ x ≤ 9223372036854775807) : wrap64 x = x := by unfold wrap64; omega
theorem wrap_nat {n : Nat} (h : n < 9223372036854775807) : wrap64 ((n : Int) + 1) = ((n + 1 : Nat) : Int) := by unfold wrap64; omega
theorem rd_at {l : List Int} {n : Nat} (h : n < l.length) : rd l (n : Int) = l[n] := by simp [rd, h]
theorem rdL_at {l : List (List Int)} {n : Nat} (h : n < l.length) : rd_L1 l (n : Int) = l[n] := by simp [rd_L1, h]
theorem _root_.Go.Proofs.YtnphoaecjeenjaaW.PrintWords.Ev.val {α : Type} {g : Nat → Option α} {r r' : α} (h : Ev g r) (e : r = r') : Ev g r' := e ▸ h
theorem _root_.Go.Proofs.YtnphoaecjeenjaaW.PrintWords.Ev.const {α : Type} {g : Nat → Option α} {r : α} (h : ∀ k, g k = some r) : Ev g r := ⟨0, fun k _ => h k⟩
theorem _root_.Go.Proofs.YtnphoaecjeenjaaW.PrintWords.Ev.const1 {α : Type} {g : Nat → Option α} {r : α} (h : ∀ k, g (k + 1) = some r) : Ev g r := Ev.step (f := fun _ => some r) h (Ev.const fun _ => rfl)
theorem _root_.Go.Proofs.YtnphoaecjeenjaaW.PrintWords.Ev.succ {α : Type} {g : Nat → Option α} {r : α} (h : Ev (fun k => g (k + 1)) r) : Ev g r := Ev.step (f := fun k => g (k + 1)) (fun _ => rfl) h
theorem _root_.Go.Proofs.YtnphoaecjeenjaaW.PrintWords.Ev.uniq {α : Type} {g : Nat → Option α} {r r' : α} (h : Ev g r) (h' : Ev g r') : r = r' := by
  obtain ⟨K, hK⟩ := h
  obtain ⟨K', hK'⟩ := h'
  have := (hK (max K K') (Nat.le_max_left _ _)).symm.trans (hK' (max K K') (Nat.le_max_right _ _))
  exact Option.some.inj this
theorem _root_.Go.Proofs.YtnphoaecjeenjaaW.PrintWords.Ev.bind0 {α β : Type} {g : Option α} {f : Nat → α → Option β} {a : α} {r : β} (h : g = some a) (k : Ev (fun n => f n a) r) : Ev (fun n => g.bind (f n)) r := by
  subst h; exact k
theorem _root_.Go.Proofs.YtnphoaecjeenjaaW.PrintWords.Ev.pos {α : Type} {g f : Nat → Option α} {r : α} {c : Prop} [Decidable c] (h : c) (k : Ev g r) : Ev (fun n => if c then g n else f n) r := by
  simp only [if_pos h]; exact k
theorem _root_.Go.Proofs.YtnphoaecjeenjaaW.PrintWords.Ev.neg {α : Type} {g f : Nat → Option α} {r : α} {c : Prop} [Decidable c] (h : ¬ c) (k : Ev f r) : Ev (fun n => if c then g n else f n) r := by
  simp only [if_neg h]; exact k

/-! copies -/
theorem toIntS_l0 (l : List Int) (hl : l.length < 9223372036854775807) : ∀ (d i : Nat) (y : List Int), l.length - i = d → i ≤ l.length → y.length = l.length → y.take i = l.take i → Ev (fun k => laws_toIntS.l0 k l y i) l := by
  intro d
  induction d with
  | zero =>
    intro i y hd hi hy ht
    have : i = l.length := by omega
    subst this
    refine Ev.const1 (fun k => ?_)
    simp only [laws_toIntS.l0]
    rw [if_neg (by omega)]
    rw [List.take_of_length_le (by omega), List.take_of_length_le (by omega)] at ht
    rw [ht]
  | succ d ih =>
    intro i y hd hi hy ht
    have hlt : i < l.length := by omega
    refine Ev.step (f := fun k => laws_toIntS.l0 k l (y.set i l[i]) (i + 1 : Nat)) (fun k => ?_) (ih (i + 1) (y.set i l[i]) (by omega) (by omega) (by rw [List.length_set]; exact hy) ?_)
    · simp only [laws_toIntS.l0]
      rw [if_pos (by omega), if_pos (by omega), if_pos (by omega), wrap_nat (by omega), rd_at hlt, Int.toNat_natCast]
    · rw [List.take_succ_eq_append_getElem (by rw [List.length_set]; omega), List.take_succ_eq_append_getElem hlt, List.take_set_of_le (Nat.le_refl _), ht, List.getElem_set_self]
theorem toIntS (l : List Int) (hl : l.length ≤ 35184372088832) : Ev (fun k => laws_toIntS.f k l) l := by
  unfold laws_toIntS.f
  refine Ev.pos (by omega) (Ev.pos (by omega) ?_)
  exact toIntS_l0 l (by omega) l.length 0 _ (by omega) (by omega) (by simp) (by simp)
theorem toIntSS_l0 (l : List (List Int)) (hl : l.length < 9223372036854775807) (hr : ∀ row ∈ l, row.length ≤ 35184372088832) : ∀ (d i : Nat) (y : List (List Int)), l.length - i = d → i ≤ l.length → y.length = l.length → y.take i = l.take i → Ev (fun k => laws_toIntSS.l0 k l y i) l := by
  intro d
  induction d with
  | zero =>
    intro i y hd hi hy ht
    have : i = l.length := by omega
    subst this
    refine Ev.const1 (fun k => ?_)
    simp only [laws_toIntSS.l0]
    rw [if_neg (by omega)]
    rw [List.take_of_length_le (by omega), List.take_of_length_le (by omega)] at ht
    rw [ht]
  | succ d ih =>
    intro i y hd hi hy ht
    have hlt : i < l.length := by omega
    refine Ev.step (f := fun k => (laws_toIntS.f k l[i]).bind fun t => laws_toIntSS.l0 k l (y.set i t) (i + 1 : Nat)) (fun k => ?_) (Ev.bind (toIntS l[i] (hr _ (List.getElem_mem hlt))) (ih (i + 1) (y.set i l[i]) (by omega) (by omega) (by rw [List.length_set]; exact hy) ?_))
    · simp only [laws_toIntSS.l0]
      rw [if_pos (by omega), if_pos (by omega), wrap_nat (by omega), rdL_at hlt, Int.toNat_natCast]
      congr 1
      funext t
      rw [if_pos (by omega)]
    · rw [List.take_succ_eq_append_getElem (by rw [List.length_set]; omega), List.take_succ_eq_append_getElem hlt, List.take_set_of_le (Nat.le_refl _), ht, List.getElem_set_self]
theorem toIntSS (l : List (List Int)) (hl : l.length ≤ 11728124029610) (hr : ∀ row ∈ l, row.length ≤ 35184372088832) : Ev (fun k => laws_toIntSS.f k l) l := by
  unfold laws_toIntSS.f
  refine Ev.pos (by omega) (Ev.pos (by omega) ?_)
  exact toIntSS_l0 l (by omega) hr l.length 0 _ (by omega) (by omega) (by simp) (by simp)
/-- A graph that is small enough for a law to look at it. -/
def small (l : List (List Int)) : Prop := l.length ≤ 1048576 ∧ ∀ row ∈ l, row.length ≤ 1048576
theorem toGraph (l : List (List Int)) (h : small l) : Ev (fun k => laws_toGraph.f k l) l := by
  unfold laws_toGraph.f
  exact Ev.bind (toIntSS l (by have := h.1; omega) (fun row hr => by have := h.2 row hr; omega)) (Ev.now _)

/-! sizes -/
theorem szIntSS_l0 (l : List (List Int)) (hl : okSS l) : ∀ (d i : Nat) (a : Int), l.length - i = d → i ≤ l.length → 0 ≤ a → a ≤ 1048576 → ∃ r, Ev (fun k => laws_szIntSS.l0 k l a i) r ∧ r ≤ 1048576 ∧ (0 ≤ r → ∀ j (hj : j < l.length), i ≤ j → l[j].length ≤ 1048576) := by
  intro d
  induction d with
  | zero =>
    intro i a hd hi h0 h1
    refine ⟨a, Ev.const1 (fun k => ?_), h1, fun _ j hj hij => by omega⟩
    simp only [laws_szIntSS.l0]
    rw [if_neg (by omega)]
  | succ d ih =>
    intro i a hd hi h0 h1
    have hlt : i < l.length := by omega
    have hll := hl.1
    have hrow := (hl.2 _ (List.getElem_mem hlt)).1
    by_cases hneg : a - (l[i].length : Int) < 0
    · refine ⟨-1, Ev.const1 (fun k => ?_), by omega, fun h => by omega⟩
      simp only [laws_szIntSS.l0, laws_szIntS.f]
      rw [if_pos (by omega), if_pos (by omega), rdL_at hlt, if_pos (by rw [wrap_id (by omega)]; exact hneg)]
      rfl
    · obtain ⟨r, h2, h3, h4⟩ := ih (i + 1) (a - (l[i].length : Int)) (by omega) (by omega) (by omega) (by omega)
      refine ⟨r, Ev.step (fun k => ?_) h2, h3, fun h j hj hij => ?_⟩
      · simp only [laws_szIntSS.l0, laws_szIntS.f]
        rw [if_pos (by omega), if_pos (by omega), rdL_at hlt, wrap_id (by omega), if_neg hneg, wrap_nat (by omega)]
        simp only [Option.bind_some]
        rw [if_neg hneg]
      · by_cases e : j = i
        · subst e; omega
        · exact h4 h j hj (by omega)
theorem szGraph (l : List (List Int)) (hl : okSS l) : ∃ r, Ev (fun k => laws_szGraph.f k l 1048576) r ∧ r ≤ 1048576 ∧ (0 ≤ r → small l) := by
  have hll := hl.1
  unfold laws_szGraph.f laws_szIntSS.f
  rw [wrap_id (by omega)]
  by_cases h : (1048576 : Int) - (l.length : Int) < 0
  · exact ⟨-1, Ev.bind (Ev.pos h (Ev.now _)) (Ev.pos (by omega) (Ev.now _)), by omega, fun h => by omega⟩
  · obtain ⟨r, h2, h3, h4⟩ := szIntSS_l0 l hl l.length 0 (1048576 - (l.length : Int)) (by omega) (by omega) (by omega) (by omega)
    by_cases hr : r < 0
    · exact ⟨-1, Ev.bind (Ev.neg h h2) (Ev.pos hr (Ev.now _)), by omega, fun h => by omega⟩
    · refine ⟨r, Ev.bind (Ev.neg h h2) (Ev.neg hr (Ev.now _)), h3, fun h0 => ⟨by omega, fun row hrow => ?_⟩⟩
      obtain ⟨j, hj, rfl⟩ := List.getElem_of_mem hrow
      exact h4 h0 j hj (Nat.zero_le _)

/-! comparisons -/
theorem cons_dec {α : Type} [DecidableEq α] {a b : α} {l m : List α} (e : a = b) : decide (l = m) = decide (a :: l = b :: m) := by
  subst e; exact decide_eq_decide.mpr ⟨fun h => by rw [h], fun h => (List.cons.inj h).2⟩
theorem eqIntS_l0 (x y : List Int) (hl : x.length ≤ 9223372036854775807) (hxy : x.length = y.length) : ∀ (d i : Nat), x.length - i = d → i ≤ x.length → Ev (fun k => laws_eqIntS.l0 k x y i) (decide (x.drop i = y.drop i)) := by
  intro d
  induction d with
  | zero =>
    intro i hd hi
    refine Ev.const1 (fun k => ?_)
    simp only [laws_eqIntS.l0]
    rw [if_neg (by omega), List.drop_of_length_le (by omega), List.drop_of_length_le (by omega)]
    simp
  | succ d ih =>
    intro i hd hi
    have hlt : i < x.length := by omega
    have hlt2 : i < y.length := by omega
    rw [List.drop_eq_getElem_cons hlt, List.drop_eq_getElem_cons hlt2]
    by_cases e : x[i] = y[i]
    · refine Ev.step (f := fun k => laws_eqIntS.l0 k x y (i + 1 : Nat)) (fun k => ?_) ((ih (i + 1) (by omega) (by omega)).val (cons_dec e))
      simp only [laws_eqIntS.l0]
      rw [if_pos (by omega), if_pos (by omega), if_pos (by omega), rd_at hlt, rd_at hlt2, if_pos e, wrap_nat (by omega)]
    · refine Ev.const1 (fun k => ?_)
      simp only [laws_eqIntS.l0]
      rw [if_pos (by omega), if_pos (by omega), if_pos (by omega), rd_at hlt, rd_at hlt2, if_neg e, decide_eq_false (fun h => e (List.cons.inj h).1)]
theorem eqIntS (x y : List Int) (hl : x.length ≤ 9223372036854775807) : Ev (fun k => laws_eqIntS.f k x y) (decide (x = y)) := by
  unfold laws_eqIntS.f
  by_cases h : x.length = y.length
  · refine Ev.pos (by omega) ?_
    exact eqIntS_l0 x y hl h x.length 0 (by omega) (by omega)
  · refine Ev.neg (by omega) ?_
    exact (Ev.now _).val (by have : x ≠ y := fun e => h (by rw [e]); simp [this])
theorem eqIntSS_l0 (x y : List (List Int)) (hl : x.length ≤ 9223372036854775807) (hr : ∀ row ∈ x, row.length ≤ 9223372036854775807) (hxy : x.length = y.length) : ∀ (d i : Nat), x.length - i = d → i ≤ x.length → Ev (fun k => laws_eqIntSS.l0 k x y i) (decide (x.drop i = y.drop i)) := by
  intro d
  induction d with
  | zero =>
    intro i hd hi
    refine Ev.const1 (fun k => ?_)
    simp only [laws_eqIntSS.l0]
    rw [if_neg (by omega), List.drop_of_length_le (by omega), List.drop_of_length_le (by omega)]
    simp
  | succ d ih =>
    intro i hd hi
    have hlt : i < x.length := by omega
    have hlt2 : i < y.length := by omega
    rw [List.drop_eq_getElem_cons hlt, List.drop_eq_getElem_cons hlt2]
    refine Ev.step (f := fun k => (laws_eqIntS.f k x[i] y[i]).bind fun t => if t = true then laws_eqIntSS.l0 k x y (i + 1 : Nat) else some false) (fun k => ?_) ?_
    · simp only [laws_eqIntSS.l0]
      rw [if_pos (by omega), if_pos (by omega), if_pos (by omega), rdL_at hlt, rdL_at hlt2, wrap_nat (by omega)]
    · by_cases e : x[i] = y[i]
      · exact Ev.bind ((eqIntS x[i] y[i] (hr _ (List.getElem_mem hlt))).val (decide_eq_true e)) (Ev.pos rfl ((ih (i + 1) (by omega) (by omega)).val (cons_dec e)))
      · exact Ev.bind ((eqIntS x[i] y[i] (hr _ (List.getElem_mem hlt))).val (decide_eq_false e)) (Ev.neg (by simp) ((Ev.now _).val (decide_eq_false (fun h => e (List.cons.inj h).1)).symm))
theorem eqIntSS (x y : List (List Int)) (hl : x.length ≤ 9223372036854775807) (hr : ∀ row ∈ x, row.length ≤ 9223372036854775807) : Ev (fun k => laws_eqIntSS.f k x y) (decide (x = y)) := by
  unfold laws_eqIntSS.f
  by_cases h : x.length = y.length
  · refine Ev.pos (by omega) ?_
    exact eqIntSS_l0 x y hl hr h x.length 0 (by omega) (by omega)
  · refine Ev.neg (by omega) ?_
    exact (Ev.now _).val (by have : x ≠ y := fun e => h (by rw [e]); simp [this])
theorem eqGraph (x y : List (List Int)) (hl : x.length ≤ 9223372036854775807) (hr : ∀ row ∈ x, row.length ≤ 9223372036854775807) : Ev (fun k => laws_eqGraph.f k x y) (decide (x = y)) := by
  unfold laws_eqGraph.f
  refine Ev.bind (eqIntSS x y hl hr) ?_
  by_cases e : x = y
  · exact Ev.pos (decide_eq_true e) ((Ev.now _).val (decide_eq_true e).symm)
  · exact Ev.neg (by simp [e]) ((Ev.now _).val (decide_eq_false e).symm)
theorem small_eq (l : List (List Int)) (h : small l) : Ev (fun k => laws_eqGraph.f k l l) true := (eqGraph l l (by have := h.1; omega) (fun row hr => by have := h.2 row hr; omega)).val (decide_eq_true rfl)

/-! what a graph is -/
theorem l1In (a lo hi : Int) : spec_l1In.f a lo hi = some (decide (lo ≤ a) && decide (a ≤ hi)) := by
  unfold spec_l1In.f
  by_cases h : a ≥ lo
  · rw [if_pos h]; have : lo ≤ a := h; simp [this]
  · rw [if_neg h]; have : ¬ lo ≤ a := h; simp [this]
theorem implin (a lo hi : Int) : impl_in.f a lo hi = some (decide (lo ≤ a) && decide (a ≤ hi)) := by
  unfold impl_in.f
  by_cases h : lo ≤ a
  · rw [if_pos h]; simp [h]
  · rw [if_neg h]; simp [h]
theorem l1All_l0 (l : List Int) (lo hi : Int) (hl : l.length ≤ 9223372036854775807) : ∀ (d i : Nat), l.length - i = d → i ≤ l.length → Ev (fun k => spec_l1All.l0 k lo hi l l.length i) ((l.drop i).all fun x => decide (lo ≤ x) && decide (x ≤ hi)) := by
  intro d
  induction d with
  | zero =>
    intro i hd hi
    refine Ev.const1 (fun k => ?_)
    simp only [spec_l1All.l0]
    rw [if_neg (by omega), List.drop_of_length_le (by omega)]
    rfl
  | succ d ih =>
    intro i hd hi'
    have hlt : i < l.length := by omega
    rw [List.drop_eq_getElem_cons hlt, List.all_cons]
    by_cases e : (decide (lo ≤ l[i]) && decide (l[i] ≤ hi)) = true
    · refine Ev.step (f := fun k => spec_l1All.l0 k lo hi l l.length (i + 1 : Nat)) (fun k => ?_) ((ih (i + 1) (by omega) (by omega)).val (by rw [e]; simp))
      simp only [spec_l1All.l0, l1In]
      rw [if_pos (by omega), if_pos (by omega), if_pos (by omega), rd_at hlt, wrap_nat (by omega)]
      simp only [Option.bind_some]
      rw [if_pos e]
    · refine Ev.const1 (fun k => ?_)
      simp only [spec_l1All.l0, l1In]
      rw [if_pos (by omega), if_pos (by omega), if_pos (by omega), rd_at hlt]
      simp only [Option.bind_some]
      rw [if_neg e]
      simp only [Bool.not_eq_true] at e
      rw [e]; rfl
theorem l1All (l : List Int) (lo hi : Int) (hl : l.length ≤ 9223372036854775807) : Ev (fun k => spec_l1All.f k l lo hi) (l.all fun x => decide (lo ≤ x) && decide (x ≤ hi)) := by
  unfold spec_l1All.f
  exact l1All_l0 l lo hi hl l.length 0 (by omega) (by omega)
theorem grGood_l0 (l : List (List Int)) (hl : okSS l) : ∀ (d i : Nat), l.length - i = d → i ≤ l.length → Ev (fun k => spec_grGood.l0 k l.length l l.length i) ((l.drop i).all (goodRow l.length)) := by
  intro d
  induction d with
  | zero =>
    intro i hd hi
    refine Ev.const1 (fun k => ?_)
    simp only [spec_grGood.l0]
    rw [if_neg (by omega), List.drop_of_length_le (by omega)]
    rfl
  | succ d ih =>
    intro i hd hi'
    have hlt : i < l.length := by omega
    have hll := hl.1
    have hrow := (hl.2 _ (List.getElem_mem hlt)).1
    rw [List.drop_eq_getElem_cons hlt, List.all_cons]
    by_cases h5 : l[i].length ≤ 5
    · refine Ev.step (f := fun k => (spec_l1All.f k l[i] 0 ((l.length : Int) - 1)).bind fun t => if t = true then spec_grGood.l0 k l.length l l.length (i + 1 : Nat) else some false) (fun k => ?_) ?_
      · simp only [spec_grGood.l0]
        rw [if_pos (by omega), if_pos (by omega), if_pos (by omega), rdL_at hlt, if_neg (by omega), wrap_nat (by omega), wrap_id (by omega)]
      · by_cases e : (l[i].all fun x => decide (0 ≤ x) && decide (x ≤ (l.length : Int) - 1)) = true
        · exact Ev.bind ((l1All _ 0 _ hrow).val e) (Ev.pos rfl ((ih (i + 1) (by omega) (by omega)).val (by unfold goodRow; rw [e]; simp [h5])))
        · exact Ev.bind ((l1All _ 0 _ hrow).val (Bool.eq_false_iff.mpr e)) (Ev.neg (by simp) ((Ev.now _).val (by unfold goodRow; simp only [Bool.not_eq_true] at e; rw [e]; simp)))
    · refine Ev.const1 (fun k => ?_)
      simp only [spec_grGood.l0]
      rw [if_pos (by omega), if_pos (by omega), if_pos (by omega), rdL_at hlt, if_pos (by omega)]
      simp [goodRow, h5]
theorem grGood (l : List (List Int)) (hl : okSS l) : Ev (fun k => spec_grGood.f k l) (goodG l) := by
  unfold spec_grGood.f
  rw [l1In]
  simp only [Option.bind_some]
  by_cases h : 1 ≤ l.length ∧ l.length ≤ 8
  · have h1 : (1 : Int) ≤ l.length := by omega
    have h2 : (l.length : Int) ≤ 8 := by omega
    refine Ev.pos (by simp [h1, h2]) ?_
    exact (grGood_l0 l hl l.length 0 (by omega) (by omega)).val (by simp [goodG, h.1, h.2])
  · refine Ev.neg (by simp; omega) ((Ev.now _).val ?_)
    unfold goodG
    by_cases h1 : 1 ≤ l.length
    · have h2 : ¬ l.length ≤ 8 := by omega
      simp [h1, h2]
    · simp [h1]
theorem ok_small {l : List (List Int)} (h : okSS l) : l.length ≤ 9223372036854775807 ∧ ∀ row ∈ l, row.length ≤ 9223372036854775807 := ⟨h.1, fun row hr => (h.2 row hr).1⟩
end Go.Proofs.Ytnphoaecjeenjaa.M
namespace Go.Proofs.Ytnphoaecjeenjaa.P
open Go.RowKit Go.Proofs.YtnphoaecjeenjaaW.PrintWords Go.Proofs.YtnphoaecjeenjaaW.PrintLast Go.Proofs.YtnphoaecjeenjaaW.PrintMore
attribute [local go_sem] max2_int min2_int max_two min_two max_three min_three max_four min_four   -- for this text's walks alone
set_option linter.unusedVariables false
set_option linter.unusedSimpArgs false

/-! ### bits_Mul64: function 118 -/
def bits_Mul64.f (a0 : Int) (a1 : Int) : Option (Int × Int) := some (IntKind.u64.wrap ((IntKind.u64.wrap ((IntKind.u64.wrap ((a0 / 4294967296) * (a1 / 4294967296))) + ((IntKind.u64.wrap ((IntKind.u64.wrap ((a0 / 4294967296) * (Go.bits .and .u64 a1 4294967295))) + ((IntKind.u64.wrap ((Go.bits .and .u64 a0 4294967295) * (Go.bits .and .u64 a1 4294967295))) / 4294967296))) / 4294967296))) + ((IntKind.u64.wrap ((Go.bits .and .u64 (IntKind.u64.wrap ((IntKind.u64.wrap ((a0 / 4294967296) * (Go.bits .and .u64 a1 4294967295))) + ((IntKind.u64.wrap ((Go.bits .and .u64 a0 4294967295) * (Go.bits .and .u64 a1 4294967295))) / 4294967296))) 4294967295) + (IntKind.u64.wrap ((Go.bits .and .u64 a0 4294967295) * (a1 / 4294967296))))) / 4294967296)), IntKind.u64.wrap (a0 * a1))
set_option maxHeartbeats 8000000 in
set_option maxRecDepth 100000 in
theorem bits_Mul64.calls (a0 : Int) (a1 : Int) (r1 : Int) (r2 : Int) (w : World) (h : bits_Mul64.f a0 a1 = some (r1, r2)) :
    Calls Try.prog 118 #[.int .u64 a0, .int .u64 a1] w fun e w' => e = .returned (.tuple #[.int .u64 r1, .int .u64 r2]) ∧ Drawn0 w w' := by
  have H : (some (IntKind.u64.wrap ((IntKind.u64.wrap ((IntKind.u64.wrap ((a0 / 4294967296) * (a1 / 4294967296))) + ((IntKind.u64.wrap ((IntKind.u64.wrap ((a0 / 4294967296) * (Go.bits .and .u64 a1 4294967295))) + ((IntKind.u64.wrap ((Go.bits .and .u64 a0 4294967295) * (Go.bits .and .u64 a1 4294967295))) / 4294967296))) / 4294967296))) + ((IntKind.u64.wrap ((Go.bits .and .u64 (IntKind.u64.wrap ((IntKind.u64.wrap ((a0 / 4294967296) * (Go.bits .and .u64 a1 4294967295))) + ((IntKind.u64.wrap ((Go.bits .and .u64 a0 4294967295) * (Go.bits .and .u64 a1 4294967295))) / 4294967296))) 4294967295) + (IntKind.u64.wrap ((Go.bits .and .u64 a0 4294967295) * (a1 / 4294967296))))) / 4294967296)), IntKind.u64.wrap (a0 * a1))) = some (r1, r2) := h
  clear h
  simp only [Option.some.injEq, Prod.mk.injEq] at H
  obtain ⟨rfl, rfl⟩ := H
  go_enter Try.func118, Try.ntmps118
  go_wp2
  go_ret2
  exact ⟨by first | rfl | (simp; done) | (simp [*]; done), by repeat (first | exact Drawn0.refl _ | apply Drawn0.step)⟩

end Go.Proofs.Ytnphoaecjeenjaa.P
namespace Go.Proofs.Ytnphoaecjeenjaa.P
open Go.RowKit Go.Proofs.YtnphoaecjeenjaaW.PrintWords Go.Proofs.YtnphoaecjeenjaaW.PrintLast Go.Proofs.YtnphoaecjeenjaaW.PrintMore
attribute [local go_sem] max2_int min2_int max_two min_two max_three min_three max_four min_four   -- for this text's walks alone
set_option linter.unusedVariables false
set_option linter.unusedSimpArgs false

/-! ### bits_Mul: function 116 -/
def bits_Mul.f (a0 : Int) (a1 : Int) : Option (Int × Int) := (bits_Mul64.f a0 a1).bind fun bt226 => (some (bt226.1, bt226.2))
set_option maxHeartbeats 8000000 in
set_option maxRecDepth 100000 in
theorem bits_Mul.calls (a0 : Int) (a1 : Int) (r1 : Int) (r2 : Int) (w : World) (h : bits_Mul.f a0 a1 = some (r1, r2)) :
    Calls Try.prog 116 #[.int .u64 a0, .int .u64 a1] w fun e w' => e = .returned (.tuple #[.int .u64 r1, .int .u64 r2]) ∧ Drawn0 w w' := by
  have H : ((bits_Mul64.f a0 a1).bind fun bt226 => (some (bt226.1, bt226.2))) = some (r1, r2) := h
  clear h
  replace H := Option.bind_eq_some_iff.mp H
  obtain ⟨⟨t226, t227⟩, A30, H⟩ := H
  replace H : (some (t226, t227)) = some (r1, r2) := H
  have A3 := Aside0.mk A30
  clear A30
  simp only [Option.some.injEq, Prod.mk.injEq] at H
  obtain ⟨rfl, rfl⟩ := H
  go_enter Try.func116, Try.ntmps116
  go_wp2_with (first | ((with_reducible refine gate_callee (f := 118) rfl ?_); refine goesL_ (some 25) rfl rfl Try.func118 (by kernel_rfl) rfl #[.int .u64 a0, .int .u64 a1] rfl (by (try simp only [List.map_toArray, List.map_cons, List.map_nil]); first | done | rfl | (simp only [List.length_drop, List.length_take]; rfl)) ?_; (with_reducible refine (bits_Mul64.calls a0 a1 t226 t227 _ A3.out).mono ?_); rintro e w' ⟨rfl, ⟨nd, rfl⟩⟩; refine ⟨_, rfl, ?_⟩))
  go_ret2
  exact ⟨by first | rfl | (simp; done) | (simp [*]; done), by repeat (first | exact Drawn0.refl _ | apply Drawn0.step)⟩

end Go.Proofs.Ytnphoaecjeenjaa.P
namespace Go.Proofs.Ytnphoaecjeenjaa.P
open Go.RowKit Go.Proofs.YtnphoaecjeenjaaW.PrintWords Go.Proofs.YtnphoaecjeenjaaW.PrintLast Go.Proofs.YtnphoaecjeenjaaW.PrintMore
attribute [local go_sem] max2_int min2_int max_two min_two max_three min_three max_four min_four   -- for this text's walks alone
set_option linter.unusedVariables false
set_option linter.unusedSimpArgs false

/-! ### slices_Repeat_int_int: function 113 -/
def slices_Repeat_int_int.f (l0 : List Int) (a1 : Int) : Option (List Int) := if l0.length = 1 ∧ 1 ≤ a1 ∧ a1 ≤ 8 then some (List.replicate a1.toNat (l0.getD 0 0)) else none
theorem own_row {w : World} {b : Nat} {v : Value} {l : List Int} (h : Kd.R (Kd.int .i64) 3 w b (fun _ => True) v l) (hl : 0 < l.length) : ∃ (g cap : Nat) (cur : List Value), v = .slice (some ⟨g, 0, none⟩) l.length cap ∧ b ≤ g ∧ Aside0 (w.heap[g]? = some (.cells cur.toArray 3 (0, 0))) ∧ l.length ≤ cap ∧ cap ≤ maxLen ∧ cur.length = cap ∧ Aside0 (cur.take l.length = l.map (Value.int .i64)) := by
  obtain ⟨h1, h2⟩ := Kd.own_of_R h
  rcases h2 with ⟨_, h2⟩ | ⟨g, cap, cur, rfl, hg, hh, hn, hc, hs, ht⟩
  · omega
  · exact ⟨g, cap, cur.toList, rfl, hg, ⟨by simpa using hh⟩, hn, hc, by simpa using hs, ⟨by simpa [encs] using ht⟩⟩
theorem rep_at {f : Int → Value} {cu : List Value} {c n : Nat} {x z : Int} (h : cu.take n = (List.replicate c x ++ List.replicate (n - c) z).map f) {i : Nat} (hi : i < n) (hc : c ≤ n) : cu[i]? = some (f (if i < c then x else z)) := by
  have h1 : (cu.take n)[i]? = cu[i]? := by rw [List.getElem?_take, if_pos hi]
  rw [← h1, h, List.getElem?_map, List.getElem?_append, List.length_replicate]
  by_cases hic : i < c
  · rw [if_pos hic, if_pos hic, List.getElem?_replicate, if_pos hic]; rfl
  · rw [if_neg hic, if_neg hic, List.getElem?_replicate, if_pos (by omega)]; rfl
theorem splice_rep {f : Int → Value} (cu : List Value) (c m n : Nat) (x z : Int) (h : cu.take n = (List.replicate c x ++ List.replicate (n - c) z).map f) (hn : n ≤ cu.length) (h1 : m ≤ c) (h2 : c + m ≤ n) : (splice cu c (cu.take m)).take n = (List.replicate (c + m) x ++ List.replicate (n - (c + m)) z).map f := by
  have hl : (cu.take m).length = m := by rw [List.length_take]; omega
  apply List.ext_getElem?
  intro i
  by_cases hi : i < n
  · rw [List.getElem?_take, if_pos hi, List.getElem?_map, List.getElem?_append (l₁ := List.replicate (c + m) x), List.length_replicate]
    unfold splice
    rw [hl, List.getElem?_append, List.length_take, Nat.min_eq_left (by omega)]
    by_cases a : i < c
    · rw [if_pos a, List.getElem?_take, if_pos a, rep_at h hi (by omega), if_pos a, if_pos (by omega), List.getElem?_replicate, if_pos (by omega)]; rfl
    · rw [if_neg a, List.getElem?_append, hl]
      by_cases b : i - c < m
      · rw [if_pos b, List.getElem?_take, if_pos b, rep_at h (by omega) (by omega), if_pos (by omega), if_pos (by omega), List.getElem?_replicate, if_pos (by omega)]; rfl
      · rw [if_neg b, List.getElem?_drop, show c + m + (i - c - m) = i by omega, rep_at h hi (by omega), if_neg a, if_neg (by omega), List.getElem?_replicate, if_pos (by omega)]; rfl
  · rw [List.getElem?_eq_none (by rw [List.length_take]; omega), List.getElem?_eq_none (by simp; omega)]
theorem copy_cell {w : World} {g t m : Nat} {cu : List Value} (h : w.heap[g]? = some (.cells cu.toArray t (0, 0))) {j : Nat} {v : Value} (hj : (cu.take m)[j]? = some v) : w.cell? (Addr.add ⟨g, 0, none⟩ j) = some v := by
  rw [List.getElem?_take] at hj
  split at hj
  · rw [Addr.add_lit, Nat.zero_add, blk_cell h j]; simpa using hj
  · cases hj
theorem one_of_rep {cu : List Value} {c n m : Nat} {x z : Int} (h : cu.take n = (List.replicate c x ++ List.replicate (n - c) z).map (Value.int .i64)) (h1 : m ≤ c) (h2 : c ≤ n) {v : Value} (hv : v ∈ cu.take m) : v.oneCell' = true := by
  have h3 : v ∈ cu.take n := by
    have : cu.take m = (cu.take n).take m := by rw [List.take_take, Nat.min_eq_left (by omega)]
    rw [this] at hv
    exact List.mem_of_mem_take hv
  rw [h, List.mem_map] at h3
  obtain ⟨y, _, rfl⟩ := h3
  rfl
theorem mul_one_small (n : Int) (h : 1 ≤ n ∧ n ≤ 8) : bits_Mul.f 1 n = some (0, n) := by
  have : n = 1 ∨ n = 2 ∨ n = 3 ∨ n = 4 ∨ n = 5 ∨ n = 6 ∨ n = 7 ∨ n = 8 := by omega
  rcases this with rfl | rfl | rfl | rfl | rfl | rfl | rfl | rfl <;> rfl
set_option maxHeartbeats 8000000 in
set_option maxRecDepth 100000 in
theorem slices_Repeat_int_int.calls (A0 : Option Addr) (c0 : Nat) (l0 : List Int) (a1 : Int) (r : List Int) (w : World) (hr0 : Kd.C (Kd.int .i64) w A0 l0.length l0) (hc0 : l0.length ≤ c0) (h : slices_Repeat_int_int.f l0 a1 = some r) :
    Calls Try.prog 113 #[.slice A0 l0.length c0, .int .i64 a1] w fun e w' => ∃ v0_ : Value, e = .returned (v0_) ∧ Kd.R (Kd.int .i64) 3 w' w.heap.size (fun _ => True) v0_ r ∧ Below w.heap.size w w' := by
  unfold slices_Repeat_int_int.f at h
  by_cases hc : l0.length = 1 ∧ 1 ≤ a1 ∧ a1 ≤ 8
  · rw [if_pos hc] at h
    obtain rfl := Option.some.inj h
    clear h
    obtain ⟨h1, h2, h3⟩ := hc
    obtain ⟨x, rfl⟩ : ∃ x, l0 = [x] := by
      match l0, h1 with
      | [x], _ => exact ⟨x, rfl⟩
    have HM := Aside0.mk (mul_one_small a1 ⟨h2, h3⟩)
    obtain ⟨n, rfl⟩ : ∃ n : Nat, a1 = n := ⟨a1.toNat, by omega⟩
    have hneg : decide ((n : Int) < 0) = false := decide_eq_false (by omega)
    have HR0 := Aside0.mk hr0
    have HC0 := Aside0.mk hc0
    clear hr0 hc0 h1
    have HB := Aside0.mk (Below.refl w.heap.size w)
    go_enter Try.func113, Try.ntmps113
    obtain ⟨ad, eA, hx⟩ := Kd.at_int HR0.out 0 (by omega) (by simp)
    cases eA
    have HX := Aside0.mk (show w.cell? (ad.add 0) = some (.int .i64 x) from hx)
    clear hx
    go_wp2_with (fail)
    refine (bits_Mul.calls 1 n 0 n _ HM.out).mono ?_
    rintro e w' ⟨rfl, ⟨nd, rfl⟩⟩
    have hgt : decide ((n : Int) > 9223372036854775807) = false := decide_eq_false (by omega)
    have hw1 : wrap64 (n : Int) = n := by unfold wrap64; omega
    have HW1 := Aside0.mk hw1
    clear hw1
    go_wp2_with (first | ((with_reducible refine gate_dst (N := 30) rfl ?_); refine Kd.R_make (Kd.int .i64) _ 3 rfl (N := 30) rfl 35 _ _ rfl (n : Int) rfl rfl Try.underlying35 (.int .i64 0) 8 info3 rfl (by decide) (by omega) 0 (ok := fun _ => True) (okp := fun _ => True) rfl (fun _ hk => hk) trivial (by omega) (by omega) (Below.refl _ _) (Nat.le_refl _) ?_; intro v122 w4 ho5 hb hg_ hnew_; clear hg_ hnew_; obtain ⟨g, cap, cur, rfl, hbg, HCUR, hnc, hcm, hcs, hct⟩ := own_row ho5 (by simp; omega); have HB4 := Aside0.mk (show Below w.heap.size w w4 from (pw_below_drewN (Below.refl _ _) nd).trans (hb.mono (by simp))); have HG4 := Aside0.mk (show w.heap.size ≤ g from hbg); clear ho5 hb hbg; simp only [List.length_replicate, Int.toNat_natCast] at hnc hct ⊢) | ((with_reducible refine wpList_copy_splice rfl (.tmp 31) (.tmp 32) 35 35 rfl 3 Try.underlying35 ?isz (some ⟨g, 0, none⟩) (some ad) n cap 1 c0 rfl rfl g 0 cur 3 HCUR.out [.int .i64 x] ?hn ?hpos ?hfit ?h1 w.heap.size w HB4.out HG4.out ?_); (case isz => rfl); (case hn => exact (Nat.min_eq_left (by omega : 1 ≤ n)).symm); (case hpos => (intro _; exact ⟨rfl, ad, rfl, fun j v hj => by (have hj0 : j = 0 := by (cases j with | zero => rfl | succ j => simp at hj)); subst hj0; obtain rfl := Option.some.inj hj; exact (HB4.out.cell (World.block_lt_of_cell? w _ HX.out)).trans HX.out⟩)); (case hfit => show 0 + 1 ≤ cur.length; omega); (case h1 => (intro v hv; obtain rfl := List.mem_singleton.1 hv; rfl)); intro w5 hc5 hb5; have HC5 := Aside0.mk hc5.out; have HB5 := Aside0.mk hb5; clear hc5 hb5 HCUR))
    obtain ⟨i0q, hi0q, _, hszq, _⟩ := info_parts info3
    have HI := Aside0.mk hi0q
    have HSZ := Aside0.mk hszq
    clear hi0q hszq
    have HISZ := Aside0.mk (show (Try.prog.info? 3).map (·.size) = some 1 by rw [HI.out]; simp [HSZ.out])
    have HST := Aside0.mk (show (splice cur 0 [Value.int .i64 x]).take n = (List.replicate 1 x ++ List.replicate (n - 1) 0).map (Value.int .i64) by
      have h0 := hct.out
      cases hcur : cur with
      | nil => rw [hcur] at hcs; simp at hcs; omega
      | cons y ys =>
        rw [hcur] at h0
        obtain ⟨m, rfl⟩ : ∃ m, n = m + 1 := ⟨n - 1, by omega⟩
        simp only [List.take_succ_cons, List.replicate_succ, List.map_cons] at h0
        injection h0 with h01 h02
        simp [splice, h02])
    have HLS := Aside0.mk (show (splice cur 0 [Value.int .i64 x]).length = cap by rw [length_splice _ _ _ (by show 0 + 1 ≤ cur.length; omega)]; exact hcs)
    go_loopg [8] n (fun kq v8 w' => ∃ (c : Nat) (cu : List Value), v8 = .int .i64 c ∧ 1 ≤ c ∧ c ≤ n ∧ n - c ≤ kq ∧ Aside0 (w'.heap[g]? = some (.cells cu.toArray 3 (0, 0))) ∧ Aside0 (cu.length = cap) ∧ Aside0 (cu.take n = (List.replicate c x ++ List.replicate (n - c) 0).map (Value.int .i64)) ∧ Aside0 (Below w.heap.size w w'))
    case atStart => exact ⟨1, _, rfl, Nat.le_refl _, by omega, by omega, ⟨HC5.out⟩, ⟨HLS.out⟩, ⟨HST.out⟩, ⟨HB5.out⟩⟩
    case round =>
      clear HC5 HLS HST HB5 hct HB4 HB
      obtain ⟨c, cu, rfl, hc1, hcn, hg, HC, HL, HT, HB⟩ := hrel
      by_cases hlt : c < n
      · have hltz : (c : Int) < (n : Int) := by omega
        have hltb := decide_eq_true hltz
        have hcutA := cut_from (P := Try.prog) 35 3 .i64 Try.underlying35 HI.out 1 HSZ.out (some ⟨g, 0, none⟩) n cap (c : Int) (by omega) (by omega)
        have hcutB := cut_to (P := Try.prog) 35 3 .i64 Try.underlying35 HI.out (some ⟨g, 0, none⟩) n cap (c : Int) (by omega) (by omega) hnc
        rw [if_neg (by simp; omega)] at hcutA
        simp only [Option.map_some, Int.toNat_natCast, Nat.mul_one, Addr.add_lit, Nat.zero_add] at hcutA hcutB
        obtain ⟨m, hm⟩ : ∃ m, m = min c (n - c) := ⟨_, rfl⟩
        have hm1 : 1 ≤ m := by omega
        have hm2 : m ≤ c := by omega
        have hm3 : c + m ≤ n := by omega
        have HMN := Aside0.mk (show (cu.take m).length = Nat.min c (n - c) by show _ = min c (n - c); rw [List.length_take, HL.out]; omega)
        have hmlen : (cu.take m).length = m := by rw [List.length_take, HL.out]; omega
        have HML := Aside0.mk hmlen
        have HWR := Aside0.mk (show IntKind.i64.wrap ((c : Int) + (m : Int)) = ((c + m : Nat) : Int) from (IntWalk.i64_in _ (by omega)).trans (by omega))
        clear hm hmlen
        have HT2 := Aside0.mk (splice_rep (f := Value.int .i64) cu c m n x 0 HT.out (by rw [HL.out]; exact hnc) hm2 hm3)
        have HL2 := Aside0.mk (show (splice cu c (cu.take m)).length = cap by rw [length_splice _ _ _ (by rw [HML.out, HL.out]; omega)]; exact HL.out)
        go_wp2
        go_region_law (refine step_copy_splice rfl (.tmp 41) (.tmp 44) 35 35 rfl 3 Try.underlying35 HISZ.out (some ⟨g, c, none⟩) (some ⟨g, 0, none⟩) (n - c) (cap - c) c cap (by go_simp) (by go_simp) g c cu 3 HC.out (cu.take m) HMN.out (fun _ => ⟨rfl, ⟨g, 0, none⟩, rfl, fun j v hj => copy_cell HC.out hj⟩) (by rw [HML.out, HL.out]; omega) (fun v hv => one_of_rep HT.out hm2 hcn hv) w.heap.size w (by repeat (first | exact HB.out | apply below_drew1 | apply pw_below_drewN)) HG4.out ?_; intro w6 hc6 hb6; have HC6 := Aside0.mk hc6.out; have HB6 := Aside0.mk hb6; clear hc6 hb6; rw [HML.out])
        go_wp2
        go_roundg (n - (c + m))
        case measure => omega
        case rel => exact ⟨c + m, _, by rw [HWR.out], by omega, hm3, by omega, ⟨HC6.out⟩, ⟨HL2.out⟩, ⟨HT2.out⟩, ⟨HB6.out⟩⟩
      · have hcn' : c = n := by omega
        subst hcn'
        have hltz : ¬ (c : Int) < (c : Int) := by omega
        have hltb := decide_eq_false hltz
        go_wp2
        go_ret
        refine ⟨_, rfl, ?_, HB.out⟩
        refine Kd.R_of_own ⟨?_, .inr ⟨g, cap, cu.toArray, ?_, HG4.out, HC.out, ?_, ?_, ?_, ?_⟩⟩ (fun _ _ => trivial)
        · simp [encs]
        · simp
        · exact by simpa using hnc
        · exact hcm
        · simpa using HL.out
        · have := HT.out
          simpa [encs] using this
  · rw [if_neg hc] at h
    cases h


end Go.Proofs.Ytnphoaecjeenjaa.P
