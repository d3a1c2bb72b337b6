/- The law FnExactWayLength holds for every input: the program returns what the reference returns (or what the law says), for all arguments. -/
import Derived.Test.YtjjnpllhenmdmaaP0
import Derived.Test.YtjjnpllhenmdmaaPspecgrGood
import Derived.Test.YtjjnpllhenmdmaaPspecgrCount
import Derived.Test.YtjjnpllhenmdmaaPimplGraphentries
import Derived.Test.YtjjnpllhenmdmaaPspecgrEntries
import Derived.Test.YtjjnpllhenmdmaaMBase
import Derived.Test.YtjjnpllhenmdmaaMGraph
import Derived.Test.YtjjnpllhenmdmaaPimplCountExits
import Derived.Test.YtjjnpllhenmdmaaRIn
import Derived.Test.YtjjnpllhenmdmaaPlawsFnExactWayLength
import Derived.Test.YtjjnpllhenmdmaaRows
import Derived.WalkKit
import Derived.ProofKit
import Derived.OpenShut
import Derived.ShutString
import Derived.ChangeOld
import Derived.Below
import Derived.SizedLaws
import Derived.Deep.Matrix
import Derived.Lib.SmallJoins
namespace Go.Proofs.Ytjjnpllhenmdmaa.P
open Go.RowKit Go.Proofs.YtjjnpllhenmdmaaW.PrintWords Go.Proofs.YtjjnpllhenmdmaaW.PrintLast Go.Proofs.YtjjnpllhenmdmaaW.PrintMore
attribute [local go_sem] max2_int min2_int max_two min_two max_three min_three max_four min_four   -- for this text's walks alone
set_option linter.unusedVariables false
set_option linter.unusedSimpArgs false

/-! ### spec_CountExits: function 31 -/
def spec_CountExits.f (k : Nat) (l0_0 : List (List Int)) : Option (Int × Bool) := (spec_grGood.f k l0_0).bind fun t213 => (if t213 = true then ((spec_grCount.f k l0_0).bind fun t214 => (some (t214, true))) else (some (0, false)))
theorem spec_CountExits.mono : ∀ a0 k, LeO (spec_CountExits.f k a0) (spec_CountExits.f (k + 1) a0) := by
  intro a0 k
  unfold spec_CountExits.f
  repeat' first
      | (with_reducible exact spec_grCount.mono _ _)
      | (with_reducible exact spec_grGood.mono _ _)
      | (with_reducible exact LeO.refl _)
      | (with_reducible exact LeO.none _)
      | (with_reducible refine LeO.ite ?_ ?_)
      | (with_reducible refine LeO.bind ?_ (fun _ => ?_))
      | exact spec_grCount.mono _ _
      | exact spec_grGood.mono _ _
      | exact LeO.none _
      | refine LeO.ite ?_ ?_
      | refine LeO.bind ?_ (fun _ => ?_)
set_option maxHeartbeats 8000000 in
set_option maxRecDepth 100000 in
theorem spec_CountExits.calls (k : Nat) (A0_0 : Option Addr) (c0_0 : Nat) (l0_0 : List (List Int)) (r1 : Int) (r2 : Bool) (w : World) (hr0_0 : Kd.C (Kd.slice 3 (Kd.int .i64)) w A0_0 l0_0.length l0_0) (hc0_0 : l0_0.length ≤ c0_0) (h : spec_CountExits.f k l0_0 = some (r1, r2)) :
    Calls Try.prog 31 #[.agg #[.slice A0_0 l0_0.length c0_0]] w fun e w' => e = .returned (.tuple #[.int .i64 r1, .bool r2]) ∧ Below w.heap.size w w' := by
  have hu25 := Try.underlying25
  have HR0_0 := Aside0.mk hr0_0
  have HC0_0 := Aside0.mk hc0_0
  clear hr0_0 hc0_0
  have HB := Aside0.mk (Below.refl w.heap.size w)
  have H : ((spec_grGood.f k l0_0).bind fun t213 => (if t213 = true then ((spec_grCount.f k l0_0).bind fun t214 => (some (t214, true))) else (some (0, false)))) = some (r1, r2) := h
  clear h
  replace H := Option.bind_eq_some_iff.mp H
  obtain ⟨t213, A20, H⟩ := H
  replace H : (if t213 = true then ((spec_grCount.f k l0_0).bind fun t214 => (some (t214, true))) else (some (0, false))) = some (r1, r2) := H
  have A2 := Aside0.mk A20
  clear A20
  by_cases c3 : t213 = true
  · subst c3
    have H1 : ((spec_grCount.f k l0_0).bind fun t214 => (some (t214, true))) = some (r1, r2) := by rw [if_pos rfl] at H; exact H
    clear H
    have H := H1
    clear H1
    replace H := Option.bind_eq_some_iff.mp H
    obtain ⟨t214, A40, H⟩ := H
    replace H : (some (t214, true)) = some (r1, r2) := H
    have A4 := Aside0.mk A40
    clear A40
    simp only [Option.some.injEq, Prod.mk.injEq] at H
    obtain ⟨rfl, rfl⟩ := H
    go_enter Try.func31, Try.ntmps31
    go_wp2_with (first | ((with_reducible refine gate_dst (N := 1) rfl ?_); refine box_event ?hg (N := 1) ?hd (cs := #[.slice A0_0 l0_0.length c0_0]) (t := 25) ?hr ?_; (case hd => rfl); (case hg => rfl); (case hr => first | (go_simp; done) | (go_simp; rfl)); intro gb212 hg w5 hbox hb; have n0_ := Aside0.mk (below_step (by repeat (first | (with_reducible first | exact HB.out | apply below_alloc | apply pw_below_drewN | apply below_drew1) | exact HB.out)) hb); have n1_ := Aside0.mk (hbox); have n2_ := Aside0.mk ((by rw [hg]; exact (below_size (by repeat (first | (with_reducible first | exact HB.out | apply below_alloc | apply pw_below_drewN | apply below_drew1) | exact HB.out))) : w.heap.size ≤ gb212)); have n3_ := Aside0.mk ((by rw [hg]; exact (below_size (by repeat (first | (with_reducible first | exact HB.out | apply below_alloc | apply pw_below_drewN | apply below_drew1) | exact HB.out))) : w.heap.size ≤ gb212)); clear HB; have HB := n0_; have BK212 := n1_; have GW212 := n2_; have GE212 := n3_; clear n0_ n1_ n2_ n3_; clear hb hbox hg; have hcz6_0 : w5.cell? ⟨gb212, 0, none⟩ = some (.slice A0_0 l0_0.length c0_0) := (blk_cell BK212.out 0).trans rfl; have hfz6_0 := blk_frozen BK212.out 0) | ((with_reducible refine gate_callee (f := 56) rfl ?_); refine goesL_ (some 5) rfl rfl Try.func56 (by kernel_rfl) rfl #[.agg #[.slice A0_0 l0_0.length c0_0]] rfl (by (try simp only [List.map_toArray, List.map_cons, List.map_nil]); first | done | rfl | (simp only [List.length_drop, List.length_take]; rfl)) ?_; (with_reducible refine (spec_grGood.calls k _ _ l0_0 true _ ?side1 ?side2 A2.out).mono ?_); (case side1 => repeat (first | exact (Kd.C_below HR0_0.out HB.out) | (with_reducible refine Kd.C_alloc ?_ _) | (with_reducible refine Kd.C_drewN ?_ _) | (with_reducible refine Kd.C_drew ?_))); (case side2 => exact HC0_0.out); rintro e w7 ⟨rfl, hb⟩; refine ⟨_, rfl, ?_⟩; have n0_ := Aside0.mk (blk_below (g := gb212) (o := .cells #[.slice A0_0 l0_0.length c0_0] 25 (0, 0)) (by (with_reducible repeat (first | refine blk_drewN ?_ _ | refine blk_drew ?_ | refine blk_alloc ?_ _)); exact BK212.out) hb); have n1_ := Aside0.mk (below_step (by repeat (first | (with_reducible first | exact HB.out | apply below_alloc | apply pw_below_drewN | apply below_drew1 | refine below_set ?_ GE212.out) | exact HB.out)) hb); clear BK212; clear HB; have BK212 := n0_; have HB := n1_; clear n0_ n1_; (try clear hb); (try clear hb2); (try clear hk); (try clear hi); have hcz8_0 : w7.cell? ⟨gb212, 0, none⟩ = some (.slice A0_0 l0_0.length c0_0) := (blk_cell BK212.out 0).trans rfl; have hfz8_0 := blk_frozen BK212.out 0) | ((with_reducible refine gate_callee (f := 65) rfl ?_); refine goesL_ (some 8) rfl rfl Try.func65 (by kernel_rfl) rfl #[.agg #[.slice A0_0 l0_0.length c0_0]] rfl (by (try simp only [List.map_toArray, List.map_cons, List.map_nil]); first | done | rfl | (simp only [List.length_drop, List.length_take]; rfl)) ?_; (with_reducible refine (spec_grCount.calls k _ _ l0_0 t214 _ ?side1 ?side2 A4.out).mono ?_); (case side1 => repeat (first | exact (Kd.C_below HR0_0.out HB.out) | (with_reducible refine Kd.C_alloc ?_ _) | (with_reducible refine Kd.C_drewN ?_ _) | (with_reducible refine Kd.C_drew ?_))); (case side2 => exact HC0_0.out); rintro e w9 ⟨rfl, hb⟩; refine ⟨_, rfl, ?_⟩; have n0_ := Aside0.mk (blk_below (g := gb212) (o := .cells #[.slice A0_0 l0_0.length c0_0] 25 (0, 0)) (by (with_reducible repeat (first | refine blk_drewN ?_ _ | refine blk_drew ?_ | refine blk_alloc ?_ _)); exact BK212.out) hb); have n1_ := Aside0.mk (below_step (by repeat (first | (with_reducible first | exact HB.out | apply below_alloc | apply pw_below_drewN | apply below_drew1 | refine below_set ?_ GE212.out) | exact HB.out)) hb); clear BK212; clear HB; have BK212 := n0_; have HB := n1_; clear n0_ n1_; (try clear hb); (try clear hb2); (try clear hk); (try clear hi)))
    go_ret2
    exact ⟨by first | rfl | (simp [errW_none, errW_some] <;> rfl) | (simp [*, errW_none, errW_some] <;> rfl), by repeat (first | (with_reducible first | exact HB.out | apply below_alloc | apply pw_below_drewN | apply below_drew1 | refine below_set ?_ GE212.out) | exact HB.out)⟩
  · replace c3 := Bool.eq_false_iff.mpr c3
    subst c3
    have H1 : (some (0, false)) = some (r1, r2) := by rw [if_neg (show ¬ (false = true) by decide)] at H; exact H
    clear H
    have H := H1
    clear H1
    simp only [Option.some.injEq, Prod.mk.injEq] at H
    obtain ⟨rfl, rfl⟩ := H
    go_enter Try.func31, Try.ntmps31
    go_wp2_with (first | ((with_reducible refine gate_dst (N := 1) rfl ?_); refine box_event ?hg (N := 1) ?hd (cs := #[.slice A0_0 l0_0.length c0_0]) (t := 25) ?hr ?_; (case hd => rfl); (case hg => rfl); (case hr => first | (go_simp; done) | (go_simp; rfl)); intro gb212 hg w10 hbox hb; have n0_ := Aside0.mk (below_step (by repeat (first | (with_reducible first | exact HB.out | apply below_alloc | apply pw_below_drewN | apply below_drew1) | exact HB.out)) hb); have n1_ := Aside0.mk (hbox); have n2_ := Aside0.mk ((by rw [hg]; exact (below_size (by repeat (first | (with_reducible first | exact HB.out | apply below_alloc | apply pw_below_drewN | apply below_drew1) | exact HB.out))) : w.heap.size ≤ gb212)); have n3_ := Aside0.mk ((by rw [hg]; exact (below_size (by repeat (first | (with_reducible first | exact HB.out | apply below_alloc | apply pw_below_drewN | apply below_drew1) | exact HB.out))) : w.heap.size ≤ gb212)); clear HB; have HB := n0_; have BK212 := n1_; have GW212 := n2_; have GE212 := n3_; clear n0_ n1_ n2_ n3_; clear hb hbox hg; have hcz11_0 : w10.cell? ⟨gb212, 0, none⟩ = some (.slice A0_0 l0_0.length c0_0) := (blk_cell BK212.out 0).trans rfl; have hfz11_0 := blk_frozen BK212.out 0) | ((with_reducible refine gate_callee (f := 56) rfl ?_); refine goesL_ (some 5) rfl rfl Try.func56 (by kernel_rfl) rfl #[.agg #[.slice A0_0 l0_0.length c0_0]] rfl (by (try simp only [List.map_toArray, List.map_cons, List.map_nil]); first | done | rfl | (simp only [List.length_drop, List.length_take]; rfl)) ?_; (with_reducible refine (spec_grGood.calls k _ _ l0_0 false _ ?side1 ?side2 A2.out).mono ?_); (case side1 => repeat (first | exact (Kd.C_below HR0_0.out HB.out) | (with_reducible refine Kd.C_alloc ?_ _) | (with_reducible refine Kd.C_drewN ?_ _) | (with_reducible refine Kd.C_drew ?_))); (case side2 => exact HC0_0.out); rintro e w12 ⟨rfl, hb⟩; refine ⟨_, rfl, ?_⟩; have n0_ := Aside0.mk (blk_below (g := gb212) (o := .cells #[.slice A0_0 l0_0.length c0_0] 25 (0, 0)) (by (with_reducible repeat (first | refine blk_drewN ?_ _ | refine blk_drew ?_ | refine blk_alloc ?_ _)); exact BK212.out) hb); have n1_ := Aside0.mk (below_step (by repeat (first | (with_reducible first | exact HB.out | apply below_alloc | apply pw_below_drewN | apply below_drew1 | refine below_set ?_ GE212.out) | exact HB.out)) hb); clear BK212; clear HB; have BK212 := n0_; have HB := n1_; clear n0_ n1_; (try clear hb); (try clear hb2); (try clear hk); (try clear hi)))
    go_ret2
    exact ⟨by first | rfl | (simp [errW_none, errW_some] <;> rfl) | (simp [*, errW_none, errW_some] <;> rfl), by repeat (first | (with_reducible first | exact HB.out | apply below_alloc | apply pw_below_drewN | apply below_drew1 | refine below_set ?_ GE212.out) | exact HB.out)⟩

end Go.Proofs.Ytjjnpllhenmdmaa.P
namespace Go.Proofs.Ytjjnpllhenmdmaa.P
open Go.RowKit Go.Proofs.YtjjnpllhenmdmaaW.PrintWords Go.Proofs.YtjjnpllhenmdmaaW.PrintLast Go.Proofs.YtjjnpllhenmdmaaW.PrintMore
attribute [local go_sem] max2_int min2_int max_two min_two max_three min_three max_four min_four   -- for this text's walks alone
set_option linter.unusedVariables false
set_option linter.unusedSimpArgs false

/-! ### impl_Graph_isBalanced: function 76 -/
def impl_Graph_isBalanced.l0 : Nat → List (List Int) → Int → Int → List (List Int) → Option (Bool)
  | 0, _, _, _, _ => none
  | k + 1, x6, x7, x8, x273000 => if x8 < x7 then (if 0 ≤ x8 then (if x8 < (x6.length : Int) then ((impl_Graph_entries.f k x273000 x8).bind fun t274 => (if ((rd_L1 x6 x8).length : Int) = t274 then (impl_Graph_isBalanced.l0 k x6 x7 (wrap64 (x8 + 1)) x273000) else (some false))) else (none)) else (none)) else (some true)
def impl_Graph_isBalanced.f (k : Nat) (l0_0 : List (List Int)) : Option (Bool) := impl_Graph_isBalanced.l0 k l0_0 (l0_0.length : Int) 0 l0_0
theorem impl_Graph_isBalanced.mono_l : ∀ k, (∀ y0 y1 y2 y3, LeO (impl_Graph_isBalanced.l0 k y0 y1 y2 y3) (impl_Graph_isBalanced.l0 (k + 1) y0 y1 y2 y3))
  | 0 => fun _ _ _ _ r h => by simp [impl_Graph_isBalanced.l0] at h
  | k + 1 => by
    have ih0 := impl_Graph_isBalanced.mono_l k
    · intro y0 y1 y2 y3
      unfold impl_Graph_isBalanced.l0
      repeat' first
      | (with_reducible exact ih0 _ _ _ _)
      | (with_reducible exact impl_Graph_entries.mono _ _ _)
      | (with_reducible exact LeO.refl _)
      | (with_reducible exact LeO.none _)
      | (with_reducible refine LeO.ite ?_ ?_)
      | (with_reducible refine LeO.bind ?_ (fun _ => ?_))
      | exact ih0 _ _ _ _
      | exact impl_Graph_entries.mono _ _ _
      | exact LeO.none _
      | refine LeO.ite ?_ ?_
      | refine LeO.bind ?_ (fun _ => ?_)
theorem impl_Graph_isBalanced.mono : ∀ a0 k, LeO (impl_Graph_isBalanced.f k a0) (impl_Graph_isBalanced.f (k + 1) a0) := by
  intro a0 k
  have ih0 := impl_Graph_isBalanced.mono_l k
  unfold impl_Graph_isBalanced.f
  repeat' first
      | (with_reducible exact ih0 _ _ _ _)
      | (with_reducible exact impl_Graph_entries.mono _ _ _)
      | (with_reducible exact LeO.refl _)
      | (with_reducible exact LeO.none _)
      | (with_reducible refine LeO.ite ?_ ?_)
      | (with_reducible refine LeO.bind ?_ (fun _ => ?_))
      | exact ih0 _ _ _ _
      | exact impl_Graph_entries.mono _ _ _
      | exact LeO.none _
      | refine LeO.ite ?_ ?_
      | refine LeO.bind ?_ (fun _ => ?_)
set_option maxHeartbeats 8000000 in
set_option maxRecDepth 100000 in
theorem impl_Graph_isBalanced.calls (k : Nat) (A0_0 : Option Addr) (c0_0 : Nat) (l0_0 : List (List Int)) (r : Bool) (w : World) (hr0_0 : Kd.C (Kd.slice 3 (Kd.int .i64)) w A0_0 l0_0.length l0_0) (hc0_0 : l0_0.length ≤ c0_0) (h : impl_Graph_isBalanced.f k l0_0 = some r) :
    Calls Try.prog 76 #[.agg #[.slice A0_0 l0_0.length c0_0]] w fun e w' => e = .returned (.bool r) ∧ Below w.heap.size w w' := by
  have hu25 := Try.underlying25
  have HR0_0 := Aside0.mk hr0_0
  have HC0_0 := Aside0.mk hc0_0
  clear hr0_0 hc0_0
  have HB := Aside0.mk (Below.refl w.heap.size w)
  have H : (impl_Graph_isBalanced.l0 k l0_0 (l0_0.length : Int) 0 l0_0) = some r := h
  clear h
  have H' := Aside0.mk H
  clear H
  go_enter Try.func76, Try.ntmps76
  go_wp2_with (first | ((with_reducible refine gate_dst (N := 1) rfl ?_); refine box_event ?hg (N := 1) ?hd (cs := #[.slice A0_0 l0_0.length c0_0]) (t := 25) ?hr ?_; (case hd => rfl); (case hg => rfl); (case hr => first | (go_simp; done) | (go_simp; rfl)); intro gb272 hg w2 hbox hb; have n0_ := Aside0.mk (below_step (by repeat (first | (with_reducible first | exact HB.out | apply below_alloc | apply pw_below_drewN | apply below_drew1) | exact HB.out)) hb); have n1_ := Aside0.mk (hbox); have n2_ := Aside0.mk ((by rw [hg]; exact (below_size (by repeat (first | (with_reducible first | exact HB.out | apply below_alloc | apply pw_below_drewN | apply below_drew1) | exact HB.out))) : w.heap.size ≤ gb272)); have n3_ := Aside0.mk ((by rw [hg]; exact (below_size (by repeat (first | (with_reducible first | exact HB.out | apply below_alloc | apply pw_below_drewN | apply below_drew1) | exact HB.out))) : w.heap.size ≤ gb272)); clear HB; have HB := n0_; have BK272 := n1_; have GW272 := n2_; have GE272 := n3_; clear n0_ n1_ n2_ n3_; clear hb hbox hg; have hcz3_0 : w2.cell? ⟨gb272, 0, none⟩ = some (.slice A0_0 l0_0.length c0_0) := (blk_cell BK272.out 0).trans rfl; have hfz3_0 := blk_frozen BK272.out 0))
  go_loopg [8] k (fun kq v8 w' => ∃ (x8_1 : Int), v8 = .int .i64 x8_1 ∧ Aside0 (impl_Graph_isBalanced.l0 kq l0_0 (l0_0.length : Int) x8_1 l0_0 = some r) ∧ Aside0 (kq ≤ k) ∧ Aside0 (w'.heap[gb272]? = some (.cells #[(.slice A0_0 l0_0.length c0_0)] 25 (0, 0))) ∧ Aside0 (Below w.heap.size w w'))
  case atStart => exact ⟨(0), (by first | rfl | (simp; done) | (simp [*]; done)), H', ⟨Nat.le_refl _⟩, ⟨by (with_reducible repeat (first | refine blk_drewN ?_ _ | refine blk_drew ?_ | refine blk_alloc ?_ _)); exact BK272.out⟩, ⟨by repeat (first | (with_reducible first | exact HB.out | apply below_alloc | apply pw_below_drewN | apply below_drew1 | refine below_set ?_ GE272.out) | exact HB.out)⟩⟩
  case round =>
    clear H'
    try clear p2
    try clear hcz3_0
    try clear hfz3_0
    obtain ⟨x8_1, rfl, HA, HK1, BK272, HB⟩ := hrel
    cases gk with
    | zero => exact absurd HA.out (by simp [impl_Graph_isBalanced.l0])
    | succ k1 =>
      have H := HA.out
      clear HA
      simp only [impl_Graph_isBalanced.l0] at H
      by_cases c4 : x8_1 < (l0_0.length : Int)
      · rw [if_pos c4] at H
        have c4b0 : decide (x8_1 < (l0_0.length : Int)) = true := decide_eq_true c4
        clear c4
        by_cases c5 : 0 ≤ x8_1
        · rw [if_pos c5] at H
          have c5b0 : decide (0 ≤ x8_1) = true := decide_eq_true c5
          clear c5
          by_cases c6 : x8_1 < (l0_0.length : Int)
          · rw [if_pos c6] at H
            have c6b0 : decide (x8_1 < (l0_0.length : Int)) = true := decide_eq_true c6
            clear c6
            replace H := Option.bind_eq_some_iff.mp H
            obtain ⟨t274, A70, H⟩ := H
            replace H : (if ((rd_L1 l0_0 x8_1).length : Int) = t274 then (impl_Graph_isBalanced.l0 k1 l0_0 (l0_0.length : Int) (wrap64 (x8_1 + 1)) l0_0) else (some false)) = some r := H
            have A7 := Aside0.mk A70
            clear A70
            by_cases c8 : ((rd_L1 l0_0 x8_1).length : Int) = t274
            · rw [if_pos c8] at H
              have c8b0 : (((rd_L1 l0_0 x8_1).length : Int) == t274) = true := beq_iff_eq.mpr c8
              have c8b1 : (((rd_L1 l0_0 x8_1).length : Int) != t274) = false := bne_eq_false_iff_eq.mpr c8
              clear c8
              have H' := Aside0.mk H
              clear H
              have p273 : 0 ≤ (x8_1 : Int) := of_decide_eq_true (by first | (with_reducible assumption) | assumption)
              have q273 : x8_1 < (l0_0.length : Int) := of_decide_eq_true (by first | (with_reducible assumption) | assumption)
              obtain ⟨ad273, A273_0, c273_0, e273, hx273_0, hl273_0, hi273_0⟩ := at_L1 HR0_0.out x8_1 p273 q273
              cases e273
              replace hx273_0 := (HB.out.cell (World.block_lt_of_cell? w _ hx273_0)).trans hx273_0
              have HR273_0 := Aside0.mk hi273_0
              have HC273_0 := Aside0.mk hl273_0
              clear hi273_0 hl273_0
              replace p273 := eq_true p273
              replace q273 := eq_true q273
              have hcz9_0 : wr.cell? ⟨gb272, 0, none⟩ = some (.slice (some ad273) l0_0.length c0_0) := (blk_cell BK272.out 0).trans rfl
              have hfz9_0 := blk_frozen BK272.out 0
              go_wp2_with (first | ((with_reducible refine gate_callee (f := 74) rfl ?_); refine goesL_ (some 17) rfl rfl Try.func74 (by kernel_rfl) rfl #[.agg #[.slice (some ad273) l0_0.length c0_0], .int .i64 x8_1] rfl (by (try simp only [List.map_toArray, List.map_cons, List.map_nil]); first | done | rfl | (simp only [List.length_drop, List.length_take]; rfl)) ?_; (with_reducible refine (impl_Graph_entries.calls k1 _ _ l0_0 x8_1 t274 _ ?side1 ?side2 A7.out).mono ?_); (case side1 => repeat (first | exact (Kd.C_below HR0_0.out HB.out) | (with_reducible refine Kd.C_alloc ?_ _) | (with_reducible refine Kd.C_drewN ?_ _) | (with_reducible refine Kd.C_drew ?_))); (case side2 => exact HC0_0.out); rintro e w10 ⟨rfl, hb⟩; refine ⟨_, rfl, ?_⟩; have n0_ := Aside0.mk (blk_below (g := gb272) (o := .cells #[.slice (some ad273) l0_0.length c0_0] 25 (0, 0)) (by (with_reducible repeat (first | refine blk_drewN ?_ _ | refine blk_drew ?_ | refine blk_alloc ?_ _)); exact BK272.out) hb); have n1_ := Aside0.mk (below_step (by repeat (first | (with_reducible first | exact HB.out | apply below_alloc | apply pw_below_drewN | apply below_drew1 | refine below_set ?_ GE272.out) | exact HB.out)) hb); clear BK272; clear HB; have BK272 := n0_; have HB := n1_; clear n0_ n1_; (try clear hb); (try clear hb2); (try clear hk); (try clear hi)))
              go_roundg k1
              case measure => have := HK1.out; omega
              case rel => exact ⟨(wrap64 (x8_1 + 1)), (by first | rfl | (simp; done) | (simp [*]; done)), H', ⟨by have := HK1.out; omega⟩, ⟨by (with_reducible repeat (first | refine blk_drewN ?_ _ | refine blk_drew ?_ | refine blk_alloc ?_ _)); exact BK272.out⟩, ⟨by repeat (first | (with_reducible first | exact HB.out | apply below_alloc | apply pw_below_drewN | apply below_drew1 | refine below_set ?_ GE272.out) | exact HB.out)⟩⟩
            · rw [if_neg c8] at H
              have c8b0 : (((rd_L1 l0_0 x8_1).length : Int) == t274) = false := beq_eq_false_iff_ne.mpr c8
              have c8b1 : (((rd_L1 l0_0 x8_1).length : Int) != t274) = true := bne_iff_ne.mpr c8
              obtain rfl := Option.some.inj H
              have p273 : 0 ≤ (x8_1 : Int) := of_decide_eq_true (by first | (with_reducible assumption) | assumption)
              have q273 : x8_1 < (l0_0.length : Int) := of_decide_eq_true (by first | (with_reducible assumption) | assumption)
              obtain ⟨ad273, A273_0, c273_0, e273, hx273_0, hl273_0, hi273_0⟩ := at_L1 HR0_0.out x8_1 p273 q273
              cases e273
              replace hx273_0 := (HB.out.cell (World.block_lt_of_cell? w _ hx273_0)).trans hx273_0
              have HR273_0 := Aside0.mk hi273_0
              have HC273_0 := Aside0.mk hl273_0
              clear hi273_0 hl273_0
              replace p273 := eq_true p273
              replace q273 := eq_true q273
              have hcz11_0 : wr.cell? ⟨gb272, 0, none⟩ = some (.slice (some ad273) l0_0.length c0_0) := (blk_cell BK272.out 0).trans rfl
              have hfz11_0 := blk_frozen BK272.out 0
              go_wp2_with (first | ((with_reducible refine gate_callee (f := 74) rfl ?_); refine goesL_ (some 17) rfl rfl Try.func74 (by kernel_rfl) rfl #[.agg #[.slice (some ad273) l0_0.length c0_0], .int .i64 x8_1] rfl (by (try simp only [List.map_toArray, List.map_cons, List.map_nil]); first | done | rfl | (simp only [List.length_drop, List.length_take]; rfl)) ?_; (with_reducible refine (impl_Graph_entries.calls k1 _ _ l0_0 x8_1 t274 _ ?side1 ?side2 A7.out).mono ?_); (case side1 => repeat (first | exact (Kd.C_below HR0_0.out HB.out) | (with_reducible refine Kd.C_alloc ?_ _) | (with_reducible refine Kd.C_drewN ?_ _) | (with_reducible refine Kd.C_drew ?_))); (case side2 => exact HC0_0.out); rintro e w12 ⟨rfl, hb⟩; refine ⟨_, rfl, ?_⟩; have n0_ := Aside0.mk (blk_below (g := gb272) (o := .cells #[.slice (some ad273) l0_0.length c0_0] 25 (0, 0)) (by (with_reducible repeat (first | refine blk_drewN ?_ _ | refine blk_drew ?_ | refine blk_alloc ?_ _)); exact BK272.out) hb); have n1_ := Aside0.mk (below_step (by repeat (first | (with_reducible first | exact HB.out | apply below_alloc | apply pw_below_drewN | apply below_drew1 | refine below_set ?_ GE272.out) | exact HB.out)) hb); clear BK272; clear HB; have BK272 := n0_; have HB := n1_; clear n0_ n1_; (try clear hb); (try clear hb2); (try clear hk); (try clear hi)))
              go_ret
              exact ⟨by first | rfl | (simp [errW_none, errW_some] <;> rfl) | (simp [*, errW_none, errW_some] <;> rfl), by repeat (first | (with_reducible first | exact HB.out | apply below_alloc | apply pw_below_drewN | apply below_drew1 | refine below_set ?_ GE272.out) | exact HB.out)⟩
          · rw [if_neg c6] at H
            exact absurd H (by simp)
        · rw [if_neg c5] at H
          exact absurd H (by simp)
      · rw [if_neg c4] at H
        have c4b0 : decide (x8_1 < (l0_0.length : Int)) = false := decide_eq_false c4
        clear c4
        obtain rfl := Option.some.inj H
        go_wp2
        go_ret
        exact ⟨by first | rfl | (simp [errW_none, errW_some] <;> rfl) | (simp [*, errW_none, errW_some] <;> rfl), by repeat (first | (with_reducible first | exact HB.out | apply below_alloc | apply pw_below_drewN | apply below_drew1 | refine below_set ?_ GE272.out) | exact HB.out)⟩

end Go.Proofs.Ytjjnpllhenmdmaa.P
namespace Go.Proofs.Ytjjnpllhenmdmaa.P
open Go.RowKit Go.Proofs.YtjjnpllhenmdmaaW.PrintWords Go.Proofs.YtjjnpllhenmdmaaW.PrintLast Go.Proofs.YtjjnpllhenmdmaaW.PrintMore
attribute [local go_sem] max2_int min2_int max_two min_two max_three min_three max_four min_four   -- for this text's walks alone
set_option linter.unusedVariables false
set_option linter.unusedSimpArgs false

/-! ### spec_grBalanced: function 75 -/
def spec_grBalanced.l0 : Nat → List (List Int) → Int → Int → List (List Int) → Option (Bool)
  | 0, _, _, _, _ => none
  | k + 1, x6, x7, x8, x279000 => if x8 < x7 then (if 0 ≤ x8 then (if x8 < (x6.length : Int) then ((spec_grEntries.f k x279000 x8).bind fun t280 => (if ((rd_L1 x6 x8).length : Int) = t280 then (spec_grBalanced.l0 k x6 x7 (wrap64 (x8 + 1)) x279000) else (some false))) else (none)) else (none)) else (some true)
def spec_grBalanced.f (k : Nat) (l0_0 : List (List Int)) : Option (Bool) := spec_grBalanced.l0 k l0_0 (l0_0.length : Int) 0 l0_0
theorem spec_grBalanced.mono_l : ∀ k, (∀ y0 y1 y2 y3, LeO (spec_grBalanced.l0 k y0 y1 y2 y3) (spec_grBalanced.l0 (k + 1) y0 y1 y2 y3))
  | 0 => fun _ _ _ _ r h => by simp [spec_grBalanced.l0] at h
  | k + 1 => by
    have ih0 := spec_grBalanced.mono_l k
    · intro y0 y1 y2 y3
      unfold spec_grBalanced.l0
      repeat' first
      | (with_reducible exact ih0 _ _ _ _)
      | (with_reducible exact spec_grEntries.mono _ _ _)
      | (with_reducible exact LeO.refl _)
      | (with_reducible exact LeO.none _)
      | (with_reducible refine LeO.ite ?_ ?_)
      | (with_reducible refine LeO.bind ?_ (fun _ => ?_))
      | exact ih0 _ _ _ _
      | exact spec_grEntries.mono _ _ _
      | exact LeO.none _
      | refine LeO.ite ?_ ?_
      | refine LeO.bind ?_ (fun _ => ?_)
theorem spec_grBalanced.mono : ∀ a0 k, LeO (spec_grBalanced.f k a0) (spec_grBalanced.f (k + 1) a0) := by
  intro a0 k
  have ih0 := spec_grBalanced.mono_l k
  unfold spec_grBalanced.f
  repeat' first
      | (with_reducible exact ih0 _ _ _ _)
      | (with_reducible exact spec_grEntries.mono _ _ _)
      | (with_reducible exact LeO.refl _)
      | (with_reducible exact LeO.none _)
      | (with_reducible refine LeO.ite ?_ ?_)
      | (with_reducible refine LeO.bind ?_ (fun _ => ?_))
      | exact ih0 _ _ _ _
      | exact spec_grEntries.mono _ _ _
      | exact LeO.none _
      | refine LeO.ite ?_ ?_
      | refine LeO.bind ?_ (fun _ => ?_)
set_option maxHeartbeats 8000000 in
set_option maxRecDepth 100000 in
theorem spec_grBalanced.calls (k : Nat) (A0_0 : Option Addr) (c0_0 : Nat) (l0_0 : List (List Int)) (r : Bool) (w : World) (hr0_0 : Kd.C (Kd.slice 3 (Kd.int .i64)) w A0_0 l0_0.length l0_0) (hc0_0 : l0_0.length ≤ c0_0) (h : spec_grBalanced.f k l0_0 = some r) :
    Calls Try.prog 75 #[.agg #[.slice A0_0 l0_0.length c0_0]] w fun e w' => e = .returned (.bool r) ∧ Below w.heap.size w w' := by
  have hu25 := Try.underlying25
  have HR0_0 := Aside0.mk hr0_0
  have HC0_0 := Aside0.mk hc0_0
  clear hr0_0 hc0_0
  have HB := Aside0.mk (Below.refl w.heap.size w)
  have H : (spec_grBalanced.l0 k l0_0 (l0_0.length : Int) 0 l0_0) = some r := h
  clear h
  have H' := Aside0.mk H
  clear H
  go_enter Try.func75, Try.ntmps75
  go_wp2_with (first | ((with_reducible refine gate_dst (N := 1) rfl ?_); refine box_event ?hg (N := 1) ?hd (cs := #[.slice A0_0 l0_0.length c0_0]) (t := 25) ?hr ?_; (case hd => rfl); (case hg => rfl); (case hr => first | (go_simp; done) | (go_simp; rfl)); intro gb278 hg w2 hbox hb; have n0_ := Aside0.mk (below_step (by repeat (first | (with_reducible first | exact HB.out | apply below_alloc | apply pw_below_drewN | apply below_drew1) | exact HB.out)) hb); have n1_ := Aside0.mk (hbox); have n2_ := Aside0.mk ((by rw [hg]; exact (below_size (by repeat (first | (with_reducible first | exact HB.out | apply below_alloc | apply pw_below_drewN | apply below_drew1) | exact HB.out))) : w.heap.size ≤ gb278)); have n3_ := Aside0.mk ((by rw [hg]; exact (below_size (by repeat (first | (with_reducible first | exact HB.out | apply below_alloc | apply pw_below_drewN | apply below_drew1) | exact HB.out))) : w.heap.size ≤ gb278)); clear HB; have HB := n0_; have BK278 := n1_; have GW278 := n2_; have GE278 := n3_; clear n0_ n1_ n2_ n3_; clear hb hbox hg; have hcz3_0 : w2.cell? ⟨gb278, 0, none⟩ = some (.slice A0_0 l0_0.length c0_0) := (blk_cell BK278.out 0).trans rfl; have hfz3_0 := blk_frozen BK278.out 0))
  go_loopg [8] k (fun kq v8 w' => ∃ (x8_1 : Int), v8 = .int .i64 x8_1 ∧ Aside0 (spec_grBalanced.l0 kq l0_0 (l0_0.length : Int) x8_1 l0_0 = some r) ∧ Aside0 (kq ≤ k) ∧ Aside0 (w'.heap[gb278]? = some (.cells #[(.slice A0_0 l0_0.length c0_0)] 25 (0, 0))) ∧ Aside0 (Below w.heap.size w w'))
  case atStart => exact ⟨(0), (by first | rfl | (simp; done) | (simp [*]; done)), H', ⟨Nat.le_refl _⟩, ⟨by (with_reducible repeat (first | refine blk_drewN ?_ _ | refine blk_drew ?_ | refine blk_alloc ?_ _)); exact BK278.out⟩, ⟨by repeat (first | (with_reducible first | exact HB.out | apply below_alloc | apply pw_below_drewN | apply below_drew1 | refine below_set ?_ GE278.out) | exact HB.out)⟩⟩
  case round =>
    clear H'
    try clear p2
    try clear hcz3_0
    try clear hfz3_0
    obtain ⟨x8_1, rfl, HA, HK1, BK278, HB⟩ := hrel
    cases gk with
    | zero => exact absurd HA.out (by simp [spec_grBalanced.l0])
    | succ k1 =>
      have H := HA.out
      clear HA
      simp only [spec_grBalanced.l0] at H
      by_cases c4 : x8_1 < (l0_0.length : Int)
      · rw [if_pos c4] at H
        have c4b0 : decide (x8_1 < (l0_0.length : Int)) = true := decide_eq_true c4
        clear c4
        by_cases c5 : 0 ≤ x8_1
        · rw [if_pos c5] at H
          have c5b0 : decide (0 ≤ x8_1) = true := decide_eq_true c5
          clear c5
          by_cases c6 : x8_1 < (l0_0.length : Int)
          · rw [if_pos c6] at H
            have c6b0 : decide (x8_1 < (l0_0.length : Int)) = true := decide_eq_true c6
            clear c6
            replace H := Option.bind_eq_some_iff.mp H
            obtain ⟨t280, A70, H⟩ := H
            replace H : (if ((rd_L1 l0_0 x8_1).length : Int) = t280 then (spec_grBalanced.l0 k1 l0_0 (l0_0.length : Int) (wrap64 (x8_1 + 1)) l0_0) else (some false)) = some r := H
            have A7 := Aside0.mk A70
            clear A70
            by_cases c8 : ((rd_L1 l0_0 x8_1).length : Int) = t280
            · rw [if_pos c8] at H
              have c8b0 : (((rd_L1 l0_0 x8_1).length : Int) == t280) = true := beq_iff_eq.mpr c8
              have c8b1 : (((rd_L1 l0_0 x8_1).length : Int) != t280) = false := bne_eq_false_iff_eq.mpr c8
              clear c8
              have H' := Aside0.mk H
              clear H
              have p279 : 0 ≤ (x8_1 : Int) := of_decide_eq_true (by first | (with_reducible assumption) | assumption)
              have q279 : x8_1 < (l0_0.length : Int) := of_decide_eq_true (by first | (with_reducible assumption) | assumption)
              obtain ⟨ad279, A279_0, c279_0, e279, hx279_0, hl279_0, hi279_0⟩ := at_L1 HR0_0.out x8_1 p279 q279
              cases e279
              replace hx279_0 := (HB.out.cell (World.block_lt_of_cell? w _ hx279_0)).trans hx279_0
              have HR279_0 := Aside0.mk hi279_0
              have HC279_0 := Aside0.mk hl279_0
              clear hi279_0 hl279_0
              replace p279 := eq_true p279
              replace q279 := eq_true q279
              have hcz9_0 : wr.cell? ⟨gb278, 0, none⟩ = some (.slice (some ad279) l0_0.length c0_0) := (blk_cell BK278.out 0).trans rfl
              have hfz9_0 := blk_frozen BK278.out 0
              go_wp2_with (first | ((with_reducible refine gate_callee (f := 73) rfl ?_); refine goesL_ (some 17) rfl rfl Try.func73 (by kernel_rfl) rfl #[.agg #[.slice (some ad279) l0_0.length c0_0], .int .i64 x8_1] rfl (by (try simp only [List.map_toArray, List.map_cons, List.map_nil]); first | done | rfl | (simp only [List.length_drop, List.length_take]; rfl)) ?_; (with_reducible refine (spec_grEntries.calls k1 _ _ l0_0 x8_1 t280 _ ?side1 ?side2 A7.out).mono ?_); (case side1 => repeat (first | exact (Kd.C_below HR0_0.out HB.out) | (with_reducible refine Kd.C_alloc ?_ _) | (with_reducible refine Kd.C_drewN ?_ _) | (with_reducible refine Kd.C_drew ?_))); (case side2 => exact HC0_0.out); rintro e w10 ⟨rfl, hb⟩; refine ⟨_, rfl, ?_⟩; have n0_ := Aside0.mk (blk_below (g := gb278) (o := .cells #[.slice (some ad279) l0_0.length c0_0] 25 (0, 0)) (by (with_reducible repeat (first | refine blk_drewN ?_ _ | refine blk_drew ?_ | refine blk_alloc ?_ _)); exact BK278.out) hb); have n1_ := Aside0.mk (below_step (by repeat (first | (with_reducible first | exact HB.out | apply below_alloc | apply pw_below_drewN | apply below_drew1 | refine below_set ?_ GE278.out) | exact HB.out)) hb); clear BK278; clear HB; have BK278 := n0_; have HB := n1_; clear n0_ n1_; (try clear hb); (try clear hb2); (try clear hk); (try clear hi)))
              go_roundg k1
              case measure => have := HK1.out; omega
              case rel => exact ⟨(wrap64 (x8_1 + 1)), (by first | rfl | (simp; done) | (simp [*]; done)), H', ⟨by have := HK1.out; omega⟩, ⟨by (with_reducible repeat (first | refine blk_drewN ?_ _ | refine blk_drew ?_ | refine blk_alloc ?_ _)); exact BK278.out⟩, ⟨by repeat (first | (with_reducible first | exact HB.out | apply below_alloc | apply pw_below_drewN | apply below_drew1 | refine below_set ?_ GE278.out) | exact HB.out)⟩⟩
            · rw [if_neg c8] at H
              have c8b0 : (((rd_L1 l0_0 x8_1).length : Int) == t280) = false := beq_eq_false_iff_ne.mpr c8
              have c8b1 : (((rd_L1 l0_0 x8_1).length : Int) != t280) = true := bne_iff_ne.mpr c8
              obtain rfl := Option.some.inj H
              have p279 : 0 ≤ (x8_1 : Int) := of_decide_eq_true (by first | (with_reducible assumption) | assumption)
              have q279 : x8_1 < (l0_0.length : Int) := of_decide_eq_true (by first | (with_reducible assumption) | assumption)
              obtain ⟨ad279, A279_0, c279_0, e279, hx279_0, hl279_0, hi279_0⟩ := at_L1 HR0_0.out x8_1 p279 q279
              cases e279
              replace hx279_0 := (HB.out.cell (World.block_lt_of_cell? w _ hx279_0)).trans hx279_0
              have HR279_0 := Aside0.mk hi279_0
              have HC279_0 := Aside0.mk hl279_0
              clear hi279_0 hl279_0
              replace p279 := eq_true p279
              replace q279 := eq_true q279
              have hcz11_0 : wr.cell? ⟨gb278, 0, none⟩ = some (.slice (some ad279) l0_0.length c0_0) := (blk_cell BK278.out 0).trans rfl
              have hfz11_0 := blk_frozen BK278.out 0
              go_wp2_with (first | ((with_reducible refine gate_callee (f := 73) rfl ?_); refine goesL_ (some 17) rfl rfl Try.func73 (by kernel_rfl) rfl #[.agg #[.slice (some ad279) l0_0.length c0_0], .int .i64 x8_1] rfl (by (try simp only [List.map_toArray, List.map_cons, List.map_nil]); first | done | rfl | (simp only [List.length_drop, List.length_take]; rfl)) ?_; (with_reducible refine (spec_grEntries.calls k1 _ _ l0_0 x8_1 t280 _ ?side1 ?side2 A7.out).mono ?_); (case side1 => repeat (first | exact (Kd.C_below HR0_0.out HB.out) | (with_reducible refine Kd.C_alloc ?_ _) | (with_reducible refine Kd.C_drewN ?_ _) | (with_reducible refine Kd.C_drew ?_))); (case side2 => exact HC0_0.out); rintro e w12 ⟨rfl, hb⟩; refine ⟨_, rfl, ?_⟩; have n0_ := Aside0.mk (blk_below (g := gb278) (o := .cells #[.slice (some ad279) l0_0.length c0_0] 25 (0, 0)) (by (with_reducible repeat (first | refine blk_drewN ?_ _ | refine blk_drew ?_ | refine blk_alloc ?_ _)); exact BK278.out) hb); have n1_ := Aside0.mk (below_step (by repeat (first | (with_reducible first | exact HB.out | apply below_alloc | apply pw_below_drewN | apply below_drew1 | refine below_set ?_ GE278.out) | exact HB.out)) hb); clear BK278; clear HB; have BK278 := n0_; have HB := n1_; clear n0_ n1_; (try clear hb); (try clear hb2); (try clear hk); (try clear hi)))
              go_ret
              exact ⟨by first | rfl | (simp [errW_none, errW_some] <;> rfl) | (simp [*, errW_none, errW_some] <;> rfl), by repeat (first | (with_reducible first | exact HB.out | apply below_alloc | apply pw_below_drewN | apply below_drew1 | refine below_set ?_ GE278.out) | exact HB.out)⟩
          · rw [if_neg c6] at H
            exact absurd H (by simp)
        · rw [if_neg c5] at H
          exact absurd H (by simp)
      · rw [if_neg c4] at H
        have c4b0 : decide (x8_1 < (l0_0.length : Int)) = false := decide_eq_false c4
        clear c4
        obtain rfl := Option.some.inj H
        go_wp2
        go_ret
        exact ⟨by first | rfl | (simp [errW_none, errW_some] <;> rfl) | (simp [*, errW_none, errW_some] <;> rfl), by repeat (first | (with_reducible first | exact HB.out | apply below_alloc | apply pw_below_drewN | apply below_drew1 | refine below_set ?_ GE278.out) | exact HB.out)⟩

end Go.Proofs.Ytjjnpllhenmdmaa.P
namespace Go.Proofs.Ytjjnpllhenmdmaa.M
open Go.RowKit Go.Proofs.Ytjjnpllhenmdmaa.P Go.Proofs.Ytjjnpllhenmdmaa.In Go.Proofs.YtjjnpllhenmdmaaW.PrintWords Go.Proofs.YtjjnpllhenmdmaaW.PrintLast
set_option linter.unusedVariables false
set_option linter.unusedSimpArgs false
/-- How often p is among numbers. -/
def cnt (p : Int) : List Int → Int
  | [] => 0
  | x :: l => (if x = p then 1 else 0) + cnt p l
theorem cnt_append (p : Int) (l m : List Int) : cnt p (l ++ m) = cnt p l + cnt p m := by
  induction l with
  | nil => simp [cnt]
  | cons x l ih => simp only [List.cons_append, cnt, ih]; omega
theorem cnt_bound (p : Int) (l : List Int) : 0 ≤ cnt p l ∧ cnt p l ≤ l.length := by
  induction l with
  | nil => simp [cnt]
  | cons x l ih => simp only [cnt, List.length_cons]; split <;> omega
theorem flat_good {g : List (List Int)} (hg : goodG g = true) : g.flatten.length ≤ 40 := by
  obtain ⟨⟨h1, h8⟩, hrows⟩ := good_iff hg
  have : ∀ (l : List (List Int)), (∀ row ∈ l, row.length ≤ 5) → l.flatten.length ≤ 5 * l.length := by
    intro l
    induction l with
    | nil => intro _; simp
    | cons r l ih =>
      intro h
      have h1 := h r List.mem_cons_self
      have h2 := ih (fun row hr => h row (List.mem_cons_of_mem _ hr))
      rw [List.flatten_cons, List.length_append, List.length_cons]; omega
  have := this g (fun row hr => (hrows row hr).1)
  omega
theorem concat_good {g : List (List Int)} (hg : goodG g = true) : slices_Concat_int_int.f g = some g.flatten := by
  have := flat_good hg
  unfold slices_Concat_int_int.f
  rw [if_pos (by omega)]
theorem entries_l0 (p : Int) (l : List Int) (hl : l.length ≤ 1000) : ∀ (d i : Nat) (a : Int), l.length - i = d → i ≤ l.length → 0 ≤ a → a ≤ i → Ev (fun k => impl_Graph_entries.l0 k p a l l.length i) (a + cnt p (l.drop i)) := by
  intro d
  induction d with
  | zero =>
    intro i a hd hi h0 h1
    refine Ev.const1 (fun k => ?_)
    simp only [impl_Graph_entries.l0]
    rw [if_neg (by omega), List.drop_of_length_le (by omega)]
    simp [cnt]
  | succ d ih =>
    intro i a hd hi h0 h1
    have hlt : i < l.length := by omega
    rw [drop_rd hlt]
    by_cases e : rd l i = p
    · refine Ev.step (fun k => ?_) ((ih (i + 1) (a + 1) (by omega) (by omega) (by omega) (by omega)).val (by simp only [cnt, if_pos e]; omega))
      simp only [impl_Graph_entries.l0]
      rw [if_pos (by omega), if_pos (by omega), if_pos (by omega), if_pos e, wrap_nat (by omega), wrap_id (by omega)]
    · refine Ev.step (fun k => ?_) ((ih (i + 1) a (by omega) (by omega) (by omega) (by omega)).val (by simp only [cnt, if_neg e]; omega))
      simp only [impl_Graph_entries.l0]
      rw [if_pos (by omega), if_pos (by omega), if_pos (by omega), if_neg e, wrap_nat (by omega)]
theorem entries {g : List (List Int)} (hg : goodG g = true) (p : Int) : Ev (fun k => impl_Graph_entries.f k g p) (cnt p g.flatten) := by
  unfold impl_Graph_entries.f
  exact Ev.bind0 (concat_good hg) ((entries_l0 p g.flatten (by have := flat_good hg; omega) g.flatten.length 0 0 (by omega) (by omega) (by omega) (by omega)).val (by simp))
theorem grEntries_l1 (p : Int) (g : List (List Int)) (row : List Int) (hr : row.length ≤ 5) (x12 : Int) (j : Nat) (r : Int) (hj : j < 1000) : ∀ (d i : Nat) (a : Int), row.length - i = d → i ≤ row.length → 0 ≤ a → a + row.length - i ≤ 10000 →
    Ev (fun k => spec_grEntries.l0 k p (a + cnt p (row.drop i)) g x12 ((j + 1 : Nat) : Int)) r → Ev (fun k => spec_grEntries.l1 k p a g x12 j row row.length i) r := by
  intro d
  induction d with
  | zero =>
    intro i a hd hi h0 h1 h
    rw [List.drop_of_length_le (by omega)] at h
    simp only [cnt, Int.add_zero] at h
    refine Ev.step (fun k => ?_) h
    simp only [spec_grEntries.l1]
    rw [if_neg (by omega), wrap_nat (by omega)]
  | succ d ih =>
    intro i a hd hi h0 h1 h
    have hlt : i < row.length := by omega
    rw [drop_rd hlt] at h
    by_cases e : rd row i = p
    · refine Ev.step (fun k => ?_) (ih (i + 1) (a + 1) (by omega) (by omega) (by omega) (by omega) (by simp only [cnt, if_pos e] at h; rw [Int.add_assoc]; exact h))
      simp only [spec_grEntries.l1]
      rw [if_pos (by omega), if_pos (by omega), if_pos (by omega), if_pos e, wrap_nat (by omega), wrap_id (by omega)]
    · refine Ev.step (fun k => ?_) (ih (i + 1) a (by omega) (by omega) (by omega) (by omega) (by simp only [cnt, if_neg e, Int.zero_add] at h; exact h))
      simp only [spec_grEntries.l1]
      rw [if_pos (by omega), if_pos (by omega), if_pos (by omega), if_neg e, wrap_nat (by omega)]
theorem drop_rdL {g : List (List Int)} {i : Nat} (h : i < g.length) : g.drop i = rd_L1 g (i : Int) :: g.drop (i + 1) := by
  rw [List.drop_eq_getElem_cons h, rdL_at h]
theorem grEntries_l0 (p : Int) (g : List (List Int)) (h8 : g.length ≤ 8) (hr : ∀ row ∈ g, row.length ≤ 5) : ∀ (d i : Nat) (a : Int), g.length - i = d → i ≤ g.length → 0 ≤ a → a ≤ 5 * i → Ev (fun k => spec_grEntries.l0 k p a g g.length i) (a + cnt p (g.drop i).flatten) := by
  intro d
  induction d with
  | zero =>
    intro i a hd hi h0 h1
    refine Ev.const1 (fun k => ?_)
    simp only [spec_grEntries.l0]
    rw [if_neg (by omega), List.drop_of_length_le (by omega)]
    simp [cnt]
  | succ d ih =>
    intro i a hd hi h0 h1
    have hlt : i < g.length := by omega
    have hrow : (rd_L1 g i).length ≤ 5 := hr _ (by rw [rdL_at hlt]; exact List.getElem_mem _)
    have hb := cnt_bound p (rd_L1 g i)
    rw [drop_rdL hlt, List.flatten_cons, cnt_append]
    refine Ev.step (fun k => ?_) (grEntries_l1 p g (rd_L1 g i) hrow g.length i _ (by omega) (rd_L1 g i).length 0 a (by omega) (by omega) h0 (by omega) (by
      rw [List.drop_zero]
      exact (ih (i + 1) _ (by omega) (by omega) (by omega) (by omega)).val (by omega)))
    simp only [spec_grEntries.l0]
    rw [if_pos (by omega), if_pos (by omega), if_pos (by omega)]
    rfl
theorem grEntries {g : List (List Int)} (hg : goodG g = true) (p : Int) : Ev (fun k => spec_grEntries.f k g p) (cnt p g.flatten) := by
  obtain ⟨⟨h1, h8⟩, hrows⟩ := good_iff hg
  unfold spec_grEntries.f
  exact (grEntries_l0 p g h8 (fun row hr => (hrows row hr).1) g.length 0 0 (by omega) (by omega) (by omega) (by omega)).val (by simp)
theorem grCount_l0 (g : List (List Int)) (h8 : g.length ≤ 8) (hr : ∀ row ∈ g, row.length ≤ 5) : ∀ (d i : Nat) (a : Int), g.length - i = d → i ≤ g.length → 0 ≤ a → a ≤ 5 * i → Ev (fun k => spec_grCount.l0 k a g g.length i) (a + (g.drop i).flatten.length) := by
  intro d
  induction d with
  | zero =>
    intro i a hd hi h0 h1
    refine Ev.const1 (fun k => ?_)
    simp only [spec_grCount.l0]
    rw [if_neg (by omega), List.drop_of_length_le (by omega)]
    simp
  | succ d ih =>
    intro i a hd hi h0 h1
    have hlt : i < g.length := by omega
    have hrow : (rd_L1 g i).length ≤ 5 := hr _ (by rw [rdL_at hlt]; exact List.getElem_mem _)
    rw [drop_rdL hlt, List.flatten_cons, List.length_append]
    refine Ev.step (fun k => ?_) ((ih (i + 1) (a + (rd_L1 g i).length) (by omega) (by omega) (by omega) (by omega)).val (by omega))
    simp only [spec_grCount.l0]
    rw [if_pos (by omega), if_pos (by omega), if_pos (by omega), wrap_id (by omega), wrap_nat (by omega)]
theorem grCount {g : List (List Int)} (hg : goodG g = true) : Ev (fun k => spec_grCount.f k g) (g.flatten.length : Int) := by
  obtain ⟨⟨h1, h8⟩, hrows⟩ := good_iff hg
  unfold spec_grCount.f
  exact (grCount_l0 g h8 (fun row hr => (hrows row hr).1) g.length 0 0 (by omega) (by omega) (by omega) (by omega)).val (by simp)
/-- Does each place, from i on, have as many exits as lead to it. -/
def balFrom (g : List (List Int)) : Nat → List (List Int) → Bool
  | _, [] => true
  | i, row :: l => decide ((row.length : Int) = cnt (i : Int) g.flatten) && balFrom g (i + 1) l
theorem isBalanced_l0 {g : List (List Int)} (hg : goodG g = true) : ∀ (d i : Nat), g.length - i = d → i ≤ g.length → Ev (fun k => impl_Graph_isBalanced.l0 k g g.length i g) (balFrom g i (g.drop i)) := by
  obtain ⟨⟨h1, h8⟩, hrows⟩ := good_iff hg
  intro d
  induction d with
  | zero =>
    intro i hd hi
    refine Ev.const1 (fun k => ?_)
    simp only [impl_Graph_isBalanced.l0]
    rw [if_neg (by omega), List.drop_of_length_le (by omega)]
    rfl
  | succ d ih =>
    intro i hd hi
    have hlt : i < g.length := by omega
    rw [drop_rdL hlt]
    refine Ev.step (f := fun k => (impl_Graph_entries.f k g i).bind fun t => if ((rd_L1 g i).length : Int) = t then impl_Graph_isBalanced.l0 k g g.length (i + 1 : Nat) g else some false) (fun k => ?_) (Ev.bind (entries hg i) ?_)
    · simp only [impl_Graph_isBalanced.l0]
      rw [if_pos (by omega), if_pos (by omega), if_pos (by omega), wrap_nat (by omega)]
    · by_cases e : ((rd_L1 g i).length : Int) = cnt (i : Int) g.flatten
      · exact Ev.pos e ((ih (i + 1) (by omega) (by omega)).val (by simp [balFrom, e]))
      · exact Ev.neg e ((Ev.now _).val (by simp [balFrom, e]))
theorem grBalanced_l0 {g : List (List Int)} (hg : goodG g = true) : ∀ (d i : Nat), g.length - i = d → i ≤ g.length → Ev (fun k => spec_grBalanced.l0 k g g.length i g) (balFrom g i (g.drop i)) := by
  obtain ⟨⟨h1, h8⟩, hrows⟩ := good_iff hg
  intro d
  induction d with
  | zero =>
    intro i hd hi
    refine Ev.const1 (fun k => ?_)
    simp only [spec_grBalanced.l0]
    rw [if_neg (by omega), List.drop_of_length_le (by omega)]
    rfl
  | succ d ih =>
    intro i hd hi
    have hlt : i < g.length := by omega
    rw [drop_rdL hlt]
    refine Ev.step (f := fun k => (spec_grEntries.f k g i).bind fun t => if ((rd_L1 g i).length : Int) = t then spec_grBalanced.l0 k g g.length (i + 1 : Nat) g else some false) (fun k => ?_) (Ev.bind (grEntries hg i) ?_)
    · simp only [spec_grBalanced.l0]
      rw [if_pos (by omega), if_pos (by omega), if_pos (by omega), wrap_nat (by omega)]
    · by_cases e : ((rd_L1 g i).length : Int) = cnt (i : Int) g.flatten
      · exact Ev.pos e ((ih (i + 1) (by omega) (by omega)).val (by simp [balFrom, e]))
      · exact Ev.neg e ((Ev.now _).val (by simp [balFrom, e]))
end Go.Proofs.Ytjjnpllhenmdmaa.M
namespace Go.Proofs.Ytjjnpllhenmdmaa.Pure
open Go.RowKit Go.Proofs.Ytjjnpllhenmdmaa.P Go.Proofs.Ytjjnpllhenmdmaa.In Go.Proofs.Ytjjnpllhenmdmaa.M Go.Proofs.YtjjnpllhenmdmaaW.PrintWords Go.Proofs.YtjjnpllhenmdmaaW.PrintLast
set_option linter.unusedVariables false
set_option linter.unusedSimpArgs false
theorem FnExactWayLength (l : List (List Int)) (hl : okSS l) (p : Int) (hp : okI p) (q : Int) (hq : okI q) : ∃ k, laws_FnExactWayLength.f k l p q = some true := by
  refine Ev.rounds (g := fun k => laws_FnExactWayLength.f k l p q) ?_
  unfold laws_FnExactWayLength.f
  obtain ⟨r, hr, _, hs⟩ := szGraph l hl
  refine Ev.bind hr ?_
  by_cases h : r < 0
  · exact Ev.pos h (Ev.now _)
  · have sm := hs (by omega)
    obtain ⟨v, hS, hI⟩ : ∃ v : Int × Bool, Ev (fun k => spec_WayLength.f k l p q) v ∧ Ev (fun k => impl_WayLength.f k l p q) v := by
      by_cases hg : placeB l p = true
      · by_cases hg2 : placeB l q = true
        · obtain ⟨_, q0, q1⟩ := place_iff hg2
          have hlen := (far_len hg).len
          by_cases hf : rd (far l p) q < 0
          · refine ⟨(0, false), ?_, ?_⟩
            · unfold spec_WayLength.f
              exact Ev.bind (grPlace l p hl) (Ev.pos hg (Ev.bind (grPlace l q hl) (Ev.pos hg2 (Ev.bind (grFar hg) (Ev.pos q0 (Ev.pos (by omega) (Ev.pos hf (Ev.now _))))))))
            · unfold impl_WayLength.f
              exact Ev.bind0 (has2 l p q) (Ev.pos (by rw [hg, hg2]; rfl) (Ev.bind (lengths hg) (Ev.pos q0 (Ev.pos (by omega) (Ev.pos hf (Ev.now _))))))
          · refine ⟨(rd (far l p) q, true), ?_, ?_⟩
            · unfold spec_WayLength.f
              exact Ev.bind (grPlace l p hl) (Ev.pos hg (Ev.bind (grPlace l q hl) (Ev.pos hg2 (Ev.bind (grFar hg) (Ev.pos q0 (Ev.pos (by omega) (Ev.neg hf (Ev.bind (grFar hg) (Ev.pos (by omega) (Ev.now _))))))))))
            · unfold impl_WayLength.f
              exact Ev.bind0 (has2 l p q) (Ev.pos (by rw [hg, hg2]; rfl) (Ev.bind (lengths hg) (Ev.pos q0 (Ev.pos (by omega) (Ev.neg hf (Ev.bind (lengths hg) (Ev.pos (by omega) (Ev.now _))))))))
        · refine ⟨(0, false), ?_, ?_⟩
          · unfold spec_WayLength.f
            exact Ev.bind (grPlace l p hl) (Ev.pos hg (Ev.bind (grPlace l q hl) (Ev.neg hg2 (Ev.now _))))
          · unfold impl_WayLength.f
            exact Ev.bind0 (has2 l p q) (Ev.neg (by simp [hg2]) (Ev.now _))
      · refine ⟨(0, false), ?_, ?_⟩
        · unfold spec_WayLength.f
          exact Ev.bind (grPlace l p hl) (Ev.neg hg (Ev.now _))
        · unfold impl_WayLength.f
          exact Ev.bind0 (has2 l p q) (Ev.neg (by simp [hg]) (Ev.now _))
    refine Ev.neg h (Ev.bind (toGraph l sm) (Ev.bind hS (Ev.bind (toGraph l sm) (Ev.bind hI (Ev.pos rfl ?_)))))
    refine Ev.succ ?_
    simp only [laws_FnExactWayLength.j0]
    exact Ev.neg (by simp) (Ev.bind (toGraph l sm) (Ev.bind (small_eq l sm) (Ev.pos rfl (Ev.now _))))
end Go.Proofs.Ytjjnpllhenmdmaa.Pure
namespace Go.Proofs.Ytjjnpllhenmdmaa.fnExactWayLength
open Go.ChangeShapes Go.WideShapes Go.ChangeAt Go.RowKit
open Go.ChangeMaps (open_string shut_string)
open Go.Proofs.Ytjjnpllhenmdmaa.In Go.Proofs.Ytjjnpllhenmdmaa.P
set_option linter.unusedVariables false
theorem own : ownKnob Try.prog.godebug = none := by kernel_rfl
theorem laidOut : laidOutB Try.prog = true := by kernel_rfl
set_option maxRecDepth 100000 in
theorem lifted (os : Os) (started : os.Started) (H : Type) (enc : TypeId × Value → H) :
    ReturnsInHanded {} Try.checked os 14 .any (Rows.fnExactWayLengthSpec.pre6 enc Try.prog Try.f14 Rows.fnExactWayLengthRow.domain false) (Rows.fnExactWayLengthSpec.post enc Try.prog Try.f14 false true false false) := by
  refine returnsInHanded_of_change_sized (C := Try.checked) own started (by kernel_rfl) Try.func14
    (ChangeSpec.witness6 (enc := enc) (C := Try.checked) false ⟨#[], #[.agg #[.slice none 0 0], .int .i64 0, .int .i64 0], []⟩ 8 (by kernel_rfl) (by kernel_rfl) (by kernel_rfl) (by kernel_rfl)) ?_
  intro W base args ds gs before hval0 hW hcnd hsz0 _
  have hsz : (DataW.weightsEach Try.prog (Try.f14.params.toList ++ Rows.fnExactWayLengthSpec.plain.varTypes Try.prog) (ds ++ gs)).all (· ≤ reachBytes) = true := hsz0
  have hval : ∀ (j : Nat) t v, Try.f14.params[j]? = some t → args[j]? = some v → Value.okWide Try.prog W .any base t v := hval0
  have hW' := hW
  obtain ⟨p, q, hA0, hV, rfl, hfz, hnd⟩ := hW
  have hA : DataW.TrodAll enc Try.prog W 0 (fun _ => true) true Try.f14.params.toList args.toList ds p := hA0
  rw [Try.params14] at hA hval hsz
  obtain ⟨v0, vs0, d0, ds0, p0, q0, hargs, rfl, rfl, h0, r0⟩ := trodAll_cons hA
  obtain ⟨v1, vs1, d1, ds1, p1, q1, rfl, rfl, rfl, h1, r1⟩ := trodAll_cons r0
  obtain ⟨v2, vs2, d2, ds2, p2, q2, rfl, rfl, rfl, h2, r2⟩ := trodAll_cons r1
  obtain ⟨rfl, rfl, rfl⟩ := trodAll_nil r2
  obtain rfl : args = #[v0, v1, v2] := by cases args; simp_all
  obtain ⟨rfl, rfl⟩ := trodVars_none hV
  have k0 := h0
  have lt0 : ∀ x ∈ p0, x.block < W.heap.size := by obtain ⟨m, hm⟩ := k0; exact DataW.trod_lt m _ _ _ hm
  obtain ⟨A0, l0, cap0, rfl, hl0, hc0, hw0⟩ := in_graph (q := 3) Try.underlying31 (by kernel_rfl) (by kernel_rfl) rfl Try.underlying23 Try.underlying43 Try.underlying3 (by kernel_rfl) (by kernel_rfl) (hval 0 31 v0 rfl rfl) h0
  obtain ⟨a1, rfl, rfl, rfl, w1⟩ := open_int Try.underlying3 (hval 1 3 v1 rfl rfl) h1
  obtain ⟨a2, rfl, rfl, rfl, w2⟩ := open_int Try.underlying3 (hval 2 3 v2 rfl rfl) h2
  clear hA0 hval0 hsz0 hsz
  obtain ⟨k, h⟩ := Pure.FnExactWayLength l0 (okSS_wf hc0 hw0) a1 (okI_wf w1) a2 (okI_wf w2)
  refine (laws_FnExactWayLength.calls k _ _ l0 a1 a2 true W hc0 hl0 h).mono fun e W' ⟨he, bel0⟩ => ?_
  have bel : Below W.heap.size W W' := bel0
  subst he
  exact ⟨_, rfl, _, _, _, [], _, [], hW', trodAll_mk1 (shut_bool Try.underlying4 _), (trodAll_cons_mk (Below.trod laidOut (by kernel_rfl) (of_decide_eq_true (by kernel_rfl)) k0 bel lt0) (trodAll_cons_mk (shut_int Try.underlying3 w1) (trodAll_cons_mk (shut_int Try.underlying3 w2) trodAll_mk0))), rfl, bel.frame _, fun h => by cases h⟩
theorem over : Rows.fnExactWayLengthRow.holds Try.pinned (OpenSpec.ofChange Rows.fnExactWayLengthSpec) :=
  OpenClaim.holds_of_wide 14 Try.f14 rfl rfl rfl rfl rfl rfl rfl ⟨rfl, rfl, rfl, rfl, rfl⟩ rfl rfl rfl rfl rfl (by kernel_rfl) Try.func14 (by kernel_rfl)
    (of_decide_eq_true (by kernel_rfl)) (by unfold Func.isWrapper; first | (rw [if_pos (by decide +kernel)]; kernel_rfl) | (rw [if_neg (by decide +kernel)]; exact ⟨rfl, rfl⟩))
    (fun os started H enc _ => lifted os started H enc)
theorem proved : Rows.FnExactWayLengthSaid := over
end Go.Proofs.Ytjjnpllhenmdmaa.fnExactWayLength
namespace Go.Proofs.Ytjjnpllhenmdmaa
/-- The law, under a short name, for the claim. -/
theorem fnExactWayLength_holds : Rows.FnExactWayLengthSaid := fnExactWayLength.proved
#print axioms fnExactWayLength_holds
end Go.Proofs.Ytjjnpllhenmdmaa
