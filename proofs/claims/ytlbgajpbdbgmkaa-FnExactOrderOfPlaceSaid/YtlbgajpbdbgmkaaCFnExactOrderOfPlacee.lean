/- Texts of this session on the way to the law FnExactOrderOfPlace, part 5: words of the print, walks, plain laws; only what the law's proof uses. -/
import Derived.Test.YtlbgajpbdbgmkaaCFnExactOrderOfPlacea
import Derived.Test.YtlbgajpbdbgmkaaCFnExactOrderOfPlaced
namespace Go.Proofs.Ytlbgajpbdbgmkaa.P
open Go.RowKit Go.Proofs.YtlbgajpbdbgmkaaW.PrintWords Go.Proofs.YtlbgajpbdbgmkaaW.PrintLast Go.Proofs.YtlbgajpbdbgmkaaW.PrintMore
attribute [local go_sem] zw0 zv0 zb1 za1 zq0 zp0 zx0 zu0
set_option linter.unusedVariables false
set_option linter.unusedSimpArgs false
def spec_chSink.f (k : Nat) (l0_0 : List (List Int)) (a1 : Int) : Option (Bool) := (spec_grPlace.f k l0_0 a1).bind fun t257 => (if t257 = true then ((spec_grLeads.f k l0_0 a1).bind fun t258 => (some t258)) else (some false))
theorem spec_chSink.mono : ∀ a0 a1 k, LeO (spec_chSink.f k a0 a1) (spec_chSink.f (k + 1) a0 a1) := by
 intro a0 a1 k
 unfold spec_chSink.f
 repeat' first
   | (with_reducible exact spec_grLeads.mono _ _ _)
   | (with_reducible exact spec_grPlace.mono _ _ _)
   | (with_reducible exact LeO.refl _)
   | (with_reducible exact LeO.none _)
   | (with_reducible refine LeO.ite ?_ ?_)
   | (with_reducible refine LeO.bind ?_ (fun _ => ?_))
   | exact spec_grLeads.mono _ _ _
   | exact spec_grPlace.mono _ _ _
   | exact LeO.none _
   | refine LeO.ite ?_ ?_
   | refine LeO.bind ?_ (fun _ => ?_)
set_option maxHeartbeats 8000000 in
set_option maxRecDepth 100000 in
theorem spec_chSink.calls (k : Nat) (A0_0 : Option Addr) (c0_0 : Nat) (l0_0 : List (List Int)) (a1 : Int) (r : Bool) (w : World) (hr0_0 : Kd.C (Kd.slice 3 (Kd.int .i64)) w A0_0 l0_0.length l0_0) (hc0_0 : l0_0.length ≤ c0_0) (h : spec_chSink.f k l0_0 a1 = some r) :
  Calls Try.prog 59 #[.agg #[.slice A0_0 l0_0.length c0_0], .int .i64 a1] w fun e w' => e = .returned (.bool r) ∧ Below w.heap.size w w' := by
 have hu29 := Try.underlying29
 have HR0_0 := za0.mk hr0_0
 have HC0_0 := za0.mk hc0_0
 clear hr0_0 hc0_0
 have HB := za0.mk (Below.refl w.heap.size w)
 have H : ((spec_grPlace.f k l0_0 a1).bind fun t257 => (if t257 = true then ((spec_grLeads.f k l0_0 a1).bind fun t258 => (some t258)) else (some false))) = some r := h
 clear h
 replace H := Option.bind_eq_some_iff.mp H
 obtain ⟨t257, A30, H⟩ := H
 replace H : (if t257 = true then ((spec_grLeads.f k l0_0 a1).bind fun t258 => (some t258)) else (some false)) = some r := H
 have A3 := za0.mk A30
 clear A30
 by_cases c4 : t257 = true
 ·subst c4
  have H1 : ((spec_grLeads.f k l0_0 a1).bind fun t258 => (some t258)) = some r := by rw [if_pos rfl] at H; exact H
  clear H
  have H := H1
  clear H1
  replace H := Option.bind_eq_some_iff.mp H
  obtain ⟨t258, A50, H⟩ := H
  replace H : (some t258) = some r := H
  have A5 := za0.mk A50
  clear A50
  obtain rfl := Option.some.inj H
  go_enter Try.func59, Try.ntmps59
  go_wp2_with (first | ((with_reducible refine zn0 (N := 2) rfl ?_); refine zo0 ?hg (N := 2) ?hd (cs := #[.slice A0_0 l0_0.length c0_0]) (t := 29) ?hr ?_; (case hd => rfl); (case hg => rfl); (case hr => first | (go_simp; done) | (go_simp; rfl)); intro gb256 hg w6 hbox hb; have n0_ := za0.mk (zj0 (by repeat (first | (with_reducible first | exact HB.out | apply zc0 | apply zb0 | apply zd0) | exact HB.out)) hb); have n1_ := za0.mk (hbox); have n2_ := za0.mk ((by rw [hg]; exact (zg0 (by repeat (first | (with_reducible first | exact HB.out | apply zc0 | apply zb0 | apply zd0) | exact HB.out))) : w.heap.size ≤ gb256)); have n3_ := za0.mk ((by rw [hg]; exact (zg0 (by repeat (first | (with_reducible first | exact HB.out | apply zc0 | apply zb0 | apply zd0) | exact HB.out))) : w.heap.size ≤ gb256)); clear HB; have HB := n0_; have BK256 := n1_; have GW256 := n2_; have GE256 := n3_; clear n0_ n1_ n2_ n3_; clear hb hbox hg; have hcz7_0 : w6.cell? ⟨gb256, 0, none⟩ = some (.slice A0_0 l0_0.length c0_0) := (zk0 BK256.out 0).trans rfl; have hfz7_0 := zm0 BK256.out 0) | ((with_reducible refine zs0 (f := 28) rfl ?_); refine goesL_ (some 7) rfl rfl Try.func28 (by kernel_rfl) rfl #[.agg #[.slice A0_0 l0_0.length c0_0], .int .i64 a1] rfl (by (try simp only [List.map_toArray, List.map_cons, List.map_nil]); first | done | rfl | (simp only [List.length_drop, List.length_take]; rfl)) ?_; (with_reducible refine (spec_grPlace.calls k _ _ l0_0 a1 true _ ?side1 ?side2 A3.out).mono ?_); (case side1 => repeat (first | exact (Kd.C_below HR0_0.out HB.out) | (with_reducible refine Kd.C_alloc ?_ _) | (with_reducible refine Kd.C_drewN ?_ _) | (with_reducible refine Kd.C_drew ?_))); (case side2 => exact HC0_0.out); rintro e w8 ⟨rfl, hb⟩; refine ⟨_, rfl, ?_⟩; have n0_ := za0.mk (zl0 (g := gb256) (o := .cells #[.slice A0_0 l0_0.length c0_0] 29 (0, 0)) (by (with_reducible repeat (first | refine zh0 ?_ _ | refine zi0 ?_ | refine zf0 ?_ _)); exact BK256.out) hb); have n1_ := za0.mk (zj0 (by repeat (first | (with_reducible first | exact HB.out | apply zc0 | apply zb0 | apply zd0 | refine ze0 ?_ GE256.out) | exact HB.out)) hb); clear BK256; clear HB; have BK256 := n0_; have HB := n1_; clear n0_ n1_; (try clear hb); (try clear hb2); (try clear hk); (try clear hi); have hcz9_0 : w8.cell? ⟨gb256, 0, none⟩ = some (.slice A0_0 l0_0.length c0_0) := (zk0 BK256.out 0).trans rfl; have hfz9_0 := zm0 BK256.out 0) | (go_at_call 73; (with_reducible refine (spec_grLeads.calls k _ _ l0_0 a1 t258 _ ?side1 ?side2 A5.out).mono ?_); (case side1 => repeat (first | exact (Kd.C_below HR0_0.out HB.out) | (with_reducible refine Kd.C_alloc ?_ _) | (with_reducible refine Kd.C_drewN ?_ _) | (with_reducible refine Kd.C_drew ?_))); (case side2 => exact HC0_0.out); rintro e w10 ⟨rfl, hb⟩; have n0_ := za0.mk (zl0 (g := gb256) (o := .cells #[.slice A0_0 l0_0.length c0_0] 29 (0, 0)) (by (with_reducible repeat (first | refine zh0 ?_ _ | refine zi0 ?_ | refine zf0 ?_ _)); exact BK256.out) hb); have n1_ := za0.mk (zj0 (by repeat (first | (with_reducible first | exact HB.out | apply zc0 | apply zb0 | apply zd0 | refine ze0 ?_ GE256.out) | exact HB.out)) hb); clear BK256; clear HB; have BK256 := n0_; have HB := n1_; clear n0_ n1_; (try clear hb); (try clear hb2); (try clear hk); (try clear hi)))
  go_ret
  exact ⟨by first | rfl | (simp [errW_none, errW_some] <;> rfl) | (simp [*, errW_none, errW_some] <;> rfl), by repeat (first | (with_reducible first | exact HB.out | apply zc0 | apply zb0 | apply zd0 | refine ze0 ?_ GE256.out) | exact HB.out)⟩
 ·replace c4 := Bool.eq_false_iff.mpr c4
  subst c4
  have H1 : (some false) = some r := by rw [if_neg (show ¬ (false = true) by decide)] at H; exact H
  clear H
  have H := H1
  clear H1
  obtain rfl := Option.some.inj H
  go_enter Try.func59, Try.ntmps59
  go_wp2_with (first | ((with_reducible refine zn0 (N := 2) rfl ?_); refine zo0 ?hg (N := 2) ?hd (cs := #[.slice A0_0 l0_0.length c0_0]) (t := 29) ?hr ?_; (case hd => rfl); (case hg => rfl); (case hr => first | (go_simp; done) | (go_simp; rfl)); intro gb256 hg w11 hbox hb; have n0_ := za0.mk (zj0 (by repeat (first | (with_reducible first | exact HB.out | apply zc0 | apply zb0 | apply zd0) | exact HB.out)) hb); have n1_ := za0.mk (hbox); have n2_ := za0.mk ((by rw [hg]; exact (zg0 (by repeat (first | (with_reducible first | exact HB.out | apply zc0 | apply zb0 | apply zd0) | exact HB.out))) : w.heap.size ≤ gb256)); have n3_ := za0.mk ((by rw [hg]; exact (zg0 (by repeat (first | (with_reducible first | exact HB.out | apply zc0 | apply zb0 | apply zd0) | exact HB.out))) : w.heap.size ≤ gb256)); clear HB; have HB := n0_; have BK256 := n1_; have GW256 := n2_; have GE256 := n3_; clear n0_ n1_ n2_ n3_; clear hb hbox hg; have hcz12_0 : w11.cell? ⟨gb256, 0, none⟩ = some (.slice A0_0 l0_0.length c0_0) := (zk0 BK256.out 0).trans rfl; have hfz12_0 := zm0 BK256.out 0) | ((with_reducible refine zs0 (f := 28) rfl ?_); refine goesL_ (some 7) rfl rfl Try.func28 (by kernel_rfl) rfl #[.agg #[.slice A0_0 l0_0.length c0_0], .int .i64 a1] rfl (by (try simp only [List.map_toArray, List.map_cons, List.map_nil]); first | done | rfl | (simp only [List.length_drop, List.length_take]; rfl)) ?_; (with_reducible refine (spec_grPlace.calls k _ _ l0_0 a1 false _ ?side1 ?side2 A3.out).mono ?_); (case side1 => repeat (first | exact (Kd.C_below HR0_0.out HB.out) | (with_reducible refine Kd.C_alloc ?_ _) | (with_reducible refine Kd.C_drewN ?_ _) | (with_reducible refine Kd.C_drew ?_))); (case side2 => exact HC0_0.out); rintro e w13 ⟨rfl, hb⟩; refine ⟨_, rfl, ?_⟩; have n0_ := za0.mk (zl0 (g := gb256) (o := .cells #[.slice A0_0 l0_0.length c0_0] 29 (0, 0)) (by (with_reducible repeat (first | refine zh0 ?_ _ | refine zi0 ?_ | refine zf0 ?_ _)); exact BK256.out) hb); have n1_ := za0.mk (zj0 (by repeat (first | (with_reducible first | exact HB.out | apply zc0 | apply zb0 | apply zd0 | refine ze0 ?_ GE256.out) | exact HB.out)) hb); clear BK256; clear HB; have BK256 := n0_; have HB := n1_; clear n0_ n1_; (try clear hb); (try clear hb2); (try clear hk); (try clear hi)))
  go_ret
  exact ⟨by first | rfl | (simp [errW_none, errW_some] <;> rfl) | (simp [*, errW_none, errW_some] <;> rfl), by repeat (first | (with_reducible first | exact HB.out | apply zc0 | apply zb0 | apply zd0 | refine ze0 ?_ GE256.out) | exact HB.out)⟩
def spec_trNext.f (l0_0 : List (List Int)) (l1 : List Int) (a2 : Int) : Option (Int) := if 0 ≤ a2 then (if a2 < (l0_0.length : Int) then (if ((rd_L1 l0_0 a2).length : Int) = 0 then (some (-1)) else (if a2 < (l1.length : Int) then (if 0 ≤ (rd l1 a2) then (if (rd l1 a2) < ((rd_L1 l0_0 a2).length : Int) then (some (rd (rd_L1 l0_0 a2) (rd l1 a2))) else (none)) else (none)) else (none))) else (none)) else (none)
set_option maxHeartbeats 8000000 in
set_option maxRecDepth 100000 in
theorem spec_trNext.calls (A0_0 : Option Addr) (c0_0 : Nat) (l0_0 : List (List Int)) (A1 : Option Addr) (c1 : Nat) (l1 : List Int) (a2 : Int) (r : Int) (w : World) (hr0_0 : Kd.C (Kd.slice 3 (Kd.int .i64)) w A0_0 l0_0.length l0_0) (hc0_0 : l0_0.length ≤ c0_0) (hr1 : Kd.C (Kd.int .i64) w A1 l1.length l1) (hc1 : l1.length ≤ c1) (h : spec_trNext.f l0_0 l1 a2 = some r) :
  Calls Try.prog 80 #[.agg #[.slice A0_0 l0_0.length c0_0], .slice A1 l1.length c1, .int .i64 a2] w fun e w' => e = .returned (.int .i64 r) ∧ Below w.heap.size w w' := by
 have hu29 := Try.underlying29
 have HR0_0 := za0.mk hr0_0
 have HC0_0 := za0.mk hc0_0
 clear hr0_0 hc0_0
 have HR1 := za0.mk hr1
 have HC1 := za0.mk hc1
 clear hr1 hc1
 have HB := za0.mk (Below.refl w.heap.size w)
 have H : (if 0 ≤ a2 then (if a2 < (l0_0.length : Int) then (if ((rd_L1 l0_0 a2).length : Int) = 0 then (some (-1)) else (if a2 < (l1.length : Int) then (if 0 ≤ (rd l1 a2) then (if (rd l1 a2) < ((rd_L1 l0_0 a2).length : Int) then (some (rd (rd_L1 l0_0 a2) (rd l1 a2))) else (none)) else (none)) else (none))) else (none)) else (none)) = some r := h
 clear h
 by_cases c4 : 0 ≤ a2
 ·rw [if_pos c4] at H
  have c4b0 : decide (0 ≤ a2) = true := decide_eq_true c4
  clear c4
  by_cases c5 : a2 < (l0_0.length : Int)
  ·rw [if_pos c5] at H
   have c5b0 : decide (a2 < (l0_0.length : Int)) = true := decide_eq_true c5
   clear c5
   by_cases c6 : ((rd_L1 l0_0 a2).length : Int) = 0
   ·rw [if_pos c6] at H
    have c6b0 : (((rd_L1 l0_0 a2).length : Int) == 0) = true := beq_iff_eq.mpr c6
    have c6b1 : (((rd_L1 l0_0 a2).length : Int) != 0) = false := bne_eq_false_iff_eq.mpr c6
    clear c6
    obtain rfl := Option.some.inj H
    go_enter Try.func80, Try.ntmps80
    go_wp2_with (first | ((with_reducible refine zn0 (N := 3) rfl ?_); refine zo0 ?hg (N := 3) ?hd (cs := #[.slice A0_0 l0_0.length c0_0]) (t := 29) ?hr ?_; (case hd => rfl); (case hg => rfl); (case hr => first | (go_simp; done) | (go_simp; rfl)); intro gb259 hg w7 hbox hb; have n0_ := za0.mk (zj0 (by repeat (first | (with_reducible first | exact HB.out | apply zc0 | apply zb0 | apply zd0) | exact HB.out)) hb); have n1_ := za0.mk (hbox); have n2_ := za0.mk ((by rw [hg]; exact (zg0 (by repeat (first | (with_reducible first | exact HB.out | apply zc0 | apply zb0 | apply zd0) | exact HB.out))) : w.heap.size ≤ gb259)); have n3_ := za0.mk ((by rw [hg]; exact (zg0 (by repeat (first | (with_reducible first | exact HB.out | apply zc0 | apply zb0 | apply zd0) | exact HB.out))) : w.heap.size ≤ gb259)); clear HB; have HB := n0_; have BK259 := n1_; have GW259 := n2_; have GE259 := n3_; clear n0_ n1_ n2_ n3_; clear hb hbox hg; have hcz8_0 : w7.cell? ⟨gb259, 0, none⟩ = some (.slice A0_0 l0_0.length c0_0) := (zk0 BK259.out 0).trans rfl; have hfz8_0 := zm0 BK259.out 0; have p260 : 0 ≤ (a2 : Int) := of_decide_eq_true (by first | (with_reducible assumption) | assumption); have q260 : a2 < (l0_0.length : Int) := of_decide_eq_true (by first | (with_reducible assumption) | assumption); obtain ⟨ad260, A260_0, c260_0, e260, hx260_0, hl260_0, hi260_0⟩ := at_L1 HR0_0.out a2 p260 q260; cases e260; replace hx260_0 := (HB.out.cell (World.block_lt_of_cell? w _ hx260_0)).trans hx260_0; have HR260_0 := za0.mk hi260_0; have HC260_0 := za0.mk hl260_0; clear hi260_0 hl260_0; replace p260 := eq_true p260; replace q260 := eq_true q260))
    repeat (go_quiet (first | ((with_reducible refine zn0 (N := 3) rfl ?_); refine zo0 ?hg (N := 3) ?hd (cs := #[.slice A0_0 l0_0.length c0_0]) (t := 29) ?hr ?_; (case hd => rfl); (case hg => rfl); (case hr => first | (go_simp; done) | (go_simp; rfl)); intro gb259 hg w7 hbox hb; have n0_ := za0.mk (zj0 (by repeat (first | (with_reducible first | exact HB.out | apply zc0 | apply zb0 | apply zd0) | exact HB.out)) hb); have n1_ := za0.mk (hbox); have n2_ := za0.mk ((by rw [hg]; exact (zg0 (by repeat (first | (with_reducible first | exact HB.out | apply zc0 | apply zb0 | apply zd0) | exact HB.out))) : w.heap.size ≤ gb259)); have n3_ := za0.mk ((by rw [hg]; exact (zg0 (by repeat (first | (with_reducible first | exact HB.out | apply zc0 | apply zb0 | apply zd0) | exact HB.out))) : w.heap.size ≤ gb259)); clear HB; have HB := n0_; have BK259 := n1_; have GW259 := n2_; have GE259 := n3_; clear n0_ n1_ n2_ n3_; clear hb hbox hg; have hcz8_0 : w7.cell? ⟨gb259, 0, none⟩ = some (.slice A0_0 l0_0.length c0_0) := (zk0 BK259.out 0).trans rfl; have hfz8_0 := zm0 BK259.out 0; have p260 : 0 ≤ (a2 : Int) := of_decide_eq_true (by first | (with_reducible assumption) | assumption); have q260 : a2 < (l0_0.length : Int) := of_decide_eq_true (by first | (with_reducible assumption) | assumption); obtain ⟨ad260, A260_0, c260_0, e260, hx260_0, hl260_0, hi260_0⟩ := at_L1 HR0_0.out a2 p260 q260; cases e260; replace hx260_0 := (HB.out.cell (World.block_lt_of_cell? w _ hx260_0)).trans hx260_0; have HR260_0 := za0.mk hi260_0; have HC260_0 := za0.mk hl260_0; clear hi260_0 hl260_0; replace p260 := eq_true p260; replace q260 := eq_true q260)); try go_wp2_with (first | ((with_reducible refine zn0 (N := 3) rfl ?_); refine zo0 ?hg (N := 3) ?hd (cs := #[.slice A0_0 l0_0.length c0_0]) (t := 29) ?hr ?_; (case hd => rfl); (case hg => rfl); (case hr => first | (go_simp; done) | (go_simp; rfl)); intro gb259 hg w7 hbox hb; have n0_ := za0.mk (zj0 (by repeat (first | (with_reducible first | exact HB.out | apply zc0 | apply zb0 | apply zd0) | exact HB.out)) hb); have n1_ := za0.mk (hbox); have n2_ := za0.mk ((by rw [hg]; exact (zg0 (by repeat (first | (with_reducible first | exact HB.out | apply zc0 | apply zb0 | apply zd0) | exact HB.out))) : w.heap.size ≤ gb259)); have n3_ := za0.mk ((by rw [hg]; exact (zg0 (by repeat (first | (with_reducible first | exact HB.out | apply zc0 | apply zb0 | apply zd0) | exact HB.out))) : w.heap.size ≤ gb259)); clear HB; have HB := n0_; have BK259 := n1_; have GW259 := n2_; have GE259 := n3_; clear n0_ n1_ n2_ n3_; clear hb hbox hg; have hcz8_0 : w7.cell? ⟨gb259, 0, none⟩ = some (.slice A0_0 l0_0.length c0_0) := (zk0 BK259.out 0).trans rfl; have hfz8_0 := zm0 BK259.out 0; have p260 : 0 ≤ (a2 : Int) := of_decide_eq_true (by first | (with_reducible assumption) | assumption); have q260 : a2 < (l0_0.length : Int) := of_decide_eq_true (by first | (with_reducible assumption) | assumption); obtain ⟨ad260, A260_0, c260_0, e260, hx260_0, hl260_0, hi260_0⟩ := at_L1 HR0_0.out a2 p260 q260; cases e260; replace hx260_0 := (HB.out.cell (World.block_lt_of_cell? w _ hx260_0)).trans hx260_0; have HR260_0 := za0.mk hi260_0; have HC260_0 := za0.mk hl260_0; clear hi260_0 hl260_0; replace p260 := eq_true p260; replace q260 := eq_true q260)))
    go_ret
    exact ⟨by first | rfl | (simp [errW_none, errW_some] <;> rfl) | (simp [*, errW_none, errW_some] <;> rfl), by repeat (first | (with_reducible first | exact HB.out | apply zc0 | apply zb0 | apply zd0 | refine ze0 ?_ GE259.out) | exact HB.out)⟩
   ·rw [if_neg c6] at H
    have c6b0 : (((rd_L1 l0_0 a2).length : Int) == 0) = false := beq_eq_false_iff_ne.mpr c6
    have c6b1 : (((rd_L1 l0_0 a2).length : Int) != 0) = true := bne_iff_ne.mpr c6
    have c6b2 : ¬ ((rd_L1 l0_0 a2) = []) := fun h_ => c6 (by rw [h_]; rfl)
    by_cases c9 : a2 < (l1.length : Int)
    ·rw [if_pos c9] at H
     have c9b0 : decide (a2 < (l1.length : Int)) = true := decide_eq_true c9
     clear c9
     by_cases c10 : 0 ≤ (rd l1 a2)
     ·rw [if_pos c10] at H
      have c10b0 : decide (0 ≤ (rd l1 a2)) = true := decide_eq_true c10
      clear c10
      by_cases c11 : (rd l1 a2) < ((rd_L1 l0_0 a2).length : Int)
      ·rw [if_pos c11] at H
       have c11b0 : decide ((rd l1 a2) < ((rd_L1 l0_0 a2).length : Int)) = true := decide_eq_true c11
       clear c11
       obtain rfl := Option.some.inj H
       go_enter Try.func80, Try.ntmps80
       go_wp2_with (first | ((with_reducible refine zn0 (N := 3) rfl ?_); refine zo0 ?hg (N := 3) ?hd (cs := #[.slice A0_0 l0_0.length c0_0]) (t := 29) ?hr ?_; (case hd => rfl); (case hg => rfl); (case hr => first | (go_simp; done) | (go_simp; rfl)); intro gb259 hg w12 hbox hb; have n0_ := za0.mk (zj0 (by repeat (first | (with_reducible first | exact HB.out | apply zc0 | apply zb0 | apply zd0) | exact HB.out)) hb); have n1_ := za0.mk (hbox); have n2_ := za0.mk ((by rw [hg]; exact (zg0 (by repeat (first | (with_reducible first | exact HB.out | apply zc0 | apply zb0 | apply zd0) | exact HB.out))) : w.heap.size ≤ gb259)); have n3_ := za0.mk ((by rw [hg]; exact (zg0 (by repeat (first | (with_reducible first | exact HB.out | apply zc0 | apply zb0 | apply zd0) | exact HB.out))) : w.heap.size ≤ gb259)); clear HB; have HB := n0_; have BK259 := n1_; have GW259 := n2_; have GE259 := n3_; clear n0_ n1_ n2_ n3_; clear hb hbox hg; have hcz13_0 : w12.cell? ⟨gb259, 0, none⟩ = some (.slice A0_0 l0_0.length c0_0) := (zk0 BK259.out 0).trans rfl; have hfz13_0 := zm0 BK259.out 0; have p260 : 0 ≤ (a2 : Int) := of_decide_eq_true (by first | (with_reducible assumption) | assumption); have q260 : a2 < (l0_0.length : Int) := of_decide_eq_true (by first | (with_reducible assumption) | assumption); obtain ⟨ad260, A260_0, c260_0, e260, hx260_0, hl260_0, hi260_0⟩ := at_L1 HR0_0.out a2 p260 q260; cases e260; replace hx260_0 := (HB.out.cell (World.block_lt_of_cell? w _ hx260_0)).trans hx260_0; have HR260_0 := za0.mk hi260_0; have HC260_0 := za0.mk hl260_0; clear hi260_0 hl260_0; replace p260 := eq_true p260; replace q260 := eq_true q260; have p261 : 0 ≤ (a2 : Int) := of_decide_eq_true (by first | (with_reducible assumption) | assumption); have q261 : a2 < (l0_0.length : Int) := of_decide_eq_true (by first | (with_reducible assumption) | assumption); obtain ⟨ad261, A261_0, c261_0, e261, hx261_0, hl261_0, hi261_0⟩ := at_L1 HR0_0.out a2 p261 q261; obtain rfl : ad260 = ad261 := (by injection e261); replace hx261_0 := (HB.out.cell (World.block_lt_of_cell? w _ hx261_0)).trans hx261_0; have HR261_0 := za0.mk hi261_0; have HC261_0 := za0.mk hl261_0; clear hi261_0 hl261_0; replace p261 := eq_true p261; replace q261 := eq_true q261; have ea_ := Option.some.inj (hx260_0.symm.trans hx261_0); injection ea_ with ea_ en_ ec_; subst ea_; subst ec_; clear en_; have p262 : 0 ≤ (a2 : Int) := of_decide_eq_true (by first | (with_reducible assumption) | assumption); have q262 : a2 < (l1.length : Int) := of_decide_eq_true (by first | (with_reducible assumption) | assumption); obtain ⟨ad262, e262, hx262_0⟩ := Kd.at_int HR1.out a2 p262 q262; cases e262; replace hx262_0 := (HB.out.cell (World.block_lt_of_cell? w _ hx262_0)).trans hx262_0; replace p262 := eq_true p262; replace q262 := eq_true q262; have p263 : 0 ≤ ((rd l1 a2) : Int) := of_decide_eq_true (by first | (with_reducible assumption) | assumption); have q263 : (rd l1 a2) < ((rd_L1 l0_0 a2).length : Int) := of_decide_eq_true (by first | (with_reducible assumption) | assumption); obtain ⟨ad263, e263, hx263_0⟩ := Kd.at_int HR261_0.out (rd l1 a2) p263 q263; cases e263; replace hx263_0 := (HB.out.cell (World.block_lt_of_cell? w _ hx263_0)).trans hx263_0; replace p263 := eq_true p263; replace q263 := eq_true q263))
       repeat (go_quiet (first | ((with_reducible refine zn0 (N := 3) rfl ?_); refine zo0 ?hg (N := 3) ?hd (cs := #[.slice A0_0 l0_0.length c0_0]) (t := 29) ?hr ?_; (case hd => rfl); (case hg => rfl); (case hr => first | (go_simp; done) | (go_simp; rfl)); intro gb259 hg w12 hbox hb; have n0_ := za0.mk (zj0 (by repeat (first | (with_reducible first | exact HB.out | apply zc0 | apply zb0 | apply zd0) | exact HB.out)) hb); have n1_ := za0.mk (hbox); have n2_ := za0.mk ((by rw [hg]; exact (zg0 (by repeat (first | (with_reducible first | exact HB.out | apply zc0 | apply zb0 | apply zd0) | exact HB.out))) : w.heap.size ≤ gb259)); have n3_ := za0.mk ((by rw [hg]; exact (zg0 (by repeat (first | (with_reducible first | exact HB.out | apply zc0 | apply zb0 | apply zd0) | exact HB.out))) : w.heap.size ≤ gb259)); clear HB; have HB := n0_; have BK259 := n1_; have GW259 := n2_; have GE259 := n3_; clear n0_ n1_ n2_ n3_; clear hb hbox hg; have hcz13_0 : w12.cell? ⟨gb259, 0, none⟩ = some (.slice A0_0 l0_0.length c0_0) := (zk0 BK259.out 0).trans rfl; have hfz13_0 := zm0 BK259.out 0; have p260 : 0 ≤ (a2 : Int) := of_decide_eq_true (by first | (with_reducible assumption) | assumption); have q260 : a2 < (l0_0.length : Int) := of_decide_eq_true (by first | (with_reducible assumption) | assumption); obtain ⟨ad260, A260_0, c260_0, e260, hx260_0, hl260_0, hi260_0⟩ := at_L1 HR0_0.out a2 p260 q260; cases e260; replace hx260_0 := (HB.out.cell (World.block_lt_of_cell? w _ hx260_0)).trans hx260_0; have HR260_0 := za0.mk hi260_0; have HC260_0 := za0.mk hl260_0; clear hi260_0 hl260_0; replace p260 := eq_true p260; replace q260 := eq_true q260; have p261 : 0 ≤ (a2 : Int) := of_decide_eq_true (by first | (with_reducible assumption) | assumption); have q261 : a2 < (l0_0.length : Int) := of_decide_eq_true (by first | (with_reducible assumption) | assumption); obtain ⟨ad261, A261_0, c261_0, e261, hx261_0, hl261_0, hi261_0⟩ := at_L1 HR0_0.out a2 p261 q261; obtain rfl : ad260 = ad261 := (by injection e261); replace hx261_0 := (HB.out.cell (World.block_lt_of_cell? w _ hx261_0)).trans hx261_0; have HR261_0 := za0.mk hi261_0; have HC261_0 := za0.mk hl261_0; clear hi261_0 hl261_0; replace p261 := eq_true p261; replace q261 := eq_true q261; have ea_ := Option.some.inj (hx260_0.symm.trans hx261_0); injection ea_ with ea_ en_ ec_; subst ea_; subst ec_; clear en_; have p262 : 0 ≤ (a2 : Int) := of_decide_eq_true (by first | (with_reducible assumption) | assumption); have q262 : a2 < (l1.length : Int) := of_decide_eq_true (by first | (with_reducible assumption) | assumption); obtain ⟨ad262, e262, hx262_0⟩ := Kd.at_int HR1.out a2 p262 q262; cases e262; replace hx262_0 := (HB.out.cell (World.block_lt_of_cell? w _ hx262_0)).trans hx262_0; replace p262 := eq_true p262; replace q262 := eq_true q262; have p263 : 0 ≤ ((rd l1 a2) : Int) := of_decide_eq_true (by first | (with_reducible assumption) | assumption); have q263 : (rd l1 a2) < ((rd_L1 l0_0 a2).length : Int) := of_decide_eq_true (by first | (with_reducible assumption) | assumption); obtain ⟨ad263, e263, hx263_0⟩ := Kd.at_int HR261_0.out (rd l1 a2) p263 q263; cases e263; replace hx263_0 := (HB.out.cell (World.block_lt_of_cell? w _ hx263_0)).trans hx263_0; replace p263 := eq_true p263; replace q263 := eq_true q263)); try go_wp2_with (first | ((with_reducible refine zn0 (N := 3) rfl ?_); refine zo0 ?hg (N := 3) ?hd (cs := #[.slice A0_0 l0_0.length c0_0]) (t := 29) ?hr ?_; (case hd => rfl); (case hg => rfl); (case hr => first | (go_simp; done) | (go_simp; rfl)); intro gb259 hg w12 hbox hb; have n0_ := za0.mk (zj0 (by repeat (first | (with_reducible first | exact HB.out | apply zc0 | apply zb0 | apply zd0) | exact HB.out)) hb); have n1_ := za0.mk (hbox); have n2_ := za0.mk ((by rw [hg]; exact (zg0 (by repeat (first | (with_reducible first | exact HB.out | apply zc0 | apply zb0 | apply zd0) | exact HB.out))) : w.heap.size ≤ gb259)); have n3_ := za0.mk ((by rw [hg]; exact (zg0 (by repeat (first | (with_reducible first | exact HB.out | apply zc0 | apply zb0 | apply zd0) | exact HB.out))) : w.heap.size ≤ gb259)); clear HB; have HB := n0_; have BK259 := n1_; have GW259 := n2_; have GE259 := n3_; clear n0_ n1_ n2_ n3_; clear hb hbox hg; have hcz13_0 : w12.cell? ⟨gb259, 0, none⟩ = some (.slice A0_0 l0_0.length c0_0) := (zk0 BK259.out 0).trans rfl; have hfz13_0 := zm0 BK259.out 0; have p260 : 0 ≤ (a2 : Int) := of_decide_eq_true (by first | (with_reducible assumption) | assumption); have q260 : a2 < (l0_0.length : Int) := of_decide_eq_true (by first | (with_reducible assumption) | assumption); obtain ⟨ad260, A260_0, c260_0, e260, hx260_0, hl260_0, hi260_0⟩ := at_L1 HR0_0.out a2 p260 q260; cases e260; replace hx260_0 := (HB.out.cell (World.block_lt_of_cell? w _ hx260_0)).trans hx260_0; have HR260_0 := za0.mk hi260_0; have HC260_0 := za0.mk hl260_0; clear hi260_0 hl260_0; replace p260 := eq_true p260; replace q260 := eq_true q260; have p261 : 0 ≤ (a2 : Int) := of_decide_eq_true (by first | (with_reducible assumption) | assumption); have q261 : a2 < (l0_0.length : Int) := of_decide_eq_true (by first | (with_reducible assumption) | assumption); obtain ⟨ad261, A261_0, c261_0, e261, hx261_0, hl261_0, hi261_0⟩ := at_L1 HR0_0.out a2 p261 q261; obtain rfl : ad260 = ad261 := (by injection e261); replace hx261_0 := (HB.out.cell (World.block_lt_of_cell? w _ hx261_0)).trans hx261_0; have HR261_0 := za0.mk hi261_0; have HC261_0 := za0.mk hl261_0; clear hi261_0 hl261_0; replace p261 := eq_true p261; replace q261 := eq_true q261; have ea_ := Option.some.inj (hx260_0.symm.trans hx261_0); injection ea_ with ea_ en_ ec_; subst ea_; subst ec_; clear en_; have p262 : 0 ≤ (a2 : Int) := of_decide_eq_true (by first | (with_reducible assumption) | assumption); have q262 : a2 < (l1.length : Int) := of_decide_eq_true (by first | (with_reducible assumption) | assumption); obtain ⟨ad262, e262, hx262_0⟩ := Kd.at_int HR1.out a2 p262 q262; cases e262; replace hx262_0 := (HB.out.cell (World.block_lt_of_cell? w _ hx262_0)).trans hx262_0; replace p262 := eq_true p262; replace q262 := eq_true q262; have p263 : 0 ≤ ((rd l1 a2) : Int) := of_decide_eq_true (by first | (with_reducible assumption) | assumption); have q263 : (rd l1 a2) < ((rd_L1 l0_0 a2).length : Int) := of_decide_eq_true (by first | (with_reducible assumption) | assumption); obtain ⟨ad263, e263, hx263_0⟩ := Kd.at_int HR261_0.out (rd l1 a2) p263 q263; cases e263; replace hx263_0 := (HB.out.cell (World.block_lt_of_cell? w _ hx263_0)).trans hx263_0; replace p263 := eq_true p263; replace q263 := eq_true q263)))
       go_ret
       exact ⟨by first | rfl | (simp [errW_none, errW_some] <;> rfl) | (simp [*, errW_none, errW_some] <;> rfl), by repeat (first | (with_reducible first | exact HB.out | apply zc0 | apply zb0 | apply zd0 | refine ze0 ?_ GE259.out) | exact HB.out)⟩
      ·rw [if_neg c11] at H
       exact absurd H (by simp)
     ·rw [if_neg c10] at H
      exact absurd H (by simp)
    ·rw [if_neg c9] at H
     exact absurd H (by simp)
  ·rw [if_neg c5] at H
   exact absurd H (by simp)
 ·rw [if_neg c4] at H
  exact absurd H (by simp)
def spec_l1Own.f (l0 : List Int) : Option (List Int) := (some (([] : List Int) : List Int)).bind fun y264 => (if y264.length + l0.length < 17592186044416 then (some (y264 ++ l0)) else (none))
set_option maxHeartbeats 8000000 in
set_option maxRecDepth 100000 in
theorem spec_l1Own.calls (A0 : Option Addr) (c0 : Nat) (l0 : List Int) (r : List Int) (w : World) (hr0 : Kd.C (Kd.int .i64) w A0 l0.length l0) (hc0 : l0.length ≤ c0) (h : spec_l1Own.f l0 = some r) :
  Calls Try.prog 46 #[.slice A0 l0.length c0] w fun e w' => ∃ v0_ : Value, e = .returned (v0_) ∧ Kd.R (Kd.int .i64) 3 w' w.heap.size (fun _ => True) v0_ r ∧ Below w.heap.size w w' := by
 have HR0 := za0.mk hr0
 have HC0 := za0.mk hc0
 clear hr0 hc0
 have HB := za0.mk (Below.refl w.heap.size w)
 have H : ((some (([] : List Int) : List Int)).bind fun y264 => (if y264.length + l0.length < 17592186044416 then (some (y264 ++ l0)) else (none))) = some r := h
 clear h
 obtain ⟨y264, hy264⟩ : ∃ y_ : List Int, y_ = (([] : List Int)) := ⟨_, rfl⟩
 replace H : (if y264.length + l0.length < 17592186044416 then (some (y264 ++ l0)) else (none)) = some r := by first | (rw [hy264]; with_reducible exact H) | (have H2_ := (Option.bind_some _ _).symm.trans H; rw [hy264]; with_reducible exact H2_) | (have H2_ := (Option.bind_some _ _).symm.trans H; with_reducible exact H2_) | with_reducible exact H | (rw [hy264]; exact H) | exact H
 have Ny264 := za0.mk hy264
 clear hy264
 by_cases c2 : y264.length + l0.length < 17592186044416
 ·rw [if_pos c2] at H
  have LMc2 := za0.mk c2
  clear c2
  obtain ⟨y267, hy267⟩ : ∃ y_ : List Int, y_ = (y264 ++ l0) := ⟨_, rfl⟩
  replace H : (some y267) = some r := by first | (rw [hy267]; with_reducible exact H) | (have H2_ := (Option.bind_some _ _).symm.trans H; rw [hy267]; with_reducible exact H2_) | (have H2_ := (Option.bind_some _ _).symm.trans H; with_reducible exact H2_) | with_reducible exact H | (rw [hy267]; exact H) | exact H
  have Ny267 := za0.mk hy267
  clear hy267
  obtain rfl := Option.some.inj H
  go_enter Try.func46, Try.ntmps46
  go_wp2_with (first | ((with_reducible refine zn0 (N := 3) rfl ?_); refine Kd.R_lit (Kd.int .i64) _ 3 ?hg (N := 3) ?hd (xs := ([] : List Int)) (inner := []) (ok := fun _ => True) (okp := fun _ => True) ?hr ?hp (fun _ hk => hk) trivial (Below.refl _ _) (Nat.le_refl _) (by simp) ?_; (case hd => rfl); (case hg => rfl); (case hr => first | (go_simp; done) | (go_simp; rfl)); (case hp => exact (Reps.none _ _)); intro v265 w3 ho4 hb hg_ hnew_; clear hg_ hnew_; (first | rw [← Ny264.out] at ho4 | (simp only [Int.reduceToNat] at ho4; rw [← Ny264.out] at ho4)); have n0_ := za0.mk (Kd.R_lower ho4 (zg0 (by repeat (first | (with_reducible first | exact HB.out | apply zc0 | apply zb0 | apply zd0) | exact HB.out)))); have n1_ := za0.mk (zj0 (by repeat (first | (with_reducible first | exact HB.out | apply zc0 | apply zb0 | apply zd0) | exact HB.out)) hb); clear HB; have HO266 := n0_; have HB := n1_; clear n0_ n1_; clear hb ho4) | ((with_reducible refine gate_builtin (b := .append) (xs := #[.tmp 3, .tmp 4]) rfl ?_); at_builtin; refine Kd.R_append_rows (Kd.int .i64) (w0 := w) w.heap.size rfl (.tmp 3) (.tmp 4) 25 3 (.int .i64 0) 8 rfl Try.underlying25 info3 rfl (by decide) (by omega) v265 y264 l0 _ _ _ (fun _ => True) (fun _ => False) rfl rfl ?aO ?aR (fun _ _ h => h) (fun _ h => h.elim) ?aF ?aB ?aS ?aL ?_; (case aR => repeat (first | exact (Kd.C_below HR0.out HB.out) | (with_reducible refine Kd.C_alloc ?_ _) | (with_reducible refine Kd.C_drewN ?_ _) | (with_reducible refine Kd.C_drew ?_))); (case aB => exact (by repeat (first | (with_reducible first | exact HB.out | apply zc0 | apply zb0 | apply zd0) | exact HB.out))); (case aF => exact (fun _ _ => trivial)); (case aO => exact (by (with_reducible repeat (first | apply Kd.R_alloc | apply Kd.R_drewN | apply Kd.R_drew)); exact HO266.out)); (case aS => exact (zg0 (by repeat (first | (with_reducible first | exact HB.out | apply zc0 | apply zb0 | apply zd0) | exact HB.out)))); (case aL => have := LMc2.out; omega); intro v268 w5 ho hb hg hat; rw [← Ny267.out] at ho; have n0_ := za0.mk (hb); have n1_ := za0.mk (ho); clear HB; clear HO266; have HB := n0_; have HO269 := n1_; clear n0_ n1_; clear ho hb hg hat))
  go_ret
  exact ⟨_, by first | rfl | (simp [errW_none, errW_some] <;> rfl) | (simp [*, errW_none, errW_some] <;> rfl), by (with_reducible repeat (first | apply Kd.R_alloc | apply Kd.R_drewN | apply Kd.R_drew)); exact HO269.out, by repeat (first | (with_reducible first | exact HB.out | apply zc0 | apply zb0 | apply zd0) | exact HB.out)⟩
 ·rw [if_neg c2] at H
  exact absurd H (by simp)
def loopsL (g : List (List Int)) (rot : List Int) (s p : Int) : Nat → Int → Int → Option Bool
 | 0, _, _ => none
 | k + 1, q, n => if n ≤ (g.length : Int) then (if q = s then some false else (if p < q then some false else ((spec_trNext.f g rot q).bind fun q2 => if q2 < 0 then some true else loopsL g rot s p k q2 (wrap64 (n + 1))))) else some true
set_option maxHeartbeats 8000000 in
set_option maxRecDepth 100000 in
theorem trSearch_loops.calls (k : Nat) (B c0 c2 : Nat) (A0 A2 : Option Addr) (l : List (List Int)) (s p : Int) (rot : List Int) (n2 : Nat) (hn2 : n2 = rot.length) (fv : Value) (most : Int) (r : Bool) (w : World)
  (hr0 : Kd.C (Kd.slice 3 (Kd.int .i64)) w A0 l.length l) (hc0 : l.length ≤ c0) (hr2 : Kd.C (Kd.int .i64) w A2 rot.length rot) (hc2 : rot.length ≤ c2)
  (hS : w.heap[B]? = some (.cells #[.slice A0 l.length c0, .int .i64 s, .slice A2 n2 c2, fv, .int .i64 most] 86 (0, 0)))
  (h : loopsL l rot s p k p 0 = some r) :
  Calls Try.prog 84 #[.pointer (some ⟨B, 0, none⟩), .int .i64 p] w fun e w' => e = .returned (.bool r) ∧ Below w.heap.size w w' := by
 subst hn2
 have hu1 := Try.underlying29
 have hu2 := Try.underlying86
 have HR0_0 := za0.mk hr0
 have HC0_0 := za0.mk hc0
 have HR2 := za0.mk hr2
 have HC2 := za0.mk hc2
 have BKS := za0.mk hS
 clear hr0 hc0 hr2 hc2 hS
 have HB := za0.mk (Below.refl w.heap.size w)
 have H' := za0.mk h
 clear h
 go_enter Try.func84, Try.ntmps84
 go_wp2_with (fail)
 go_loopg [5, 6] k (fun kq v5 v6 w' => ∃ (q : Int) (n : Int), v5 = .int .i64 q ∧ v6 = .int .i64 n ∧ za0 (loopsL l rot s p kq q n = some r) ∧ za0 (kq ≤ k) ∧ za0 (w'.heap[B]? = some (.cells #[.slice A0 l.length c0, .int .i64 s, .slice A2 rot.length c2, fv, .int .i64 most] 86 (0, 0))) ∧ za0 (Below w.heap.size w w'))
 case atStart => exact ⟨p, 0, rfl, rfl, H', ⟨Nat.le_refl _⟩, BKS, ⟨by repeat (first | (with_reducible first | exact HB.out | apply zc0 | apply zb0 | apply zd0) | exact HB.out)⟩⟩
 case round =>
  clear H' BKS
  obtain ⟨q, n, rfl, rfl, HA, HK1, BKS, HB⟩ := hrel
  cases gk with
  | zero => exact absurd HA.out (by simp [loopsL])
  | succ k1 =>
   have H := HA.out
   clear HA
   simp only [loopsL] at H
   have hcz0 : wr.cell? ⟨B, 0, none⟩ = some (.slice A0 l.length c0) := (zk0 BKS.out 0).trans rfl
   have hfz0 := zm0 BKS.out 0
   have hcz1 : wr.cell? ⟨B, 1, none⟩ = some (.int .i64 s) := (zk0 BKS.out 1).trans rfl
   have hfz1 := zm0 BKS.out 1
   have hcz2 : wr.cell? ⟨B, 2, none⟩ = some (.slice A2 rot.length c2) := (zk0 BKS.out 2).trans rfl
   have hfz2 := zm0 BKS.out 2
   by_cases c6 : n ≤ (l.length : Int)
   ·rw [if_pos c6] at H
    have c6b0 : decide (n ≤ (l.length : Int)) = true := decide_eq_true c6
    clear c6
    by_cases c7 : q = s
    ·rw [if_pos c7] at H
     have c7b0 : (q == s) = true := beq_iff_eq.mpr c7
     clear c7
     obtain rfl := Option.some.inj H
     go_wp2
     go_ret
     exact ⟨by first | rfl | (simp; done), by repeat (first | (with_reducible first | exact HB.out | apply zc0 | apply zb0 | apply zd0) | exact HB.out)⟩
    ·rw [if_neg c7] at H
     have c7b0 : (q == s) = false := beq_eq_false_iff_ne.mpr c7
     clear c7
     by_cases c8 : p < q
     ·rw [if_pos c8] at H
      have c8b0 : decide (p < q) = true := decide_eq_true c8
      have c8b1 : decide (q > p) = true := decide_eq_true c8
      clear c8
      obtain rfl := Option.some.inj H
      go_wp2
      go_ret
      exact ⟨by first | rfl | (simp; done), by repeat (first | (with_reducible first | exact HB.out | apply zc0 | apply zb0 | apply zd0) | exact HB.out)⟩
     ·rw [if_neg c8] at H
      have c8b0 : decide (p < q) = false := decide_eq_false c8
      have c8b1 : decide (q > p) = false := decide_eq_false c8
      clear c8
      replace H := Option.bind_eq_some_iff.mp H
      obtain ⟨q2, A90, H⟩ := H
      replace H : (if q2 < 0 then some true else loopsL l rot s p k1 q2 (wrap64 (n + 1))) = some r := H
      have A9 := za0.mk A90
      clear A90
      by_cases c10 : q2 < 0
      ·rw [if_pos c10] at H
       have c10b0 : decide (q2 < 0) = true := decide_eq_true c10
       clear c10
       obtain rfl := Option.some.inj H
       go_wp2
       refine start_ (n := 11) (S := fun w' => w'.cell? ⟨B, 0, none⟩ = some (.slice A0 l.length c0) ∧ w'.cell? ⟨B, 2, none⟩ = some (.slice A2 rot.length c2)) (ds := []) #[false, false, false, false, false, false, false, false, false, false, false] (by kernel_rfl) rfl rfl ⟨hcz0, hcz2⟩ (fun hHeld => ?_)
       refine pure_ (i := 0) (N := some 29) (v := ?_) (a' := ?_) (bf 11 1) rfl rfl (by kernel_rfl) (fun _ _ _ h => h) (Or.inl ⟨by rfl, ?_⟩) ?_ ?_
       rotate_left
       ·intro w'; go_simp; with_reducible rfl
       rotate_left
       ·simp only [Act.put, zA, zB, zC, i64_w, i32_w]; rfl
       refine pure_ (i := 1) (N := some 30) (v := ?_) (a' := ?_) (bf 11 3) rfl rfl (by kernel_rfl) (fun _ _ _ h => h) (Or.inl ⟨by rfl, ?_⟩) ?_ ?_
       rotate_left
       ·intro w'; go_simp; with_reducible rfl
       rotate_left
       ·simp only [Act.put, zA, zB, zC, i64_w, i32_w]; rfl
       refine pure_ (i := 2) (N := some 31) (v := ?_) (a' := ?_) (bf 11 7) rfl rfl (by kernel_rfl) (fun _ _ _ h => h) (Or.inl ⟨by rfl, ?_⟩) ?_ ?_
       rotate_left
       ·intro w'; go_simp; with_reducible rfl
       rotate_left
       ·simp only [Act.put, zA, zB, zC, i64_w, i32_w]; rfl
       refine take_ (i := 3) (N := some 32) (v := ?_) (a' := ?_) (bf 11 15) rfl rfl (by kernel_rfl) (fun _ _ _ h => h) (Or.inl ⟨by rfl, ?_⟩) hHeld ?_ ?_
       rotate_left
       ·rintro w' ⟨s0, s1⟩; go_simp; with_reducible rfl
       rotate_left
       ·simp only [Act.put, zA, zB, zC, i64_w, i32_w]; rfl
       refine pure_ (i := 4) (N := some 33) (v := ?_) (a' := ?_) (bf 11 31) rfl rfl (by kernel_rfl) (fun _ _ _ h => h) (Or.inl ⟨by rfl, ?_⟩) ?_ ?_
       rotate_left
       ·intro w'; go_simp; with_reducible rfl
       rotate_left
       ·simp only [Act.put, zA, zB, zC, i64_w, i32_w]; rfl
       refine pure_ (i := 5) (N := some 34) (v := ?_) (a' := ?_) (bf 11 63) rfl rfl (by kernel_rfl) (fun _ _ _ h => h) (Or.inl ⟨by rfl, ?_⟩) ?_ ?_
       rotate_left
       ·intro w'; go_simp; with_reducible rfl
       rotate_left
       ·simp only [Act.put, zA, zB, zC, i64_w, i32_w]; rfl
       refine pure_ (i := 6) (N := some 35) (v := ?_) (a' := ?_) (bf 11 127) rfl rfl (by kernel_rfl) (fun _ _ _ h => h) (Or.inl ⟨by rfl, ?_⟩) ?_ ?_
       rotate_left
       ·intro w'; go_simp; with_reducible rfl
       rotate_left
       ·simp only [Act.put, zA, zB, zC, i64_w, i32_w]; rfl
       refine take_ (i := 7) (N := some 36) (v := ?_) (a' := ?_) (bf 11 255) rfl rfl (by kernel_rfl) (fun _ _ _ h => h) (Or.inl ⟨by rfl, ?_⟩) hHeld ?_ ?_
       rotate_left
       ·rintro w' ⟨s0, s1⟩; go_simp; with_reducible rfl
       rotate_left
       ·simp only [Act.put, zA, zB, zC, i64_w, i32_w]; rfl
       refine pure_ (i := 8) (N := some 37) (v := ?_) (a' := ?_) (bf 11 511) rfl rfl (by kernel_rfl) (fun _ _ _ h => h) (Or.inl ⟨by rfl, ?_⟩) ?_ ?_
       rotate_left
       ·intro w'; go_simp; with_reducible rfl
       rotate_left
       ·simp only [Act.put, zA, zB, zC, i64_w, i32_w]; rfl
       refine one_ (i := 9) (N := some 38) (bf 11 1023) rfl rfl (by kernel_rfl) (by decide) (fun K hK => ?_)
       refine goes_ Try.func80 (by kernel_rfl) rfl #[.agg #[.slice A0 l.length c0], .slice A2 rot.length c2, .int .i64 q] (by rfl) rfl rfl (by (try simp only [List.map_toArray, List.map_cons, List.map_nil]); first | done | rfl) ?_
       with_reducible refine (spec_trNext.calls _ _ l _ _ rot q q2 _ ?side1 ?side2 ?side3 ?side4 A9.out).mono ?_
       (case side1 => exact Kd.C_drew (Kd.C_below HR0_0.out HB.out))
       (case side2 => exact HC0_0.out)
       (case side3 => exact Kd.C_drew (Kd.C_below HR2.out HB.out))
       (case side4 => exact HC2.out)
       rintro e w12 ⟨rfl, hb⟩
       refine ⟨_, rfl, ?_⟩
       have n1_ := za0.mk (zj0 (by repeat (first | (with_reducible first | exact HB.out | apply zc0 | apply zb0 | apply zd0) | exact HB.out)) hb)
       have n2_ := za0.mk (zl0 (g := B) (by (with_reducible repeat (first | refine zh0 ?_ _ | refine zi0 ?_ | refine zf0 ?_ _)); exact BKS.out) hb)
       clear HB BKS
       have HB := n1_
       have BKS := n2_
       clear n1_ n2_ hb
       refine hK.out _ _ ⟨(zk0 BKS.out 0).trans rfl, (zk0 BKS.out 2).trans rfl⟩ (fun hHeld => ?_)
       clear hK K
       refine norm_ (a' := ?_) ?_ ?_
       rotate_left
       ·show Act.put _ (some 38) _ = _; simp only [Act.put, zA, zB, zC, i64_w, i32_w]; rfl
       refine pure_ (i := 10) (N := some 5) (v := ?_) (a' := ?_) (bf 11 2047) rfl rfl (by kernel_rfl) (fun _ _ _ h => h) (Or.inl ⟨by rfl, ?_⟩) ?_ ?_
       rotate_left
       ·intro w'; go_simp; with_reducible rfl
       rotate_left
       ·simp only [Act.put, zA, zB, zC, i64_w, i32_w]; rfl
       refine done_ (by kernel_rfl) ?_
       go_wp2
       go_ret
       exact ⟨by first | rfl | (simp; done), by repeat (first | (with_reducible first | exact HB.out | apply zc0 | apply zb0 | apply zd0) | exact HB.out)⟩
      ·rw [if_neg c10] at H
       have c10b0 : decide (q2 < 0) = false := decide_eq_false c10
       clear c10
       have H' := za0.mk H
       clear H
       go_wp2
       refine start_ (n := 11) (S := fun w' => w'.cell? ⟨B, 0, none⟩ = some (.slice A0 l.length c0) ∧ w'.cell? ⟨B, 2, none⟩ = some (.slice A2 rot.length c2)) (ds := []) #[false, false, false, false, false, false, false, false, false, false, false] (by kernel_rfl) rfl rfl ⟨hcz0, hcz2⟩ (fun hHeld => ?_)
       refine pure_ (i := 0) (N := some 29) (v := ?_) (a' := ?_) (bf 11 1) rfl rfl (by kernel_rfl) (fun _ _ _ h => h) (Or.inl ⟨by rfl, ?_⟩) ?_ ?_
       rotate_left
       ·intro w'; go_simp; with_reducible rfl
       rotate_left
       ·simp only [Act.put, zA, zB, zC, i64_w, i32_w]; rfl
       refine pure_ (i := 1) (N := some 30) (v := ?_) (a' := ?_) (bf 11 3) rfl rfl (by kernel_rfl) (fun _ _ _ h => h) (Or.inl ⟨by rfl, ?_⟩) ?_ ?_
       rotate_left
       ·intro w'; go_simp; with_reducible rfl
       rotate_left
       ·simp only [Act.put, zA, zB, zC, i64_w, i32_w]; rfl
       refine pure_ (i := 2) (N := some 31) (v := ?_) (a' := ?_) (bf 11 7) rfl rfl (by kernel_rfl) (fun _ _ _ h => h) (Or.inl ⟨by rfl, ?_⟩) ?_ ?_
       rotate_left
       ·intro w'; go_simp; with_reducible rfl
       rotate_left
       ·simp only [Act.put, zA, zB, zC, i64_w, i32_w]; rfl
       refine take_ (i := 3) (N := some 32) (v := ?_) (a' := ?_) (bf 11 15) rfl rfl (by kernel_rfl) (fun _ _ _ h => h) (Or.inl ⟨by rfl, ?_⟩) hHeld ?_ ?_
       rotate_left
       ·rintro w' ⟨s0, s1⟩; go_simp; with_reducible rfl
       rotate_left
       ·simp only [Act.put, zA, zB, zC, i64_w, i32_w]; rfl
       refine pure_ (i := 4) (N := some 33) (v := ?_) (a' := ?_) (bf 11 31) rfl rfl (by kernel_rfl) (fun _ _ _ h => h) (Or.inl ⟨by rfl, ?_⟩) ?_ ?_
       rotate_left
       ·intro w'; go_simp; with_reducible rfl
       rotate_left
       ·simp only [Act.put, zA, zB, zC, i64_w, i32_w]; rfl
       refine pure_ (i := 5) (N := some 34) (v := ?_) (a' := ?_) (bf 11 63) rfl rfl (by kernel_rfl) (fun _ _ _ h => h) (Or.inl ⟨by rfl, ?_⟩) ?_ ?_
       rotate_left
       ·intro w'; go_simp; with_reducible rfl
       rotate_left
       ·simp only [Act.put, zA, zB, zC, i64_w, i32_w]; rfl
       refine pure_ (i := 6) (N := some 35) (v := ?_) (a' := ?_) (bf 11 127) rfl rfl (by kernel_rfl) (fun _ _ _ h => h) (Or.inl ⟨by rfl, ?_⟩) ?_ ?_
       rotate_left
       ·intro w'; go_simp; with_reducible rfl
       rotate_left
       ·simp only [Act.put, zA, zB, zC, i64_w, i32_w]; rfl
       refine take_ (i := 7) (N := some 36) (v := ?_) (a' := ?_) (bf 11 255) rfl rfl (by kernel_rfl) (fun _ _ _ h => h) (Or.inl ⟨by rfl, ?_⟩) hHeld ?_ ?_
       rotate_left
       ·rintro w' ⟨s0, s1⟩; go_simp; with_reducible rfl
       rotate_left
       ·simp only [Act.put, zA, zB, zC, i64_w, i32_w]; rfl
       refine pure_ (i := 8) (N := some 37) (v := ?_) (a' := ?_) (bf 11 511) rfl rfl (by kernel_rfl) (fun _ _ _ h => h) (Or.inl ⟨by rfl, ?_⟩) ?_ ?_
       rotate_left
       ·intro w'; go_simp; with_reducible rfl
       rotate_left
       ·simp only [Act.put, zA, zB, zC, i64_w, i32_w]; rfl
       refine one_ (i := 9) (N := some 38) (bf 11 1023) rfl rfl (by kernel_rfl) (by decide) (fun K hK => ?_)
       refine goes_ Try.func80 (by kernel_rfl) rfl #[.agg #[.slice A0 l.length c0], .slice A2 rot.length c2, .int .i64 q] (by rfl) rfl rfl (by (try simp only [List.map_toArray, List.map_cons, List.map_nil]); first | done | rfl) ?_
       with_reducible refine (spec_trNext.calls _ _ l _ _ rot q q2 _ ?side1 ?side2 ?side3 ?side4 A9.out).mono ?_
       (case side1 => exact Kd.C_drew (Kd.C_below HR0_0.out HB.out))
       (case side2 => exact HC0_0.out)
       (case side3 => exact Kd.C_drew (Kd.C_below HR2.out HB.out))
       (case side4 => exact HC2.out)
       rintro e w12 ⟨rfl, hb⟩
       refine ⟨_, rfl, ?_⟩
       have n1_ := za0.mk (zj0 (by repeat (first | (with_reducible first | exact HB.out | apply zc0 | apply zb0 | apply zd0) | exact HB.out)) hb)
       have n2_ := za0.mk (zl0 (g := B) (by (with_reducible repeat (first | refine zh0 ?_ _ | refine zi0 ?_ | refine zf0 ?_ _)); exact BKS.out) hb)
       clear HB BKS
       have HB := n1_
       have BKS := n2_
       clear n1_ n2_ hb
       refine hK.out _ _ ⟨(zk0 BKS.out 0).trans rfl, (zk0 BKS.out 2).trans rfl⟩ (fun hHeld => ?_)
       clear hK K
       refine norm_ (a' := ?_) ?_ ?_
       rotate_left
       ·show Act.put _ (some 38) _ = _; simp only [Act.put, zA, zB, zC, i64_w, i32_w]; rfl
       refine pure_ (i := 10) (N := some 5) (v := ?_) (a' := ?_) (bf 11 2047) rfl rfl (by kernel_rfl) (fun _ _ _ h => h) (Or.inl ⟨by rfl, ?_⟩) ?_ ?_
       rotate_left
       ·intro w'; go_simp; with_reducible rfl
       rotate_left
       ·simp only [Act.put, zA, zB, zC, i64_w, i32_w]; rfl
       refine done_ (by kernel_rfl) ?_
       go_wp2
       go_roundg k1
       case measure => have := HK1.out; omega
       case rel => exact ⟨q2, (wrap64 (n + 1)), (by first | rfl | (simp; done) | (simp [*]; done)), (by first | rfl | (simp; done) | (simp [*]; done)), H', ⟨by have := HK1.out; omega⟩, ⟨by (with_reducible repeat (first | refine zh0 ?_ _ | refine zi0 ?_ | refine zf0 ?_ _)); exact BKS.out⟩, ⟨by repeat (first | (with_reducible first | exact HB.out | apply zc0 | apply zb0 | apply zd0) | exact HB.out)⟩⟩
   ·rw [if_neg c6] at H
    have c6b0 : decide (n ≤ (l.length : Int)) = false := decide_eq_false c6
    clear c6
    obtain rfl := Option.some.inj H
    go_wp2
    go_ret
    exact ⟨by first | rfl | (simp; done), by repeat (first | (with_reducible first | exact HB.out | apply zc0 | apply zb0 | apply zd0) | exact HB.out)⟩
structure LookSt (w0 w : World) (B nb n cap c0 : Nat) (A0 : Option Addr) (m : Nat) (s most : Int) (rot : List Int) (found : List (List Int)) (Af : Option Addr) (cf : Nat) : Prop where
 hb : Below w0.heap.size w0 w
 hn : n = rot.length
 cap_ : n ≤ cap
 bk : w.heap[B]? = some (.cells #[.slice A0 m c0, .int .i64 s, .slice (some ⟨nb, 0, none⟩) n cap, .slice Af found.length cf, .int .i64 most] 86 (0, 0))
 rt : Kd.R (Kd.int .i64) 3 w w0.heap.size (fun k => k = nb) (.slice (some ⟨nb, 0, none⟩) n cap) rot
 fd : Kd.S (Kd.slice 3 (Kd.int .i64)) 25 w w0.heap.size (fun k => k ≠ nb) (.slice Af found.length cf) found
theorem LookSt.below {w0 w w1 : World} {B nb n cap c0 : Nat} {A0 : Option Addr} {m : Nat} {s most : Int} {rot : List Int} {found : List (List Int)} {Af : Option Addr} {cf : Nat} (h : LookSt w0 w B nb n cap c0 A0 m s most rot found Af cf) (hb : Below w.heap.size w w1) : LookSt w0 w1 B nb n cap c0 A0 m s most rot found Af cf :=
 ⟨zj0 h.hb hb, h.hn, h.cap_, zl0 h.bk hb, Kd.R_below h.rt hb, Kd.S_below h.fd hb⟩
theorem LookSt.drew {w0 w : World} {B nb n cap c0 : Nat} {A0 : Option Addr} {m : Nat} {s most : Int} {rot : List Int} {found : List (List Int)} {Af : Option Addr} {cf : Nat} (h : LookSt w0 w B nb n cap c0 A0 m s most rot found Af cf) : LookSt w0 w.drew B nb n cap c0 A0 m s most rot found Af cf := h.below (below_drew (Below.refl _ _))
theorem LookSt.put {w0 w : World} {B nb n cap c0 : Nat} {A0 : Option Addr} {m : Nat} {s most : Int} {rot : List Int} {found : List (List Int)} {Af : Option Addr} {cf : Nat} (h : LookSt w0 w B nb n cap c0 A0 m s most rot found Af cf) (hnb : w0.heap.size ≤ nb) (hne : B ≠ nb) (i x : Int) : LookSt w0 (w.setCell ⟨nb, i.toNat, none⟩ (.int .i64 x)) B nb n cap c0 A0 m s most (rot.set i.toNat x) found Af cf :=
 ⟨ze0 h.hb hnb, by rw [List.length_set]; exact h.hn, h.cap_, (Below.heap_setCell w ⟨nb, i.toNat, none⟩ _ B hne).trans h.bk, (Kd.R_putg h.rt i x).1, Kd.S_far h.fd (fun k hk => hk) _⟩
theorem blk_putS {w : World} {B j t : Nat} {cs : Array Value} {u : Value} (h : w.heap[B]? = some (.cells cs t (0, 0))) : (w.setCell ⟨B, j, none⟩ u).heap[B]? = some (.cells (cs.setIfInBounds j u) t (0, 0)) := by
 simp only [World.setCell, Array.getElem?_modify, if_true, h, Option.map_some]
 rfl
theorem LookSt.found {w0 w : World} {B nb n cap c0 : Nat} {A0 : Option Addr} {m : Nat} {s most : Int} {rot : List Int} {found found' : List (List Int)} {Af Af' : Option Addr} {cf cf' : Nat} (hB : w0.heap.size ≤ B) (hb : Below w0.heap.size w0 w) (hn : n = rot.length) (hc : n ≤ cap)
  (bk : w.heap[B]? = some (.cells #[.slice A0 m c0, .int .i64 s, .slice (some ⟨nb, 0, none⟩) n cap, .slice Af found.length cf, .int .i64 most] 86 (0, 0)))
  (rt : Kd.R (Kd.int .i64) 3 w w0.heap.size (fun k => k = nb) (.slice (some ⟨nb, 0, none⟩) n cap) rot)
  (fd : Kd.S (Kd.slice 3 (Kd.int .i64)) 25 w w0.heap.size (fun k => k ≠ nb) (.slice Af' found'.length cf') found') : LookSt w0 (w.setCell ⟨B, 3, none⟩ (.slice Af' found'.length cf')) B nb n cap c0 A0 m s most rot found' Af' cf' :=
 ⟨ze0 hb hB, hn, hc, (blk_putS bk).trans rfl, Kd.R_set rt bk (by decide) 3 _, Kd.S_set fd bk (by decide) 3 _⟩
def lookF (g : List (List Int)) (s most : Int) : Nat → Option Int → Int → List Int → List (List Int) → Option (List Int × List (List Int))
 | 0, _, _, _, _ => none
 | k + 1, none, p, rot, found => if most < (found.length : Int) then some (rot, found) else (if p = (g.length : Int) then ((spec_l1Own.f rot).bind fun t => if (found.length + 1) * 24 ≤ 140737488355328 then some (rot, found ++ [t]) else none) else (if p = s then lookF g s most k none (wrap64 (p + 1)) rot found else (if 0 ≤ p then (if p < (g.length : Int) then lookF g s most k (some 0) p rot found else none) else none)))
 | k + 1, some j, p, rot, found => if j < ((rd_L1 g p).length : Int) then (if p < (rot.length : Int) then ((loopsL g (rot.set p.toNat j) s p k p 0).bind fun b => if b = true then lookF g s most k (some (wrap64 (j + 1))) p (rot.set p.toNat j) found else ((lookF g s most k none (wrap64 (p + 1)) (rot.set p.toNat j) found).bind fun x => lookF g s most k (some (wrap64 (j + 1))) p x.1 x.2)) else none) else (if p < (rot.length : Int) then some (rot.set p.toNat 0, found) else none)
set_option maxHeartbeats 8000000 in
set_option maxRecDepth 100000 in
theorem trSearch_look.calls (l : List (List Int)) (s most : Int) (A0 : Option Addr) (c0 B nb n cap : Nat) (w0 : World) (hr0 : Kd.C (Kd.slice 3 (Kd.int .i64)) w0 A0 l.length l) (hc0 : l.length ≤ c0) (hB : w0.heap.size ≤ B) (hnb : w0.heap.size ≤ nb) (hne : B ≠ nb) :
  ∀ (K k : Nat), k ≤ K → ∀ (p : Int) (rot : List Int) (found : List (List Int)) (Af : Option Addr) (cf : Nat) (r : List Int × List (List Int)) (w : World), LookSt w0 w B nb n cap c0 A0 l.length s most rot found Af cf → lookF l s most k none p rot found = some r →
  Calls Try.prog 74 #[.pointer (some ⟨B, 0, none⟩), .int .i64 p] w fun e w' => e = .returned (.tuple #[]) ∧ ∃ Af' cf', LookSt w0 w' B nb n cap c0 A0 l.length s most r.1 r.2 Af' cf' := by
 have hu1 := Try.underlying29
 have hu2 := Try.underlying86
 have hu3 := Try.underlying25
 have HR0 := za0.mk hr0
 have HC0 := za0.mk hc0
 have HNE := za0.mk hne
 have HNB := za0.mk hnb
 have HBB := za0.mk hB
 clear hr0 hc0 hne hnb hB
 intro K
 induction K with
 | zero =>
  intro k hk p rot found Af cf r w st h
  obtain rfl : k = 0 := by omega
  simp [lookF] at h
 | succ K ih =>
  intro k hk p rot found Af cf r w st h
  have IH := za0.mk ih
  clear ih
  cases k with
  | zero => simp [lookF] at h
  | succ k =>
   have HK := za0.mk hk
   clear hk
   have H := h
   clear h
   simp only [lookF] at H
   have ST := za0.mk st.drew
   have hcz2 : w.drew.cell? ⟨B, 3, none⟩ = some (.slice Af found.length cf) := (zk0 ST.out.bk 3).trans rfl
   have hcz4 : w.drew.cell? ⟨B, 4, none⟩ = some (.int .i64 most) := (zk0 ST.out.bk 4).trans rfl
   clear st
   by_cases c1 : most < (found.length : Int)
   ·rw [if_pos c1] at H
    have c1b0 : decide (most < (found.length : Int)) = true := decide_eq_true c1
    clear c1
    obtain rfl := Option.some.inj H
    go_enter Try.func74, Try.ntmps74
    go_wp2_with fail
    refine start_ (n := 10) (S := fun w' => w'.cell? ⟨B, 3, none⟩ = some (.slice Af found.length cf) ∧ w'.cell? ⟨B, 4, none⟩ = some (.int .i64 most)) (ds := []) #[false, false, false, false, false, false, false, false, false, false] (by kernel_rfl) rfl rfl ⟨hcz2, hcz4⟩ (fun hHeld => ?_)
    refine pure_ (i := 0) (N := some 5) (v := ?_) (a' := ?_) (bf 10 1) rfl rfl (by kernel_rfl) (fun _ _ _ h => h) (Or.inl ⟨by rfl, ?_⟩) ?_ ?_
    rotate_left
    ·intro w'; go_simp; with_reducible rfl
    rotate_left
    ·simp only [Act.put, zA, zB, zC, i64_w, i32_w]; rfl
    refine pure_ (i := 1) (N := some 6) (v := ?_) (a' := ?_) (bf 10 3) rfl rfl (by kernel_rfl) (fun _ _ _ h => h) (Or.inl ⟨by rfl, ?_⟩) ?_ ?_
    rotate_left
    ·intro w'; go_simp; with_reducible rfl
    rotate_left
    ·simp only [Act.put, zA, zB, zC, i64_w, i32_w]; rfl
    refine pure_ (i := 2) (N := some 7) (v := ?_) (a' := ?_) (bf 10 7) rfl rfl (by kernel_rfl) (fun _ _ _ h => h) (Or.inl ⟨by rfl, ?_⟩) ?_ ?_
    rotate_left
    ·intro w'; go_simp; with_reducible rfl
    rotate_left
    ·simp only [Act.put, zA, zB, zC, i64_w, i32_w]; rfl
    refine take_ (i := 3) (N := some 8) (v := ?_) (a' := ?_) (bf 10 15) rfl rfl (by kernel_rfl) (fun _ _ _ h => h) (Or.inl ⟨by rfl, ?_⟩) hHeld ?_ ?_
    rotate_left
    ·rintro w' ⟨s0, s1⟩; go_simp; with_reducible rfl
    rotate_left
    ·simp only [Act.put, zA, zB, zC, i64_w, i32_w]; rfl
    refine pure_ (i := 4) (N := some 9) (v := ?_) (a' := ?_) (bf 10 31) rfl rfl (by kernel_rfl) (fun _ _ _ h => h) (Or.inl ⟨by rfl, ?_⟩) ?_ ?_
    rotate_left
    ·intro w'; go_simp; with_reducible rfl
    rotate_left
    ·simp only [Act.put, zA, zB, zC, i64_w, i32_w]; rfl
    refine pure_ (i := 5) (N := some 10) (v := ?_) (a' := ?_) (bf 10 63) rfl rfl (by kernel_rfl) (fun _ _ _ h => h) (Or.inl ⟨by rfl, ?_⟩) ?_ ?_
    rotate_left
    ·intro w'; go_simp; with_reducible rfl
    rotate_left
    ·simp only [Act.put, zA, zB, zC, i64_w, i32_w]; rfl
    refine pure_ (i := 6) (N := some 11) (v := ?_) (a' := ?_) (bf 10 127) rfl rfl (by kernel_rfl) (fun _ _ _ h => h) (Or.inl ⟨by rfl, ?_⟩) ?_ ?_
    rotate_left
    ·intro w'; go_simp; with_reducible rfl
    rotate_left
    ·simp only [Act.put, zA, zB, zC, i64_w, i32_w]; rfl
    refine pure_ (i := 7) (N := some 12) (v := ?_) (a' := ?_) (bf 10 255) rfl rfl (by kernel_rfl) (fun _ _ _ h => h) (Or.inl ⟨by rfl, ?_⟩) ?_ ?_
    rotate_left
    ·intro w'; go_simp; with_reducible rfl
    rotate_left
    ·simp only [Act.put, zA, zB, zC, i64_w, i32_w]; rfl
    refine take_ (i := 8) (N := some 13) (v := ?_) (a' := ?_) (bf 10 511) rfl rfl (by kernel_rfl) (fun _ _ _ h => h) (Or.inl ⟨by rfl, ?_⟩) hHeld ?_ ?_
    rotate_left
    ·rintro w' ⟨s0, s1⟩; go_simp; with_reducible rfl
    rotate_left
    ·simp only [Act.put, zA, zB, zC, i64_w, i32_w]; rfl
    refine pure_ (i := 9) (N := some 14) (v := ?_) (a' := ?_) (bf 10 1023) rfl rfl (by kernel_rfl) (fun _ _ _ h => h) (Or.inl ⟨by rfl, ?_⟩) ?_ ?_
    rotate_left
    ·intro w'; go_simp; with_reducible rfl
    rotate_left
    ·simp only [Act.put, zA, zB, zC, i64_w, i32_w]; rfl
    refine done_ (by kernel_rfl) ?_
    clear hHeld hcz2 hcz4
    generalize w.drew = w1 at ST ⊢
    go_wp2
    first | (refine bodyPost_ret (results_none rfl _ _ _) rfl ?_) | go_end0
    exact ⟨rfl, Af, cf, ST.out⟩
   ·rw [if_neg c1] at H
    have c1b0 : decide (most < (found.length : Int)) = false := decide_eq_false c1
    clear c1
    go_enter Try.func74, Try.ntmps74
    go_wp2_with fail
    refine start_ (n := 10) (S := fun w' => w'.cell? ⟨B, 3, none⟩ = some (.slice Af found.length cf) ∧ w'.cell? ⟨B, 4, none⟩ = some (.int .i64 most)) (ds := []) #[false, false, false, false, false, false, false, false, false, false] (by kernel_rfl) rfl rfl ⟨hcz2, hcz4⟩ (fun hHeld => ?_)
    refine pure_ (i := 0) (N := some 5) (v := ?_) (a' := ?_) (bf 10 1) rfl rfl (by kernel_rfl) (fun _ _ _ h => h) (Or.inl ⟨by rfl, ?_⟩) ?_ ?_
    rotate_left
    ·intro w'; go_simp; with_reducible rfl
    rotate_left
    ·simp only [Act.put, zA, zB, zC, i64_w, i32_w]; rfl
    refine pure_ (i := 1) (N := some 6) (v := ?_) (a' := ?_) (bf 10 3) rfl rfl (by kernel_rfl) (fun _ _ _ h => h) (Or.inl ⟨by rfl, ?_⟩) ?_ ?_
    rotate_left
    ·intro w'; go_simp; with_reducible rfl
    rotate_left
    ·simp only [Act.put, zA, zB, zC, i64_w, i32_w]; rfl
    refine pure_ (i := 2) (N := some 7) (v := ?_) (a' := ?_) (bf 10 7) rfl rfl (by kernel_rfl) (fun _ _ _ h => h) (Or.inl ⟨by rfl, ?_⟩) ?_ ?_
    rotate_left
    ·intro w'; go_simp; with_reducible rfl
    rotate_left
    ·simp only [Act.put, zA, zB, zC, i64_w, i32_w]; rfl
    refine take_ (i := 3) (N := some 8) (v := ?_) (a' := ?_) (bf 10 15) rfl rfl (by kernel_rfl) (fun _ _ _ h => h) (Or.inl ⟨by rfl, ?_⟩) hHeld ?_ ?_
    rotate_left
    ·rintro w' ⟨s0, s1⟩; go_simp; with_reducible rfl
    rotate_left
    ·simp only [Act.put, zA, zB, zC, i64_w, i32_w]; rfl
    refine pure_ (i := 4) (N := some 9) (v := ?_) (a' := ?_) (bf 10 31) rfl rfl (by kernel_rfl) (fun _ _ _ h => h) (Or.inl ⟨by rfl, ?_⟩) ?_ ?_
    rotate_left
    ·intro w'; go_simp; with_reducible rfl
    rotate_left
    ·simp only [Act.put, zA, zB, zC, i64_w, i32_w]; rfl
    refine pure_ (i := 5) (N := some 10) (v := ?_) (a' := ?_) (bf 10 63) rfl rfl (by kernel_rfl) (fun _ _ _ h => h) (Or.inl ⟨by rfl, ?_⟩) ?_ ?_
    rotate_left
    ·intro w'; go_simp; with_reducible rfl
    rotate_left
    ·simp only [Act.put, zA, zB, zC, i64_w, i32_w]; rfl
    refine pure_ (i := 6) (N := some 11) (v := ?_) (a' := ?_) (bf 10 127) rfl rfl (by kernel_rfl) (fun _ _ _ h => h) (Or.inl ⟨by rfl, ?_⟩) ?_ ?_
    rotate_left
    ·intro w'; go_simp; with_reducible rfl
    rotate_left
    ·simp only [Act.put, zA, zB, zC, i64_w, i32_w]; rfl
    refine pure_ (i := 7) (N := some 12) (v := ?_) (a' := ?_) (bf 10 255) rfl rfl (by kernel_rfl) (fun _ _ _ h => h) (Or.inl ⟨by rfl, ?_⟩) ?_ ?_
    rotate_left
    ·intro w'; go_simp; with_reducible rfl
    rotate_left
    ·simp only [Act.put, zA, zB, zC, i64_w, i32_w]; rfl
    refine take_ (i := 8) (N := some 13) (v := ?_) (a' := ?_) (bf 10 511) rfl rfl (by kernel_rfl) (fun _ _ _ h => h) (Or.inl ⟨by rfl, ?_⟩) hHeld ?_ ?_
    rotate_left
    ·rintro w' ⟨s0, s1⟩; go_simp; with_reducible rfl
    rotate_left
    ·simp only [Act.put, zA, zB, zC, i64_w, i32_w]; rfl
    refine pure_ (i := 9) (N := some 14) (v := ?_) (a' := ?_) (bf 10 1023) rfl rfl (by kernel_rfl) (fun _ _ _ h => h) (Or.inl ⟨by rfl, ?_⟩) ?_ ?_
    rotate_left
    ·intro w'; go_simp; with_reducible rfl
    rotate_left
    ·simp only [Act.put, zA, zB, zC, i64_w, i32_w]; rfl
    refine done_ (by kernel_rfl) ?_
    clear hHeld hcz2 hcz4
    generalize w.drew = w1 at ST ⊢
    have hcz0 : w1.cell? ⟨B, 0, none⟩ = some (.slice A0 l.length c0) := (zk0 ST.out.bk 0).trans rfl
    have hcz1 : w1.cell? ⟨B, 1, none⟩ = some (.int .i64 s) := (zk0 ST.out.bk 1).trans rfl
    have hcz2 : w1.cell? ⟨B, 2, none⟩ = some (.slice (some ⟨nb, 0, none⟩) n cap) := (zk0 ST.out.bk 2).trans rfl
    have hcz3 : w1.cell? ⟨B, 3, none⟩ = some (.slice Af found.length cf) := (zk0 ST.out.bk 3).trans rfl
    by_cases c2 : p = (l.length : Int)
    ·rw [if_pos c2] at H
     have c2b0 : (p == (l.length : Int)) = true := beq_iff_eq.mpr c2
     clear c2
     replace H := Option.bind_eq_some_iff.mp H
     obtain ⟨t, A30, H⟩ := H
     have A3 := za0.mk A30
     clear A30
     by_cases c8 : (found.length + 1) * 24 ≤ 140737488355328
     ·rw [if_pos c8] at H
      have LM := za0.mk c8
      clear c8
      obtain rfl := Option.some.inj H
      have hn := ST.out.hn
      subst hn
      have ST1 := za0.mk ST.out.drew
      go_wp2
      have hcy2 : w1.drew.cell? ⟨B, 2, none⟩ = some (.slice (some ⟨nb, 0, none⟩) rot.length cap) := (zk0 ST1.out.bk 2).trans rfl
      have hcy3 : w1.drew.cell? ⟨B, 3, none⟩ = some (.slice Af found.length cf) := (zk0 ST1.out.bk 3).trans rfl
      clear hcz0 hcz1 hcz2 hcz3 ST
      refine start_ (n := 15) (S := fun w' => w'.cell? ⟨B, 2, none⟩ = some (.slice (some ⟨nb, 0, none⟩) rot.length cap) ∧ w'.cell? ⟨B, 3, none⟩ = some (.slice Af found.length cf)) (ds := [14]) #[false, false, false, false, false, false, false, false, false, false, false, false, false, false, false] (by kernel_rfl) rfl rfl ⟨hcy2, hcy3⟩ (fun hHeld => ?_)
      clear hcy2 hcy3
      refine pure_ (i := 0) (N := some 23) (v := ?_) (a' := ?_) (bf 15 1) rfl rfl (by kernel_rfl) (fun _ _ _ h => h) (Or.inl ⟨by rfl, ?_⟩) ?_ ?_
      rotate_left
      ·intro w'; go_simp; with_reducible rfl
      rotate_left
      ·simp only [Act.put, zA, zB, zC, i64_w, i32_w]; rfl
      refine pure_ (i := 1) (N := some 24) (v := ?_) (a' := ?_) (bf 15 3) rfl rfl (by kernel_rfl) (fun _ _ _ h => h) (Or.inl ⟨by rfl, ?_⟩) ?_ ?_
      rotate_left
      ·intro w'; go_simp; with_reducible rfl
      rotate_left
      ·simp only [Act.put, zA, zB, zC, i64_w, i32_w]; rfl
      refine pure_ (i := 2) (N := some 25) (v := ?_) (a' := ?_) (bf 15 7) rfl rfl (by kernel_rfl) (fun _ _ _ h => h) (Or.inl ⟨by rfl, ?_⟩) ?_ ?_
      rotate_left
      ·intro w'; go_simp; with_reducible rfl
      rotate_left
      ·simp only [Act.put, zA, zB, zC, i64_w, i32_w]; rfl
      refine pure_ (i := 3) (N := some 26) (v := ?_) (a' := ?_) (bf 15 15) rfl rfl (by kernel_rfl) (fun _ _ _ h => h) (Or.inl ⟨by rfl, ?_⟩) ?_ ?_
      rotate_left
      ·intro w'; go_simp; with_reducible rfl
      rotate_left
      ·simp only [Act.put, zA, zB, zC, i64_w, i32_w]; rfl
      refine take_ (i := 4) (N := some 27) (v := ?_) (a' := ?_) (bf 15 31) rfl rfl (by kernel_rfl) (fun _ _ _ h => h) (Or.inl ⟨by rfl, ?_⟩) hHeld ?_ ?_
      rotate_left
      ·rintro w' ⟨s0, s1⟩; go_simp; with_reducible rfl
      rotate_left
      ·simp only [Act.put, zA, zB, zC, i64_w, i32_w]; rfl
      refine pure_ (i := 5) (N := some 28) (v := ?_) (a' := ?_) (bf 15 63) rfl rfl (by kernel_rfl) (fun _ _ _ h => h) (Or.inl ⟨by rfl, ?_⟩) ?_ ?_
      rotate_left
      ·intro w'; go_simp; with_reducible rfl
      rotate_left
      ·simp only [Act.put, zA, zB, zC, i64_w, i32_w]; rfl
      refine pure_ (i := 6) (N := some 29) (v := ?_) (a' := ?_) (bf 15 127) rfl rfl (by kernel_rfl) (fun _ _ _ h => h) (Or.inl ⟨by rfl, ?_⟩) ?_ ?_
      rotate_left
      ·intro w'; go_simp; with_reducible rfl
      rotate_left
      ·simp only [Act.put, zA, zB, zC, i64_w, i32_w]; rfl
      refine pure_ (i := 7) (N := some 30) (v := ?_) (a' := ?_) (bf 15 255) rfl rfl (by kernel_rfl) (fun _ _ _ h => h) (Or.inl ⟨by rfl, ?_⟩) ?_ ?_
      rotate_left
      ·intro w'; go_simp; with_reducible rfl
      rotate_left
      ·simp only [Act.put, zA, zB, zC, i64_w, i32_w]; rfl
      refine take_ (i := 8) (N := some 31) (v := ?_) (a' := ?_) (bf 15 511) rfl rfl (by kernel_rfl) (fun _ _ _ h => h) (Or.inl ⟨by rfl, ?_⟩) hHeld ?_ ?_
      rotate_left
      ·rintro w' ⟨s0, s1⟩; go_simp; with_reducible rfl
      rotate_left
      ·simp only [Act.put, zA, zB, zC, i64_w, i32_w]; rfl
      refine one_ (i := 9) (N := some 32) (bf 15 1023) rfl rfl (by kernel_rfl) (by decide) (fun K hK => ?_)
      refine goes_ Try.func46 (by kernel_rfl) rfl #[.slice (some ⟨nb, 0, none⟩) rot.length cap] (by rfl) rfl rfl (by (try simp only [List.map_toArray, List.map_cons, List.map_nil]); first | done | rfl) ?_
      refine (spec_l1Own.calls _ _ rot t _ (Kd.R_reads' ST1.out.rt).2.2 ST1.out.cap_ A3.out).mono ?_
      rintro e w3 ⟨v3, rfl, ho0, hb⟩
      refine ⟨_, rfl, ?_⟩
      have ST3 := za0.mk (ST1.out.below hb)
      have HF := za0.mk (Kd.S_elder' ST1.out.fd (Kd.R_base ho0) hb)
      have HW := za0.mk (Kd.R_lower (Kd.R_new' ho0 (Kd.R_lt ST1.out.rt)) (zg0 ST1.out.hb))
      clear ho0 hb ST1
      obtain ⟨Ao, co, eo⟩ := Kd.R_slice HW.out
      subst eo
      refine hK.out _ _ ⟨(zk0 ST3.out.bk 2).trans rfl, (zk0 ST3.out.bk 3).trans rfl⟩ (fun hHeld => ?_)
      clear hK K
      refine norm_ (a' := ?_) ?_ ?_
      rotate_left
      ·show Act.put _ (some 32) _ = _; simp only [Act.put, zA, zB, zC, i64_w, i32_w]; rfl
      refine one_ (i := 10) (N := some 33) (bf 15 2047) rfl rfl (by kernel_rfl) (by decide) (fun K hK => ?_)
      refine value_ (w1 := ?_) (v := ?_) (by rfl) rfl ?_ ?_
      rotate_left 2
      ·go_simp
       constructor
       ·rfl
       ·rfl
      have BKA := za0.mk (zf0 ST3.out.bk (.cells #[.slice Ao t.length co] 25))
      refine hK.out _ _ ⟨(zk0 BKA.out 2).trans rfl, (zk0 BKA.out 3).trans rfl⟩ (fun hHeld => ?_)
      clear hK K
      refine norm_ (a' := ?_) ?_ ?_
      rotate_left
      ·show Act.put _ (some 33) _ = _; simp only [Act.put, zA, zB, zC, i64_w, i32_w]; rfl
      refine one_ (i := 11) (N := some 34) (bf 15 4095) rfl rfl (by kernel_rfl) (by decide) (fun K hK => ?_)
      refine Kd.S_append_step (Kd.slice 3 (Kd.int .i64)) (w0 := w0) w0.heap.size (by rfl) (.tmp 27) (.tmp 33) 22 25 (.slice none 0 0) 24 rfl Try.underlying22 info25 rfl (by decide) (by omega) (.slice Af found.length cf) found t [.slice Ao t.length co] (fun k_ => k_ ≠ nb) (fun k_ => some k_ = (.slice Ao t.length co : Value).ownBlock) rfl rfl ?aP ?aK ?aF ?aO ?aB ?aS ?aL ?_
      (case aP => exact Kd.M_row (Kd.R_mono (Kd.R_tight rfl HW.out) (fun _ h_ => h_)))
      (case aK => exact fun k_ hk_ => ⟨fun e_ => (HW.out.1 k_ hk_.symm).2 (by rw [e_]; rfl), ((Kd.R_apart' HW.out (Kd.S_typed ST3.out.fd) (by decide)).1 k_ hk_.symm).2⟩)
      (case aB => exact ST3.out.hb)
      (case aF => exact fun k_ hk e_ => by have := Kd.R_lt ST3.out.rt nb rfl; omega)
      (case aO => exact Kd.S_mono HF.out (fun k_ hk => ⟨hk.1, fun e_ => hk.2 e_⟩))
      (case aS => exact zg0 ST3.out.hb)
      (case aL => exact LM.out)
      intro v9 w9 ho hb hg hat
      have BK9 := za0.mk (zy0 ST3.out.bk hg (Kd.S_ne ST3.out.fd ST3.out.bk (by decide)))
      have RT9 := za0.mk (Kd.R_over' ST3.out.rt (Kd.S_typed ST3.out.fd) (by decide) hg)
      obtain ⟨Af9, cf9, e9⟩ := Kd.S_slice ho
      subst e9
      have ST9 := za0.mk (LookSt.found HBB.out hb rfl ST3.out.cap_ BK9.out RT9.out ho)
      have hcx : w9.cell? ⟨B, 3, none⟩ = some (.slice Af found.length cf) := (zk0 BK9.out 3).trans rfl
      have hfx := zm0 BK9.out 3
      clear ho hb hg hat
      refine hK.out _ _ ⟨(zk0 BK9.out 2).trans rfl, (zk0 BK9.out 3).trans rfl⟩ (fun hHeld => ?_)
      clear hK K
      refine norm_ (a' := ?_) ?_ ?_
      rotate_left
      ·show Act.put _ (some 34) _ = _; simp only [Act.put, zA, zB, zC, i64_w, i32_w]; rfl
      refine pure_ (i := 12) (N := some 35) (v := ?_) (a' := ?_) (bf 15 8191) rfl rfl (by kernel_rfl) (fun _ _ _ h => h) (Or.inl ⟨by rfl, ?_⟩) ?_ ?_
      rotate_left
      ·intro w'; go_simp; with_reducible rfl
      rotate_left
      ·simp only [Act.put, zA, zB, zC, i64_w, i32_w]; rfl
      refine pure_ (i := 13) (N := some 36) (v := ?_) (a' := ?_) (bf 15 16383) rfl rfl (by kernel_rfl) (fun _ _ _ h => h) (Or.inl ⟨by rfl, ?_⟩) ?_ ?_
      rotate_left
      ·intro w'; go_simp; with_reducible rfl
      rotate_left
      ·simp only [Act.put, zA, zB, zC, i64_w, i32_w]; rfl
      refine last_ (i := 14) (N := none) (bf 15 32767) rfl rfl (by kernel_rfl) (by decide) (fun K hK => ?_)
      refine skip_ (w1 := ?_) (by rfl) rfl ?_ ?_
      rotate_left
      ·go_simp
       rfl
      refine hK.out _ _ ?_
      clear hK K
      refine done_ (by kernel_rfl) ?_
      go_wp2
      first | (refine bodyPost_ret (results_none rfl _ _ _) rfl ?_) | go_end0
      have h9 := ST9.out
      simp only [List.length_append, List.length_cons, List.length_nil, Nat.zero_add] at h9
      exact ⟨rfl, _, _, h9⟩
     ·rw [if_neg c8] at H; cases H
    ·rw [if_neg c2] at H
     have c2b0 : (p == (l.length : Int)) = false := beq_eq_false_iff_ne.mpr c2
     clear c2
     by_cases c3 : p = s
     ·rw [if_pos c3] at H
      have c3b0 : (p == s) = true := beq_iff_eq.mpr c3
      clear c3
      have H' := za0.mk H
      clear H
      go_wp2_with (go_at_call 74; refine (IH.out k (by have := HK.out; omega) (wrap64 (p + 1)) rot found Af cf r _ ST.out H'.out).mono ?_; rintro e w2 ⟨rfl, Af2, cf2, st2⟩)
      first | (refine bodyPost_ret (results_none rfl _ _ _) rfl ?_) | go_end0
      exact ⟨rfl, Af2, cf2, st2⟩
     ·rw [if_neg c3] at H
      have c3b0 : (p == s) = false := beq_eq_false_iff_ne.mpr c3
      clear c3
      by_cases c4 : 0 ≤ p
      ·rw [if_pos c4] at H
       by_cases c5 : p < (l.length : Int)
       ·rw [if_pos c5] at H
        have H' := za0.mk H
        clear H
        obtain ⟨ad, A1, c1_, e1, hx1, hl1, hi1⟩ := at_L1 HR0.out p c4 c5
        subst e1
        replace hx1 := (ST.out.hb.cell (World.block_lt_of_cell? _ _ hx1)).trans hx1
        replace c4 := eq_true c4
        replace c5 := eq_true c5
        clear hi1
        go_wp2
        go_loopg [56] k (fun kq v56 w' => ∃ (j : Int) (rot' : List Int) (found' : List (List Int)) (Af' : Option Addr) (cf' : Nat), v56 = .int .i64 j ∧ za0 (lookF l s most kq (some j) p rot' found' = some r) ∧ za0 (kq ≤ k) ∧ za0 (LookSt w0 w' B nb n cap c0 (some ad) l.length s most rot' found' Af' cf'))
        case atStart => exact ⟨0, rot, found, Af, cf, rfl, H', ⟨Nat.le_refl _⟩, ST⟩
        case round =>
         clear H' ST hcz0 hcz1 hcz2 hcz3
         obtain ⟨j, rot', found', Af', cf', rfl, HA, HK1, ST⟩ := hrel
         cases gk with
         | zero => exact absurd HA.out (by simp [lookF])
         | succ k1 =>
          have H := HA.out
          clear HA
          simp only [lookF] at H
          have hcz0 : wr.cell? ⟨B, 0, none⟩ = some (.slice (some ad) l.length c0) := (zk0 ST.out.bk 0).trans rfl
          have hcz2 : wr.cell? ⟨B, 2, none⟩ = some (.slice (some ⟨nb, 0, none⟩) n cap) := (zk0 ST.out.bk 2).trans rfl
          by_cases c6 : j < ((rd_L1 l p).length : Int)
          ·rw [if_pos c6] at H
           have c6b0 : decide (j < ((rd_L1 l p).length : Int)) = true := decide_eq_true c6
           clear c6
           by_cases c7 : p < (rot'.length : Int)
           ·rw [if_pos c7] at H
            have hcn : p < (n : Int) := by rw [ST.out.hn]; exact c7
            clear c7
            obtain ⟨hx2, hf2⟩ := Kd.R_celln 0 ST.out.rt p (of_eq_true c4) hcn
            replace hcn := eq_true hcn
            replace H := Option.bind_eq_some_iff.mp H
            obtain ⟨b, A80, H⟩ := H
            have A8 := za0.mk A80
            clear A80
            have ST2 := za0.mk (ST.out.put HNB.out HNE.out p j)
            clear ST
            cases b with
            | true =>
             replace H : lookF l s most k1 (some (wrap64 (j + 1))) p (rot'.set p.toNat j) found' = some r := H
             have H' := za0.mk H
             clear H
             go_wp2_with (go_at_call 84; refine (trSearch_loops.calls k1 B c0 cap (some ad) (some ⟨nb, 0, none⟩) l s p (rot'.set p.toNat j) n ST2.out.hn _ most true _ (Kd.C_below HR0.out ST2.out.hb) HC0.out (Kd.R_reads' ST2.out.rt).2.2 (ST2.out.hn ▸ ST2.out.cap_) ST2.out.bk A8.out).mono ?_; rintro e w2 ⟨rfl, hb⟩; have ST3 := za0.mk (ST2.out.below hb); clear hb)
             go_roundg k1
             case measure => have := HK1.out; omega
             case rel => exact ⟨_, _, _, _, _, rfl, H', ⟨by have := HK1.out; omega⟩, ST3⟩
            | false =>
             replace H : ((lookF l s most k1 none (wrap64 (p + 1)) (rot'.set p.toNat j) found').bind fun x => lookF l s most k1 (some (wrap64 (j + 1))) p x.1 x.2) = some r := H
             replace H := Option.bind_eq_some_iff.mp H
             obtain ⟨x, A90, H⟩ := H
             have A9 := za0.mk A90
             clear A90
             have H' := za0.mk H
             clear H
             go_wp2_with (first | (go_at_call 84; refine (trSearch_loops.calls k1 B c0 cap (some ad) (some ⟨nb, 0, none⟩) l s p (rot'.set p.toNat j) n ST2.out.hn _ most false _ (Kd.C_below HR0.out ST2.out.hb) HC0.out (Kd.R_reads' ST2.out.rt).2.2 (ST2.out.hn ▸ ST2.out.cap_) ST2.out.bk A8.out).mono ?_; rintro e w2 ⟨rfl, hb⟩; have ST3 := za0.mk (ST2.out.below hb); clear hb) | (go_at_call 74; refine (IH.out k1 (by have := HK.out; have := HK1.out; omega) (wrap64 (p + 1)) _ _ _ _ x _ ST3.out A9.out).mono ?_; rintro e w3 ⟨rfl, Af3, cf3, st3⟩; have ST4 := za0.mk st3; clear st3))
             go_roundg k1
             case measure => have := HK1.out; omega
             case rel => exact ⟨_, _, _, _, _, rfl, H', ⟨by have := HK1.out; omega⟩, ST4⟩
           ·rw [if_neg c7] at H; cases H
          ·rw [if_neg c6] at H
           have c6b0 : decide (j < ((rd_L1 l p).length : Int)) = false := decide_eq_false c6
           clear c6
           by_cases c7 : p < (rot'.length : Int)
           ·rw [if_pos c7] at H
            have hcn : p < (n : Int) := by rw [ST.out.hn]; exact c7
            clear c7
            obtain ⟨hx2, hf2⟩ := Kd.R_celln 0 ST.out.rt p (of_eq_true c4) hcn
            replace hcn := eq_true hcn
            obtain rfl := Option.some.inj H
            have ST2 := za0.mk (ST.out.put HNB.out HNE.out p 0)
            clear ST
            go_wp2
            first | go_end0 | (refine bodyPost_ret (results_none rfl _ _ _) rfl ?_)
            exact ⟨rfl, _, _, ST2.out⟩
           ·rw [if_neg c7] at H; cases H
       ·rw [if_neg c5] at H; cases H
      ·rw [if_neg c4] at H; cases H
theorem loopsL_mono (g : List (List Int)) (rot : List Int) (s p : Int) : ∀ k q n, LeO (loopsL g rot s p k q n) (loopsL g rot s p (k + 1) q n) := by
 intro k
 induction k with
 | zero => intro q n; exact LeO.none _
 | succ k ih =>
  intro q n
  rw [loopsL.eq_2, loopsL.eq_2]
  refine LeO.ite (LeO.ite (LeO.refl _) (LeO.ite (LeO.refl _) (LeO.bind (LeO.refl _) (fun q2 => LeO.ite (LeO.refl _) (ih _ _))))) (LeO.refl _)
theorem lookF_mono (g : List (List Int)) (s most : Int) : ∀ k m p rot found, LeO (lookF g s most k m p rot found) (lookF g s most (k + 1) m p rot found) := by
 intro k
 induction k with
 | zero => intro m p rot found; exact LeO.none _
 | succ k ih =>
  intro m p rot found
  cases m with
  | none =>
   rw [lookF.eq_2, lookF.eq_2]
   exact LeO.ite (LeO.refl _) (LeO.ite (LeO.refl _) (LeO.ite (ih _ _ _ _) (LeO.ite (LeO.ite (ih _ _ _ _) (LeO.refl _)) (LeO.refl _))))
  | some j =>
   rw [lookF.eq_3, lookF.eq_3]
   exact LeO.ite (LeO.ite (LeO.bind (loopsL_mono _ _ _ _ _ _ _) (fun b => LeO.ite (ih _ _ _ _) (LeO.bind (ih _ _ _ _) (fun x => ih _ _ _ _)))) (LeO.refl _)) (LeO.refl _)
def spec_trAll.f (k : Nat) (l0_0 : List (List Int)) (a1 a2 : Int) : Option (List (List Int)) := if 0 < l0_0.length then (if l0_0.length ≤ 1000 then ((lookF l0_0 a1 a2 k none 0 (List.replicate l0_0.length 0) []).bind fun x => some x.2) else none) else none
theorem spec_trAll.mono : ∀ a0 a1 a2 k, LeO (spec_trAll.f k a0 a1 a2) (spec_trAll.f (k + 1) a0 a1 a2) := by
 intro a0 a1 a2 k
 unfold spec_trAll.f
 exact LeO.ite (LeO.ite (LeO.bind (lookF_mono _ _ _ _ _ _ _ _) (fun _ => LeO.refl _)) (LeO.refl _)) (LeO.refl _)
set_option maxHeartbeats 8000000 in
set_option maxRecDepth 100000 in
theorem spec_trAll.calls (k : Nat) (A0_0 : Option Addr) (c0_0 : Nat) (l0_0 : List (List Int)) (a1 a2 : Int) (r : List (List Int)) (w : World) (hr0_0 : Kd.C (Kd.slice 3 (Kd.int .i64)) w A0_0 l0_0.length l0_0) (hc0_0 : l0_0.length ≤ c0_0) (h : spec_trAll.f k l0_0 a1 a2 = some r) :
  Calls Try.prog 60 #[.agg #[.slice A0_0 l0_0.length c0_0], .int .i64 a1, .int .i64 a2] w fun e w' => ∃ v0_ : Value, e = .returned v0_ ∧ Kd.S (Kd.slice 3 (Kd.int .i64)) 25 w' w.heap.size (fun _ => True) v0_ r ∧ Below w.heap.size w w' := by
 have hu1 := Try.underlying29
 have hu2 := Try.underlying86
 have hu3 := Try.underlying25
 unfold spec_trAll.f at h
 by_cases h1 : 0 < l0_0.length
 ·rw [if_pos h1] at h
  by_cases h2 : l0_0.length ≤ 1000
  ·rw [if_pos h2] at h
   obtain ⟨x, hx, h⟩ := Option.bind_eq_some_iff.mp h
   obtain rfl := Option.some.inj h
   clear h
   have HX := za0.mk hx
   have HR := za0.mk hr0_0
   have HC := za0.mk hc0_0
   have H1 := za0.mk h1
   have H2 := za0.mk h2
   clear hx hr0_0 hc0_0 h1 h2
   go_enter Try.func60, Try.ntmps60
   go_wp2_with fail
   have hcz : (w.alloc (.cells #[.slice A0_0 l0_0.length c0_0] 29)).drew.cell? ⟨w.heap.size, 0, none⟩ = some (.slice A0_0 l0_0.length c0_0) := by
    exact zk0 (blk_new w (.cells #[.slice A0_0 l0_0.length c0_0] 29)) 0
   have HB := za0.mk (below_drew (zc0 (Below.refl w.heap.size w) (.cells #[.slice A0_0 l0_0.length c0_0] 29)))
   have BK := za0.mk (show (w.alloc (.cells #[.slice A0_0 l0_0.length c0_0] 29)).drew.heap[w.heap.size]? = some (.cells #[.slice A0_0 l0_0.length c0_0] 29 (0, 0)) from blk_new w _)
   refine start_ (n := 10) (S := fun w' => w'.cell? ⟨w.heap.size, 0, none⟩ = some (.slice A0_0 l0_0.length c0_0)) (ds := []) #[false, false, false, false, false, false, false, false, false, false] (by kernel_rfl) rfl rfl hcz (fun hHeld => ?_)
   generalize (w.alloc (.cells #[.slice A0_0 l0_0.length c0_0] 29)).drew = w1 at hHeld BK HB hcz ⊢
   clear hcz
   refine take_ (i := 0) (N := some 8) (v := ?_) (a' := ?_) (bf 10 1) rfl rfl (by kernel_rfl) (fun _ _ _ h => h) (Or.inl ⟨by rfl, ?_⟩) hHeld ?_ ?_
   rotate_left
   ·rintro w' s0; go_simp; with_reducible rfl
   rotate_left
   ·simp only [Act.put, zA, zB, zC, i64_w, i32_w]; rfl
   refine pure_ (i := 1) (N := some 9) (v := ?_) (a' := ?_) (bf 10 3) rfl rfl (by kernel_rfl) (fun _ _ _ h => h) (Or.inl ⟨by rfl, ?_⟩) ?_ ?_
   rotate_left
   ·intro w'; go_simp; with_reducible rfl
   rotate_left
   ·simp only [Act.put, zA, zB, zC, i64_w, i32_w]; rfl
   refine pure_ (i := 2) (N := some 10) (v := ?_) (a' := ?_) (bf 10 7) rfl rfl (by kernel_rfl) (fun _ _ _ h => h) (Or.inl ⟨by rfl, ?_⟩) ?_ ?_
   rotate_left
   ·intro w'; go_simp; with_reducible rfl
   rotate_left
   ·simp only [Act.put, zA, zB, zC, i64_w, i32_w]; rfl
   refine take_ (i := 3) (N := some 11) (v := ?_) (a' := ?_) (bf 10 15) rfl rfl (by kernel_rfl) (fun _ _ _ h => h) (Or.inl ⟨by rfl, ?_⟩) hHeld ?_ ?_
   rotate_left
   ·rintro w' s0; go_simp; with_reducible rfl
   rotate_left
   ·simp only [Act.put, zA, zB, zC, i64_w, i32_w]; rfl
   refine pure_ (i := 4) (N := some 12) (v := ?_) (a' := ?_) (bf 10 31) rfl rfl (by kernel_rfl) (fun _ _ _ h => h) (Or.inl ⟨by rfl, ?_⟩) ?_ ?_
   rotate_left
   ·intro w'; go_simp; with_reducible rfl
   rotate_left
   ·simp only [Act.put, zA, zB, zC, i64_w, i32_w]; rfl
   refine pure_ (i := 6) (N := some 14) (v := ?_) (a' := ?_) (bf 10 95) rfl rfl (by kernel_rfl) (fun _ _ _ h => h) (Or.inl ⟨by rfl, ?_⟩) ?_ ?_
   rotate_left
   ·intro w'; go_simp; with_reducible rfl
   rotate_left
   ·simp only [Act.put, zA, zB, zC, i64_w, i32_w]; rfl
   refine one_ (i := 5) (N := some 13) (bf 10 127) rfl rfl (by kernel_rfl) (by decide) (fun K hK => ?_)
   refine Kd.R_make_step (Kd.int .i64) (w0 := w) w.heap.size 3 (by rfl) rfl 25 (.tmp 12) (.tmp 12) rfl (l0_0.length : Int) rfl rfl Try.underlying25 (.int .i64 0) 8 info3 rfl (by decide) (by omega) 0 (ok := fun _ => True) (okp := fun _ => False) rfl (fun _ _ => trivial) trivial (by omega) (by have := H2.out; omega) HB.out (zg0 HB.out) ?_
   intro v2 w2 hr2 hb2 hg2 ho2
   rw [Int.toNat_natCast] at hr2
   obtain ⟨nb, cap, e2, hnb, _, _⟩ := Kd.R_form hr2 (by rw [List.length_replicate]; exact H1.out)
   rw [List.length_replicate] at e2
   subst e2
   have HRT := za0.mk (Kd.R_mono (ok' := fun k => k = nb) (Kd.R_tight rfl hr2) (fun k hk => by injection hk))
   have HNB := za0.mk hnb
   have BK2 := za0.mk (zy0 BK.out hg2 (by simp))
   have HB2 := za0.mk hb2
   clear hr2 hb2 hg2 ho2 hnb BK HB
   refine hK.out _ _ ((zk0 BK2.out 0).trans rfl) (fun hHeld => ?_)
   clear hK K
   refine norm_ (a' := ?_) ?_ ?_
   rotate_left
   ·show Act.put _ (some 13) _ = _; simp only [Act.put, zA, zB, zC, i64_w, i32_w]; rfl
   refine pure_ (i := 7) (N := some 15) (v := ?_) (a' := ?_) (bf 10 255) rfl rfl (by kernel_rfl) (fun _ _ _ h => h) (Or.inl ⟨by rfl, ?_⟩) ?_ ?_
   rotate_left
   ·intro w'; go_simp; with_reducible rfl
   rotate_left
   ·simp only [Act.put, zA, zB, zC, i64_w, i32_w]; rfl
   refine one_ (i := 8) (N := some 16) (bf 10 511) rfl rfl (by kernel_rfl) (by decide) (fun K hK => ?_)
   refine value_ (w1 := ?_) (v := ?_) (by rfl) rfl ?_ ?_
   rotate_left 2
   ·go_simp
    constructor
    ·rfl
    ·rfl
   refine hK.out _ _ ((zk0 (zf0 BK2.out _) 0).trans rfl) (fun hHeld => ?_)
   clear hK K
   refine norm_ (a' := ?_) ?_ ?_
   rotate_left
   ·show Act.put _ (some 16) _ = _; simp only [Act.put, zA, zB, zC, i64_w, i32_w]; rfl
   refine pure_ (i := 9) (N := some 7) (v := ?_) (a' := ?_) (bf 10 1023) rfl rfl (by kernel_rfl) (fun _ _ _ h => h) (Or.inl ⟨by rfl, ?_⟩) ?_ ?_
   rotate_left
   ·intro w'; go_simp; with_reducible rfl
   rotate_left
   ·simp only [Act.put, zA, zB, zC, i64_w, i32_w]; rfl
   refine done_ (by kernel_rfl) ?_
   have ST := za0.mk (show LookSt w (w2.alloc (.cells #[.slice A0_0 l0_0.length c0_0, .int .i64 a1, .slice (some ⟨nb, 0, none⟩) l0_0.length cap, .slice none 0 0, .int .i64 a2] 86)) w2.heap.size nb l0_0.length cap c0_0 A0_0 l0_0.length a1 a2 (List.replicate l0_0.length 0) [] none 0 from
    ⟨zc0 HB2.out _, by simp, (Kd.R_reads' HRT.out).2.1, blk_new w2 _, Kd.R_alloc HRT.out _, Kd.S_nil _ _ _ _ _⟩)
   have HNE := za0.mk (show w2.heap.size ≠ nb from fun e => by have := Kd.R_lt HRT.out nb rfl; omega)
   clear BK2 HRT
   go_wp2_with (go_at_call 74; refine (trSearch_look.calls l0_0 a1 a2 A0_0 c0_0 w2.heap.size nb l0_0.length cap w HR.out HC.out (zg0 HB2.out) HNB.out HNE.out k k (Nat.le_refl k) 0 _ _ _ _ x _ ST.out HX.out).mono ?_; rintro e w3 ⟨rfl, Af3, cf3, st3⟩; have hcz3 : w3.cell? ⟨w2.heap.size, 3, none⟩ = some (.slice Af3 x.2.length cf3) := (zk0 st3.bk 3).trans rfl; have ST3 := za0.mk st3; clear st3 ST)
   go_ret
   exact ⟨_, rfl, Kd.S_mono ST3.out.fd (fun _ _ => trivial), ST3.out.hb⟩
  ·rw [if_neg h2] at h; cases h
 ·rw [if_neg h1] at h; cases h
def spec_acAll.f (k : Nat) (l0_0 : List (List Int)) (a1 : Int) : Option ((List (List Int)) × Bool) := (spec_chSink.f k l0_0 a1).bind fun t271 => (if t271 = true then ((spec_trAll.f k l0_0 a1 61).bind fun t272 => (some (t272, decide ((t272.length : Int) ≤ 60)))) else (some (([] : List (List Int)), false)))
theorem spec_acAll.mono : ∀ a0 a1 k, LeO (spec_acAll.f k a0 a1) (spec_acAll.f (k + 1) a0 a1) := by
 intro a0 a1 k
 unfold spec_acAll.f
 repeat' first
   | (with_reducible exact spec_chSink.mono _ _ _)
   | (with_reducible exact spec_trAll.mono _ _ _ _)
   | (with_reducible exact LeO.refl _)
   | (with_reducible exact LeO.none _)
   | (with_reducible refine LeO.ite ?_ ?_)
   | (with_reducible refine LeO.bind ?_ (fun _ => ?_))
   | exact spec_chSink.mono _ _ _
   | exact spec_trAll.mono _ _ _ _
   | exact LeO.none _
   | refine LeO.ite ?_ ?_
   | refine LeO.bind ?_ (fun _ => ?_)
set_option maxHeartbeats 8000000 in
set_option maxRecDepth 100000 in
theorem spec_acAll.calls (k : Nat) (A0_0 : Option Addr) (c0_0 : Nat) (l0_0 : List (List Int)) (a1 : Int) (r1 : List (List Int)) (r2 : Bool) (w : World) (hr0_0 : Kd.C (Kd.slice 3 (Kd.int .i64)) w A0_0 l0_0.length l0_0) (hc0_0 : l0_0.length ≤ c0_0) (h : spec_acAll.f k l0_0 a1 = some (r1, r2)) :
  Calls Try.prog 38 #[.agg #[.slice A0_0 l0_0.length c0_0], .int .i64 a1] w fun e w' => ∃ v0_ : Value, e = .returned (.tuple #[v0_, .bool r2]) ∧ Kd.S (Kd.slice 3 (Kd.int .i64)) 25 w' w.heap.size (fun _ => True) v0_ r1 ∧ Below w.heap.size w w' := by
 have hu29 := Try.underlying29
 have HR0_0 := za0.mk hr0_0
 have HC0_0 := za0.mk hc0_0
 clear hr0_0 hc0_0
 have HB := za0.mk (Below.refl w.heap.size w)
 have H : ((spec_chSink.f k l0_0 a1).bind fun t271 => (if t271 = true then ((spec_trAll.f k l0_0 a1 61).bind fun t272 => (some (t272, decide ((t272.length : Int) ≤ 60)))) else (some (([] : List (List Int)), false)))) = some (r1, r2) := h
 clear h
 replace H := Option.bind_eq_some_iff.mp H
 obtain ⟨t271, A30, H⟩ := H
 replace H : (if t271 = true then ((spec_trAll.f k l0_0 a1 61).bind fun t272 => (some (t272, decide ((t272.length : Int) ≤ 60)))) else (some (([] : List (List Int)), false))) = some (r1, r2) := H
 have A3 := za0.mk A30
 clear A30
 by_cases c4 : t271 = true
 ·subst c4
  have H1 : ((spec_trAll.f k l0_0 a1 61).bind fun t272 => (some (t272, decide ((t272.length : Int) ≤ 60)))) = some (r1, r2) := by rw [if_pos rfl] at H; exact H
  clear H
  have H := H1
  clear H1
  replace H := Option.bind_eq_some_iff.mp H
  obtain ⟨t272, A50, H⟩ := H
  replace H : (some (t272, decide ((t272.length : Int) ≤ 60))) = some (r1, r2) := H
  have A5 := za0.mk A50
  clear A50
  simp only [Option.some.injEq, Prod.mk.injEq] at H
  obtain ⟨rfl, rfl⟩ := H
  go_enter Try.func38, Try.ntmps38
  go_wp2_with (first | ((with_reducible refine zn0 (N := 2) rfl ?_); refine zo0 ?hg (N := 2) ?hd (cs := #[.slice A0_0 l0_0.length c0_0]) (t := 29) ?hr ?_; (case hd => rfl); (case hg => rfl); (case hr => first | (go_simp; done) | (go_simp; rfl)); intro gb270 hg w6 hbox hb; have n0_ := za0.mk (zj0 (by repeat (first | (with_reducible first | exact HB.out | apply zc0 | apply zb0 | apply zd0) | exact HB.out)) hb); have n1_ := za0.mk (hbox); have n2_ := za0.mk ((by rw [hg]; exact (zg0 (by repeat (first | (with_reducible first | exact HB.out | apply zc0 | apply zb0 | apply zd0) | exact HB.out))) : w.heap.size ≤ gb270)); have n3_ := za0.mk ((by rw [hg]; exact (zg0 (by repeat (first | (with_reducible first | exact HB.out | apply zc0 | apply zb0 | apply zd0) | exact HB.out))) : w.heap.size ≤ gb270)); clear HB; have HB := n0_; have BK270 := n1_; have GW270 := n2_; have GE270 := n3_; clear n0_ n1_ n2_ n3_; clear hb hbox hg; have hcz7_0 : w6.cell? ⟨gb270, 0, none⟩ = some (.slice A0_0 l0_0.length c0_0) := (zk0 BK270.out 0).trans rfl; have hfz7_0 := zm0 BK270.out 0) | ((with_reducible refine zs0 (f := 59) rfl ?_); refine goesL_ (some 9) rfl rfl Try.func59 (by kernel_rfl) rfl #[.agg #[.slice A0_0 l0_0.length c0_0], .int .i64 a1] rfl (by (try simp only [List.map_toArray, List.map_cons, List.map_nil]); first | done | rfl | (simp only [List.length_drop, List.length_take]; rfl)) ?_; (with_reducible refine (spec_chSink.calls k _ _ l0_0 a1 true _ ?side1 ?side2 A3.out).mono ?_); (case side1 => repeat (first | exact (Kd.C_below HR0_0.out HB.out) | (with_reducible refine Kd.C_alloc ?_ _) | (with_reducible refine Kd.C_drewN ?_ _) | (with_reducible refine Kd.C_drew ?_))); (case side2 => exact HC0_0.out); rintro e w8 ⟨rfl, hb⟩; refine ⟨_, rfl, ?_⟩; have n0_ := za0.mk (zl0 (g := gb270) (o := .cells #[.slice A0_0 l0_0.length c0_0] 29 (0, 0)) (by (with_reducible repeat (first | refine zh0 ?_ _ | refine zi0 ?_ | refine zf0 ?_ _)); exact BK270.out) hb); have n1_ := za0.mk (zj0 (by repeat (first | (with_reducible first | exact HB.out | apply zc0 | apply zb0 | apply zd0 | refine ze0 ?_ GE270.out) | exact HB.out)) hb); clear BK270; clear HB; have BK270 := n0_; have HB := n1_; clear n0_ n1_; (try clear hb); (try clear hb2); (try clear hk); (try clear hi); have hcz9_0 : w8.cell? ⟨gb270, 0, none⟩ = some (.slice A0_0 l0_0.length c0_0) := (zk0 BK270.out 0).trans rfl; have hfz9_0 := zm0 BK270.out 0) | ((with_reducible refine zs0 (f := 60) rfl ?_); refine goesL_ (some 13) rfl rfl Try.func60 (by kernel_rfl) rfl #[.agg #[.slice A0_0 l0_0.length c0_0], .int .i64 a1, .int .i64 61] rfl (by (try simp only [List.map_toArray, List.map_cons, List.map_nil]); first | done | rfl | (simp only [List.length_drop, List.length_take]; rfl)) ?_; (with_reducible refine (spec_trAll.calls k _ _ l0_0 a1 61 t272 _ ?side1 ?side2 A5.out).mono ?_); (case side1 => repeat (first | exact (Kd.C_below HR0_0.out HB.out) | (with_reducible refine Kd.C_alloc ?_ _) | (with_reducible refine Kd.C_drewN ?_ _) | (with_reducible refine Kd.C_drew ?_))); (case side2 => exact HC0_0.out); rintro e w10 ⟨v273, rfl, ho0, hb⟩; refine ⟨_, rfl, ?_⟩; have n0_ := za0.mk (Kd.S_lower ho0 (zg0 (by repeat (first | (with_reducible first | exact HB.out | apply zc0 | apply zb0 | apply zd0 | refine ze0 ?_ GE270.out) | exact HB.out)))); have n1_ := za0.mk (zl0 (g := gb270) (o := .cells #[.slice A0_0 l0_0.length c0_0] 29 (0, 0)) (by (with_reducible repeat (first | refine zh0 ?_ _ | refine zi0 ?_ | refine zf0 ?_ _)); exact BK270.out) hb); have n2_ := za0.mk (zj0 (by repeat (first | (with_reducible first | exact HB.out | apply zc0 | apply zb0 | apply zd0 | refine ze0 ?_ GE270.out) | exact HB.out)) hb); clear BK270; clear HB; have HO274 := n0_; have BK270 := n1_; have HB := n2_; clear n0_ n1_ n2_; (try clear hb); (try clear hb2); (try clear hk); (try clear hi); (try clear ho0); obtain ⟨Ao11, co11, eo11⟩ := Kd.S_slice HO274.out; subst eo11))
  go_ret2
  exact ⟨_, by first | rfl | (simp [errW_none, errW_some] <;> rfl) | (simp [*, errW_none, errW_some] <;> rfl), by (with_reducible repeat (first | apply Kd.S_alloc | apply Kd.S_drewN | apply Kd.S_drew)); exact HO274.out, by repeat (first | (with_reducible first | exact HB.out | apply zc0 | apply zb0 | apply zd0 | refine ze0 ?_ GE270.out) | exact HB.out)⟩
 ·replace c4 := Bool.eq_false_iff.mpr c4
  subst c4
  have H1 : (some (([] : List (List Int)), false)) = some (r1, r2) := by rw [if_neg (show ¬ (false = true) by decide)] at H; exact H
  clear H
  have H := H1
  clear H1
  simp only [Option.some.injEq, Prod.mk.injEq] at H
  obtain ⟨rfl, rfl⟩ := H
  go_enter Try.func38, Try.ntmps38
  go_wp2_with (first | ((with_reducible refine zn0 (N := 2) rfl ?_); refine zo0 ?hg (N := 2) ?hd (cs := #[.slice A0_0 l0_0.length c0_0]) (t := 29) ?hr ?_; (case hd => rfl); (case hg => rfl); (case hr => first | (go_simp; done) | (go_simp; rfl)); intro gb270 hg w12 hbox hb; have n0_ := za0.mk (zj0 (by repeat (first | (with_reducible first | exact HB.out | apply zc0 | apply zb0 | apply zd0) | exact HB.out)) hb); have n1_ := za0.mk (hbox); have n2_ := za0.mk ((by rw [hg]; exact (zg0 (by repeat (first | (with_reducible first | exact HB.out | apply zc0 | apply zb0 | apply zd0) | exact HB.out))) : w.heap.size ≤ gb270)); have n3_ := za0.mk ((by rw [hg]; exact (zg0 (by repeat (first | (with_reducible first | exact HB.out | apply zc0 | apply zb0 | apply zd0) | exact HB.out))) : w.heap.size ≤ gb270)); clear HB; have HB := n0_; have BK270 := n1_; have GW270 := n2_; have GE270 := n3_; clear n0_ n1_ n2_ n3_; clear hb hbox hg; have hcz13_0 : w12.cell? ⟨gb270, 0, none⟩ = some (.slice A0_0 l0_0.length c0_0) := (zk0 BK270.out 0).trans rfl; have hfz13_0 := zm0 BK270.out 0) | ((with_reducible refine zs0 (f := 59) rfl ?_); refine goesL_ (some 9) rfl rfl Try.func59 (by kernel_rfl) rfl #[.agg #[.slice A0_0 l0_0.length c0_0], .int .i64 a1] rfl (by (try simp only [List.map_toArray, List.map_cons, List.map_nil]); first | done | rfl | (simp only [List.length_drop, List.length_take]; rfl)) ?_; (with_reducible refine (spec_chSink.calls k _ _ l0_0 a1 false _ ?side1 ?side2 A3.out).mono ?_); (case side1 => repeat (first | exact (Kd.C_below HR0_0.out HB.out) | (with_reducible refine Kd.C_alloc ?_ _) | (with_reducible refine Kd.C_drewN ?_ _) | (with_reducible refine Kd.C_drew ?_))); (case side2 => exact HC0_0.out); rintro e w14 ⟨rfl, hb⟩; refine ⟨_, rfl, ?_⟩; have n0_ := za0.mk (zl0 (g := gb270) (o := .cells #[.slice A0_0 l0_0.length c0_0] 29 (0, 0)) (by (with_reducible repeat (first | refine zh0 ?_ _ | refine zi0 ?_ | refine zf0 ?_ _)); exact BK270.out) hb); have n1_ := za0.mk (zj0 (by repeat (first | (with_reducible first | exact HB.out | apply zc0 | apply zb0 | apply zd0 | refine ze0 ?_ GE270.out) | exact HB.out)) hb); clear BK270; clear HB; have BK270 := n0_; have HB := n1_; clear n0_ n1_; (try clear hb); (try clear hb2); (try clear hk); (try clear hi)))
  go_ret2
  exact ⟨_, by first | rfl | (simp [errW_none, errW_some] <;> rfl) | (simp [*, errW_none, errW_some] <;> rfl), by first | exact Kd.S_nil _ _ _ _ _ | exact Kd.N_nil _ _ _ _ _ | exact Kd.V_nil _ _ _ _ _ | exact Kd.Q_nil _ _ _ _ _ | exact Kd.R_nil _ _ _ _ _, by repeat (first | (with_reducible first | exact HB.out | apply zc0 | apply zb0 | apply zd0 | refine ze0 ?_ GE270.out) | exact HB.out)⟩
def spec_waStep.f (l0_0 : List (List Int)) (l1_0 : List Int) (a1_1 : Int) : Option (List Int × Int × Bool) := if 0 ≤ a1_1 then (if a1_1 < (l0_0.length : Int) then (if ((rd_L1 l0_0 a1_1).length : Int) = 0 then (some (l1_0, a1_1, false)) else ((spec_l1Own.f l1_0).bind fun t301 => (if a1_1 < (l1_0.length : Int) then (if a1_1 < (t301.length : Int) then (if 0 ≤ (Int.tmod (wrap64 ((rd l1_0 a1_1) + 1)) ((rd_L1 l0_0 a1_1).length : Int)) then (if (Int.tmod (wrap64 ((rd l1_0 a1_1) + 1)) ((rd_L1 l0_0 a1_1).length : Int)) < ((rd_L1 l0_0 a1_1).length : Int) then (some ((t301.set (a1_1 : Int).toNat (Int.tmod (wrap64 ((rd l1_0 a1_1) + 1)) ((rd_L1 l0_0 a1_1).length : Int))), rd (rd_L1 l0_0 a1_1) (Int.tmod (wrap64 ((rd l1_0 a1_1) + 1)) ((rd_L1 l0_0 a1_1).length : Int)), true)) else (none)) else (none)) else (none)) else (none)))) else (none)) else (none)
set_option maxHeartbeats 8000000 in
set_option maxRecDepth 100000 in
theorem spec_waStep.calls (A0_0 : Option Addr) (c0_0 : Nat) (l0_0 : List (List Int)) (P1_0_ : Nat → Prop) (u9000_ : Value) (l1_0 : List Int) (a1_1 : Int) (r1 : List Int) (r2 : Int) (r3 : Bool) (w0 w : World) (hB : Below w0.heap.size w0 w) (hr0_0 : ∀ W_, Kept w W_ (fun k_ => P1_0_ k_) → Kd.C (Kd.slice 3 (Kd.int .i64)) W_ A0_0 l0_0.length l0_0) (hc0_0 : l0_0.length ≤ c0_0) (ho1_0 : Kd.R (Kd.int .i64) 3 w w0.heap.size P1_0_ u9000_ l1_0) (h : spec_waStep.f l0_0 l1_0 a1_1 = some (r1, r2, r3)) :
  Calls Try.prog 47 #[.agg #[.slice A0_0 l0_0.length c0_0], .agg #[u9000_, .int .i64 a1_1]] w fun e w' => ∃ v0_ : Value, e = .returned (.tuple #[.agg #[v0_, .int .i64 r2], .bool r3]) ∧ Kd.R (Kd.int .i64) 3 w' w0.heap.size (fun k_ => (P1_0_ k_ ∨ w.heap.size ≤ k_)) v0_ r1 ∧ Below w0.heap.size w0 w' ∧ Kept w w' (fun k_ => P1_0_ k_) := by
 have hu29 := Try.underlying29
 have hu63 := Try.underlying63
 have HR0_0 := za0.mk hr0_0
 have HC0_0 := za0.mk hc0_0
 clear hr0_0 hc0_0
 have HO1_0 := za0.mk (show Kd.R (Kd.int .i64) 3 w w0.heap.size (fun k_ => (P1_0_ k_ ∨ w.heap.size ≤ k_)) u9000_ l1_0 from Kd.R_mono ho1_0 (fun k_ hk => (.inl hk)))
 have HK := za0.mk (Kept.refl w (fun k_ => P1_0_ k_))
 have HW0 := za0.mk hB.size
 have HB := za0.mk hB
 clear hB
 have H : (if 0 ≤ a1_1 then (if a1_1 < (l0_0.length : Int) then (if ((rd_L1 l0_0 a1_1).length : Int) = 0 then (some (l1_0, a1_1, false)) else ((spec_l1Own.f l1_0).bind fun t301 => (if a1_1 < (l1_0.length : Int) then (if a1_1 < (t301.length : Int) then (if 0 ≤ (Int.tmod (wrap64 ((rd l1_0 a1_1) + 1)) ((rd_L1 l0_0 a1_1).length : Int)) then (if (Int.tmod (wrap64 ((rd l1_0 a1_1) + 1)) ((rd_L1 l0_0 a1_1).length : Int)) < ((rd_L1 l0_0 a1_1).length : Int) then (some ((t301.set (a1_1 : Int).toNat (Int.tmod (wrap64 ((rd l1_0 a1_1) + 1)) ((rd_L1 l0_0 a1_1).length : Int))), rd (rd_L1 l0_0 a1_1) (Int.tmod (wrap64 ((rd l1_0 a1_1) + 1)) ((rd_L1 l0_0 a1_1).length : Int)), true)) else (none)) else (none)) else (none)) else (none)))) else (none)) else (none)) = some (r1, r2, r3) := h
 clear h
 by_cases c3 : 0 ≤ a1_1
 ·rw [if_pos c3] at H
  have c3b0 : decide (0 ≤ a1_1) = true := decide_eq_true c3
  clear c3
  by_cases c4 : a1_1 < (l0_0.length : Int)
  ·rw [if_pos c4] at H
   have c4b0 : decide (a1_1 < (l0_0.length : Int)) = true := decide_eq_true c4
   clear c4
   by_cases c5 : ((rd_L1 l0_0 a1_1).length : Int) = 0
   ·rw [if_pos c5] at H
    have c5b0 : (((rd_L1 l0_0 a1_1).length : Int) == 0) = true := beq_iff_eq.mpr c5
    have c5b1 : (((rd_L1 l0_0 a1_1).length : Int) != 0) = false := bne_eq_false_iff_eq.mpr c5
    clear c5
    simp only [Option.some.injEq, Prod.mk.injEq] at H
    obtain ⟨rfl, rfl, rfl⟩ := H
    go_enter Try.func47, Try.ntmps47
    go_wp2_with (first | ((with_reducible refine zn0 (N := 2) rfl ?_); refine zo0 ?hg (N := 2) ?hd (cs := #[.slice A0_0 l0_0.length c0_0]) (t := 29) ?hr ?_; (case hd => rfl); (case hg => rfl); (case hr => first | (go_simp; done) | (go_simp; rfl)); intro gb297 hg w6 hbox hb; have n0_ := za0.mk (Kd.R_below (by (with_reducible repeat (first | apply Kd.R_alloc | apply Kd.R_drewN | apply Kd.R_drew)); exact HO1_0.out) hb); have n1_ := za0.mk (Kept.below (S := (fun k_ => P1_0_ k_)) (by repeat (first | (with_reducible first | exact HK.out | apply Kept.alloc | apply Kept.drewN | apply Kept.drew) | exact HK.out)) hb); have n2_ := za0.mk (zj0 (by repeat (first | (with_reducible first | exact HB.out | apply zc0 | apply zb0 | apply zd0) | exact HB.out)) hb); have n3_ := za0.mk (hbox); have n4_ := za0.mk ((by rw [hg]; exact (by first | exact HK.out.1 | exact (show Kept w _ (fun k_ => P1_0_ k_) from by repeat (first | (with_reducible first | exact HK.out | apply Kept.alloc | apply Kept.drewN | apply Kept.drew) | exact HK.out)).1) : w.heap.size ≤ gb297)); have n5_ := za0.mk ((by rw [hg]; exact (zg0 (by repeat (first | (with_reducible first | exact HB.out | apply zc0 | apply zb0 | apply zd0) | exact HB.out))) : w0.heap.size ≤ gb297)); clear HO1_0; clear HK; clear HB; have HO1_0 := n0_; have HK := n1_; have HB := n2_; have BK297 := n3_; have GW297 := n4_; have GE297 := n5_; clear n0_ n1_ n2_ n3_ n4_ n5_; clear hb hbox hg; obtain ⟨Ao7, co7, eo7⟩ := Kd.R_slice HO1_0.out; subst eo7) | ((with_reducible refine zn0 (N := 3) rfl ?_); refine zo0 ?hg (N := 3) ?hd (cs := #[.slice Ao7 l1_0.length co7, .int .i64 a1_1]) (t := 63) ?hr ?_; (case hd => rfl); (case hg => rfl); (case hr => first | (go_simp; done) | (go_simp; rfl)); intro gb298 hg w8 hbox hb; have n0_ := za0.mk (Kd.R_below (by (with_reducible repeat (first | apply Kd.R_alloc | apply Kd.R_drewN | apply Kd.R_drew)); exact HO1_0.out) hb); have n1_ := za0.mk (zl0 (g := gb297) (o := .cells #[.slice A0_0 l0_0.length c0_0] 29 (0, 0)) (by (with_reducible repeat (first | refine zh0 ?_ _ | refine zi0 ?_ | refine zf0 ?_ _)); exact BK297.out) hb); have n2_ := za0.mk (Kept.below (S := (fun k_ => P1_0_ k_)) (by repeat (first | (with_reducible first | exact HK.out | apply Kept.alloc | apply Kept.drewN | apply Kept.drew | refine Kept.setCell ?_ (.inr GW297.out) _) | exact HK.out)) hb); have n3_ := za0.mk (zj0 (by repeat (first | (with_reducible first | exact HB.out | apply zc0 | apply zb0 | apply zd0 | refine ze0 ?_ GE297.out) | exact HB.out)) hb); have n4_ := za0.mk (hbox); have n5_ := za0.mk ((by rw [hg]; exact (by first | exact HK.out.1 | exact (show Kept w _ (fun k_ => P1_0_ k_) from by repeat (first | (with_reducible first | exact HK.out | apply Kept.alloc | apply Kept.drewN | apply Kept.drew | refine Kept.setCell ?_ (.inr GW297.out) _) | exact HK.out)).1) : w.heap.size ≤ gb298)); have n6_ := za0.mk ((by rw [hg]; exact (zg0 (by repeat (first | (with_reducible first | exact HB.out | apply zc0 | apply zb0 | apply zd0 | refine ze0 ?_ GE297.out) | exact HB.out))) : w0.heap.size ≤ gb298)); have n7_ := za0.mk ((by rw [hg]; exact Nat.ne_of_lt (blk_lt (g := gb297) (o := .cells #[.slice A0_0 l0_0.length c0_0] 29 (0, 0)) (by (with_reducible repeat (first | refine zh0 ?_ _ | refine zi0 ?_ | refine zf0 ?_ _)); exact BK297.out)) : gb297 ≠ gb298)); have n8_ := za0.mk ((by rw [hg]; exact Nat.ne_of_gt (blk_lt (g := gb297) (o := .cells #[.slice A0_0 l0_0.length c0_0] 29 (0, 0)) (by (with_reducible repeat (first | refine zh0 ?_ _ | refine zi0 ?_ | refine zf0 ?_ _)); exact BK297.out)) : gb298 ≠ gb297)); clear HO1_0; clear BK297; clear HK; clear HB; have HO1_0 := n0_; have BK297 := n1_; have HK := n2_; have HB := n3_; have BK298 := n4_; have GW298 := n5_; have GE298 := n6_; have NB297_298 := n7_; have NB298_297 := n8_; clear n0_ n1_ n2_ n3_ n4_ n5_ n6_ n7_ n8_; clear hb hbox hg) | ((with_reducible refine zn0 (N := 4) rfl ?_); refine zo0 ?hg (N := 4) ?hd (cs := #[.slice none 0 0, .int .i64 0]) (t := 63) ?hr ?_; (case hd => rfl); (case hg => rfl); (case hr => first | (go_simp; done) | (go_simp; rfl)); intro gb299 hg w9 hbox hb; have n0_ := za0.mk (Kd.R_below (by (with_reducible repeat (first | apply Kd.R_alloc | apply Kd.R_drewN | apply Kd.R_drew)); exact HO1_0.out) hb); have n1_ := za0.mk (zl0 (g := gb297) (o := .cells #[.slice A0_0 l0_0.length c0_0] 29 (0, 0)) (by (with_reducible repeat (first | refine zh0 ?_ _ | refine zi0 ?_ | refine zf0 ?_ _)); exact BK297.out) hb); have n2_ := za0.mk (zl0 (g := gb298) (o := .cells #[.slice Ao7 l1_0.length co7, .int .i64 a1_1] 63 (0, 0)) (by (with_reducible repeat (first | refine zh0 ?_ _ | refine zi0 ?_ | refine zf0 ?_ _)); exact BK298.out) hb); have n3_ := za0.mk (Kept.below (S := (fun k_ => P1_0_ k_)) (by repeat (first | (with_reducible first | exact HK.out | apply Kept.alloc | apply Kept.drewN | apply Kept.drew | refine Kept.setCell ?_ (.inr GW297.out) _ | refine Kept.setCell ?_ (.inr GW298.out) _) | exact HK.out)) hb); have n4_ := za0.mk (zj0 (by repeat (first | (with_reducible first | exact HB.out | apply zc0 | apply zb0 | apply zd0 | refine ze0 ?_ GE297.out | refine ze0 ?_ GE298.out) | exact HB.out)) hb); have n5_ := za0.mk (hbox); have n6_ := za0.mk ((by rw [hg]; exact (by first | exact HK.out.1 | exact (show Kept w _ (fun k_ => P1_0_ k_) from by repeat (first | (with_reducible first | exact HK.out | apply Kept.alloc | apply Kept.drewN | apply Kept.drew | refine Kept.setCell ?_ (.inr GW297.out) _ | refine Kept.setCell ?_ (.inr GW298.out) _) | exact HK.out)).1) : w.heap.size ≤ gb299)); have n7_ := za0.mk ((by rw [hg]; exact (zg0 (by repeat (first | (with_reducible first | exact HB.out | apply zc0 | apply zb0 | apply zd0 | refine ze0 ?_ GE297.out | refine ze0 ?_ GE298.out) | exact HB.out))) : w0.heap.size ≤ gb299)); have n8_ := za0.mk ((by rw [hg]; exact Nat.ne_of_lt (blk_lt (g := gb297) (o := .cells #[.slice A0_0 l0_0.length c0_0] 29 (0, 0)) (by (with_reducible repeat (first | refine zh0 ?_ _ | refine zi0 ?_ | refine zf0 ?_ _)); exact BK297.out)) : gb297 ≠ gb299)); have n9_ := za0.mk ((by rw [hg]; exact Nat.ne_of_gt (blk_lt (g := gb297) (o := .cells #[.slice A0_0 l0_0.length c0_0] 29 (0, 0)) (by (with_reducible repeat (first | refine zh0 ?_ _ | refine zi0 ?_ | refine zf0 ?_ _)); exact BK297.out)) : gb299 ≠ gb297)); have n10_ := za0.mk ((by rw [hg]; exact Nat.ne_of_lt (blk_lt (g := gb298) (o := .cells #[.slice Ao7 l1_0.length co7, .int .i64 a1_1] 63 (0, 0)) (by (with_reducible repeat (first | refine zh0 ?_ _ | refine zi0 ?_ | refine zf0 ?_ _)); exact BK298.out)) : gb298 ≠ gb299)); have n11_ := za0.mk ((by rw [hg]; exact Nat.ne_of_gt (blk_lt (g := gb298) (o := .cells #[.slice Ao7 l1_0.length co7, .int .i64 a1_1] 63 (0, 0)) (by (with_reducible repeat (first | refine zh0 ?_ _ | refine zi0 ?_ | refine zf0 ?_ _)); exact BK298.out)) : gb299 ≠ gb298)); clear HO1_0; clear BK297; clear BK298; clear HK; clear HB; have HO1_0 := n0_; have BK297 := n1_; have BK298 := n2_; have HK := n3_; have HB := n4_; have BK299 := n5_; have GW299 := n6_; have GE299 := n7_; have NB297_299 := n8_; have NB299_297 := n9_; have NB298_299 := n10_; have NB299_298 := n11_; clear n0_ n1_ n2_ n3_ n4_ n5_ n6_ n7_ n8_ n9_ n10_ n11_; clear hb hbox hg; have hnb10 := NB297_298.out; have hnc10 := NB298_297.out; have hnb11 := NB297_299.out; have hnc11 := NB299_297.out; have hcz12_0 : w9.cell? ⟨gb297, 0, none⟩ = some (.slice A0_0 l0_0.length c0_0) := (zk0 BK297.out 0).trans rfl; have hfz12_0 := zm0 BK297.out 0; have hnb13 := NB298_299.out; have hnc13 := NB299_298.out; have hcz14_0 : w9.cell? ⟨gb298, 0, none⟩ = some (.slice Ao7 l1_0.length co7) := (zk0 BK298.out 0).trans rfl; have hcz14_1 : w9.cell? ⟨gb298, 1, none⟩ = some (.int .i64 a1_1) := (zk0 BK298.out 1).trans rfl; have hfz14_0 := zm0 BK298.out 0; have hfz14_1 := zm0 BK298.out 1; have p300 : 0 ≤ (a1_1 : Int) := of_decide_eq_true (by first | (with_reducible assumption) | assumption); have q300 : a1_1 < (l0_0.length : Int) := of_decide_eq_true (by first | (with_reducible assumption) | assumption); obtain ⟨ad300, A300_0, c300_0, e300, hx300_0, hl300_0, hi300_0⟩ := kept_L1 HR0_0.out HK.out a1_1 p300 q300; cases e300; have HR300_0 := za0.mk hi300_0; have HC300_0 := za0.mk hl300_0; clear hi300_0 hl300_0; replace p300 := eq_true p300; replace q300 := eq_true q300; have hcz15_0 : w9.cell? ⟨gb299, 0, none⟩ = some (.slice none 0 0) := (zk0 BK299.out 0).trans rfl; have hcz15_1 : w9.cell? ⟨gb299, 1, none⟩ = some (.int .i64 0) := (zk0 BK299.out 1).trans rfl; have hfz15_0 := zm0 BK299.out 0; have hfz15_1 := zm0 BK299.out 1))
    refine bodyPost_ret (results_ct rfl _ _ gb299 63 #[.slice Ao7 l1_0.length co7, .int .i64 a1_1] (0, 0) _ rfl (by (with_reducible repeat (first | refine zh0 ?_ _ | refine zi0 ?_ | refine zf0 ?_ _)); refine blk_put (cs := #[.slice Ao7 l1_0.length co7, .int .i64 0]) ?_ 1 _ rfl; (with_reducible repeat (first | refine zh0 ?_ _ | refine zi0 ?_ | refine zf0 ?_ _)); refine blk_put (cs := #[.slice none 0 0, .int .i64 0]) ?_ 0 _ rfl; (with_reducible repeat (first | refine zh0 ?_ _ | refine zi0 ?_ | refine zf0 ?_ _)); exact BK299.out) Try.underlying63 rfl (by kernel_rfl)) rfl ?_
    exact ⟨_, by first | rfl | (simp [errW_none, errW_some] <;> rfl) | (simp [*, errW_none, errW_some] <;> rfl), by (with_reducible repeat (first | apply Kd.R_alloc | apply Kd.R_drewN | apply Kd.R_drew)); exact Kd.R_mono (Kd.R_far (p := ⟨gb299, 1, none⟩) (Kd.R_far (p := ⟨gb299, 0, none⟩) (Kd.R_types HO1_0.out BK299.out (by decide)) (fun _ hk => hk.2) (.slice Ao7 l1_0.length co7)) (fun _ hk => hk.2) (.int .i64 a1_1)) (fun _ hk => hk.1), by repeat (first | (with_reducible first | exact HB.out | apply zc0 | apply zb0 | apply zd0 | refine ze0 ?_ GE297.out | refine ze0 ?_ GE298.out | refine ze0 ?_ GE299.out) | exact HB.out), by repeat (first | (with_reducible first | exact HK.out | apply Kept.alloc | apply Kept.drewN | apply Kept.drew | refine Kept.setCell ?_ (.inr GW297.out) _ | refine Kept.setCell ?_ (.inr GW298.out) _ | refine Kept.setCell ?_ (.inr GW299.out) _) | exact HK.out)⟩
   ·rw [if_neg c5] at H
    have c5b0 : (((rd_L1 l0_0 a1_1).length : Int) == 0) = false := beq_eq_false_iff_ne.mpr c5
    have c5b1 : (((rd_L1 l0_0 a1_1).length : Int) != 0) = true := bne_iff_ne.mpr c5
    have c5b2 : ¬ ((rd_L1 l0_0 a1_1) = []) := fun h_ => c5 (by rw [h_]; rfl)
    replace H := Option.bind_eq_some_iff.mp H
    obtain ⟨t301, A160, H⟩ := H
    replace H : (if a1_1 < (l1_0.length : Int) then (if a1_1 < (t301.length : Int) then (if 0 ≤ (Int.tmod (wrap64 ((rd l1_0 a1_1) + 1)) ((rd_L1 l0_0 a1_1).length : Int)) then (if (Int.tmod (wrap64 ((rd l1_0 a1_1) + 1)) ((rd_L1 l0_0 a1_1).length : Int)) < ((rd_L1 l0_0 a1_1).length : Int) then (some ((t301.set (a1_1 : Int).toNat (Int.tmod (wrap64 ((rd l1_0 a1_1) + 1)) ((rd_L1 l0_0 a1_1).length : Int))), rd (rd_L1 l0_0 a1_1) (Int.tmod (wrap64 ((rd l1_0 a1_1) + 1)) ((rd_L1 l0_0 a1_1).length : Int)), true)) else (none)) else (none)) else (none)) else (none)) = some (r1, r2, r3) := H
    have A16 := za0.mk A160
    clear A160
    by_cases c17 : a1_1 < (l1_0.length : Int)
    ·rw [if_pos c17] at H
     have c17b0 : decide (a1_1 < (l1_0.length : Int)) = true := decide_eq_true c17
     clear c17
     by_cases c18 : a1_1 < (t301.length : Int)
     ·rw [if_pos c18] at H
      have c18b0 : decide (a1_1 < (t301.length : Int)) = true := decide_eq_true c18
      clear c18
      obtain ⟨y306, hy306⟩ : ∃ y_ : List Int, y_ = (t301.set (a1_1 : Int).toNat (Int.tmod (wrap64 ((rd l1_0 a1_1) + 1)) ((rd_L1 l0_0 a1_1).length : Int))) := ⟨_, rfl⟩
      replace H : (if 0 ≤ (Int.tmod (wrap64 ((rd l1_0 a1_1) + 1)) ((rd_L1 l0_0 a1_1).length : Int)) then (if (Int.tmod (wrap64 ((rd l1_0 a1_1) + 1)) ((rd_L1 l0_0 a1_1).length : Int)) < ((rd_L1 l0_0 a1_1).length : Int) then (some (y306, rd (rd_L1 l0_0 a1_1) (Int.tmod (wrap64 ((rd l1_0 a1_1) + 1)) ((rd_L1 l0_0 a1_1).length : Int)), true)) else (none)) else (none)) = some (r1, r2, r3) := by first | (rw [hy306]; with_reducible exact H) | (have H2_ := (Option.bind_some _ _).symm.trans H; rw [hy306]; with_reducible exact H2_) | (have H2_ := (Option.bind_some _ _).symm.trans H; with_reducible exact H2_) | with_reducible exact H | (rw [hy306]; exact H) | exact H
      have Ny306 := za0.mk hy306
      clear hy306
      obtain ⟨ji20, hji20⟩ : ∃ j_ : Int, (Int.tmod (wrap64 ((rd l1_0 a1_1) + 1)) ((rd_L1 l0_0 a1_1).length : Int)) = j_ := ⟨_, rfl⟩
      replace H : (if 0 ≤ (ji20) then (if (ji20) < ((rd_L1 l0_0 a1_1).length : Int) then (some (y306, rd (rd_L1 l0_0 a1_1) (ji20), true)) else (none)) else (none)) = some (r1, r2, r3) := by first | (rw [hji20] at H; exact H) | (simp only [hji20] at H ⊢; exact H)
      (try rw [hji20] at A16)
      (try rw [hji20] at Ny306)
      by_cases c21 : 0 ≤ (ji20)
      ·rw [if_pos c21] at H
       have c21b0 : decide (0 ≤ (ji20)) = true := decide_eq_true c21
       clear c21
       by_cases c22 : (ji20) < ((rd_L1 l0_0 a1_1).length : Int)
       ·rw [if_pos c22] at H
        have c22b0 : decide ((ji20) < ((rd_L1 l0_0 a1_1).length : Int)) = true := decide_eq_true c22
        clear c22
        simp only [Option.some.injEq, Prod.mk.injEq] at H
        obtain ⟨rfl, rfl, rfl⟩ := H
        go_enter Try.func47, Try.ntmps47
        go_wp2_with (first | ((with_reducible refine zn0 (N := 2) rfl ?_); refine zo0 ?hg (N := 2) ?hd (cs := #[.slice A0_0 l0_0.length c0_0]) (t := 29) ?hr ?_; (case hd => rfl); (case hg => rfl); (case hr => first | (go_simp; done) | (go_simp; rfl)); intro gb297 hg w23 hbox hb; have n0_ := za0.mk (Kd.R_below (by (with_reducible repeat (first | apply Kd.R_alloc | apply Kd.R_drewN | apply Kd.R_drew)); exact HO1_0.out) hb); have n1_ := za0.mk (Kept.below (S := (fun k_ => P1_0_ k_)) (by repeat (first | (with_reducible first | exact HK.out | apply Kept.alloc | apply Kept.drewN | apply Kept.drew) | exact HK.out)) hb); have n2_ := za0.mk (zj0 (by repeat (first | (with_reducible first | exact HB.out | apply zc0 | apply zb0 | apply zd0) | exact HB.out)) hb); have n3_ := za0.mk (hbox); have n4_ := za0.mk ((by rw [hg]; exact (by first | exact HK.out.1 | exact (show Kept w _ (fun k_ => P1_0_ k_) from by repeat (first | (with_reducible first | exact HK.out | apply Kept.alloc | apply Kept.drewN | apply Kept.drew) | exact HK.out)).1) : w.heap.size ≤ gb297)); have n5_ := za0.mk ((by rw [hg]; exact (zg0 (by repeat (first | (with_reducible first | exact HB.out | apply zc0 | apply zb0 | apply zd0) | exact HB.out))) : w0.heap.size ≤ gb297)); clear HO1_0; clear HK; clear HB; have HO1_0 := n0_; have HK := n1_; have HB := n2_; have BK297 := n3_; have GW297 := n4_; have GE297 := n5_; clear n0_ n1_ n2_ n3_ n4_ n5_; clear hb hbox hg; obtain ⟨Ao24, co24, eo24⟩ := Kd.R_slice HO1_0.out; subst eo24) | ((with_reducible refine zn0 (N := 3) rfl ?_); refine zo0 ?hg (N := 3) ?hd (cs := #[.slice Ao24 l1_0.length co24, .int .i64 a1_1]) (t := 63) ?hr ?_; (case hd => rfl); (case hg => rfl); (case hr => first | (go_simp; done) | (go_simp; rfl)); intro gb298 hg w25 hbox hb; have n0_ := za0.mk (Kd.R_below (by (with_reducible repeat (first | apply Kd.R_alloc | apply Kd.R_drewN | apply Kd.R_drew)); exact HO1_0.out) hb); have n1_ := za0.mk (zl0 (g := gb297) (o := .cells #[.slice A0_0 l0_0.length c0_0] 29 (0, 0)) (by (with_reducible repeat (first | refine zh0 ?_ _ | refine zi0 ?_ | refine zf0 ?_ _)); exact BK297.out) hb); have n2_ := za0.mk (Kept.below (S := (fun k_ => P1_0_ k_)) (by repeat (first | (with_reducible first | exact HK.out | apply Kept.alloc | apply Kept.drewN | apply Kept.drew | refine Kept.setCell ?_ (.inr GW297.out) _) | exact HK.out)) hb); have n3_ := za0.mk (zj0 (by repeat (first | (with_reducible first | exact HB.out | apply zc0 | apply zb0 | apply zd0 | refine ze0 ?_ GE297.out) | exact HB.out)) hb); have n4_ := za0.mk (hbox); have n5_ := za0.mk ((by rw [hg]; exact (by first | exact HK.out.1 | exact (show Kept w _ (fun k_ => P1_0_ k_) from by repeat (first | (with_reducible first | exact HK.out | apply Kept.alloc | apply Kept.drewN | apply Kept.drew | refine Kept.setCell ?_ (.inr GW297.out) _) | exact HK.out)).1) : w.heap.size ≤ gb298)); have n6_ := za0.mk ((by rw [hg]; exact (zg0 (by repeat (first | (with_reducible first | exact HB.out | apply zc0 | apply zb0 | apply zd0 | refine ze0 ?_ GE297.out) | exact HB.out))) : w0.heap.size ≤ gb298)); have n7_ := za0.mk ((by rw [hg]; exact Nat.ne_of_lt (blk_lt (g := gb297) (o := .cells #[.slice A0_0 l0_0.length c0_0] 29 (0, 0)) (by (with_reducible repeat (first | refine zh0 ?_ _ | refine zi0 ?_ | refine zf0 ?_ _)); exact BK297.out)) : gb297 ≠ gb298)); have n8_ := za0.mk ((by rw [hg]; exact Nat.ne_of_gt (blk_lt (g := gb297) (o := .cells #[.slice A0_0 l0_0.length c0_0] 29 (0, 0)) (by (with_reducible repeat (first | refine zh0 ?_ _ | refine zi0 ?_ | refine zf0 ?_ _)); exact BK297.out)) : gb298 ≠ gb297)); clear HO1_0; clear BK297; clear HK; clear HB; have HO1_0 := n0_; have BK297 := n1_; have HK := n2_; have HB := n3_; have BK298 := n4_; have GW298 := n5_; have GE298 := n6_; have NB297_298 := n7_; have NB298_297 := n8_; clear n0_ n1_ n2_ n3_ n4_ n5_ n6_ n7_ n8_; clear hb hbox hg) | ((with_reducible refine zn0 (N := 4) rfl ?_); refine zo0 ?hg (N := 4) ?hd (cs := #[.slice none 0 0, .int .i64 0]) (t := 63) ?hr ?_; (case hd => rfl); (case hg => rfl); (case hr => first | (go_simp; done) | (go_simp; rfl)); intro gb299 hg w26 hbox hb; have n0_ := za0.mk (Kd.R_below (by (with_reducible repeat (first | apply Kd.R_alloc | apply Kd.R_drewN | apply Kd.R_drew)); exact HO1_0.out) hb); have n1_ := za0.mk (zl0 (g := gb297) (o := .cells #[.slice A0_0 l0_0.length c0_0] 29 (0, 0)) (by (with_reducible repeat (first | refine zh0 ?_ _ | refine zi0 ?_ | refine zf0 ?_ _)); exact BK297.out) hb); have n2_ := za0.mk (zl0 (g := gb298) (o := .cells #[.slice Ao24 l1_0.length co24, .int .i64 a1_1] 63 (0, 0)) (by (with_reducible repeat (first | refine zh0 ?_ _ | refine zi0 ?_ | refine zf0 ?_ _)); exact BK298.out) hb); have n3_ := za0.mk (Kept.below (S := (fun k_ => P1_0_ k_)) (by repeat (first | (with_reducible first | exact HK.out | apply Kept.alloc | apply Kept.drewN | apply Kept.drew | refine Kept.setCell ?_ (.inr GW297.out) _ | refine Kept.setCell ?_ (.inr GW298.out) _) | exact HK.out)) hb); have n4_ := za0.mk (zj0 (by repeat (first | (with_reducible first | exact HB.out | apply zc0 | apply zb0 | apply zd0 | refine ze0 ?_ GE297.out | refine ze0 ?_ GE298.out) | exact HB.out)) hb); have n5_ := za0.mk (hbox); have n6_ := za0.mk ((by rw [hg]; exact (by first | exact HK.out.1 | exact (show Kept w _ (fun k_ => P1_0_ k_) from by repeat (first | (with_reducible first | exact HK.out | apply Kept.alloc | apply Kept.drewN | apply Kept.drew | refine Kept.setCell ?_ (.inr GW297.out) _ | refine Kept.setCell ?_ (.inr GW298.out) _) | exact HK.out)).1) : w.heap.size ≤ gb299)); have n7_ := za0.mk ((by rw [hg]; exact (zg0 (by repeat (first | (with_reducible first | exact HB.out | apply zc0 | apply zb0 | apply zd0 | refine ze0 ?_ GE297.out | refine ze0 ?_ GE298.out) | exact HB.out))) : w0.heap.size ≤ gb299)); have n8_ := za0.mk ((by rw [hg]; exact Nat.ne_of_lt (blk_lt (g := gb297) (o := .cells #[.slice A0_0 l0_0.length c0_0] 29 (0, 0)) (by (with_reducible repeat (first | refine zh0 ?_ _ | refine zi0 ?_ | refine zf0 ?_ _)); exact BK297.out)) : gb297 ≠ gb299)); have n9_ := za0.mk ((by rw [hg]; exact Nat.ne_of_gt (blk_lt (g := gb297) (o := .cells #[.slice A0_0 l0_0.length c0_0] 29 (0, 0)) (by (with_reducible repeat (first | refine zh0 ?_ _ | refine zi0 ?_ | refine zf0 ?_ _)); exact BK297.out)) : gb299 ≠ gb297)); have n10_ := za0.mk ((by rw [hg]; exact Nat.ne_of_lt (blk_lt (g := gb298) (o := .cells #[.slice Ao24 l1_0.length co24, .int .i64 a1_1] 63 (0, 0)) (by (with_reducible repeat (first | refine zh0 ?_ _ | refine zi0 ?_ | refine zf0 ?_ _)); exact BK298.out)) : gb298 ≠ gb299)); have n11_ := za0.mk ((by rw [hg]; exact Nat.ne_of_gt (blk_lt (g := gb298) (o := .cells #[.slice Ao24 l1_0.length co24, .int .i64 a1_1] 63 (0, 0)) (by (with_reducible repeat (first | refine zh0 ?_ _ | refine zi0 ?_ | refine zf0 ?_ _)); exact BK298.out)) : gb299 ≠ gb298)); clear HO1_0; clear BK297; clear BK298; clear HK; clear HB; have HO1_0 := n0_; have BK297 := n1_; have BK298 := n2_; have HK := n3_; have HB := n4_; have BK299 := n5_; have GW299 := n6_; have GE299 := n7_; have NB297_299 := n8_; have NB299_297 := n9_; have NB298_299 := n10_; have NB299_298 := n11_; clear n0_ n1_ n2_ n3_ n4_ n5_ n6_ n7_ n8_ n9_ n10_ n11_; clear hb hbox hg; have hnb27 := NB297_298.out; have hnc27 := NB298_297.out; have hnb28 := NB297_299.out; have hnc28 := NB299_297.out; have hcz29_0 : w26.cell? ⟨gb297, 0, none⟩ = some (.slice A0_0 l0_0.length c0_0) := (zk0 BK297.out 0).trans rfl; have hfz29_0 := zm0 BK297.out 0; have hnb30 := NB298_299.out; have hnc30 := NB299_298.out; have hcz31_0 : w26.cell? ⟨gb298, 0, none⟩ = some (.slice Ao24 l1_0.length co24) := (zk0 BK298.out 0).trans rfl; have hcz31_1 : w26.cell? ⟨gb298, 1, none⟩ = some (.int .i64 a1_1) := (zk0 BK298.out 1).trans rfl; have hfz31_0 := zm0 BK298.out 0; have hfz31_1 := zm0 BK298.out 1; have p300 : 0 ≤ (a1_1 : Int) := of_decide_eq_true (by first | (with_reducible assumption) | assumption); have q300 : a1_1 < (l0_0.length : Int) := of_decide_eq_true (by first | (with_reducible assumption) | assumption); obtain ⟨ad300, A300_0, c300_0, e300, hx300_0, hl300_0, hi300_0⟩ := kept_L1 HR0_0.out HK.out a1_1 p300 q300; cases e300; have HR300_0 := za0.mk hi300_0; have HC300_0 := za0.mk hl300_0; clear hi300_0 hl300_0; replace p300 := eq_true p300; replace q300 := eq_true q300) | ((with_reducible refine zs0 (f := 46) rfl ?_); refine goesL_ (some 21) rfl rfl Try.func46 (by kernel_rfl) rfl #[.slice Ao24 l1_0.length co24] rfl (by (try simp only [List.map_toArray, List.map_cons, List.map_nil]); first | done | rfl | (simp only [List.length_drop, List.length_take]; rfl)) ?_; (with_reducible refine (spec_l1Own.calls _ _ l1_0 t301 _ ?side1 ?side2 A16.out).mono ?_); (case side1 => repeat (first | exact (Kd.R_reads' HO1_0.out).2.2 | (with_reducible refine Kd.C_alloc ?_ _) | (with_reducible refine Kd.C_drewN ?_ _) | (with_reducible refine Kd.C_drew ?_))); (case side2 => exact (Kd.R_reads' HO1_0.out).2.1); rintro e w32 ⟨v302, rfl, ho0, hb⟩; refine ⟨_, rfl, ?_⟩; have n0_ := za0.mk (Kd.R_elder' (by (with_reducible repeat (first | apply Kd.R_alloc | apply Kd.R_drewN | apply Kd.R_drew)); exact HO1_0.out) (Kd.R_base ho0) hb); have n1_ := za0.mk (Kd.R_lower (Kd.R_new' (Kd.R_newM (M := fun k_ => (P1_0_ k_ ∨ w.heap.size ≤ k_)) ho0 (by first | exact HK.out.1 | exact (show Kept w _ (fun k_ => P1_0_ k_) from by repeat (first | (with_reducible first | exact HK.out | apply Kept.alloc | apply Kept.drewN | apply Kept.drew | refine Kept.setCell ?_ (.inr GW297.out) _ | refine Kept.setCell ?_ (.inr GW298.out) _ | refine Kept.setCell ?_ (.inr GW299.out) _) | exact HK.out)).1) (fun k_ h_ => .inr h_)) (Kd.R_lt (by (with_reducible repeat (first | apply Kd.R_alloc | apply Kd.R_drewN | apply Kd.R_drew)); exact HO1_0.out))) (zg0 (by repeat (first | (with_reducible first | exact HB.out | apply zc0 | apply zb0 | apply zd0 | refine ze0 ?_ GE297.out | refine ze0 ?_ GE298.out | refine ze0 ?_ GE299.out) | exact HB.out)))); have n2_ := za0.mk (zl0 (g := gb297) (o := .cells #[.slice (some ad300) l0_0.length c0_0] 29 (0, 0)) (by (with_reducible repeat (first | refine zh0 ?_ _ | refine zi0 ?_ | refine zf0 ?_ _)); exact BK297.out) hb); have n3_ := za0.mk (zl0 (g := gb298) (o := .cells #[.slice Ao24 l1_0.length co24, .int .i64 a1_1] 63 (0, 0)) (by (with_reducible repeat (first | refine zh0 ?_ _ | refine zi0 ?_ | refine zf0 ?_ _)); exact BK298.out) hb); have n4_ := za0.mk (zl0 (g := gb299) (o := .cells #[.slice none 0 0, .int .i64 0] 63 (0, 0)) (by (with_reducible repeat (first | refine zh0 ?_ _ | refine zi0 ?_ | refine zf0 ?_ _)); exact BK299.out) hb); have n5_ := za0.mk (Kept.below (S := (fun k_ => P1_0_ k_)) (by repeat (first | (with_reducible first | exact HK.out | apply Kept.alloc | apply Kept.drewN | apply Kept.drew | refine Kept.setCell ?_ (.inr GW297.out) _ | refine Kept.setCell ?_ (.inr GW298.out) _ | refine Kept.setCell ?_ (.inr GW299.out) _) | exact HK.out)) hb); have n6_ := za0.mk (zj0 (by repeat (first | (with_reducible first | exact HB.out | apply zc0 | apply zb0 | apply zd0 | refine ze0 ?_ GE297.out | refine ze0 ?_ GE298.out | refine ze0 ?_ GE299.out) | exact HB.out)) hb); clear HO1_0; clear BK297; clear BK298; clear BK299; clear HK; clear HB; have HO1_0 := n0_; have HO303 := n1_; have BK297 := n2_; have BK298 := n3_; have BK299 := n4_; have HK := n5_; have HB := n6_; clear n0_ n1_ n2_ n3_ n4_ n5_ n6_; (try clear hb); (try clear hb2); (try clear hk); (try clear hi); (try clear ho0); obtain ⟨Ao33, co33, eo33⟩ := Kd.R_slice HO303.out; subst eo33) | ((with_reducible refine zn0 (N := 7) rfl ?_); refine zo0 ?hg (N := 7) ?hd (cs := #[.slice none 0 0, .int .i64 0]) (t := 63) ?hr ?_; (case hd => rfl); (case hg => rfl); (case hr => first | (go_simp; done) | (go_simp; rfl)); intro gb304 hg w34 hbox hb; have n0_ := za0.mk (Kd.R_below (by (with_reducible repeat (first | apply Kd.R_alloc | apply Kd.R_drewN | apply Kd.R_drew)); exact HO1_0.out) hb); have n1_ := za0.mk (Kd.R_below (by (with_reducible repeat (first | apply Kd.R_alloc | apply Kd.R_drewN | apply Kd.R_drew)); exact HO303.out) hb); have n2_ := za0.mk (zl0 (g := gb297) (o := .cells #[.slice (some ad300) l0_0.length c0_0] 29 (0, 0)) (by (with_reducible repeat (first | refine zh0 ?_ _ | refine zi0 ?_ | refine zf0 ?_ _)); exact BK297.out) hb); have n3_ := za0.mk (zl0 (g := gb298) (o := .cells #[.slice Ao24 l1_0.length co24, .int .i64 a1_1] 63 (0, 0)) (by (with_reducible repeat (first | refine zh0 ?_ _ | refine zi0 ?_ | refine zf0 ?_ _)); exact BK298.out) hb); have n4_ := za0.mk (zl0 (g := gb299) (o := .cells #[.slice none 0 0, .int .i64 0] 63 (0, 0)) (by (with_reducible repeat (first | refine zh0 ?_ _ | refine zi0 ?_ | refine zf0 ?_ _)); exact BK299.out) hb); have n5_ := za0.mk (Kept.below (S := (fun k_ => P1_0_ k_)) (by repeat (first | (with_reducible first | exact HK.out | apply Kept.alloc | apply Kept.drewN | apply Kept.drew | refine Kept.setCell ?_ (.inr GW297.out) _ | refine Kept.setCell ?_ (.inr GW298.out) _ | refine Kept.setCell ?_ (.inr GW299.out) _) | exact HK.out)) hb); have n6_ := za0.mk (zj0 (by repeat (first | (with_reducible first | exact HB.out | apply zc0 | apply zb0 | apply zd0 | refine ze0 ?_ GE297.out | refine ze0 ?_ GE298.out | refine ze0 ?_ GE299.out) | exact HB.out)) hb); have n7_ := za0.mk (hbox); have n8_ := za0.mk ((by rw [hg]; exact (by first | exact HK.out.1 | exact (show Kept w _ (fun k_ => P1_0_ k_) from by repeat (first | (with_reducible first | exact HK.out | apply Kept.alloc | apply Kept.drewN | apply Kept.drew | refine Kept.setCell ?_ (.inr GW297.out) _ | refine Kept.setCell ?_ (.inr GW298.out) _ | refine Kept.setCell ?_ (.inr GW299.out) _) | exact HK.out)).1) : w.heap.size ≤ gb304)); have n9_ := za0.mk ((by rw [hg]; exact (zg0 (by repeat (first | (with_reducible first | exact HB.out | apply zc0 | apply zb0 | apply zd0 | refine ze0 ?_ GE297.out | refine ze0 ?_ GE298.out | refine ze0 ?_ GE299.out) | exact HB.out))) : w0.heap.size ≤ gb304)); have n10_ := za0.mk ((by rw [hg]; exact Nat.ne_of_lt (blk_lt (g := gb297) (o := .cells #[.slice (some ad300) l0_0.length c0_0] 29 (0, 0)) (by (with_reducible repeat (first | refine zh0 ?_ _ | refine zi0 ?_ | refine zf0 ?_ _)); exact BK297.out)) : gb297 ≠ gb304)); have n11_ := za0.mk ((by rw [hg]; exact Nat.ne_of_gt (blk_lt (g := gb297) (o := .cells #[.slice (some ad300) l0_0.length c0_0] 29 (0, 0)) (by (with_reducible repeat (first | refine zh0 ?_ _ | refine zi0 ?_ | refine zf0 ?_ _)); exact BK297.out)) : gb304 ≠ gb297)); have n12_ := za0.mk ((by rw [hg]; exact Nat.ne_of_lt (blk_lt (g := gb298) (o := .cells #[.slice Ao24 l1_0.length co24, .int .i64 a1_1] 63 (0, 0)) (by (with_reducible repeat (first | refine zh0 ?_ _ | refine zi0 ?_ | refine zf0 ?_ _)); exact BK298.out)) : gb298 ≠ gb304)); have n13_ := za0.mk ((by rw [hg]; exact Nat.ne_of_gt (blk_lt (g := gb298) (o := .cells #[.slice Ao24 l1_0.length co24, .int .i64 a1_1] 63 (0, 0)) (by (with_reducible repeat (first | refine zh0 ?_ _ | refine zi0 ?_ | refine zf0 ?_ _)); exact BK298.out)) : gb304 ≠ gb298)); have n14_ := za0.mk ((by rw [hg]; exact Nat.ne_of_lt (blk_lt (g := gb299) (o := .cells #[.slice none 0 0, .int .i64 0] 63 (0, 0)) (by (with_reducible repeat (first | refine zh0 ?_ _ | refine zi0 ?_ | refine zf0 ?_ _)); exact BK299.out)) : gb299 ≠ gb304)); have n15_ := za0.mk ((by rw [hg]; exact Nat.ne_of_gt (blk_lt (g := gb299) (o := .cells #[.slice none 0 0, .int .i64 0] 63 (0, 0)) (by (with_reducible repeat (first | refine zh0 ?_ _ | refine zi0 ?_ | refine zf0 ?_ _)); exact BK299.out)) : gb304 ≠ gb299)); clear HO1_0; clear HO303; clear BK297; clear BK298; clear BK299; clear HK; clear HB; have HO1_0 := n0_; have HO303 := n1_; have BK297 := n2_; have BK298 := n3_; have BK299 := n4_; have HK := n5_; have HB := n6_; have BK304 := n7_; have GW304 := n8_; have GE304 := n9_; have NB297_304 := n10_; have NB304_297 := n11_; have NB298_304 := n12_; have NB304_298 := n13_; have NB299_304 := n14_; have NB304_299 := n15_; clear n0_ n1_ n2_ n3_ n4_ n5_ n6_ n7_ n8_ n9_ n10_ n11_ n12_ n13_ n14_ n15_; clear hb hbox hg; have hnb35 := NB304_297.out; have hnc35 := NB297_304.out; have hnb36 := NB304_298.out; have hnc36 := NB298_304.out; have hnb37 := NB304_299.out; have hnc37 := NB299_304.out; have hcz38_0 : w34.cell? ⟨gb304, 0, none⟩ = some (.slice none 0 0) := (zk0 BK304.out 0).trans rfl; have hcz38_1 : w34.cell? ⟨gb304, 1, none⟩ = some (.int .i64 0) := (zk0 BK304.out 1).trans rfl; have hfz38_0 := zm0 BK304.out 0; have hfz38_1 := zm0 BK304.out 1) | ((with_reducible refine gate_store (t := 63) (p := 7) rfl ?_); refine store_event (t := 63) (p := 7) (v := ?vo_w39) (w1 := ((w34.setCell ⟨gb304, 0, none⟩ (.slice Ao33 t301.length co33)).setCell ⟨gb304, 1, none⟩ (.int .i64 0))) ?hg ?ho ?hn ?hr ?_; (case ho => rfl); (case hg => rfl); (case hn => rfl); (case hr => first | (go_simp; done) | (go_simp; rfl)); intro w39 hw; have n0_ : za0 (Kd.R (Kd.int .i64) 3 w39 w0.heap.size (fun k_ => (P1_0_ k_ ∨ w.heap.size ≤ k_) ∧ some k_ ≠ (.slice Ao33 t301.length co33 : Value).ownBlock) (.slice Ao24 l1_0.length co24) l1_0) := ⟨(by rw [hw]; exact (by (with_reducible repeat (first | apply Kd.R_alloc | apply Kd.R_drewN | apply Kd.R_drew)); exact Kd.R_mono (Kd.R_far (p := ⟨gb304, 1, none⟩) (Kd.R_far (p := ⟨gb304, 0, none⟩) (Kd.R_types HO1_0.out BK304.out (by decide)) (fun _ hk => hk.2) (.slice Ao33 t301.length co33)) (fun _ hk => hk.2) (.int .i64 0)) (fun _ hk => ⟨hk.1.1, hk.1.2⟩)))⟩; have n1_ : za0 (Kd.R (Kd.int .i64) 3 w39 w0.heap.size (fun k_ => (P1_0_ k_ ∨ w.heap.size ≤ k_) ∧ some k_ ≠ (.slice Ao24 l1_0.length co24 : Value).ownBlock) (.slice Ao33 t301.length co33) t301) := ⟨(by rw [hw]; exact (by (with_reducible repeat (first | apply Kd.R_alloc | apply Kd.R_drewN | apply Kd.R_drew)); exact Kd.R_mono (Kd.R_far (p := ⟨gb304, 1, none⟩) (Kd.R_far (p := ⟨gb304, 0, none⟩) (Kd.R_types HO303.out BK304.out (by decide)) (fun _ hk => hk.2) (.slice Ao33 t301.length co33)) (fun _ hk => hk.2) (.int .i64 0)) (fun _ hk => ⟨hk.1.1.1, hk.1.2⟩)))⟩; have n2_ : za0 (w39.heap[gb297]? = some (.cells #[.slice (some ad300) l0_0.length c0_0] 29 (0, 0))) := ⟨(by rw [hw]; exact (by (with_reducible repeat (first | refine zh0 ?_ _ | refine zi0 ?_ | refine zf0 ?_ _)); refine blk_far ?_ NB297_304.out _; (with_reducible repeat (first | refine zh0 ?_ _ | refine zi0 ?_ | refine zf0 ?_ _)); refine blk_far ?_ NB297_304.out _; (with_reducible repeat (first | refine zh0 ?_ _ | refine zi0 ?_ | refine zf0 ?_ _)); exact BK297.out))⟩; have n3_ : za0 (w39.heap[gb298]? = some (.cells #[.slice Ao24 l1_0.length co24, .int .i64 a1_1] 63 (0, 0))) := ⟨(by rw [hw]; exact (by (with_reducible repeat (first | refine zh0 ?_ _ | refine zi0 ?_ | refine zf0 ?_ _)); refine blk_far ?_ NB298_304.out _; (with_reducible repeat (first | refine zh0 ?_ _ | refine zi0 ?_ | refine zf0 ?_ _)); refine blk_far ?_ NB298_304.out _; (with_reducible repeat (first | refine zh0 ?_ _ | refine zi0 ?_ | refine zf0 ?_ _)); exact BK298.out))⟩; have n4_ : za0 (w39.heap[gb299]? = some (.cells #[.slice none 0 0, .int .i64 0] 63 (0, 0))) := ⟨(by rw [hw]; exact (by (with_reducible repeat (first | refine zh0 ?_ _ | refine zi0 ?_ | refine zf0 ?_ _)); refine blk_far ?_ NB299_304.out _; (with_reducible repeat (first | refine zh0 ?_ _ | refine zi0 ?_ | refine zf0 ?_ _)); refine blk_far ?_ NB299_304.out _; (with_reducible repeat (first | refine zh0 ?_ _ | refine zi0 ?_ | refine zf0 ?_ _)); exact BK299.out))⟩; have n5_ : za0 (w39.heap[gb304]? = some (.cells #[.slice Ao33 t301.length co33, .int .i64 0] 63 (0, 0))) := ⟨(by rw [hw]; exact (by (with_reducible repeat (first | refine zh0 ?_ _ | refine zi0 ?_ | refine zf0 ?_ _)); refine blk_put (cs := #[.slice Ao33 t301.length co33, .int .i64 0]) ?_ 1 _ rfl; (with_reducible repeat (first | refine zh0 ?_ _ | refine zi0 ?_ | refine zf0 ?_ _)); refine blk_put (cs := #[.slice none 0 0, .int .i64 0]) ?_ 0 _ rfl; (with_reducible repeat (first | refine zh0 ?_ _ | refine zi0 ?_ | refine zf0 ?_ _)); exact BK304.out))⟩; have n6_ : za0 (Kept w w39 (fun k_ => P1_0_ k_)) := ⟨(by rw [hw]; exact (by repeat (first | (with_reducible first | exact HK.out | apply Kept.alloc | apply Kept.drewN | apply Kept.drew | refine Kept.setCell ?_ (.inr GW297.out) _ | refine Kept.setCell ?_ (.inr GW298.out) _ | refine Kept.setCell ?_ (.inr GW299.out) _ | refine Kept.setCell ?_ (.inr GW304.out) _) | exact HK.out)))⟩; have n7_ : za0 (Below w0.heap.size w0 w39) := ⟨(by rw [hw]; exact (by repeat (first | (with_reducible first | exact HB.out | apply zc0 | apply zb0 | apply zd0 | refine ze0 ?_ GE297.out | refine ze0 ?_ GE298.out | refine ze0 ?_ GE299.out | refine ze0 ?_ GE304.out) | exact HB.out)))⟩; clear hw; clear HO1_0; clear HO303; clear BK297; clear BK298; clear BK299; clear BK304; clear HK; clear HB; have HO1_0 := n0_; have HO303 := n1_; have BK297 := n2_; have BK298 := n3_; have BK299 := n4_; have BK304 := n5_; have HK := n6_; have HB := n7_; clear n0_ n1_ n2_ n3_ n4_ n5_ n6_ n7_; have hcz40_0 : w39.cell? ⟨gb298, 0, none⟩ = some (.slice Ao24 l1_0.length co24) := (zk0 BK298.out 0).trans rfl; have hcz40_1 : w39.cell? ⟨gb298, 1, none⟩ = some (.int .i64 a1_1) := (zk0 BK298.out 1).trans rfl; have hfz40_0 := zm0 BK298.out 0; have hfz40_1 := zm0 BK298.out 1; have p305 : 0 ≤ (a1_1 : Int) := of_decide_eq_true (by first | (with_reducible assumption) | assumption); have q305 : a1_1 < (l1_0.length : Int) := of_decide_eq_true (by first | (with_reducible assumption) | assumption); obtain ⟨ad305, e305, hx305_0⟩ := Kd.at_int (Kd.R_reads' HO1_0.out).2.2 a1_1 p305 q305; cases e305; replace p305 := eq_true p305; replace q305 := eq_true q305; have hcz41_0 : w39.cell? ⟨gb304, 0, none⟩ = some (.slice Ao33 t301.length co33) := (zk0 BK304.out 0).trans rfl; have hcz41_1 : w39.cell? ⟨gb304, 1, none⟩ = some (.int .i64 0) := (zk0 BK304.out 1).trans rfl; have hfz41_0 := zm0 BK304.out 0; have hfz41_1 := zm0 BK304.out 1; have p19 : 0 ≤ (a1_1 : Int) := of_decide_eq_true (by first | (with_reducible assumption) | assumption); have q19 : (a1_1 : Int) < ((t301.length : Int) : Int) := of_decide_eq_true (by first | (with_reducible assumption) | assumption); obtain ⟨go19, co19, eo19, gb19, gl19, cl19, HG19⟩ := Kd.R_form HO303.out (by omega); (first | cases eo19 | (injection eo19 with ea_ en_ ec_; (first | subst ea_ | (injection ea_ with ea_; subst ea_)); subst ec_; clear en_)); have GB19 := za0.mk gb19; have GG19 := za0.mk HG19; clear gb19 gl19 HG19; have HMgo19 := za0.mk (show (P1_0_ go19 ∨ w.heap.size ≤ go19) from (HO303.out.1 _ rfl).1); obtain ⟨hx19_0, hf19_0⟩ := Kd.R_celln 0 HO303.out (a1_1 : Int) p19 q19; replace p19 := eq_true p19; replace q19 := eq_true q19; obtain ⟨hy42_, hz42_⟩ := Kd.R_celln 0 HO303.out (a1_1 : Int) (of_decide_eq_true (by first | (with_reducible assumption) | assumption)) (of_decide_eq_true (by first | (with_reducible assumption) | assumption)); have HP42 := Kd.R_putg HO303.out (a1_1 : Int) ji20) | ((with_reducible refine gate_store (t := 3) (p := 38) rfl ?_); refine store_event (t := 3) (p := 38) (v := ?vo_w43) (w1 := (w39.setCell ⟨go19, (a1_1 : Int).toNat, none⟩ (.int .i64 ji20))) ?hg ?ho ?hn ?hr ?_; (case ho => rfl); (case hg => rfl); (case hn => rfl); (case hr => first | (go_simp; done) | (go_simp; rfl)); intro w43 hw; have hg : w39.grownBy w43 (some go19) := (by rw [hw]; exact HP42.2); have hp_ : Kd.R (Kd.int .i64) 3 w43 w0.heap.size (fun k_ => (P1_0_ k_ ∨ w.heap.size ≤ k_) ∧ some k_ ≠ (.slice (some ad305) l1_0.length co24 : Value).ownBlock) (.slice (some ⟨go19, 0, none⟩) t301.length co33) y306 := (by rw [hw, Ny306.out]; exact HP42.1); clear HP42; have n0_ := za0.mk (Kd.R_after (v := (.slice (some ⟨go19, 0, none⟩) t301.length co33)) (v1 := (.slice (some ⟨go19, 0, none⟩) t301.length co33)) (ok := (fun k_ => (P1_0_ k_ ∨ w.heap.size ≤ k_))) (by (with_reducible repeat (first | apply Kd.R_alloc | apply Kd.R_drewN | apply Kd.R_drew)); exact HO1_0.out) hg (.inl rfl)); have n1_ := za0.mk (zy0 (g := gb297) (o := .cells #[.slice (some ad300) l0_0.length c0_0] 29 (0, 0)) (by (with_reducible repeat (first | refine zh0 ?_ _ | refine zi0 ?_ | refine zf0 ?_ _)); exact BK297.out) hg (Kd.R_ne HO303.out BK297.out (by decide))); have n2_ := za0.mk (zy0 (g := gb298) (o := .cells #[.slice (some ad305) l1_0.length co24, .int .i64 a1_1] 63 (0, 0)) (by (with_reducible repeat (first | refine zh0 ?_ _ | refine zi0 ?_ | refine zf0 ?_ _)); exact BK298.out) hg (Kd.R_ne HO303.out BK298.out (by decide))); have n3_ := za0.mk (zy0 (g := gb299) (o := .cells #[.slice none 0 0, .int .i64 0] 63 (0, 0)) (by (with_reducible repeat (first | refine zh0 ?_ _ | refine zi0 ?_ | refine zf0 ?_ _)); exact BK299.out) hg (Kd.R_ne HO303.out BK299.out (by decide))); have n4_ := za0.mk (hp_); have n5_ := za0.mk (zy0 (g := gb304) (o := .cells #[.slice (some ⟨go19, 0, none⟩) t301.length co33, .int .i64 0] 63 (0, 0)) (by (with_reducible repeat (first | refine zh0 ?_ _ | refine zi0 ?_ | refine zf0 ?_ _)); exact BK304.out) hg (Kd.R_ne HO303.out BK304.out (by decide))); have n6_ := za0.mk ((by rw [hw]; exact ze0 (HB.out) GB19.out : Below w0.heap.size w0 w43)); have n7_ := za0.mk (Kept.of_grown (S := (fun k_ => P1_0_ k_)) hg (by repeat (first | (with_reducible first | exact HK.out | apply Kept.alloc | apply Kept.drewN | apply Kept.drew | refine Kept.setCell ?_ (.inr GW297.out) _ | refine Kept.setCell ?_ (.inr GW298.out) _ | refine Kept.setCell ?_ (.inr GW299.out) _ | refine Kept.setCell ?_ (.inr GW304.out) _) | exact HK.out)) (fun k_ e_ => (HO303.out.1 k_ e_).1)); clear HO1_0; clear BK297; clear BK298; clear BK299; clear HO303; clear BK304; clear HB; clear HK; have HO1_0 := n0_; have BK297 := n1_; have BK298 := n2_; have BK299 := n3_; have HO303 := n4_; have BK304 := n5_; have HB := n6_; have HK := n7_; clear n0_ n1_ n2_ n3_ n4_ n5_ n6_ n7_; clear hg hw hp_; have p307 : 0 ≤ ((ji20) : Int) := of_decide_eq_true (by first | (with_reducible assumption) | assumption); have q307 : (ji20) < ((rd_L1 l0_0 a1_1).length : Int) := of_decide_eq_true (by first | (with_reducible assumption) | assumption); obtain ⟨ad307, e307, hx307_0⟩ := Kd.at_int (Kd.C_kept_now HR300_0.out HK.out) (ji20) p307 q307; cases e307; replace p307 := eq_true p307; replace q307 := eq_true q307; have hcz44_0 : w43.cell? ⟨gb304, 0, none⟩ = some (.slice (some ⟨go19, 0, none⟩) t301.length co33) := (zk0 BK304.out 0).trans rfl; have hcz44_1 : w43.cell? ⟨gb304, 1, none⟩ = some (.int .i64 0) := (zk0 BK304.out 1).trans rfl; have hfz44_0 := zm0 BK304.out 0; have hfz44_1 := zm0 BK304.out 1; have hcz45_0 : w43.cell? ⟨gb299, 0, none⟩ = some (.slice none 0 0) := (zk0 BK299.out 0).trans rfl; have hcz45_1 : w43.cell? ⟨gb299, 1, none⟩ = some (.int .i64 0) := (zk0 BK299.out 1).trans rfl; have hfz45_0 := zm0 BK299.out 0; have hfz45_1 := zm0 BK299.out 1))
        refine bodyPost_ret (results_ct rfl _ _ gb299 63 #[.slice (some ⟨go19, 0, none⟩) t301.length co33, .int .i64 (rd (rd_L1 l0_0 a1_1) (ji20))] (0, 0) _ rfl (by (with_reducible repeat (first | refine zh0 ?_ _ | refine zi0 ?_ | refine zf0 ?_ _)); refine blk_put (cs := #[.slice (some ⟨go19, 0, none⟩) t301.length co33, .int .i64 0]) ?_ 1 _ rfl; (with_reducible repeat (first | refine zh0 ?_ _ | refine zi0 ?_ | refine zf0 ?_ _)); refine blk_put (cs := #[.slice none 0 0, .int .i64 0]) ?_ 0 _ rfl; (with_reducible repeat (first | refine zh0 ?_ _ | refine zi0 ?_ | refine zf0 ?_ _)); refine blk_far ?_ NB299_304.out _; (with_reducible repeat (first | refine zh0 ?_ _ | refine zi0 ?_ | refine zf0 ?_ _)); exact BK299.out) Try.underlying63 rfl (by kernel_rfl)) rfl ?_
        exact ⟨_, by first | rfl | (simp [errW_none, errW_some] <;> rfl) | (simp only [← hji20]; first | rfl | (simp [errW_none, errW_some] <;> rfl)) | (simp [*, errW_none, errW_some] <;> rfl), by (with_reducible repeat (first | apply Kd.R_alloc | apply Kd.R_drewN | apply Kd.R_drew)); exact Kd.R_mono (Kd.R_far (p := ⟨gb299, 1, none⟩) (Kd.R_far (p := ⟨gb299, 0, none⟩) (Kd.R_far (p := ⟨gb304, 1, none⟩) (Kd.R_types (Kd.R_types HO303.out BK304.out (by decide)) BK299.out (by decide)) (fun _ hk => hk.1.2) (.int .i64 (rd (rd_L1 l0_0 a1_1) (ji20)))) (fun _ hk => hk.2) (.slice (some ⟨go19, 0, none⟩) t301.length co33)) (fun _ hk => hk.2) (.int .i64 (rd (rd_L1 l0_0 a1_1) (ji20)))) (fun _ hk => hk.1.1.1), by repeat (first | (with_reducible first | exact HB.out | apply zc0 | apply zb0 | apply zd0 | refine ze0 ?_ GE297.out | refine ze0 ?_ GE298.out | refine ze0 ?_ GE299.out | refine ze0 ?_ GE304.out) | exact HB.out), by repeat (first | (with_reducible first | exact HK.out | apply Kept.alloc | apply Kept.drewN | apply Kept.drew | refine Kept.setCell ?_ (.inr GW297.out) _ | refine Kept.setCell ?_ (.inr GW298.out) _ | refine Kept.setCell ?_ (.inr GW299.out) _ | refine Kept.setCell ?_ (.inr GW304.out) _) | exact HK.out)⟩
       ·rw [if_neg c22] at H
        exact absurd H (by simp)
      ·rw [if_neg c21] at H
       exact absurd H (by simp)
     ·rw [if_neg c18] at H
      exact absurd H (by simp)
    ·rw [if_neg c17] at H
     exact absurd H (by simp)
  ·rw [if_neg c4] at H
   exact absurd H (by simp)
 ·rw [if_neg c3] at H
  exact absurd H (by simp)
def spec_acRun.l0 : Nat → Int → List Int → List (List Int) → List Int → Int → Option (List Int × List Int)
 | 0, _, _, _, _, _ => none
 | k + 1, x1, x11, x309000, x313000, x313001 => if x313001 = x1 then (some (x313000, x11)) else (if (x11.length : Int) > 4000 then (some (([] : List Int), ([] : List Int))) else ((spec_waStep.f x309000 x313000 x313001).bind fun bt316 => (if x11.length < 17592186044416 then (spec_acRun.l0 k x1 (x11 ++ [bt316.2.1]) x309000 bt316.1 bt316.2.1) else (none))))
def spec_acRun.f (k : Nat) (l0_0 : List (List Int)) (a1 : Int) (l2 : List Int) (a3 : Int) : Option (List Int × List Int) := (spec_l1Own.f l2).bind fun t309 => (spec_acRun.l0 k a1 (([a3] : List Int)) l0_0 t309 a3)
theorem spec_acRun.mono_l : ∀ k, (∀ y0 y1 y2 y3 y4, LeO (spec_acRun.l0 k y0 y1 y2 y3 y4) (spec_acRun.l0 (k + 1) y0 y1 y2 y3 y4))
 | 0 => fun _ _ _ _ _ r h => by simp [spec_acRun.l0] at h
 | k + 1 => by
  have ih0 := spec_acRun.mono_l k
  ·intro y0 y1 y2 y3 y4
   unfold spec_acRun.l0
   repeat' first
   | (with_reducible exact ih0 _ _ _ _ _)
   | (with_reducible exact LeO.refl _)
   | (with_reducible exact LeO.none _)
   | (with_reducible refine LeO.ite ?_ ?_)
   | (with_reducible refine LeO.bind ?_ (fun _ => ?_))
   | exact ih0 _ _ _ _ _
   | exact LeO.none _
   | refine LeO.ite ?_ ?_
   | refine LeO.bind ?_ (fun _ => ?_)
theorem spec_acRun.mono : ∀ a0 a1 a2 a3 k, LeO (spec_acRun.f k a0 a1 a2 a3) (spec_acRun.f (k + 1) a0 a1 a2 a3) := by
 intro a0 a1 a2 a3 k
 have ih0 := spec_acRun.mono_l k
 unfold spec_acRun.f
 repeat' first
   | (with_reducible exact ih0 _ _ _ _ _)
   | (with_reducible exact LeO.refl _)
   | (with_reducible exact LeO.none _)
   | (with_reducible refine LeO.ite ?_ ?_)
   | (with_reducible refine LeO.bind ?_ (fun _ => ?_))
   | exact ih0 _ _ _ _ _
   | exact LeO.none _
   | refine LeO.ite ?_ ?_
   | refine LeO.bind ?_ (fun _ => ?_)
set_option maxHeartbeats 8000000 in
set_option maxRecDepth 100000 in
theorem spec_acRun.calls (k : Nat) (A0_0 : Option Addr) (c0_0 : Nat) (l0_0 : List (List Int)) (a1 : Int) (A2 : Option Addr) (c2 : Nat) (l2 : List Int) (a3 : Int) (r1 : List Int) (r2 : List Int) (w : World) (hr0_0 : Kd.C (Kd.slice 3 (Kd.int .i64)) w A0_0 l0_0.length l0_0) (hc0_0 : l0_0.length ≤ c0_0) (hr2 : Kd.C (Kd.int .i64) w A2 l2.length l2) (hc2 : l2.length ≤ c2) (h : spec_acRun.f k l0_0 a1 l2 a3 = some (r1, r2)) :
  Calls Try.prog 29 #[.agg #[.slice A0_0 l0_0.length c0_0], .int .i64 a1, .slice A2 l2.length c2, .int .i64 a3] w fun e w' => ∃ v0_ v1_ : Value, e = .returned (.tuple #[v0_, v1_]) ∧ Kd.R (Kd.int .i64) 3 w' w.heap.size (fun k_ => some k_ ≠ (v1_ : Value).ownBlock) v0_ r1 ∧ Kd.R (Kd.int .i64) 3 w' w.heap.size (fun k_ => some k_ ≠ (v0_ : Value).ownBlock) v1_ r2 ∧ Below w.heap.size w w' := by
 have hu29 := Try.underlying29
 have hu63 := Try.underlying63
 have HR0_0 := za0.mk hr0_0
 have HC0_0 := za0.mk hc0_0
 clear hr0_0 hc0_0
 have HR2 := za0.mk hr2
 have HC2 := za0.mk hc2
 clear hr2 hc2
 have HB := za0.mk (Below.refl w.heap.size w)
 have H : ((spec_l1Own.f l2).bind fun t309 => (spec_acRun.l0 k a1 (([a3] : List Int)) l0_0 t309 a3)) = some (r1, r2) := h
 clear h
 replace H := Option.bind_eq_some_iff.mp H
 obtain ⟨t309, A50, H⟩ := H
 replace H : (spec_acRun.l0 k a1 (([a3] : List Int)) l0_0 t309 a3) = some (r1, r2) := H
 have A5 := za0.mk A50
 clear A50
 obtain ⟨y313, hy313⟩ : ∃ y_ : List Int, y_ = (([a3] : List Int)) := ⟨_, rfl⟩
 replace H : (spec_acRun.l0 k a1 y313 l0_0 t309 a3) = some (r1, r2) := by first | (rw [hy313]; with_reducible exact H) | (have H2_ := (Option.bind_some _ _).symm.trans H; rw [hy313]; with_reducible exact H2_) | (have H2_ := (Option.bind_some _ _).symm.trans H; with_reducible exact H2_) | with_reducible exact H | (rw [hy313]; exact H) | exact H
 have Ny313 := za0.mk hy313
 clear hy313
 have H' := za0.mk H
 clear H
 go_enter Try.func29, Try.ntmps29
 go_wp2_with (first | ((with_reducible refine zn0 (N := 4) rfl ?_); refine zo0 ?hg (N := 4) ?hd (cs := #[.slice A0_0 l0_0.length c0_0]) (t := 29) ?hr ?_; (case hd => rfl); (case hg => rfl); (case hr => first | (go_simp; done) | (go_simp; rfl)); intro gb308 hg w6 hbox hb; have n0_ := za0.mk (zj0 (by repeat (first | (with_reducible first | exact HB.out | apply zc0 | apply zb0 | apply zd0) | exact HB.out)) hb); have n1_ := za0.mk (hbox); have n2_ := za0.mk ((by rw [hg]; exact (zg0 (by repeat (first | (with_reducible first | exact HB.out | apply zc0 | apply zb0 | apply zd0) | exact HB.out))) : w.heap.size ≤ gb308)); have n3_ := za0.mk ((by rw [hg]; exact (zg0 (by repeat (first | (with_reducible first | exact HB.out | apply zc0 | apply zb0 | apply zd0) | exact HB.out))) : w.heap.size ≤ gb308)); clear HB; have HB := n0_; have BK308 := n1_; have GW308 := n2_; have GE308 := n3_; clear n0_ n1_ n2_ n3_; clear hb hbox hg) | ((with_reducible refine zs0 (f := 46) rfl ?_); refine goesL_ (some 13) rfl rfl Try.func46 (by kernel_rfl) rfl #[.slice A2 l2.length c2] rfl (by (try simp only [List.map_toArray, List.map_cons, List.map_nil]); first | done | rfl | (simp only [List.length_drop, List.length_take]; rfl)) ?_; (with_reducible refine (spec_l1Own.calls _ _ l2 t309 _ ?side1 ?side2 A5.out).mono ?_); (case side1 => repeat (first | exact (Kd.C_below HR2.out HB.out) | (with_reducible refine Kd.C_alloc ?_ _) | (with_reducible refine Kd.C_drewN ?_ _) | (with_reducible refine Kd.C_drew ?_))); (case side2 => exact HC2.out); rintro e w7 ⟨v310, rfl, ho0, hb⟩; refine ⟨_, rfl, ?_⟩; have n0_ := za0.mk (Kd.R_lower ho0 (zg0 (by repeat (first | (with_reducible first | exact HB.out | apply zc0 | apply zb0 | apply zd0 | refine ze0 ?_ GE308.out) | exact HB.out)))); have n1_ := za0.mk (zl0 (g := gb308) (o := .cells #[.slice A0_0 l0_0.length c0_0] 29 (0, 0)) (by (with_reducible repeat (first | refine zh0 ?_ _ | refine zi0 ?_ | refine zf0 ?_ _)); exact BK308.out) hb); have n2_ := za0.mk (zj0 (by repeat (first | (with_reducible first | exact HB.out | apply zc0 | apply zb0 | apply zd0 | refine ze0 ?_ GE308.out) | exact HB.out)) hb); clear BK308; clear HB; have HO311 := n0_; have BK308 := n1_; have HB := n2_; clear n0_ n1_ n2_; (try clear hb); (try clear hb2); (try clear hk); (try clear hi); (try clear ho0); obtain ⟨Ao8, co8, eo8⟩ := Kd.R_slice HO311.out; subst eo8) | ((with_reducible refine zn0 (N := 10) rfl ?_); refine zo0 ?hg (N := 10) ?hd (cs := #[.slice none 0 0, .int .i64 0]) (t := 63) ?hr ?_; (case hd => rfl); (case hg => rfl); (case hr => first | (go_simp; done) | (go_simp; rfl)); intro gb312 hg w9 hbox hb; have n0_ := za0.mk (Kd.R_below (by (with_reducible repeat (first | apply Kd.R_alloc | apply Kd.R_drewN | apply Kd.R_drew)); exact HO311.out) hb); have n1_ := za0.mk (zl0 (g := gb308) (o := .cells #[.slice A0_0 l0_0.length c0_0] 29 (0, 0)) (by (with_reducible repeat (first | refine zh0 ?_ _ | refine zi0 ?_ | refine zf0 ?_ _)); exact BK308.out) hb); have n2_ := za0.mk (zj0 (by repeat (first | (with_reducible first | exact HB.out | apply zc0 | apply zb0 | apply zd0 | refine ze0 ?_ GE308.out) | exact HB.out)) hb); have n3_ := za0.mk (hbox); have n4_ := za0.mk ((by rw [hg]; exact (zg0 (by repeat (first | (with_reducible first | exact HB.out | apply zc0 | apply zb0 | apply zd0 | refine ze0 ?_ GE308.out) | exact HB.out))) : w.heap.size ≤ gb312)); have n5_ := za0.mk ((by rw [hg]; exact (zg0 (by repeat (first | (with_reducible first | exact HB.out | apply zc0 | apply zb0 | apply zd0 | refine ze0 ?_ GE308.out) | exact HB.out))) : w.heap.size ≤ gb312)); have n6_ := za0.mk ((by rw [hg]; exact Nat.ne_of_lt (blk_lt (g := gb308) (o := .cells #[.slice A0_0 l0_0.length c0_0] 29 (0, 0)) (by (with_reducible repeat (first | refine zh0 ?_ _ | refine zi0 ?_ | refine zf0 ?_ _)); exact BK308.out)) : gb308 ≠ gb312)); have n7_ := za0.mk ((by rw [hg]; exact Nat.ne_of_gt (blk_lt (g := gb308) (o := .cells #[.slice A0_0 l0_0.length c0_0] 29 (0, 0)) (by (with_reducible repeat (first | refine zh0 ?_ _ | refine zi0 ?_ | refine zf0 ?_ _)); exact BK308.out)) : gb312 ≠ gb308)); clear HO311; clear BK308; clear HB; have HO311 := n0_; have BK308 := n1_; have HB := n2_; have BK312 := n3_; have GW312 := n4_; have GE312 := n5_; have NB308_312 := n6_; have NB312_308 := n7_; clear n0_ n1_ n2_ n3_ n4_ n5_ n6_ n7_; clear hb hbox hg; have hnb10 := NB312_308.out; have hnc10 := NB308_312.out; have hcz11_0 : w9.cell? ⟨gb312, 0, none⟩ = some (.slice none 0 0) := (zk0 BK312.out 0).trans rfl; have hcz11_1 : w9.cell? ⟨gb312, 1, none⟩ = some (.int .i64 0) := (zk0 BK312.out 1).trans rfl; have hfz11_0 := zm0 BK312.out 0; have hfz11_1 := zm0 BK312.out 1) | ((with_reducible refine zn0 (N := 17) rfl ?_); refine Kd.R_lit (Kd.int .i64) _ 3 ?hg (N := 17) ?hd (xs := ([a3] : List Int)) (inner := [.int .i64 a3]) (ok := fun _ => True) (okp := fun _ => True) ?hr ?hp (fun _ hk => hk) trivial (Below.refl _ _) (Nat.le_refl _) (by simp) ?_; (case hd => rfl); (case hg => rfl); (case hr => first | (go_simp; done) | (go_simp; rfl)); (case hp => exact (Reps.one (show Kd.M (Kd.int .i64) _ _ _ a3 [.int .i64 a3] from rfl) (Reps.none _ _))); intro v314 w12 ho13 hb hg_ hnew_; clear hg_ hnew_; (first | rw [← Ny313.out] at ho13 | (simp only [Int.reduceToNat] at ho13; rw [← Ny313.out] at ho13)); have n0_ := za0.mk (Kd.R_elder' (by (with_reducible repeat (first | apply Kd.R_alloc | apply Kd.R_drewN | apply Kd.R_drew)); exact (Kd.R_mono (Kd.R_far (p := ⟨gb312, 1, none⟩) (Kd.R_far (p := ⟨gb312, 0, none⟩) (Kd.R_types HO311.out BK312.out (by decide)) (fun _ hk => hk.2) (.slice Ao8 t309.length co8)) (fun _ hk => hk.2) (.int .i64 a3)) (fun _ h_ => h_.1))) (Kd.R_base ho13) hb); have n1_ := za0.mk (Kd.R_lower (Kd.R_new' ho13 (Kd.R_lt (by (with_reducible repeat (first | apply Kd.R_alloc | apply Kd.R_drewN | apply Kd.R_drew)); exact (Kd.R_mono (Kd.R_far (p := ⟨gb312, 1, none⟩) (Kd.R_far (p := ⟨gb312, 0, none⟩) (Kd.R_types HO311.out BK312.out (by decide)) (fun _ hk => hk.2) (.slice Ao8 t309.length co8)) (fun _ hk => hk.2) (.int .i64 a3)) (fun _ h_ => h_.1))))) (zg0 (by repeat (first | (with_reducible first | exact HB.out | apply zc0 | apply zb0 | apply zd0 | refine ze0 ?_ GE308.out | refine ze0 ?_ GE312.out) | exact HB.out)))); have n2_ := za0.mk (zl0 (g := gb308) (o := .cells #[.slice A0_0 l0_0.length c0_0] 29 (0, 0)) (by (with_reducible repeat (first | refine zh0 ?_ _ | refine zi0 ?_ | refine zf0 ?_ _)); refine blk_far ?_ NB308_312.out _; (with_reducible repeat (first | refine zh0 ?_ _ | refine zi0 ?_ | refine zf0 ?_ _)); refine blk_far ?_ NB308_312.out _; (with_reducible repeat (first | refine zh0 ?_ _ | refine zi0 ?_ | refine zf0 ?_ _)); exact BK308.out) hb); have n3_ := za0.mk (zl0 (g := gb312) (o := .cells #[.slice Ao8 t309.length co8, .int .i64 a3] 63 (0, 0)) (by (with_reducible repeat (first | refine zh0 ?_ _ | refine zi0 ?_ | refine zf0 ?_ _)); refine blk_put (cs := #[.slice Ao8 t309.length co8, .int .i64 0]) ?_ 1 _ rfl; (with_reducible repeat (first | refine zh0 ?_ _ | refine zi0 ?_ | refine zf0 ?_ _)); refine blk_put (cs := #[.slice none 0 0, .int .i64 0]) ?_ 0 _ rfl; (with_reducible repeat (first | refine zh0 ?_ _ | refine zi0 ?_ | refine zf0 ?_ _)); exact BK312.out) hb); have n4_ := za0.mk (zj0 (by repeat (first | (with_reducible first | exact HB.out | apply zc0 | apply zb0 | apply zd0 | refine ze0 ?_ GE308.out | refine ze0 ?_ GE312.out) | exact HB.out)) hb); clear HO311; clear BK308; clear BK312; clear HB; have HO311 := n0_; have HO315 := n1_; have BK308 := n2_; have BK312 := n3_; have HB := n4_; clear n0_ n1_ n2_ n3_ n4_; clear hb ho13))
 go_loopg [11] k (fun kq v11 w' => ∃ (x11_1 : List Int) (x313000_1 : List Int) (x313001_1 : Int) (u313000 : Value), za0 (spec_acRun.l0 kq a1 x11_1 l0_0 x313000_1 x313001_1 = some (r1, r2)) ∧ za0 (kq ≤ k) ∧ za0 (Kd.R (Kd.int .i64) 3 w' w.heap.size (fun k_ => some k_ ≠ (u313000 : Value).ownBlock) v11 x11_1) ∧ za0 (Kd.R (Kd.int .i64) 3 w' w.heap.size (fun k_ => some k_ ≠ (v11 : Value).ownBlock) u313000 x313000_1) ∧ za0 (w'.heap[gb308]? = some (.cells #[(.slice A0_0 l0_0.length c0_0)] 29 (0, 0))) ∧ za0 (w'.heap[gb312]? = some (.cells #[u313000, .int .i64 x313001_1] 63 (0, 0))) ∧ za0 (Below w.heap.size w w'))
 case atStart => exact ⟨(y313), (t309), (a3), (.slice Ao8 t309.length co8), H', ⟨Nat.le_refl _⟩, ⟨by (with_reducible repeat (first | apply Kd.R_alloc | apply Kd.R_drewN | apply Kd.R_drew)); exact Kd.R_mono HO315.out (fun _ hk => hk.2)⟩, ⟨by (with_reducible repeat (first | apply Kd.R_alloc | apply Kd.R_drewN | apply Kd.R_drew)); exact Kd.R_mono HO311.out (fun _ hk => hk.2)⟩, ⟨by (with_reducible repeat (first | refine zh0 ?_ _ | refine zi0 ?_ | refine zf0 ?_ _)); exact BK308.out⟩, ⟨by (with_reducible repeat (first | refine zh0 ?_ _ | refine zi0 ?_ | refine zf0 ?_ _)); exact BK312.out⟩, ⟨by repeat (first | (with_reducible first | exact HB.out | apply zc0 | apply zb0 | apply zd0 | refine ze0 ?_ GE308.out | refine ze0 ?_ GE312.out) | exact HB.out)⟩⟩
 case round =>
  clear H'
  try clear c1
  try clear c2
  try clear p2
  try clear c4
  try clear c10
  try clear hcz11_0
  try clear hcz11_1
  try clear hfz11_0
  try clear hfz11_1
  obtain ⟨x11_1, x313000_1, x313001_1, u313000, HA, HK1, HO_11, HO_313000, BK308, BK312, HB⟩ := hrel
  cases gk with
  | zero => exact absurd HA.out (by simp [spec_acRun.l0])
  | succ k1 =>
   have H := HA.out
   clear HA
   simp only [spec_acRun.l0] at H
   by_cases c14 : x313001_1 = a1
   ·rw [if_pos c14] at H
    have c14b0 : (x313001_1 == a1) = true := beq_iff_eq.mpr c14
    have c14b1 : (x313001_1 != a1) = false := bne_eq_false_iff_eq.mpr c14
    clear c14
    simp only [Option.some.injEq, Prod.mk.injEq] at H
    obtain ⟨rfl, rfl⟩ := H
    have hnb15 := NB312_308.out
    have hnc15 := NB308_312.out
    have hcz16_0 : wr.cell? ⟨gb312, 0, none⟩ = some (u313000) := (zk0 BK312.out 0).trans rfl
    have hcz16_1 : wr.cell? ⟨gb312, 1, none⟩ = some (.int .i64 x313001_1) := (zk0 BK312.out 1).trans rfl
    have hfz16_0 := zm0 BK312.out 0
    have hfz16_1 := zm0 BK312.out 1
    go_wp2
    go_ret2
    exact ⟨_, _, by first | rfl | (simp [errW_none, errW_some] <;> rfl) | (simp [*, errW_none, errW_some] <;> rfl), by (with_reducible repeat (first | apply Kd.R_alloc | apply Kd.R_drewN | apply Kd.R_drew)); exact HO_313000.out, by (with_reducible repeat (first | apply Kd.R_alloc | apply Kd.R_drewN | apply Kd.R_drew)); exact HO_11.out, by repeat (first | (with_reducible first | exact HB.out | apply zc0 | apply zb0 | apply zd0 | refine ze0 ?_ GE308.out | refine ze0 ?_ GE312.out) | exact HB.out)⟩
   ·rw [if_neg c14] at H
    have c14b0 : (x313001_1 == a1) = false := beq_eq_false_iff_ne.mpr c14
    have c14b1 : (x313001_1 != a1) = true := bne_iff_ne.mpr c14
    by_cases c17 : (x11_1.length : Int) > 4000
    ·rw [if_pos c17] at H
     have c17b0 : decide (4000 < (x11_1.length : Int)) = true := decide_eq_true c17
     have c17b1 : decide (4000 < x11_1.length) = true := decide_eq_true (by omega)
     clear c17
     simp only [Option.some.injEq, Prod.mk.injEq] at H
     obtain ⟨rfl, rfl⟩ := H
     have hnb18 := NB312_308.out
     have hnc18 := NB308_312.out
     have hcz19_0 : wr.cell? ⟨gb312, 0, none⟩ = some (u313000) := (zk0 BK312.out 0).trans rfl
     have hcz19_1 : wr.cell? ⟨gb312, 1, none⟩ = some (.int .i64 x313001_1) := (zk0 BK312.out 1).trans rfl
     have hfz19_0 := zm0 BK312.out 0
     have hfz19_1 := zm0 BK312.out 1
     obtain ⟨Ao20, co20, eo20⟩ := Kd.R_slice HO_11.out
     subst eo20
     go_wp2
     go_ret2
     exact ⟨_, _, by first | rfl | (simp [errW_none, errW_some] <;> rfl) | (simp [*, errW_none, errW_some] <;> rfl), by first | exact Kd.R_nil _ _ _ _ _ | exact Kd.N_nil _ _ _ _ _ | exact Kd.V_nil _ _ _ _ _ | exact Kd.Q_nil _ _ _ _ _ | exact Kd.S_nil _ _ _ _ _, by first | exact Kd.R_nil _ _ _ _ _ | exact Kd.N_nil _ _ _ _ _ | exact Kd.V_nil _ _ _ _ _ | exact Kd.Q_nil _ _ _ _ _ | exact Kd.S_nil _ _ _ _ _, by repeat (first | (with_reducible first | exact HB.out | apply zc0 | apply zb0 | apply zd0 | refine ze0 ?_ GE308.out | refine ze0 ?_ GE312.out) | exact HB.out)⟩
    ·rw [if_neg c17] at H
     have c17b0 : decide (4000 < (x11_1.length : Int)) = false := decide_eq_false c17
     have c17b1 : decide (4000 < x11_1.length) = false := decide_eq_false (by omega)
     clear c17
     replace H := Option.bind_eq_some_iff.mp H
     obtain ⟨⟨t316, t319, t320⟩, A210, H⟩ := H
     replace H : (if x11_1.length < 17592186044416 then (spec_acRun.l0 k1 a1 (x11_1 ++ [t319]) l0_0 t316 t319) else (none)) = some (r1, r2) := H
     have A21 := za0.mk A210
     clear A210
     by_cases c22 : x11_1.length < 17592186044416
     ·rw [if_pos c22] at H
      have LMc22 := za0.mk c22
      clear c22
      obtain ⟨y321, hy321⟩ : ∃ y_ : List Int, y_ = (x11_1 ++ [t319]) := ⟨_, rfl⟩
      replace H : (spec_acRun.l0 k1 a1 y321 l0_0 t316 t319) = some (r1, r2) := by first | (rw [hy321]; with_reducible exact H) | (have H2_ := (Option.bind_some _ _).symm.trans H; rw [hy321]; with_reducible exact H2_) | (have H2_ := (Option.bind_some _ _).symm.trans H; with_reducible exact H2_) | with_reducible exact H | (rw [hy321]; exact H) | exact H
      have Ny321 := za0.mk hy321
      clear hy321
      have H' := za0.mk H
      clear H
      have hnb23 := NB312_308.out
      have hnc23 := NB308_312.out
      have hcz24_0 : wr.cell? ⟨gb312, 0, none⟩ = some (u313000) := (zk0 BK312.out 0).trans rfl
      have hcz24_1 : wr.cell? ⟨gb312, 1, none⟩ = some (.int .i64 x313001_1) := (zk0 BK312.out 1).trans rfl
      have hfz24_0 := zm0 BK312.out 0
      have hfz24_1 := zm0 BK312.out 1
      obtain ⟨Ao25, co25, eo25⟩ := Kd.R_slice HO_11.out
      subst eo25
      have hcz26_0 : wr.cell? ⟨gb308, 0, none⟩ = some (.slice A0_0 l0_0.length c0_0) := (zk0 BK308.out 0).trans rfl
      have hfz26_0 := zm0 BK308.out 0
      obtain ⟨Ao27, co27, eo27⟩ := Kd.R_slice HO_313000.out
      subst eo27
      go_wp2_with (first | ((with_reducible refine zs0 (f := 47) rfl ?_); refine goesL_ (some 28) rfl rfl Try.func47 (by kernel_rfl) rfl #[.agg #[.slice A0_0 l0_0.length c0_0], .agg #[.slice Ao27 x313000_1.length co27, .int .i64 x313001_1]] rfl (by (try simp only [List.map_toArray, List.map_cons, List.map_nil]); first | done | rfl | (simp only [List.length_drop, List.length_take]; rfl)) ?_; (with_reducible refine (spec_waStep.calls _ _ l0_0 (fun k_ => some k_ = (.slice Ao27 x313000_1.length co27 : Value).ownBlock) (.slice Ao27 x313000_1.length co27) x313000_1 x313001_1 t316 t319 t320 w _ ?side1 ?side2 ?side3 ?side4 A21.out).mono ?_); (case side1 => repeat (first | (with_reducible first | exact HB.out | apply zc0 | apply zb0 | apply zd0 | refine ze0 ?_ GE308.out | refine ze0 ?_ GE312.out) | exact HB.out)); (case side2 => exact Kd.C_kept_came (Kd.heap_slice 3 (Kd.heap_int .i64)) HR0_0.out (by repeat (first | (with_reducible first | exact HB.out | apply zc0 | apply zb0 | apply zd0 | refine ze0 ?_ GE308.out | refine ze0 ?_ GE312.out) | exact HB.out)) (fun k_ hs_ => (fun e_ => Kd.R_base HO_313000.out k_ e_.symm) hs_)); (case side3 => exact HC0_0.out); (case side4 => exact Kd.R_tight rfl HO_313000.out); rintro e w28 ⟨v317, rfl, ho0, hb, hkp⟩; refine ⟨_, rfl, ?_⟩; have n0_ := za0.mk (Kd.R_mono (ok' := fun k_ => some k_ ≠ (v317 : Value).ownBlock) (Kd.R_keptB (HO_11.out) hkp (fun k_ hk_ hs_ => (hk_) hs_)) (fun k_ hk_ => fun e_ => Or.elim (ho0.1 k_ e_.symm) (fun hs_ => hk_.2.1 hs_) (fun hn_ => Nat.not_le.2 hk_.2.2 hn_))); have n1_ := za0.mk (blk_kept (by (with_reducible repeat (first | refine zh0 ?_ _ | refine zi0 ?_ | refine zf0 ?_ _)); exact BK308.out) hkp (fun hs_ => (fun e_ => (Kd.R_ne HO_313000.out BK308.out (by decide)) e_) hs_)); have n2_ := za0.mk (blk_kept (by (with_reducible repeat (first | refine zh0 ?_ _ | refine zi0 ?_ | refine zf0 ?_ _)); exact BK312.out) hkp (fun hs_ => (fun e_ => (Kd.R_ne HO_313000.out BK312.out (by decide)) e_) hs_)); have n3_ := za0.mk (Kd.R_mono (ok' := fun k_ => some k_ ≠ (.slice Ao25 x11_1.length co25 : Value).ownBlock) ho0 (fun k_ hk_ => Or.elim hk_ (fun hs_ => fun e_ => (((HO_11.out).1 k_ e_.symm)) hs_) (fun hn_ => (Kd.fresh' (Kd.R_lt (by (with_reducible repeat (first | apply Kd.R_alloc | apply Kd.R_drewN | apply Kd.R_drew)); exact HO_11.out)) k_ hn_)))); have n4_ := za0.mk (hb); clear HO_11; clear BK308; clear BK312; clear HB; clear HO_313000; have HO_11 := n0_; have BK308 := n1_; have BK312 := n2_; have HO318 := n3_; have HB := n4_; clear n0_ n1_ n2_ n3_ n4_; (try clear hb); (try clear hkp); (try clear ho0); obtain ⟨Ao29, co29, eo29⟩ := Kd.R_slice HO318.out; subst eo29; have hcz30_0 : w28.cell? ⟨gb312, 0, none⟩ = some (.slice Ao27 x313000_1.length co27) := (zk0 BK312.out 0).trans rfl; have hcz30_1 : w28.cell? ⟨gb312, 1, none⟩ = some (.int .i64 x313001_1) := (zk0 BK312.out 1).trans rfl; have hfz30_0 := zm0 BK312.out 0; have hfz30_1 := zm0 BK312.out 1) | ((with_reducible refine gate_builtin (b := .append) (xs := #[.tmp 31, .tmp 34]) rfl ?_); at_builtin; refine Kd.R_append (Kd.int .i64) (w0 := w) w.heap.size rfl (.tmp 31) (.tmp 34) 25 3 (.int .i64 0) 8 rfl Try.underlying25 info3 rfl (by decide) (by omega) (.slice Ao25 x11_1.length co25) x11_1 t319 [.int .i64 t319] (fun k_ => some k_ ≠ (.slice Ao29 t316.length co29 : Value).ownBlock) (fun _ => False) rfl (by first | (go_simp; done) | (go_simp; rfl)) ?aP (fun _ hk => hk.elim) ?aF ?aO ?aB ?aS ?aL ?_; (case aP => exact rfl); (case aB => exact (by repeat (first | (with_reducible first | exact HB.out | apply zc0 | apply zb0 | apply zd0 | refine ze0 ?_ GE308.out | refine ze0 ?_ GE312.out) | exact HB.out))); (case aF => exact (fun k_ hk => Kd.fresh' (Kd.R_lt (by (with_reducible repeat (first | apply Kd.R_alloc | apply Kd.R_drewN | apply Kd.R_drew)); exact (Kd.R_mono (Kd.R_far (p := ⟨gb312, 1, none⟩) (Kd.R_far (p := ⟨gb312, 0, none⟩) (Kd.R_types HO318.out BK312.out (by decide)) (fun _ hk => hk.2) (.slice Ao29 t316.length co29)) (fun _ hk => hk.2) (.int .i64 t319)) (fun _ h_ => h_.1)))) k_ hk)); (case aO => exact (by (with_reducible repeat (first | apply Kd.R_alloc | apply Kd.R_drewN | apply Kd.R_drew)); exact Kd.R_mono (Kd.R_far (p := ⟨gb312, 1, none⟩) (Kd.R_far (p := ⟨gb312, 0, none⟩) (Kd.R_types HO_11.out BK312.out (by decide)) (fun _ hk => hk.2) (.slice Ao29 t316.length co29)) (fun _ hk => hk.2) (.int .i64 t319)) (fun _ hk => hk.1))); (case aS => exact (zg0 (by repeat (first | (with_reducible first | exact HB.out | apply zc0 | apply zb0 | apply zd0 | refine ze0 ?_ GE308.out | refine ze0 ?_ GE312.out) | exact HB.out)))); (case aL => have := LMc22.out; omega); intro v322 w31 ho hb hg hat; rw [← Ny321.out] at ho; have n0_ := za0.mk (zy0 (g := gb308) (o := .cells #[.slice A0_0 l0_0.length c0_0] 29 (0, 0)) (by (with_reducible repeat (first | refine zh0 ?_ _ | refine zi0 ?_ | refine zf0 ?_ _)); refine blk_far ?_ NB308_312.out _; (with_reducible repeat (first | refine zh0 ?_ _ | refine zi0 ?_ | refine zf0 ?_ _)); refine blk_far ?_ NB308_312.out _; (with_reducible repeat (first | refine zh0 ?_ _ | refine zi0 ?_ | refine zf0 ?_ _)); exact BK308.out) hg (Kd.R_ne HO_11.out BK308.out (by decide))); have n1_ := za0.mk (zy0 (g := gb312) (o := .cells #[.slice Ao29 t316.length co29, .int .i64 t319] 63 (0, 0)) (by (with_reducible repeat (first | refine zh0 ?_ _ | refine zi0 ?_ | refine zf0 ?_ _)); refine blk_put (cs := #[.slice Ao29 t316.length co29, .int .i64 x313001_1]) ?_ 1 _ rfl; (with_reducible repeat (first | refine zh0 ?_ _ | refine zi0 ?_ | refine zf0 ?_ _)); refine blk_put (cs := #[.slice Ao27 x313000_1.length co27, .int .i64 x313001_1]) ?_ 0 _ rfl; (with_reducible repeat (first | refine zh0 ?_ _ | refine zi0 ?_ | refine zf0 ?_ _)); exact BK312.out) hg (Kd.R_ne HO_11.out BK312.out (by decide))); have n2_ := za0.mk (Kd.R_after (ok := (fun _ => True)) (by (with_reducible repeat (first | apply Kd.R_alloc | apply Kd.R_drewN | apply Kd.R_drew)); exact Kd.R_mono (Kd.R_far (p := ⟨gb312, 1, none⟩) (Kd.R_far (p := ⟨gb312, 0, none⟩) (Kd.R_types HO318.out BK312.out (by decide)) (fun _ hk => hk.2) (.slice Ao29 t316.length co29)) (fun _ hk => hk.2) (.int .i64 t319)) (fun _ hk => ⟨trivial, hk.1⟩)) hg hat); have n3_ := za0.mk (hb); have n4_ := za0.mk (ho); clear BK308; clear BK312; clear HO318; clear HB; clear HO_11; have BK308 := n0_; have BK312 := n1_; have HO318 := n2_; have HB := n3_; have HO323 := n4_; clear n0_ n1_ n2_ n3_ n4_; clear ho hb hg hat))
      go_roundg k1
      case measure => have := HK1.out; omega
      case rel => exact ⟨(y321), (t316), (t319), (.slice Ao29 t316.length co29), H', ⟨by have := HK1.out; omega⟩, ⟨by (with_reducible repeat (first | apply Kd.R_alloc | apply Kd.R_drewN | apply Kd.R_drew)); exact HO323.out⟩, ⟨by (with_reducible repeat (first | apply Kd.R_alloc | apply Kd.R_drewN | apply Kd.R_drew)); exact Kd.R_mono HO318.out (fun _ hk => hk.2)⟩, ⟨by (with_reducible repeat (first | refine zh0 ?_ _ | refine zi0 ?_ | refine zf0 ?_ _)); exact BK308.out⟩, ⟨by (with_reducible repeat (first | refine zh0 ?_ _ | refine zi0 ?_ | refine zf0 ?_ _)); exact BK312.out⟩, ⟨by repeat (first | (with_reducible first | exact HB.out | apply zc0 | apply zb0 | apply zd0 | refine ze0 ?_ GE308.out | refine ze0 ?_ GE312.out) | exact HB.out)⟩⟩
     ·rw [if_neg c22] at H
      exact absurd H (by simp)
def spec_l1Same.l0 : Nat → List Int → List Int → Int → Int → Option (Bool)
 | 0, _, _, _, _ => none
 | k + 1, x0, x1, x12, x13 => if x13 < x12 then (if 0 ≤ x13 then (if x13 < (x0.length : Int) then (if x13 < (x1.length : Int) then (if (rd x0 x13) = (rd x1 x13) then (spec_l1Same.l0 k x0 x1 x12 (wrap64 (x13 + 1))) else (some false)) else (none)) else (none)) else (none)) else (some true)
def spec_l1Same.f (k : Nat) (l0 : List Int) (l1 : List Int) : Option (Bool) := if (l0.length : Int) = (l1.length : Int) then (spec_l1Same.l0 k l0 l1 (l0.length : Int) 0) else (some false)
theorem spec_l1Same.mono_l : ∀ k, (∀ y0 y1 y2 y3, LeO (spec_l1Same.l0 k y0 y1 y2 y3) (spec_l1Same.l0 (k + 1) y0 y1 y2 y3))
 | 0 => fun _ _ _ _ r h => by simp [spec_l1Same.l0] at h
 | k + 1 => by
  have ih0 := spec_l1Same.mono_l k
  ·intro y0 y1 y2 y3
   unfold spec_l1Same.l0
   repeat' first
   | (with_reducible exact ih0 _ _ _ _)
   | (with_reducible exact LeO.refl _)
   | (with_reducible exact LeO.none _)
   | (with_reducible refine LeO.ite ?_ ?_)
   | (with_reducible refine LeO.bind ?_ (fun _ => ?_))
   | exact ih0 _ _ _ _
   | exact LeO.none _
   | refine LeO.ite ?_ ?_
   | refine LeO.bind ?_ (fun _ => ?_)
theorem spec_l1Same.mono : ∀ a0 a1 k, LeO (spec_l1Same.f k a0 a1) (spec_l1Same.f (k + 1) a0 a1) := by
 intro a0 a1 k
 have ih0 := spec_l1Same.mono_l k
 unfold spec_l1Same.f
 repeat' first
   | (with_reducible exact ih0 _ _ _ _)
   | (with_reducible exact LeO.refl _)
   | (with_reducible exact LeO.none _)
   | (with_reducible refine LeO.ite ?_ ?_)
   | (with_reducible refine LeO.bind ?_ (fun _ => ?_))
   | exact ih0 _ _ _ _
   | exact LeO.none _
   | refine LeO.ite ?_ ?_
   | refine LeO.bind ?_ (fun _ => ?_)
set_option maxHeartbeats 8000000 in
set_option maxRecDepth 100000 in
theorem spec_l1Same.calls (k : Nat) (A0 : Option Addr) (c0 : Nat) (l0 : List Int) (A1 : Option Addr) (c1 : Nat) (l1 : List Int) (r : Bool) (w : World) (hr0 : Kd.C (Kd.int .i64) w A0 l0.length l0) (hc0 : l0.length ≤ c0) (hr1 : Kd.C (Kd.int .i64) w A1 l1.length l1) (hc1 : l1.length ≤ c1) (h : spec_l1Same.f k l0 l1 = some r) :
  Calls Try.prog 57 #[.slice A0 l0.length c0, .slice A1 l1.length c1] w fun e w' => e = .returned (.bool r) ∧ zz0 w w' := by
 have HR0 := za0.mk hr0
 have HC0 := za0.mk hc0
 clear hr0 hc0
 have HR1 := za0.mk hr1
 have HC1 := za0.mk hc1
 clear hr1 hc1
 have H : (if (l0.length : Int) = (l1.length : Int) then (spec_l1Same.l0 k l0 l1 (l0.length : Int) 0) else (some false)) = some r := h
 clear h
 by_cases c3 : (l0.length : Int) = (l1.length : Int)
 ·rw [if_pos c3] at H
  have c3b0 : ((l0.length : Int) == (l1.length : Int)) = true := beq_iff_eq.mpr c3
  have c3b1 : ((l0.length : Int) != (l1.length : Int)) = false := bne_eq_false_iff_eq.mpr c3
  have c3b2 : (l0.length == l1.length) = true := by first | simpa using c3 | (simp at c3 ⊢; omega)
  clear c3
  have H' := za0.mk H
  clear H
  go_enter Try.func57, Try.ntmps57
  go_wp2
  repeat (go_quiet (fail); try go_wp2)
  go_loopg [13] k (fun kq v13 w' => ∃ (x13_1 : Int), v13 = .int .i64 x13_1 ∧ za0 (spec_l1Same.l0 kq l0 l1 (l0.length : Int) x13_1 = some r) ∧ za0 (kq ≤ k) ∧ zz0 w w')
  case atStart => exact ⟨(0), (by first | rfl | (simp; done) | (simp [*]; done)), H', ⟨Nat.le_refl _⟩, by repeat (first | exact zz0.refl _ | apply zz0.step)⟩
  case round =>
   clear H'
   try clear c1
   try clear p2
   try clear c3
   try clear c3b0
   try clear c3b1
   try clear c3b2
   obtain ⟨x13_1, rfl, HA, HK1, ⟨m1, rfl⟩⟩ := hrel
   cases gk with
   | zero => exact absurd HA.out (by simp [spec_l1Same.l0])
   | succ k1 =>
    have H := HA.out
    clear HA
    simp only [spec_l1Same.l0] at H
    by_cases c4 : x13_1 < (l0.length : Int)
    ·rw [if_pos c4] at H
     have c4b0 : decide (x13_1 < (l0.length : Int)) = true := decide_eq_true c4
     clear c4
     by_cases c5 : 0 ≤ x13_1
     ·rw [if_pos c5] at H
      have c5b0 : decide (0 ≤ x13_1) = true := decide_eq_true c5
      clear c5
      by_cases c6 : x13_1 < (l0.length : Int)
      ·rw [if_pos c6] at H
       have c6b0 : decide (x13_1 < (l0.length : Int)) = true := decide_eq_true c6
       clear c6
       by_cases c7 : x13_1 < (l1.length : Int)
       ·rw [if_pos c7] at H
        have c7b0 : decide (x13_1 < (l1.length : Int)) = true := decide_eq_true c7
        clear c7
        by_cases c8 : (rd l0 x13_1) = (rd l1 x13_1)
        ·rw [if_pos c8] at H
         have c8b0 : ((rd l0 x13_1) == (rd l1 x13_1)) = true := beq_iff_eq.mpr c8
         have c8b1 : ((rd l0 x13_1) != (rd l1 x13_1)) = false := bne_eq_false_iff_eq.mpr c8
         clear c8
         have H' := za0.mk H
         clear H
         have p324 : 0 ≤ (x13_1 : Int) := of_decide_eq_true (by first | (with_reducible assumption) | assumption)
         have q324 : x13_1 < (l0.length : Int) := of_decide_eq_true (by first | (with_reducible assumption) | assumption)
         obtain ⟨ad324, e324, hx324_0⟩ := Kd.at_int HR0.out x13_1 p324 q324
         cases e324
         replace p324 := eq_true p324
         replace q324 := eq_true q324
         have p325 : 0 ≤ (x13_1 : Int) := of_decide_eq_true (by first | (with_reducible assumption) | assumption)
         have q325 : x13_1 < (l1.length : Int) := of_decide_eq_true (by first | (with_reducible assumption) | assumption)
         obtain ⟨ad325, e325, hx325_0⟩ := Kd.at_int HR1.out x13_1 p325 q325
         cases e325
         replace p325 := eq_true p325
         replace q325 := eq_true q325
         go_wp2
         repeat (go_quiet (fail); try go_wp2)
         go_roundg k1
         case measure => have := HK1.out; omega
         case rel => exact ⟨(wrap64 (x13_1 + 1)), (by first | rfl | (simp; done) | (simp [*]; done)), H', ⟨by have := HK1.out; omega⟩, by repeat (first | exact zz0.refl _ | apply zz0.step)⟩
        ·rw [if_neg c8] at H
         have c8b0 : ((rd l0 x13_1) == (rd l1 x13_1)) = false := beq_eq_false_iff_ne.mpr c8
         have c8b1 : ((rd l0 x13_1) != (rd l1 x13_1)) = true := bne_iff_ne.mpr c8
         obtain rfl := Option.some.inj H
         have p324 : 0 ≤ (x13_1 : Int) := of_decide_eq_true (by first | (with_reducible assumption) | assumption)
         have q324 : x13_1 < (l0.length : Int) := of_decide_eq_true (by first | (with_reducible assumption) | assumption)
         obtain ⟨ad324, e324, hx324_0⟩ := Kd.at_int HR0.out x13_1 p324 q324
         cases e324
         replace p324 := eq_true p324
         replace q324 := eq_true q324
         have p325 : 0 ≤ (x13_1 : Int) := of_decide_eq_true (by first | (with_reducible assumption) | assumption)
         have q325 : x13_1 < (l1.length : Int) := of_decide_eq_true (by first | (with_reducible assumption) | assumption)
         obtain ⟨ad325, e325, hx325_0⟩ := Kd.at_int HR1.out x13_1 p325 q325
         cases e325
         replace p325 := eq_true p325
         replace q325 := eq_true q325
         go_wp2
         repeat (go_quiet (fail); try go_wp2)
         go_ret
         exact ⟨by first | rfl | (simp; done) | (simp [*]; done), by repeat (first | exact zz0.refl _ | apply zz0.step)⟩
       ·rw [if_neg c7] at H
        exact absurd H (by simp)
      ·rw [if_neg c6] at H
       exact absurd H (by simp)
     ·rw [if_neg c5] at H
      exact absurd H (by simp)
    ·rw [if_neg c4] at H
     have c4b0 : decide (x13_1 < (l0.length : Int)) = false := decide_eq_false c4
     clear c4
     obtain rfl := Option.some.inj H
     go_wp2
     repeat (go_quiet (fail); try go_wp2)
     go_ret
     exact ⟨by first | rfl | (simp; done) | (simp [*]; done), by repeat (first | exact zz0.refl _ | apply zz0.step)⟩
 ·rw [if_neg c3] at H
  have c3b0 : ((l0.length : Int) == (l1.length : Int)) = false := beq_eq_false_iff_ne.mpr c3
  have c3b1 : ((l0.length : Int) != (l1.length : Int)) = true := bne_iff_ne.mpr c3
  have c3b2 : (l0.length == l1.length) = false := by first | simpa using c3 | (simp at c3 ⊢; omega)
  obtain rfl := Option.some.inj H
  go_enter Try.func57, Try.ntmps57
  go_wp2
  repeat (go_quiet (fail); try go_wp2)
  go_ret
  exact ⟨by first | rfl | (simp; done) | (simp [*]; done), by repeat (first | exact zz0.refl _ | apply zz0.step)⟩
end Go.Proofs.Ytlbgajpbdbgmkaa.P
