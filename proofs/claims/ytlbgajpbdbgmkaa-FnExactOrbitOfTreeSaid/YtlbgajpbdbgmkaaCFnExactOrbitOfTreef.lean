/- Texts of this session on the way to the law FnExactOrbitOfTree, part 6: words of the print, walks, plain laws; only what the law's proof uses. -/
import Derived.Test.YtlbgajpbdbgmkaaCFnExactOrbitOfTreea
import Derived.Test.YtlbgajpbdbgmkaaCFnExactOrbitOfTreee
import Derived.Test.YtlbgajpbdbgmkaaCFnExactOrbitOfTreed
import Derived.WalkKit
import Derived.ProofKit
import Derived.OpenShut
import Derived.ShutString
import Derived.ChangeOld
import Derived.Below
import Derived.SizedLaws
import Derived.Deep.Matrix
import Derived.Lib.SmallJoins
namespace Go.Proofs.Ytlbgajpbdbgmkaa.P
set_option maxHeartbeats 8000000
set_option maxRecDepth 100000
open Go.RowKit Go.Proofs.YtlbgajpbdbgmkaaW.PrintWords Go.Proofs.YtlbgajpbdbgmkaaW.PrintLast Go.Proofs.YtlbgajpbdbgmkaaW.PrintMore
attribute [local go_sem] zw0 zv0 zz0 zy0 zs0 zq0 zu0 zx0
set_option linter.unusedVariables false
set_option linter.unusedSimpArgs false
def ym1.f (k : Nat) (l0_0 : List (List Int)) (a1 : Int) (l2 : List Int) : Option (Bool) := (yl1.f k l0_0 a1).bind fun bt291 => (if bt291.2 = true then ((yi1.f k l0_0 a1 l2).bind fun t295 => (if t295 = true then ((ys0.f k l0_0 a1 l2).bind fun t296 => (some t296)) else (some false))) else (some false))
theorem ym1.mono : ∀ a0 a1 a2 k, LeO (ym1.f k a0 a1 a2) (ym1.f (k + 1) a0 a1 a2) := by
 intro a0 a1 a2 k
 unfold ym1.f
 repeat' (with_reducible first | exact yl1.mono _ _ _ | exact yi1.mono _ _ _ _ | exact ys0.mono _ _ _ _ | exact LeO.refl _ | exact LeO.none _ | refine LeO.ite ?_ ?_ | refine LeO.bind ?_ (fun _ => ?_))
theorem ym1.calls (k : Nat) (A0_0 : Option Addr) (c0_0 : Nat) (l0_0 : List (List Int)) (a1 : Int) (A2 : Option Addr) (c2 : Nat) (l2 : List Int) (r : Bool) (w : World) (hr0_0 : Kd.C (Kd.slice 3 (Kd.int .i64)) w A0_0 l0_0.length l0_0) (hc0_0 : l0_0.length ≤ c0_0) (hr2 : Kd.C (Kd.int .i64) w A2 l2.length l2) (hc2 : l2.length ≤ c2) (h : ym1.f k l0_0 a1 l2 = some r) :
  Calls Try.prog 27 #[.agg #[.slice A0_0 l0_0.length c0_0], .int .i64 a1, .slice A2 l2.length c2] w fun e w' => e = .returned (.bool r) ∧ Below w.heap.size w w' := by
 have hu29 := Try.underlying29
 have HR0_0 := za0.mk hr0_0
 have HC0_0 := za0.mk hc0_0
 clear hr0_0 hc0_0
 have HR2 := za0.mk hr2
 have HC2 := za0.mk hc2
 clear hr2 hc2
 have HB := za0.mk (Below.refl w.heap.size w)
 have H : ((yl1.f k l0_0 a1).bind fun bt291 => (if bt291.2 = true then ((yi1.f k l0_0 a1 l2).bind fun t295 => (if t295 = true then ((ys0.f k l0_0 a1 l2).bind fun t296 => (some t296)) else (some false))) else (some false))) = some r := h
 clear h
 replace H := Option.bind_eq_some_iff.mp H
 obtain ⟨⟨t291, t294⟩, A40, H⟩ := H
 replace H : (if t294 = true then ((yi1.f k l0_0 a1 l2).bind fun t295 => (if t295 = true then ((ys0.f k l0_0 a1 l2).bind fun t296 => (some t296)) else (some false))) else (some false)) = some r := H
 have A4 := za0.mk A40
 clear A40
 by_cases c5 : t294 = true
 rotate_left
 ·replace c5 := Bool.eq_false_iff.mpr c5
  subst c5
  have H1 : (some false) = some r := by rw [if_neg (show ¬ (false = true) by decide)] at H; exact H
  clear H
  have H := H1
  clear H1
  obtain rfl := Option.some.inj H
  go_enter Try.func27, Try.ntmps27
  go_wp2_with (first | ((with_reducible refine zo0 (N := 3) rfl ?_); refine zp0 ?hg (N := 3) ?hd (cs := #[.slice A0_0 l0_0.length c0_0]) (t := 29) ?hr ?_; (case hd | hg => rfl); (case hr => go_simp <;> rfl); intro gb290 hg w21 hbox hb; have n0_ := za0.mk (zi0 (by repeat (first | exact HB.1 | apply zc0 | apply zb0 | apply zd0)) hb); have n1_ := za0.mk (hbox); have n2_ := za0.mk ((by rw [hg]; exact (zh0 (by repeat (first | exact HB.1 | apply zc0 | apply zb0 | apply zd0))) : w.heap.size ≤ gb290)); have n3_ := za0.mk ((by rw [hg]; exact (zh0 (by repeat (first | exact HB.1 | apply zc0 | apply zb0 | apply zd0))) : w.heap.size ≤ gb290)); clear HB; have HB := n0_; have BK290 := n1_; have GW290 := n2_; have GE290 := n3_; clear n0_ n1_ n2_ n3_; clear hb hbox hg; have hcz22_0 : w21.cell? ⟨gb290, 0, none⟩ = some (.slice A0_0 l0_0.length c0_0) := (zl0 BK290.1 0).trans rfl; have hfz22_0 := zk0 BK290.1 0) | ((with_reducible refine zn0 (f := 38) rfl ?_); refine za1 (some 12) rfl rfl Try.func38 (by kernel_rfl) rfl #[.agg #[.slice A0_0 l0_0.length c0_0], .int .i64 a1] rfl (by (try simp only [List.map_toArray, List.map_cons, List.map_nil]); first | done | rfl | (simp only [List.length_drop, List.length_take]; rfl)) ?_; (with_reducible refine (yl1.calls k _ _ l0_0 a1 t291 false _ ?side1 ?side2 A4.1).mono ?_); (case side1 => repeat (first | exact (Kd.C_below HR0_0.1 HB.1) | with_reducible first | refine Kd.C_alloc ?_ _ | refine Kd.C_drewN ?_ _ | refine Kd.C_drew ?_)); (case side2 => exact HC0_0.1); rintro e w23 ⟨v292, rfl, ho0, hb⟩; refine ⟨_, rfl, ?_⟩; have n0_ := za0.mk (Kd.S_lower ho0 (zh0 (by repeat (first | exact HB.1 | apply zc0 | apply zb0 | apply zd0 | refine ze0 ?_ GE290.1)))); have n1_ := za0.mk (zm0 (g := gb290) (o := .cells #[.slice A0_0 l0_0.length c0_0] 29 (0, 0)) (by (with_reducible repeat (first | refine zg0 ?_ _ | refine zj0 ?_ | refine zf0 ?_ _)); exact BK290.1) hb); have n2_ := za0.mk (zi0 (by repeat (first | exact HB.1 | apply zc0 | apply zb0 | apply zd0 | refine ze0 ?_ GE290.1)) hb); clear BK290; clear HB; have HO293 := n0_; have BK290 := n1_; have HB := n2_; clear n0_ n1_ n2_; (try clear hb); (try clear hb2); (try clear hk); (try clear hi); (try clear ho0)))
  go_ret
  exact ⟨by first | rfl | (simp [errW_none, errW_some] <;> rfl) | (simp [*, errW_none, errW_some] <;> rfl), by repeat (first | exact HB.1 | apply zc0 | apply zb0 | apply zd0 | refine ze0 ?_ GE290.1)⟩
 subst c5
 have H1 : ((yi1.f k l0_0 a1 l2).bind fun t295 => (if t295 = true then ((ys0.f k l0_0 a1 l2).bind fun t296 => (some t296)) else (some false))) = some r := by rw [if_pos rfl] at H; exact H
 clear H
 have H := H1
 clear H1
 replace H := Option.bind_eq_some_iff.mp H
 obtain ⟨t295, A60, H⟩ := H
 replace H : (if t295 = true then ((ys0.f k l0_0 a1 l2).bind fun t296 => (some t296)) else (some false)) = some r := H
 have A6 := za0.mk A60
 clear A60
 by_cases c7 : t295 = true
 rotate_left
 ·replace c7 := Bool.eq_false_iff.mpr c7
  subst c7
  have H1 : (some false) = some r := by rw [if_neg (show ¬ (false = true) by decide)] at H; exact H
  clear H
  have H := H1
  clear H1
  obtain rfl := Option.some.inj H
  go_enter Try.func27, Try.ntmps27
  go_wp2_with (first | ((with_reducible refine zo0 (N := 3) rfl ?_); refine zp0 ?hg (N := 3) ?hd (cs := #[.slice A0_0 l0_0.length c0_0]) (t := 29) ?hr ?_; (case hd | hg => rfl); (case hr => go_simp <;> rfl); intro gb290 hg w16 hbox hb; have n0_ := za0.mk (zi0 (by repeat (first | exact HB.1 | apply zc0 | apply zb0 | apply zd0)) hb); have n1_ := za0.mk (hbox); have n2_ := za0.mk ((by rw [hg]; exact (zh0 (by repeat (first | exact HB.1 | apply zc0 | apply zb0 | apply zd0))) : w.heap.size ≤ gb290)); have n3_ := za0.mk ((by rw [hg]; exact (zh0 (by repeat (first | exact HB.1 | apply zc0 | apply zb0 | apply zd0))) : w.heap.size ≤ gb290)); clear HB; have HB := n0_; have BK290 := n1_; have GW290 := n2_; have GE290 := n3_; clear n0_ n1_ n2_ n3_; clear hb hbox hg; have hcz17_0 : w16.cell? ⟨gb290, 0, none⟩ = some (.slice A0_0 l0_0.length c0_0) := (zl0 BK290.1 0).trans rfl; have hfz17_0 := zk0 BK290.1 0) | ((with_reducible refine zn0 (f := 38) rfl ?_); refine za1 (some 12) rfl rfl Try.func38 (by kernel_rfl) rfl #[.agg #[.slice A0_0 l0_0.length c0_0], .int .i64 a1] rfl (by (try simp only [List.map_toArray, List.map_cons, List.map_nil]); first | done | rfl | (simp only [List.length_drop, List.length_take]; rfl)) ?_; (with_reducible refine (yl1.calls k _ _ l0_0 a1 t291 true _ ?side1 ?side2 A4.1).mono ?_); (case side1 => repeat (first | exact (Kd.C_below HR0_0.1 HB.1) | with_reducible first | refine Kd.C_alloc ?_ _ | refine Kd.C_drewN ?_ _ | refine Kd.C_drew ?_)); (case side2 => exact HC0_0.1); rintro e w18 ⟨v292, rfl, ho0, hb⟩; refine ⟨_, rfl, ?_⟩; have n0_ := za0.mk (Kd.S_lower ho0 (zh0 (by repeat (first | exact HB.1 | apply zc0 | apply zb0 | apply zd0 | refine ze0 ?_ GE290.1)))); have n1_ := za0.mk (zm0 (g := gb290) (o := .cells #[.slice A0_0 l0_0.length c0_0] 29 (0, 0)) (by (with_reducible repeat (first | refine zg0 ?_ _ | refine zj0 ?_ | refine zf0 ?_ _)); exact BK290.1) hb); have n2_ := za0.mk (zi0 (by repeat (first | exact HB.1 | apply zc0 | apply zb0 | apply zd0 | refine ze0 ?_ GE290.1)) hb); clear BK290; clear HB; have HO293 := n0_; have BK290 := n1_; have HB := n2_; clear n0_ n1_ n2_; (try clear hb); (try clear hb2); (try clear hk); (try clear hi); (try clear ho0); have hcz19_0 : w18.cell? ⟨gb290, 0, none⟩ = some (.slice A0_0 l0_0.length c0_0) := (zl0 BK290.1 0).trans rfl; have hfz19_0 := zk0 BK290.1 0) | ((with_reducible refine zn0 (f := 42) rfl ?_); refine za1 (some 20) rfl rfl Try.func42 (by kernel_rfl) rfl #[.agg #[.slice A0_0 l0_0.length c0_0], .int .i64 a1, .slice A2 l2.length c2] rfl (by (try simp only [List.map_toArray, List.map_cons, List.map_nil]); first | done | rfl | (simp only [List.length_drop, List.length_take]; rfl)) ?_; (with_reducible refine (yi1.calls k _ _ l0_0 a1 _ _ l2 false _ ?side1 ?side2 ?side3 ?side4 A6.1).mono ?_); (case side1 => repeat (first | exact (Kd.C_below HR0_0.1 HB.1) | with_reducible first | refine Kd.C_alloc ?_ _ | refine Kd.C_drewN ?_ _ | refine Kd.C_drew ?_)); (case side2 => exact HC0_0.1); (case side3 => repeat (first | exact (Kd.C_below HR2.1 HB.1) | with_reducible first | refine Kd.C_alloc ?_ _ | refine Kd.C_drewN ?_ _ | refine Kd.C_drew ?_)); (case side4 => exact HC2.1); rintro e w20 ⟨rfl, hb⟩; refine ⟨_, rfl, ?_⟩; have n0_ := za0.mk (Kd.S_below (by (with_reducible repeat (first | apply Kd.S_alloc | apply Kd.S_drewN | apply Kd.S_drew)); exact HO293.1) hb); have n1_ := za0.mk (zm0 (g := gb290) (o := .cells #[.slice A0_0 l0_0.length c0_0] 29 (0, 0)) (by (with_reducible repeat (first | refine zg0 ?_ _ | refine zj0 ?_ | refine zf0 ?_ _)); exact BK290.1) hb); have n2_ := za0.mk (zi0 (by repeat (first | exact HB.1 | apply zc0 | apply zb0 | apply zd0 | refine ze0 ?_ GE290.1)) hb); clear HO293; clear BK290; clear HB; have HO293 := n0_; have BK290 := n1_; have HB := n2_; clear n0_ n1_ n2_; (try clear hb); (try clear hb2); (try clear hk); (try clear hi)))
  go_ret
  exact ⟨by first | rfl | (simp [errW_none, errW_some] <;> rfl) | (simp [*, errW_none, errW_some] <;> rfl), by repeat (first | exact HB.1 | apply zc0 | apply zb0 | apply zd0 | refine ze0 ?_ GE290.1)⟩
 subst c7
 have H1 : ((ys0.f k l0_0 a1 l2).bind fun t296 => (some t296)) = some r := by rw [if_pos rfl] at H; exact H
 clear H
 have H := H1
 clear H1
 replace H := Option.bind_eq_some_iff.mp H
 obtain ⟨t296, A80, H⟩ := H
 replace H : (some t296) = some r := H
 have A8 := za0.mk A80
 clear A80
 obtain rfl := Option.some.inj H
 go_enter Try.func27, Try.ntmps27
 go_wp2_with (first | ((with_reducible refine zo0 (N := 3) rfl ?_); refine zp0 ?hg (N := 3) ?hd (cs := #[.slice A0_0 l0_0.length c0_0]) (t := 29) ?hr ?_; (case hd | hg => rfl); (case hr => go_simp <;> rfl); intro gb290 hg w9 hbox hb; have n0_ := za0.mk (zi0 (by repeat (first | exact HB.1 | apply zc0 | apply zb0 | apply zd0)) hb); have n1_ := za0.mk (hbox); have n2_ := za0.mk ((by rw [hg]; exact (zh0 (by repeat (first | exact HB.1 | apply zc0 | apply zb0 | apply zd0))) : w.heap.size ≤ gb290)); have n3_ := za0.mk ((by rw [hg]; exact (zh0 (by repeat (first | exact HB.1 | apply zc0 | apply zb0 | apply zd0))) : w.heap.size ≤ gb290)); clear HB; have HB := n0_; have BK290 := n1_; have GW290 := n2_; have GE290 := n3_; clear n0_ n1_ n2_ n3_; clear hb hbox hg; have hcz10_0 : w9.cell? ⟨gb290, 0, none⟩ = some (.slice A0_0 l0_0.length c0_0) := (zl0 BK290.1 0).trans rfl; have hfz10_0 := zk0 BK290.1 0) | ((with_reducible refine zn0 (f := 38) rfl ?_); refine za1 (some 12) rfl rfl Try.func38 (by kernel_rfl) rfl #[.agg #[.slice A0_0 l0_0.length c0_0], .int .i64 a1] rfl (by (try simp only [List.map_toArray, List.map_cons, List.map_nil]); first | done | rfl | (simp only [List.length_drop, List.length_take]; rfl)) ?_; (with_reducible refine (yl1.calls k _ _ l0_0 a1 t291 true _ ?side1 ?side2 A4.1).mono ?_); (case side1 => repeat (first | exact (Kd.C_below HR0_0.1 HB.1) | with_reducible first | refine Kd.C_alloc ?_ _ | refine Kd.C_drewN ?_ _ | refine Kd.C_drew ?_)); (case side2 => exact HC0_0.1); rintro e w11 ⟨v292, rfl, ho0, hb⟩; refine ⟨_, rfl, ?_⟩; have n0_ := za0.mk (Kd.S_lower ho0 (zh0 (by repeat (first | exact HB.1 | apply zc0 | apply zb0 | apply zd0 | refine ze0 ?_ GE290.1)))); have n1_ := za0.mk (zm0 (g := gb290) (o := .cells #[.slice A0_0 l0_0.length c0_0] 29 (0, 0)) (by (with_reducible repeat (first | refine zg0 ?_ _ | refine zj0 ?_ | refine zf0 ?_ _)); exact BK290.1) hb); have n2_ := za0.mk (zi0 (by repeat (first | exact HB.1 | apply zc0 | apply zb0 | apply zd0 | refine ze0 ?_ GE290.1)) hb); clear BK290; clear HB; have HO293 := n0_; have BK290 := n1_; have HB := n2_; clear n0_ n1_ n2_; (try clear hb); (try clear hb2); (try clear hk); (try clear hi); (try clear ho0); have hcz12_0 : w11.cell? ⟨gb290, 0, none⟩ = some (.slice A0_0 l0_0.length c0_0) := (zl0 BK290.1 0).trans rfl; have hfz12_0 := zk0 BK290.1 0) | ((with_reducible refine zn0 (f := 42) rfl ?_); refine za1 (some 20) rfl rfl Try.func42 (by kernel_rfl) rfl #[.agg #[.slice A0_0 l0_0.length c0_0], .int .i64 a1, .slice A2 l2.length c2] rfl (by (try simp only [List.map_toArray, List.map_cons, List.map_nil]); first | done | rfl | (simp only [List.length_drop, List.length_take]; rfl)) ?_; (with_reducible refine (yi1.calls k _ _ l0_0 a1 _ _ l2 true _ ?side1 ?side2 ?side3 ?side4 A6.1).mono ?_); (case side1 => repeat (first | exact (Kd.C_below HR0_0.1 HB.1) | with_reducible first | refine Kd.C_alloc ?_ _ | refine Kd.C_drewN ?_ _ | refine Kd.C_drew ?_)); (case side2 => exact HC0_0.1); (case side3 => repeat (first | exact (Kd.C_below HR2.1 HB.1) | with_reducible first | refine Kd.C_alloc ?_ _ | refine Kd.C_drewN ?_ _ | refine Kd.C_drew ?_)); (case side4 => exact HC2.1); rintro e w13 ⟨rfl, hb⟩; refine ⟨_, rfl, ?_⟩; have n0_ := za0.mk (Kd.S_below (by (with_reducible repeat (first | apply Kd.S_alloc | apply Kd.S_drewN | apply Kd.S_drew)); exact HO293.1) hb); have n1_ := za0.mk (zm0 (g := gb290) (o := .cells #[.slice A0_0 l0_0.length c0_0] 29 (0, 0)) (by (with_reducible repeat (first | refine zg0 ?_ _ | refine zj0 ?_ | refine zf0 ?_ _)); exact BK290.1) hb); have n2_ := za0.mk (zi0 (by repeat (first | exact HB.1 | apply zc0 | apply zb0 | apply zd0 | refine ze0 ?_ GE290.1)) hb); clear HO293; clear BK290; clear HB; have HO293 := n0_; have BK290 := n1_; have HB := n2_; clear n0_ n1_ n2_; (try clear hb); (try clear hb2); (try clear hk); (try clear hi); have hcz14_0 : w13.cell? ⟨gb290, 0, none⟩ = some (.slice A0_0 l0_0.length c0_0) := (zl0 BK290.1 0).trans rfl; have hfz14_0 := zk0 BK290.1 0) | (go_at_call 43; (with_reducible refine (ys0.calls k _ _ l0_0 a1 _ _ l2 t296 _ ?side1 ?side2 ?side3 ?side4 A8.1).mono ?_); (case side1 => repeat (first | exact (Kd.C_below HR0_0.1 HB.1) | with_reducible first | refine Kd.C_alloc ?_ _ | refine Kd.C_drewN ?_ _ | refine Kd.C_drew ?_)); (case side2 => exact HC0_0.1); (case side3 => repeat (first | exact (Kd.C_below HR2.1 HB.1) | with_reducible first | refine Kd.C_alloc ?_ _ | refine Kd.C_drewN ?_ _ | refine Kd.C_drew ?_)); (case side4 => exact HC2.1); rintro e w15 ⟨rfl, hb⟩; have n0_ := za0.mk (Kd.S_below (by (with_reducible repeat (first | apply Kd.S_alloc | apply Kd.S_drewN | apply Kd.S_drew)); exact HO293.1) hb); have n1_ := za0.mk (zm0 (g := gb290) (o := .cells #[.slice A0_0 l0_0.length c0_0] 29 (0, 0)) (by (with_reducible repeat (first | refine zg0 ?_ _ | refine zj0 ?_ | refine zf0 ?_ _)); exact BK290.1) hb); have n2_ := za0.mk (zi0 (by repeat (first | exact HB.1 | apply zc0 | apply zb0 | apply zd0 | refine ze0 ?_ GE290.1)) hb); clear HO293; clear BK290; clear HB; have HO293 := n0_; have BK290 := n1_; have HB := n2_; clear n0_ n1_ n2_; (try clear hb); (try clear hb2); (try clear hk); (try clear hi)))
 go_ret
 exact ⟨by first | rfl | (simp [errW_none, errW_some] <;> rfl) | (simp [*, errW_none, errW_some] <;> rfl), by repeat (first | exact HB.1 | apply zc0 | apply zb0 | apply zd0 | refine ze0 ?_ GE290.1)⟩
def yf2.f (l0_0 : List (List Int)) (l1_0 : List Int) (a1_1 : Int) : Option (List Int × Int × Bool) := if 0 ≤ a1_1 then (if a1_1 < (l0_0.length : Int) then (if ((rd_L1 l0_0 a1_1).length : Int) = 0 then (some (l1_0, a1_1, false)) else ((yf1.f l1_0).bind fun t301 => (if a1_1 < (l1_0.length : Int) then (if a1_1 < (t301.length : Int) then (if 0 ≤ (Int.tmod (wrap64 ((rd l1_0 a1_1) + 1)) ((rd_L1 l0_0 a1_1).length : Int)) then (if (Int.tmod (wrap64 ((rd l1_0 a1_1) + 1)) ((rd_L1 l0_0 a1_1).length : Int)) < ((rd_L1 l0_0 a1_1).length : Int) then (some ((t301.set (a1_1 : Int).toNat (Int.tmod (wrap64 ((rd l1_0 a1_1) + 1)) ((rd_L1 l0_0 a1_1).length : Int))), rd (rd_L1 l0_0 a1_1) (Int.tmod (wrap64 ((rd l1_0 a1_1) + 1)) ((rd_L1 l0_0 a1_1).length : Int)), true)) else (none)) else (none)) else (none)) else (none)))) else (none)) else (none)
theorem yf2.calls (A0_0 : Option Addr) (c0_0 : Nat) (l0_0 : List (List Int)) (P1_0_ : Nat → Prop) (u9000_ : Value) (l1_0 : List Int) (a1_1 : Int) (r1 : List Int) (r2 : Int) (r3 : Bool) (w0 w : World) (hB : Below w0.heap.size w0 w) (hr0_0 : ∀ W_, Kept w W_ (fun k_ => P1_0_ k_) → Kd.C (Kd.slice 3 (Kd.int .i64)) W_ A0_0 l0_0.length l0_0) (hc0_0 : l0_0.length ≤ c0_0) (ho1_0 : Kd.R (Kd.int .i64) 3 w w0.heap.size P1_0_ u9000_ l1_0) (h : yf2.f l0_0 l1_0 a1_1 = some (r1, r2, r3)) :
  Calls Try.prog 47 #[.agg #[.slice A0_0 l0_0.length c0_0], .agg #[u9000_, .int .i64 a1_1]] w fun e w' => ∃ v0_ : Value, e = .returned (.tuple #[.agg #[v0_, .int .i64 r2], .bool r3]) ∧ Kd.R (Kd.int .i64) 3 w' w0.heap.size (fun k_ => (P1_0_ k_ ∨ w.heap.size ≤ k_)) v0_ r1 ∧ Below w0.heap.size w0 w' ∧ Kept w w' (fun k_ => P1_0_ k_) := by
 have hu29 := Try.underlying29
 have hu63 := Try.underlying63
 have HR0_0 := za0.mk hr0_0
 have HC0_0 := za0.mk hc0_0
 clear hr0_0 hc0_0
 have HO1_0 := za0.mk (show Kd.R (Kd.int .i64) 3 w w0.heap.size (fun k_ => (P1_0_ k_ ∨ w.heap.size ≤ k_)) u9000_ l1_0 from Kd.R_mono ho1_0 (fun k_ hk => (.inl hk)))
 have HK := za0.mk (Kept.refl w (fun k_ => P1_0_ k_))
 have HW0 := za0.mk hB.size
 have HB := za0.mk hB
 clear hB
 have H : (if 0 ≤ a1_1 then (if a1_1 < (l0_0.length : Int) then (if ((rd_L1 l0_0 a1_1).length : Int) = 0 then (some (l1_0, a1_1, false)) else ((yf1.f l1_0).bind fun t301 => (if a1_1 < (l1_0.length : Int) then (if a1_1 < (t301.length : Int) then (if 0 ≤ (Int.tmod (wrap64 ((rd l1_0 a1_1) + 1)) ((rd_L1 l0_0 a1_1).length : Int)) then (if (Int.tmod (wrap64 ((rd l1_0 a1_1) + 1)) ((rd_L1 l0_0 a1_1).length : Int)) < ((rd_L1 l0_0 a1_1).length : Int) then (some ((t301.set (a1_1 : Int).toNat (Int.tmod (wrap64 ((rd l1_0 a1_1) + 1)) ((rd_L1 l0_0 a1_1).length : Int))), rd (rd_L1 l0_0 a1_1) (Int.tmod (wrap64 ((rd l1_0 a1_1) + 1)) ((rd_L1 l0_0 a1_1).length : Int)), true)) else (none)) else (none)) else (none)) else (none)))) else (none)) else (none)) = some (r1, r2, r3) := h
 clear h
 by_cases c3 : 0 ≤ a1_1
 rotate_left
 ·rw [if_neg c3] at H
  exact absurd H (by simp)
 rw [if_pos c3] at H
 have c3b0 : decide (0 ≤ a1_1) = true := decide_eq_true c3
 clear c3
 by_cases c4 : a1_1 < (l0_0.length : Int)
 rotate_left
 ·rw [if_neg c4] at H
  exact absurd H (by simp)
 rw [if_pos c4] at H
 have c4b0 : decide (a1_1 < (l0_0.length : Int)) = true := decide_eq_true c4
 clear c4
 by_cases c5 : ((rd_L1 l0_0 a1_1).length : Int) = 0
 ·rw [if_pos c5] at H
  have c5b0 : (((rd_L1 l0_0 a1_1).length : Int) == 0) = true := beq_iff_eq.mpr c5
  have c5b1 : (((rd_L1 l0_0 a1_1).length : Int) != 0) = false := bne_eq_false_iff_eq.mpr c5
  clear c5
  simp only [Option.some.injEq, Prod.mk.injEq] at H
  obtain ⟨rfl, rfl, rfl⟩ := H
  go_enter Try.func47, Try.ntmps47
  go_wp2_with (first | ((with_reducible refine zo0 (N := 2) rfl ?_); refine zp0 ?hg (N := 2) ?hd (cs := #[.slice A0_0 l0_0.length c0_0]) (t := 29) ?hr ?_; (case hd | hg => rfl); (case hr => go_simp <;> rfl); intro gb297 hg w6 hbox hb; have n0_ := za0.mk (Kd.R_below (by (with_reducible repeat (first | apply Kd.R_alloc | apply Kd.R_drewN | apply Kd.R_drew)); exact HO1_0.1) hb); have n1_ := za0.mk (Kept.below (S := (fun k_ => P1_0_ k_)) (by repeat (first | exact HK.1 | apply Kept.alloc | apply Kept.drewN | apply Kept.drew)) hb); have n2_ := za0.mk (zi0 (by repeat (first | exact HB.1 | apply zc0 | apply zb0 | apply zd0)) hb); have n3_ := za0.mk (hbox); have n4_ := za0.mk ((by rw [hg]; exact (by first | exact HK.1.1 | exact (show Kept w _ (fun k_ => P1_0_ k_) from by repeat (first | exact HK.1 | apply Kept.alloc | apply Kept.drewN | apply Kept.drew)).1) : w.heap.size ≤ gb297)); have n5_ := za0.mk ((by rw [hg]; exact (zh0 (by repeat (first | exact HB.1 | apply zc0 | apply zb0 | apply zd0))) : w0.heap.size ≤ gb297)); clear HO1_0; clear HK; clear HB; have HO1_0 := n0_; have HK := n1_; have HB := n2_; have BK297 := n3_; have GW297 := n4_; have GE297 := n5_; clear n0_ n1_ n2_ n3_ n4_ n5_; clear hb hbox hg; obtain ⟨Ao7, co7, eo7⟩ := Kd.R_slice HO1_0.1; subst eo7) | ((with_reducible refine zo0 (N := 3) rfl ?_); refine zp0 ?hg (N := 3) ?hd (cs := #[.slice Ao7 l1_0.length co7, .int .i64 a1_1]) (t := 63) ?hr ?_; (case hd | hg => rfl); (case hr => go_simp <;> rfl); intro gb298 hg w8 hbox hb; have n0_ := za0.mk (Kd.R_below (by (with_reducible repeat (first | apply Kd.R_alloc | apply Kd.R_drewN | apply Kd.R_drew)); exact HO1_0.1) hb); have n1_ := za0.mk (zm0 (g := gb297) (o := .cells #[.slice A0_0 l0_0.length c0_0] 29 (0, 0)) (by (with_reducible repeat (first | refine zg0 ?_ _ | refine zj0 ?_ | refine zf0 ?_ _)); exact BK297.1) hb); have n2_ := za0.mk (Kept.below (S := (fun k_ => P1_0_ k_)) (by repeat (first | (with_reducible first | exact HK.1 | apply Kept.alloc | apply Kept.drewN | apply Kept.drew | refine Kept.setCell ?_ (.inr GW297.1) _) | exact HK.1)) hb); have n3_ := za0.mk (zi0 (by repeat (first | exact HB.1 | apply zc0 | apply zb0 | apply zd0 | refine ze0 ?_ GE297.1)) hb); have n4_ := za0.mk (hbox); have n5_ := za0.mk ((by rw [hg]; exact (by first | exact HK.1.1 | exact (show Kept w _ (fun k_ => P1_0_ k_) from by repeat (first | (with_reducible first | exact HK.1 | apply Kept.alloc | apply Kept.drewN | apply Kept.drew | refine Kept.setCell ?_ (.inr GW297.1) _) | exact HK.1)).1) : w.heap.size ≤ gb298)); have n6_ := za0.mk ((by rw [hg]; exact (zh0 (by repeat (first | exact HB.1 | apply zc0 | apply zb0 | apply zd0 | refine ze0 ?_ GE297.1))) : w0.heap.size ≤ gb298)); have n7_ := za0.mk ((by rw [hg]; exact Nat.ne_of_lt (blk_lt (g := gb297) (o := .cells #[.slice A0_0 l0_0.length c0_0] 29 (0, 0)) (by (with_reducible repeat (first | refine zg0 ?_ _ | refine zj0 ?_ | refine zf0 ?_ _)); exact BK297.1)) : gb297 ≠ gb298)); have n8_ := za0.mk ((by rw [hg]; exact Nat.ne_of_gt (blk_lt (g := gb297) (o := .cells #[.slice A0_0 l0_0.length c0_0] 29 (0, 0)) (by (with_reducible repeat (first | refine zg0 ?_ _ | refine zj0 ?_ | refine zf0 ?_ _)); exact BK297.1)) : gb298 ≠ gb297)); clear HO1_0; clear BK297; clear HK; clear HB; have HO1_0 := n0_; have BK297 := n1_; have HK := n2_; have HB := n3_; have BK298 := n4_; have GW298 := n5_; have GE298 := n6_; have NB297_298 := n7_; have NB298_297 := n8_; clear n0_ n1_ n2_ n3_ n4_ n5_ n6_ n7_ n8_; clear hb hbox hg) | ((with_reducible refine zo0 (N := 4) rfl ?_); refine zp0 ?hg (N := 4) ?hd (cs := #[.slice none 0 0, .int .i64 0]) (t := 63) ?hr ?_; (case hd | hg => rfl); (case hr => go_simp <;> rfl); intro gb299 hg w9 hbox hb; have n0_ := za0.mk (Kd.R_below (by (with_reducible repeat (first | apply Kd.R_alloc | apply Kd.R_drewN | apply Kd.R_drew)); exact HO1_0.1) hb); have n1_ := za0.mk (zm0 (g := gb297) (o := .cells #[.slice A0_0 l0_0.length c0_0] 29 (0, 0)) (by (with_reducible repeat (first | refine zg0 ?_ _ | refine zj0 ?_ | refine zf0 ?_ _)); exact BK297.1) hb); have n2_ := za0.mk (zm0 (g := gb298) (o := .cells #[.slice Ao7 l1_0.length co7, .int .i64 a1_1] 63 (0, 0)) (by (with_reducible repeat (first | refine zg0 ?_ _ | refine zj0 ?_ | refine zf0 ?_ _)); exact BK298.1) hb); have n3_ := za0.mk (Kept.below (S := (fun k_ => P1_0_ k_)) (by repeat (first | (with_reducible first | exact HK.1 | apply Kept.alloc | apply Kept.drewN | apply Kept.drew | refine Kept.setCell ?_ (.inr GW297.1) _ | refine Kept.setCell ?_ (.inr GW298.1) _) | exact HK.1)) hb); have n4_ := za0.mk (zi0 (by repeat (first | exact HB.1 | apply zc0 | apply zb0 | apply zd0 | refine ze0 ?_ GE297.1 | refine ze0 ?_ GE298.1)) hb); have n5_ := za0.mk (hbox); have n6_ := za0.mk ((by rw [hg]; exact (by first | exact HK.1.1 | exact (show Kept w _ (fun k_ => P1_0_ k_) from by repeat (first | (with_reducible first | exact HK.1 | apply Kept.alloc | apply Kept.drewN | apply Kept.drew | refine Kept.setCell ?_ (.inr GW297.1) _ | refine Kept.setCell ?_ (.inr GW298.1) _) | exact HK.1)).1) : w.heap.size ≤ gb299)); have n7_ := za0.mk ((by rw [hg]; exact (zh0 (by repeat (first | exact HB.1 | apply zc0 | apply zb0 | apply zd0 | refine ze0 ?_ GE297.1 | refine ze0 ?_ GE298.1))) : w0.heap.size ≤ gb299)); have n8_ := za0.mk ((by rw [hg]; exact Nat.ne_of_lt (blk_lt (g := gb297) (o := .cells #[.slice A0_0 l0_0.length c0_0] 29 (0, 0)) (by (with_reducible repeat (first | refine zg0 ?_ _ | refine zj0 ?_ | refine zf0 ?_ _)); exact BK297.1)) : gb297 ≠ gb299)); have n9_ := za0.mk ((by rw [hg]; exact Nat.ne_of_gt (blk_lt (g := gb297) (o := .cells #[.slice A0_0 l0_0.length c0_0] 29 (0, 0)) (by (with_reducible repeat (first | refine zg0 ?_ _ | refine zj0 ?_ | refine zf0 ?_ _)); exact BK297.1)) : gb299 ≠ gb297)); have n10_ := za0.mk ((by rw [hg]; exact Nat.ne_of_lt (blk_lt (g := gb298) (o := .cells #[.slice Ao7 l1_0.length co7, .int .i64 a1_1] 63 (0, 0)) (by (with_reducible repeat (first | refine zg0 ?_ _ | refine zj0 ?_ | refine zf0 ?_ _)); exact BK298.1)) : gb298 ≠ gb299)); have n11_ := za0.mk ((by rw [hg]; exact Nat.ne_of_gt (blk_lt (g := gb298) (o := .cells #[.slice Ao7 l1_0.length co7, .int .i64 a1_1] 63 (0, 0)) (by (with_reducible repeat (first | refine zg0 ?_ _ | refine zj0 ?_ | refine zf0 ?_ _)); exact BK298.1)) : gb299 ≠ gb298)); clear HO1_0; clear BK297; clear BK298; clear HK; clear HB; have HO1_0 := n0_; have BK297 := n1_; have BK298 := n2_; have HK := n3_; have HB := n4_; have BK299 := n5_; have GW299 := n6_; have GE299 := n7_; have NB297_299 := n8_; have NB299_297 := n9_; have NB298_299 := n10_; have NB299_298 := n11_; clear n0_ n1_ n2_ n3_ n4_ n5_ n6_ n7_ n8_ n9_ n10_ n11_; clear hb hbox hg; have hnb10 := NB297_298.1; have hnc10 := NB298_297.1; have hnb11 := NB297_299.1; have hnc11 := NB299_297.1; have hcz12_0 : w9.cell? ⟨gb297, 0, none⟩ = some (.slice A0_0 l0_0.length c0_0) := (zl0 BK297.1 0).trans rfl; have hfz12_0 := zk0 BK297.1 0; have hnb13 := NB298_299.1; have hnc13 := NB299_298.1; have hcz14_0 : w9.cell? ⟨gb298, 0, none⟩ = some (.slice Ao7 l1_0.length co7) := (zl0 BK298.1 0).trans rfl; have hcz14_1 : w9.cell? ⟨gb298, 1, none⟩ = some (.int .i64 a1_1) := (zl0 BK298.1 1).trans rfl; have hfz14_0 := zk0 BK298.1 0; have hfz14_1 := zk0 BK298.1 1; have p300 : 0 ≤ (a1_1 : Int) := of_decide_eq_true (by assumption); have q300 : a1_1 < (l0_0.length : Int) := of_decide_eq_true (by assumption); obtain ⟨ad300, A300_0, c300_0, e300, hx300_0, hl300_0, hi300_0⟩ := kept_L1 HR0_0.1 HK.1 a1_1 p300 q300; cases e300; have HR300_0 := za0.mk hi300_0; have HC300_0 := za0.mk hl300_0; clear hi300_0 hl300_0; replace p300 := eq_true p300; replace q300 := eq_true q300; have hcz15_0 : w9.cell? ⟨gb299, 0, none⟩ = some (.slice none 0 0) := (zl0 BK299.1 0).trans rfl; have hcz15_1 : w9.cell? ⟨gb299, 1, none⟩ = some (.int .i64 0) := (zl0 BK299.1 1).trans rfl; have hfz15_0 := zk0 BK299.1 0; have hfz15_1 := zk0 BK299.1 1))
  refine bodyPost_ret (results_ct rfl _ _ gb299 63 #[.slice Ao7 l1_0.length co7, .int .i64 a1_1] (0, 0) _ rfl (by (with_reducible repeat (first | refine zg0 ?_ _ | refine zj0 ?_ | refine zf0 ?_ _)); refine blk_put (cs := #[.slice Ao7 l1_0.length co7, .int .i64 0]) ?_ 1 _ rfl; (with_reducible repeat (first | refine zg0 ?_ _ | refine zj0 ?_ | refine zf0 ?_ _)); refine blk_put (cs := #[.slice none 0 0, .int .i64 0]) ?_ 0 _ rfl; (with_reducible repeat (first | refine zg0 ?_ _ | refine zj0 ?_ | refine zf0 ?_ _)); exact BK299.1) Try.underlying63 rfl (by kernel_rfl)) rfl ?_
  exact ⟨_, by first | rfl | (simp [errW_none, errW_some] <;> rfl) | (simp [*, errW_none, errW_some] <;> rfl), by (with_reducible repeat (first | apply Kd.R_alloc | apply Kd.R_drewN | apply Kd.R_drew)); exact Kd.R_mono (Kd.R_far (p := ⟨gb299, 1, none⟩) (Kd.R_far (p := ⟨gb299, 0, none⟩) (Kd.R_types HO1_0.1 BK299.1 (by decide)) (fun _ hk => hk.2) (.slice Ao7 l1_0.length co7)) (fun _ hk => hk.2) (.int .i64 a1_1)) (fun _ hk => hk.1), by repeat (first | exact HB.1 | apply zc0 | apply zb0 | apply zd0 | refine ze0 ?_ GE297.1 | refine ze0 ?_ GE298.1 | refine ze0 ?_ GE299.1), by repeat (first | (with_reducible first | exact HK.1 | apply Kept.alloc | apply Kept.drewN | apply Kept.drew | refine Kept.setCell ?_ (.inr GW297.1) _ | refine Kept.setCell ?_ (.inr GW298.1) _ | refine Kept.setCell ?_ (.inr GW299.1) _) | exact HK.1)⟩
 rw [if_neg c5] at H
 have c5b0 : (((rd_L1 l0_0 a1_1).length : Int) == 0) = false := beq_eq_false_iff_ne.mpr c5
 have c5b1 : (((rd_L1 l0_0 a1_1).length : Int) != 0) = true := bne_iff_ne.mpr c5
 have c5b2 : ¬ ((rd_L1 l0_0 a1_1) = []) := fun h_ => c5 (by rw [h_]; rfl)
 replace H := Option.bind_eq_some_iff.mp H
 obtain ⟨t301, A160, H⟩ := H
 replace H : (if a1_1 < (l1_0.length : Int) then (if a1_1 < (t301.length : Int) then (if 0 ≤ (Int.tmod (wrap64 ((rd l1_0 a1_1) + 1)) ((rd_L1 l0_0 a1_1).length : Int)) then (if (Int.tmod (wrap64 ((rd l1_0 a1_1) + 1)) ((rd_L1 l0_0 a1_1).length : Int)) < ((rd_L1 l0_0 a1_1).length : Int) then (some ((t301.set (a1_1 : Int).toNat (Int.tmod (wrap64 ((rd l1_0 a1_1) + 1)) ((rd_L1 l0_0 a1_1).length : Int))), rd (rd_L1 l0_0 a1_1) (Int.tmod (wrap64 ((rd l1_0 a1_1) + 1)) ((rd_L1 l0_0 a1_1).length : Int)), true)) else (none)) else (none)) else (none)) else (none)) = some (r1, r2, r3) := H
 have A16 := za0.mk A160
 clear A160
 by_cases c17 : a1_1 < (l1_0.length : Int)
 rotate_left
 ·rw [if_neg c17] at H
  exact absurd H (by simp)
 rw [if_pos c17] at H
 have c17b0 : decide (a1_1 < (l1_0.length : Int)) = true := decide_eq_true c17
 clear c17
 by_cases c18 : a1_1 < (t301.length : Int)
 rotate_left
 ·rw [if_neg c18] at H
  exact absurd H (by simp)
 rw [if_pos c18] at H
 have c18b0 : decide (a1_1 < (t301.length : Int)) = true := decide_eq_true c18
 clear c18
 obtain ⟨y306, hy306⟩ : ∃ y_ : List Int, y_ = (t301.set (a1_1 : Int).toNat (Int.tmod (wrap64 ((rd l1_0 a1_1) + 1)) ((rd_L1 l0_0 a1_1).length : Int))) := ⟨_, rfl⟩
 replace H : (if 0 ≤ (Int.tmod (wrap64 ((rd l1_0 a1_1) + 1)) ((rd_L1 l0_0 a1_1).length : Int)) then (if (Int.tmod (wrap64 ((rd l1_0 a1_1) + 1)) ((rd_L1 l0_0 a1_1).length : Int)) < ((rd_L1 l0_0 a1_1).length : Int) then (some (y306, rd (rd_L1 l0_0 a1_1) (Int.tmod (wrap64 ((rd l1_0 a1_1) + 1)) ((rd_L1 l0_0 a1_1).length : Int)), true)) else (none)) else (none)) = some (r1, r2, r3) := by first | (rw [hy306]; with_reducible exact H) | (have H2_ := (Option.bind_some _ _).symm.trans H; rw [hy306]; with_reducible exact H2_) | (have H2_ := (Option.bind_some _ _).symm.trans H; with_reducible exact H2_) | with_reducible exact H | (rw [hy306]; exact H) | exact H
 have Ny306 := za0.mk hy306
 clear hy306
 obtain ⟨ji20, hji20⟩ : ∃ j_ : Int, (Int.tmod (wrap64 ((rd l1_0 a1_1) + 1)) ((rd_L1 l0_0 a1_1).length : Int)) = j_ := ⟨_, rfl⟩
 replace H : (if 0 ≤ (ji20) then (if (ji20) < ((rd_L1 l0_0 a1_1).length : Int) then (some (y306, rd (rd_L1 l0_0 a1_1) (ji20), true)) else (none)) else (none)) = some (r1, r2, r3) := by first | (rw [hji20] at H; exact H) | (simp only [hji20] at H ⊢; exact H)
 (try rw [hji20] at A16)
 (try rw [hji20] at Ny306)
 by_cases c21 : 0 ≤ (ji20)
 rotate_left
 ·rw [if_neg c21] at H
  exact absurd H (by simp)
 rw [if_pos c21] at H
 have c21b0 : decide (0 ≤ (ji20)) = true := decide_eq_true c21
 clear c21
 by_cases c22 : (ji20) < ((rd_L1 l0_0 a1_1).length : Int)
 rotate_left
 ·rw [if_neg c22] at H
  exact absurd H (by simp)
 rw [if_pos c22] at H
 have c22b0 : decide ((ji20) < ((rd_L1 l0_0 a1_1).length : Int)) = true := decide_eq_true c22
 clear c22
 simp only [Option.some.injEq, Prod.mk.injEq] at H
 obtain ⟨rfl, rfl, rfl⟩ := H
 go_enter Try.func47, Try.ntmps47
 go_wp2_with (first | ((with_reducible refine zo0 (N := 2) rfl ?_); refine zp0 ?hg (N := 2) ?hd (cs := #[.slice A0_0 l0_0.length c0_0]) (t := 29) ?hr ?_; (case hd | hg => rfl); (case hr => go_simp <;> rfl); intro gb297 hg w23 hbox hb; have n0_ := za0.mk (Kd.R_below (by (with_reducible repeat (first | apply Kd.R_alloc | apply Kd.R_drewN | apply Kd.R_drew)); exact HO1_0.1) hb); have n1_ := za0.mk (Kept.below (S := (fun k_ => P1_0_ k_)) (by repeat (first | exact HK.1 | apply Kept.alloc | apply Kept.drewN | apply Kept.drew)) hb); have n2_ := za0.mk (zi0 (by repeat (first | exact HB.1 | apply zc0 | apply zb0 | apply zd0)) hb); have n3_ := za0.mk (hbox); have n4_ := za0.mk ((by rw [hg]; exact (by first | exact HK.1.1 | exact (show Kept w _ (fun k_ => P1_0_ k_) from by repeat (first | exact HK.1 | apply Kept.alloc | apply Kept.drewN | apply Kept.drew)).1) : w.heap.size ≤ gb297)); have n5_ := za0.mk ((by rw [hg]; exact (zh0 (by repeat (first | exact HB.1 | apply zc0 | apply zb0 | apply zd0))) : w0.heap.size ≤ gb297)); clear HO1_0; clear HK; clear HB; have HO1_0 := n0_; have HK := n1_; have HB := n2_; have BK297 := n3_; have GW297 := n4_; have GE297 := n5_; clear n0_ n1_ n2_ n3_ n4_ n5_; clear hb hbox hg; obtain ⟨Ao24, co24, eo24⟩ := Kd.R_slice HO1_0.1; subst eo24) | ((with_reducible refine zo0 (N := 3) rfl ?_); refine zp0 ?hg (N := 3) ?hd (cs := #[.slice Ao24 l1_0.length co24, .int .i64 a1_1]) (t := 63) ?hr ?_; (case hd | hg => rfl); (case hr => go_simp <;> rfl); intro gb298 hg w25 hbox hb; have n0_ := za0.mk (Kd.R_below (by (with_reducible repeat (first | apply Kd.R_alloc | apply Kd.R_drewN | apply Kd.R_drew)); exact HO1_0.1) hb); have n1_ := za0.mk (zm0 (g := gb297) (o := .cells #[.slice A0_0 l0_0.length c0_0] 29 (0, 0)) (by (with_reducible repeat (first | refine zg0 ?_ _ | refine zj0 ?_ | refine zf0 ?_ _)); exact BK297.1) hb); have n2_ := za0.mk (Kept.below (S := (fun k_ => P1_0_ k_)) (by repeat (first | (with_reducible first | exact HK.1 | apply Kept.alloc | apply Kept.drewN | apply Kept.drew | refine Kept.setCell ?_ (.inr GW297.1) _) | exact HK.1)) hb); have n3_ := za0.mk (zi0 (by repeat (first | exact HB.1 | apply zc0 | apply zb0 | apply zd0 | refine ze0 ?_ GE297.1)) hb); have n4_ := za0.mk (hbox); have n5_ := za0.mk ((by rw [hg]; exact (by first | exact HK.1.1 | exact (show Kept w _ (fun k_ => P1_0_ k_) from by repeat (first | (with_reducible first | exact HK.1 | apply Kept.alloc | apply Kept.drewN | apply Kept.drew | refine Kept.setCell ?_ (.inr GW297.1) _) | exact HK.1)).1) : w.heap.size ≤ gb298)); have n6_ := za0.mk ((by rw [hg]; exact (zh0 (by repeat (first | exact HB.1 | apply zc0 | apply zb0 | apply zd0 | refine ze0 ?_ GE297.1))) : w0.heap.size ≤ gb298)); have n7_ := za0.mk ((by rw [hg]; exact Nat.ne_of_lt (blk_lt (g := gb297) (o := .cells #[.slice A0_0 l0_0.length c0_0] 29 (0, 0)) (by (with_reducible repeat (first | refine zg0 ?_ _ | refine zj0 ?_ | refine zf0 ?_ _)); exact BK297.1)) : gb297 ≠ gb298)); have n8_ := za0.mk ((by rw [hg]; exact Nat.ne_of_gt (blk_lt (g := gb297) (o := .cells #[.slice A0_0 l0_0.length c0_0] 29 (0, 0)) (by (with_reducible repeat (first | refine zg0 ?_ _ | refine zj0 ?_ | refine zf0 ?_ _)); exact BK297.1)) : gb298 ≠ gb297)); clear HO1_0; clear BK297; clear HK; clear HB; have HO1_0 := n0_; have BK297 := n1_; have HK := n2_; have HB := n3_; have BK298 := n4_; have GW298 := n5_; have GE298 := n6_; have NB297_298 := n7_; have NB298_297 := n8_; clear n0_ n1_ n2_ n3_ n4_ n5_ n6_ n7_ n8_; clear hb hbox hg) | ((with_reducible refine zo0 (N := 4) rfl ?_); refine zp0 ?hg (N := 4) ?hd (cs := #[.slice none 0 0, .int .i64 0]) (t := 63) ?hr ?_; (case hd | hg => rfl); (case hr => go_simp <;> rfl); intro gb299 hg w26 hbox hb; have n0_ := za0.mk (Kd.R_below (by (with_reducible repeat (first | apply Kd.R_alloc | apply Kd.R_drewN | apply Kd.R_drew)); exact HO1_0.1) hb); have n1_ := za0.mk (zm0 (g := gb297) (o := .cells #[.slice A0_0 l0_0.length c0_0] 29 (0, 0)) (by (with_reducible repeat (first | refine zg0 ?_ _ | refine zj0 ?_ | refine zf0 ?_ _)); exact BK297.1) hb); have n2_ := za0.mk (zm0 (g := gb298) (o := .cells #[.slice Ao24 l1_0.length co24, .int .i64 a1_1] 63 (0, 0)) (by (with_reducible repeat (first | refine zg0 ?_ _ | refine zj0 ?_ | refine zf0 ?_ _)); exact BK298.1) hb); have n3_ := za0.mk (Kept.below (S := (fun k_ => P1_0_ k_)) (by repeat (first | (with_reducible first | exact HK.1 | apply Kept.alloc | apply Kept.drewN | apply Kept.drew | refine Kept.setCell ?_ (.inr GW297.1) _ | refine Kept.setCell ?_ (.inr GW298.1) _) | exact HK.1)) hb); have n4_ := za0.mk (zi0 (by repeat (first | exact HB.1 | apply zc0 | apply zb0 | apply zd0 | refine ze0 ?_ GE297.1 | refine ze0 ?_ GE298.1)) hb); have n5_ := za0.mk (hbox); have n6_ := za0.mk ((by rw [hg]; exact (by first | exact HK.1.1 | exact (show Kept w _ (fun k_ => P1_0_ k_) from by repeat (first | (with_reducible first | exact HK.1 | apply Kept.alloc | apply Kept.drewN | apply Kept.drew | refine Kept.setCell ?_ (.inr GW297.1) _ | refine Kept.setCell ?_ (.inr GW298.1) _) | exact HK.1)).1) : w.heap.size ≤ gb299)); have n7_ := za0.mk ((by rw [hg]; exact (zh0 (by repeat (first | exact HB.1 | apply zc0 | apply zb0 | apply zd0 | refine ze0 ?_ GE297.1 | refine ze0 ?_ GE298.1))) : w0.heap.size ≤ gb299)); have n8_ := za0.mk ((by rw [hg]; exact Nat.ne_of_lt (blk_lt (g := gb297) (o := .cells #[.slice A0_0 l0_0.length c0_0] 29 (0, 0)) (by (with_reducible repeat (first | refine zg0 ?_ _ | refine zj0 ?_ | refine zf0 ?_ _)); exact BK297.1)) : gb297 ≠ gb299)); have n9_ := za0.mk ((by rw [hg]; exact Nat.ne_of_gt (blk_lt (g := gb297) (o := .cells #[.slice A0_0 l0_0.length c0_0] 29 (0, 0)) (by (with_reducible repeat (first | refine zg0 ?_ _ | refine zj0 ?_ | refine zf0 ?_ _)); exact BK297.1)) : gb299 ≠ gb297)); have n10_ := za0.mk ((by rw [hg]; exact Nat.ne_of_lt (blk_lt (g := gb298) (o := .cells #[.slice Ao24 l1_0.length co24, .int .i64 a1_1] 63 (0, 0)) (by (with_reducible repeat (first | refine zg0 ?_ _ | refine zj0 ?_ | refine zf0 ?_ _)); exact BK298.1)) : gb298 ≠ gb299)); have n11_ := za0.mk ((by rw [hg]; exact Nat.ne_of_gt (blk_lt (g := gb298) (o := .cells #[.slice Ao24 l1_0.length co24, .int .i64 a1_1] 63 (0, 0)) (by (with_reducible repeat (first | refine zg0 ?_ _ | refine zj0 ?_ | refine zf0 ?_ _)); exact BK298.1)) : gb299 ≠ gb298)); clear HO1_0; clear BK297; clear BK298; clear HK; clear HB; have HO1_0 := n0_; have BK297 := n1_; have BK298 := n2_; have HK := n3_; have HB := n4_; have BK299 := n5_; have GW299 := n6_; have GE299 := n7_; have NB297_299 := n8_; have NB299_297 := n9_; have NB298_299 := n10_; have NB299_298 := n11_; clear n0_ n1_ n2_ n3_ n4_ n5_ n6_ n7_ n8_ n9_ n10_ n11_; clear hb hbox hg; have hnb27 := NB297_298.1; have hnc27 := NB298_297.1; have hnb28 := NB297_299.1; have hnc28 := NB299_297.1; have hcz29_0 : w26.cell? ⟨gb297, 0, none⟩ = some (.slice A0_0 l0_0.length c0_0) := (zl0 BK297.1 0).trans rfl; have hfz29_0 := zk0 BK297.1 0; have hnb30 := NB298_299.1; have hnc30 := NB299_298.1; have hcz31_0 : w26.cell? ⟨gb298, 0, none⟩ = some (.slice Ao24 l1_0.length co24) := (zl0 BK298.1 0).trans rfl; have hcz31_1 : w26.cell? ⟨gb298, 1, none⟩ = some (.int .i64 a1_1) := (zl0 BK298.1 1).trans rfl; have hfz31_0 := zk0 BK298.1 0; have hfz31_1 := zk0 BK298.1 1; have p300 : 0 ≤ (a1_1 : Int) := of_decide_eq_true (by assumption); have q300 : a1_1 < (l0_0.length : Int) := of_decide_eq_true (by assumption); obtain ⟨ad300, A300_0, c300_0, e300, hx300_0, hl300_0, hi300_0⟩ := kept_L1 HR0_0.1 HK.1 a1_1 p300 q300; cases e300; have HR300_0 := za0.mk hi300_0; have HC300_0 := za0.mk hl300_0; clear hi300_0 hl300_0; replace p300 := eq_true p300; replace q300 := eq_true q300) | ((with_reducible refine zn0 (f := 46) rfl ?_); refine za1 (some 21) rfl rfl Try.func46 (by kernel_rfl) rfl #[.slice Ao24 l1_0.length co24] rfl (by (try simp only [List.map_toArray, List.map_cons, List.map_nil]); first | done | rfl | (simp only [List.length_drop, List.length_take]; rfl)) ?_; (with_reducible refine (yf1.calls _ _ l1_0 t301 _ ?side1 ?side2 A16.1).mono ?_); (case side1 => repeat (first | exact (Kd.R_reads' HO1_0.1).2.2 | (with_reducible refine Kd.C_alloc ?_ _) | (with_reducible refine Kd.C_drewN ?_ _) | (with_reducible refine Kd.C_drew ?_))); (case side2 => exact (Kd.R_reads' HO1_0.1).2.1); rintro e w32 ⟨v302, rfl, ho0, hb⟩; refine ⟨_, rfl, ?_⟩; have n0_ := za0.mk (Kd.R_elder' (by (with_reducible repeat (first | apply Kd.R_alloc | apply Kd.R_drewN | apply Kd.R_drew)); exact HO1_0.1) (Kd.R_base ho0) hb); have n1_ := za0.mk (Kd.R_lower (Kd.R_new' (Kd.R_newM (M := fun k_ => (P1_0_ k_ ∨ w.heap.size ≤ k_)) ho0 (by first | exact HK.1.1 | exact (show Kept w _ (fun k_ => P1_0_ k_) from by repeat (first | (with_reducible first | exact HK.1 | apply Kept.alloc | apply Kept.drewN | apply Kept.drew | refine Kept.setCell ?_ (.inr GW297.1) _ | refine Kept.setCell ?_ (.inr GW298.1) _ | refine Kept.setCell ?_ (.inr GW299.1) _) | exact HK.1)).1) (fun k_ h_ => .inr h_)) (Kd.R_lt (by (with_reducible repeat (first | apply Kd.R_alloc | apply Kd.R_drewN | apply Kd.R_drew)); exact HO1_0.1))) (zh0 (by repeat (first | exact HB.1 | apply zc0 | apply zb0 | apply zd0 | refine ze0 ?_ GE297.1 | refine ze0 ?_ GE298.1 | refine ze0 ?_ GE299.1)))); have n2_ := za0.mk (zm0 (g := gb297) (o := .cells #[.slice (some ad300) l0_0.length c0_0] 29 (0, 0)) (by (with_reducible repeat (first | refine zg0 ?_ _ | refine zj0 ?_ | refine zf0 ?_ _)); exact BK297.1) hb); have n3_ := za0.mk (zm0 (g := gb298) (o := .cells #[.slice Ao24 l1_0.length co24, .int .i64 a1_1] 63 (0, 0)) (by (with_reducible repeat (first | refine zg0 ?_ _ | refine zj0 ?_ | refine zf0 ?_ _)); exact BK298.1) hb); have n4_ := za0.mk (zm0 (g := gb299) (o := .cells #[.slice none 0 0, .int .i64 0] 63 (0, 0)) (by (with_reducible repeat (first | refine zg0 ?_ _ | refine zj0 ?_ | refine zf0 ?_ _)); exact BK299.1) hb); have n5_ := za0.mk (Kept.below (S := (fun k_ => P1_0_ k_)) (by repeat (first | (with_reducible first | exact HK.1 | apply Kept.alloc | apply Kept.drewN | apply Kept.drew | refine Kept.setCell ?_ (.inr GW297.1) _ | refine Kept.setCell ?_ (.inr GW298.1) _ | refine Kept.setCell ?_ (.inr GW299.1) _) | exact HK.1)) hb); have n6_ := za0.mk (zi0 (by repeat (first | exact HB.1 | apply zc0 | apply zb0 | apply zd0 | refine ze0 ?_ GE297.1 | refine ze0 ?_ GE298.1 | refine ze0 ?_ GE299.1)) hb); clear HO1_0; clear BK297; clear BK298; clear BK299; clear HK; clear HB; have HO1_0 := n0_; have HO303 := n1_; have BK297 := n2_; have BK298 := n3_; have BK299 := n4_; have HK := n5_; have HB := n6_; clear n0_ n1_ n2_ n3_ n4_ n5_ n6_; (try clear hb); (try clear hb2); (try clear hk); (try clear hi); (try clear ho0); obtain ⟨Ao33, co33, eo33⟩ := Kd.R_slice HO303.1; subst eo33) | ((with_reducible refine zo0 (N := 7) rfl ?_); refine zp0 ?hg (N := 7) ?hd (cs := #[.slice none 0 0, .int .i64 0]) (t := 63) ?hr ?_; (case hd | hg => rfl); (case hr => go_simp <;> rfl); intro gb304 hg w34 hbox hb; have n0_ := za0.mk (Kd.R_below (by (with_reducible repeat (first | apply Kd.R_alloc | apply Kd.R_drewN | apply Kd.R_drew)); exact HO1_0.1) hb); have n1_ := za0.mk (Kd.R_below (by (with_reducible repeat (first | apply Kd.R_alloc | apply Kd.R_drewN | apply Kd.R_drew)); exact HO303.1) hb); have n2_ := za0.mk (zm0 (g := gb297) (o := .cells #[.slice (some ad300) l0_0.length c0_0] 29 (0, 0)) (by (with_reducible repeat (first | refine zg0 ?_ _ | refine zj0 ?_ | refine zf0 ?_ _)); exact BK297.1) hb); have n3_ := za0.mk (zm0 (g := gb298) (o := .cells #[.slice Ao24 l1_0.length co24, .int .i64 a1_1] 63 (0, 0)) (by (with_reducible repeat (first | refine zg0 ?_ _ | refine zj0 ?_ | refine zf0 ?_ _)); exact BK298.1) hb); have n4_ := za0.mk (zm0 (g := gb299) (o := .cells #[.slice none 0 0, .int .i64 0] 63 (0, 0)) (by (with_reducible repeat (first | refine zg0 ?_ _ | refine zj0 ?_ | refine zf0 ?_ _)); exact BK299.1) hb); have n5_ := za0.mk (Kept.below (S := (fun k_ => P1_0_ k_)) (by repeat (first | (with_reducible first | exact HK.1 | apply Kept.alloc | apply Kept.drewN | apply Kept.drew | refine Kept.setCell ?_ (.inr GW297.1) _ | refine Kept.setCell ?_ (.inr GW298.1) _ | refine Kept.setCell ?_ (.inr GW299.1) _) | exact HK.1)) hb); have n6_ := za0.mk (zi0 (by repeat (first | exact HB.1 | apply zc0 | apply zb0 | apply zd0 | refine ze0 ?_ GE297.1 | refine ze0 ?_ GE298.1 | refine ze0 ?_ GE299.1)) hb); have n7_ := za0.mk (hbox); have n8_ := za0.mk ((by rw [hg]; exact (by first | exact HK.1.1 | exact (show Kept w _ (fun k_ => P1_0_ k_) from by repeat (first | (with_reducible first | exact HK.1 | apply Kept.alloc | apply Kept.drewN | apply Kept.drew | refine Kept.setCell ?_ (.inr GW297.1) _ | refine Kept.setCell ?_ (.inr GW298.1) _ | refine Kept.setCell ?_ (.inr GW299.1) _) | exact HK.1)).1) : w.heap.size ≤ gb304)); have n9_ := za0.mk ((by rw [hg]; exact (zh0 (by repeat (first | exact HB.1 | apply zc0 | apply zb0 | apply zd0 | refine ze0 ?_ GE297.1 | refine ze0 ?_ GE298.1 | refine ze0 ?_ GE299.1))) : w0.heap.size ≤ gb304)); have n10_ := za0.mk ((by rw [hg]; exact Nat.ne_of_lt (blk_lt (g := gb297) (o := .cells #[.slice (some ad300) l0_0.length c0_0] 29 (0, 0)) (by (with_reducible repeat (first | refine zg0 ?_ _ | refine zj0 ?_ | refine zf0 ?_ _)); exact BK297.1)) : gb297 ≠ gb304)); have n11_ := za0.mk ((by rw [hg]; exact Nat.ne_of_gt (blk_lt (g := gb297) (o := .cells #[.slice (some ad300) l0_0.length c0_0] 29 (0, 0)) (by (with_reducible repeat (first | refine zg0 ?_ _ | refine zj0 ?_ | refine zf0 ?_ _)); exact BK297.1)) : gb304 ≠ gb297)); have n12_ := za0.mk ((by rw [hg]; exact Nat.ne_of_lt (blk_lt (g := gb298) (o := .cells #[.slice Ao24 l1_0.length co24, .int .i64 a1_1] 63 (0, 0)) (by (with_reducible repeat (first | refine zg0 ?_ _ | refine zj0 ?_ | refine zf0 ?_ _)); exact BK298.1)) : gb298 ≠ gb304)); have n13_ := za0.mk ((by rw [hg]; exact Nat.ne_of_gt (blk_lt (g := gb298) (o := .cells #[.slice Ao24 l1_0.length co24, .int .i64 a1_1] 63 (0, 0)) (by (with_reducible repeat (first | refine zg0 ?_ _ | refine zj0 ?_ | refine zf0 ?_ _)); exact BK298.1)) : gb304 ≠ gb298)); have n14_ := za0.mk ((by rw [hg]; exact Nat.ne_of_lt (blk_lt (g := gb299) (o := .cells #[.slice none 0 0, .int .i64 0] 63 (0, 0)) (by (with_reducible repeat (first | refine zg0 ?_ _ | refine zj0 ?_ | refine zf0 ?_ _)); exact BK299.1)) : gb299 ≠ gb304)); have n15_ := za0.mk ((by rw [hg]; exact Nat.ne_of_gt (blk_lt (g := gb299) (o := .cells #[.slice none 0 0, .int .i64 0] 63 (0, 0)) (by (with_reducible repeat (first | refine zg0 ?_ _ | refine zj0 ?_ | refine zf0 ?_ _)); exact BK299.1)) : gb304 ≠ gb299)); clear HO1_0; clear HO303; clear BK297; clear BK298; clear BK299; clear HK; clear HB; have HO1_0 := n0_; have HO303 := n1_; have BK297 := n2_; have BK298 := n3_; have BK299 := n4_; have HK := n5_; have HB := n6_; have BK304 := n7_; have GW304 := n8_; have GE304 := n9_; have NB297_304 := n10_; have NB304_297 := n11_; have NB298_304 := n12_; have NB304_298 := n13_; have NB299_304 := n14_; have NB304_299 := n15_; clear n0_ n1_ n2_ n3_ n4_ n5_ n6_ n7_ n8_ n9_ n10_ n11_ n12_ n13_ n14_ n15_; clear hb hbox hg; have hnb35 := NB304_297.1; have hnc35 := NB297_304.1; have hnb36 := NB304_298.1; have hnc36 := NB298_304.1; have hnb37 := NB304_299.1; have hnc37 := NB299_304.1; have hcz38_0 : w34.cell? ⟨gb304, 0, none⟩ = some (.slice none 0 0) := (zl0 BK304.1 0).trans rfl; have hcz38_1 : w34.cell? ⟨gb304, 1, none⟩ = some (.int .i64 0) := (zl0 BK304.1 1).trans rfl; have hfz38_0 := zk0 BK304.1 0; have hfz38_1 := zk0 BK304.1 1) | ((with_reducible refine gate_store (t := 63) (p := 7) rfl ?_); refine store_event (t := 63) (p := 7) (v := ?vo_w39) (w1 := ((w34.setCell ⟨gb304, 0, none⟩ (.slice Ao33 t301.length co33)).setCell ⟨gb304, 1, none⟩ (.int .i64 0))) ?hg ?ho ?hn ?hr ?_; (case ho => rfl); (case hg => rfl); (case hn => rfl); (case hr => go_simp <;> rfl); intro w39 hw; have n0_ : za0 (Kd.R (Kd.int .i64) 3 w39 w0.heap.size (fun k_ => (P1_0_ k_ ∨ w.heap.size ≤ k_) ∧ some k_ ≠ (.slice Ao33 t301.length co33 : Value).ownBlock) (.slice Ao24 l1_0.length co24) l1_0) := ⟨(by rw [hw]; exact (by (with_reducible repeat (first | apply Kd.R_alloc | apply Kd.R_drewN | apply Kd.R_drew)); exact Kd.R_mono (Kd.R_far (p := ⟨gb304, 1, none⟩) (Kd.R_far (p := ⟨gb304, 0, none⟩) (Kd.R_types HO1_0.1 BK304.1 (by decide)) (fun _ hk => hk.2) (.slice Ao33 t301.length co33)) (fun _ hk => hk.2) (.int .i64 0)) (fun _ hk => ⟨hk.1.1, hk.1.2⟩)))⟩; have n1_ : za0 (Kd.R (Kd.int .i64) 3 w39 w0.heap.size (fun k_ => (P1_0_ k_ ∨ w.heap.size ≤ k_) ∧ some k_ ≠ (.slice Ao24 l1_0.length co24 : Value).ownBlock) (.slice Ao33 t301.length co33) t301) := ⟨(by rw [hw]; exact (by (with_reducible repeat (first | apply Kd.R_alloc | apply Kd.R_drewN | apply Kd.R_drew)); exact Kd.R_mono (Kd.R_far (p := ⟨gb304, 1, none⟩) (Kd.R_far (p := ⟨gb304, 0, none⟩) (Kd.R_types HO303.1 BK304.1 (by decide)) (fun _ hk => hk.2) (.slice Ao33 t301.length co33)) (fun _ hk => hk.2) (.int .i64 0)) (fun _ hk => ⟨hk.1.1.1, hk.1.2⟩)))⟩; have n2_ : za0 (w39.heap[gb297]? = some (.cells #[.slice (some ad300) l0_0.length c0_0] 29 (0, 0))) := ⟨(by rw [hw]; exact (by (with_reducible repeat (first | refine zg0 ?_ _ | refine zj0 ?_ | refine zf0 ?_ _)); refine blk_far ?_ NB297_304.1 _; (with_reducible repeat (first | refine zg0 ?_ _ | refine zj0 ?_ | refine zf0 ?_ _)); refine blk_far ?_ NB297_304.1 _; (with_reducible repeat (first | refine zg0 ?_ _ | refine zj0 ?_ | refine zf0 ?_ _)); exact BK297.1))⟩; have n3_ : za0 (w39.heap[gb298]? = some (.cells #[.slice Ao24 l1_0.length co24, .int .i64 a1_1] 63 (0, 0))) := ⟨(by rw [hw]; exact (by (with_reducible repeat (first | refine zg0 ?_ _ | refine zj0 ?_ | refine zf0 ?_ _)); refine blk_far ?_ NB298_304.1 _; (with_reducible repeat (first | refine zg0 ?_ _ | refine zj0 ?_ | refine zf0 ?_ _)); refine blk_far ?_ NB298_304.1 _; (with_reducible repeat (first | refine zg0 ?_ _ | refine zj0 ?_ | refine zf0 ?_ _)); exact BK298.1))⟩; have n4_ : za0 (w39.heap[gb299]? = some (.cells #[.slice none 0 0, .int .i64 0] 63 (0, 0))) := ⟨(by rw [hw]; exact (by (with_reducible repeat (first | refine zg0 ?_ _ | refine zj0 ?_ | refine zf0 ?_ _)); refine blk_far ?_ NB299_304.1 _; (with_reducible repeat (first | refine zg0 ?_ _ | refine zj0 ?_ | refine zf0 ?_ _)); refine blk_far ?_ NB299_304.1 _; (with_reducible repeat (first | refine zg0 ?_ _ | refine zj0 ?_ | refine zf0 ?_ _)); exact BK299.1))⟩; have n5_ : za0 (w39.heap[gb304]? = some (.cells #[.slice Ao33 t301.length co33, .int .i64 0] 63 (0, 0))) := ⟨(by rw [hw]; exact (by (with_reducible repeat (first | refine zg0 ?_ _ | refine zj0 ?_ | refine zf0 ?_ _)); refine blk_put (cs := #[.slice Ao33 t301.length co33, .int .i64 0]) ?_ 1 _ rfl; (with_reducible repeat (first | refine zg0 ?_ _ | refine zj0 ?_ | refine zf0 ?_ _)); refine blk_put (cs := #[.slice none 0 0, .int .i64 0]) ?_ 0 _ rfl; (with_reducible repeat (first | refine zg0 ?_ _ | refine zj0 ?_ | refine zf0 ?_ _)); exact BK304.1))⟩; have n6_ : za0 (Kept w w39 (fun k_ => P1_0_ k_)) := ⟨(by rw [hw]; exact (by repeat (first | (with_reducible first | exact HK.1 | apply Kept.alloc | apply Kept.drewN | apply Kept.drew | refine Kept.setCell ?_ (.inr GW297.1) _ | refine Kept.setCell ?_ (.inr GW298.1) _ | refine Kept.setCell ?_ (.inr GW299.1) _ | refine Kept.setCell ?_ (.inr GW304.1) _) | exact HK.1)))⟩; have n7_ : za0 (Below w0.heap.size w0 w39) := ⟨(by rw [hw]; exact (by repeat (first | exact HB.1 | apply zc0 | apply zb0 | apply zd0 | refine ze0 ?_ GE297.1 | refine ze0 ?_ GE298.1 | refine ze0 ?_ GE299.1 | refine ze0 ?_ GE304.1)))⟩; clear hw; clear HO1_0; clear HO303; clear BK297; clear BK298; clear BK299; clear BK304; clear HK; clear HB; have HO1_0 := n0_; have HO303 := n1_; have BK297 := n2_; have BK298 := n3_; have BK299 := n4_; have BK304 := n5_; have HK := n6_; have HB := n7_; clear n0_ n1_ n2_ n3_ n4_ n5_ n6_ n7_; have hcz40_0 : w39.cell? ⟨gb298, 0, none⟩ = some (.slice Ao24 l1_0.length co24) := (zl0 BK298.1 0).trans rfl; have hcz40_1 : w39.cell? ⟨gb298, 1, none⟩ = some (.int .i64 a1_1) := (zl0 BK298.1 1).trans rfl; have hfz40_0 := zk0 BK298.1 0; have hfz40_1 := zk0 BK298.1 1; have p305 : 0 ≤ (a1_1 : Int) := of_decide_eq_true (by assumption); have q305 : a1_1 < (l1_0.length : Int) := of_decide_eq_true (by assumption); obtain ⟨ad305, e305, hx305_0⟩ := Kd.at_int (Kd.R_reads' HO1_0.1).2.2 a1_1 p305 q305; cases e305; replace p305 := eq_true p305; replace q305 := eq_true q305; have hcz41_0 : w39.cell? ⟨gb304, 0, none⟩ = some (.slice Ao33 t301.length co33) := (zl0 BK304.1 0).trans rfl; have hcz41_1 : w39.cell? ⟨gb304, 1, none⟩ = some (.int .i64 0) := (zl0 BK304.1 1).trans rfl; have hfz41_0 := zk0 BK304.1 0; have hfz41_1 := zk0 BK304.1 1; have p19 : 0 ≤ (a1_1 : Int) := of_decide_eq_true (by assumption); have q19 : (a1_1 : Int) < ((t301.length : Int) : Int) := of_decide_eq_true (by assumption); obtain ⟨go19, co19, eo19, gb19, gl19, cl19, HG19⟩ := Kd.R_form HO303.1 (by omega); (first | cases eo19 | (injection eo19 with ea_ en_ ec_; (first | subst ea_ | (injection ea_ with ea_; subst ea_)); subst ec_; clear en_)); have GB19 := za0.mk gb19; have GG19 := za0.mk HG19; clear gb19 gl19 HG19; have HMgo19 := za0.mk (show (P1_0_ go19 ∨ w.heap.size ≤ go19) from (HO303.1.1 _ rfl).1); obtain ⟨hx19_0, hf19_0⟩ := Kd.R_celln 0 HO303.1 (a1_1 : Int) p19 q19; replace p19 := eq_true p19; replace q19 := eq_true q19; obtain ⟨hy42_, hz42_⟩ := Kd.R_celln 0 HO303.1 (a1_1 : Int) (of_decide_eq_true (by assumption)) (of_decide_eq_true (by assumption)); have HP42 := Kd.R_putg HO303.1 (a1_1 : Int) ji20) | ((with_reducible refine gate_store (t := 3) (p := 38) rfl ?_); refine store_event (t := 3) (p := 38) (v := ?vo_w43) (w1 := (w39.setCell ⟨go19, (a1_1 : Int).toNat, none⟩ (.int .i64 ji20))) ?hg ?ho ?hn ?hr ?_; (case ho => rfl); (case hg => rfl); (case hn => rfl); (case hr => go_simp <;> rfl); intro w43 hw; have hg : w39.grownBy w43 (some go19) := (by rw [hw]; exact HP42.2); have hp_ : Kd.R (Kd.int .i64) 3 w43 w0.heap.size (fun k_ => (P1_0_ k_ ∨ w.heap.size ≤ k_) ∧ some k_ ≠ (.slice (some ad305) l1_0.length co24 : Value).ownBlock) (.slice (some ⟨go19, 0, none⟩) t301.length co33) y306 := (by rw [hw, Ny306.1]; exact HP42.1); clear HP42; have n0_ := za0.mk (Kd.R_after (v := (.slice (some ⟨go19, 0, none⟩) t301.length co33)) (v1 := (.slice (some ⟨go19, 0, none⟩) t301.length co33)) (ok := (fun k_ => (P1_0_ k_ ∨ w.heap.size ≤ k_))) (by (with_reducible repeat (first | apply Kd.R_alloc | apply Kd.R_drewN | apply Kd.R_drew)); exact HO1_0.1) hg (.inl rfl)); have n1_ := za0.mk (blk_grown (g := gb297) (o := .cells #[.slice (some ad300) l0_0.length c0_0] 29 (0, 0)) (by (with_reducible repeat (first | refine zg0 ?_ _ | refine zj0 ?_ | refine zf0 ?_ _)); exact BK297.1) hg (Kd.R_ne HO303.1 BK297.1 (by decide))); have n2_ := za0.mk (blk_grown (g := gb298) (o := .cells #[.slice (some ad305) l1_0.length co24, .int .i64 a1_1] 63 (0, 0)) (by (with_reducible repeat (first | refine zg0 ?_ _ | refine zj0 ?_ | refine zf0 ?_ _)); exact BK298.1) hg (Kd.R_ne HO303.1 BK298.1 (by decide))); have n3_ := za0.mk (blk_grown (g := gb299) (o := .cells #[.slice none 0 0, .int .i64 0] 63 (0, 0)) (by (with_reducible repeat (first | refine zg0 ?_ _ | refine zj0 ?_ | refine zf0 ?_ _)); exact BK299.1) hg (Kd.R_ne HO303.1 BK299.1 (by decide))); have n4_ := za0.mk (hp_); have n5_ := za0.mk (blk_grown (g := gb304) (o := .cells #[.slice (some ⟨go19, 0, none⟩) t301.length co33, .int .i64 0] 63 (0, 0)) (by (with_reducible repeat (first | refine zg0 ?_ _ | refine zj0 ?_ | refine zf0 ?_ _)); exact BK304.1) hg (Kd.R_ne HO303.1 BK304.1 (by decide))); have n6_ := za0.mk ((by rw [hw]; exact ze0 (HB.1) GB19.1 : Below w0.heap.size w0 w43)); have n7_ := za0.mk (Kept.of_grown (S := (fun k_ => P1_0_ k_)) hg (by repeat (first | (with_reducible first | exact HK.1 | apply Kept.alloc | apply Kept.drewN | apply Kept.drew | refine Kept.setCell ?_ (.inr GW297.1) _ | refine Kept.setCell ?_ (.inr GW298.1) _ | refine Kept.setCell ?_ (.inr GW299.1) _ | refine Kept.setCell ?_ (.inr GW304.1) _) | exact HK.1)) (fun k_ e_ => (HO303.1.1 k_ e_).1)); clear HO1_0; clear BK297; clear BK298; clear BK299; clear HO303; clear BK304; clear HB; clear HK; have HO1_0 := n0_; have BK297 := n1_; have BK298 := n2_; have BK299 := n3_; have HO303 := n4_; have BK304 := n5_; have HB := n6_; have HK := n7_; clear n0_ n1_ n2_ n3_ n4_ n5_ n6_ n7_; clear hg hw hp_; have p307 : 0 ≤ ((ji20) : Int) := of_decide_eq_true (by assumption); have q307 : (ji20) < ((rd_L1 l0_0 a1_1).length : Int) := of_decide_eq_true (by assumption); obtain ⟨ad307, e307, hx307_0⟩ := Kd.at_int (Kd.C_kept_now HR300_0.1 HK.1) (ji20) p307 q307; cases e307; replace p307 := eq_true p307; replace q307 := eq_true q307; have hcz44_0 : w43.cell? ⟨gb304, 0, none⟩ = some (.slice (some ⟨go19, 0, none⟩) t301.length co33) := (zl0 BK304.1 0).trans rfl; have hcz44_1 : w43.cell? ⟨gb304, 1, none⟩ = some (.int .i64 0) := (zl0 BK304.1 1).trans rfl; have hfz44_0 := zk0 BK304.1 0; have hfz44_1 := zk0 BK304.1 1; have hcz45_0 : w43.cell? ⟨gb299, 0, none⟩ = some (.slice none 0 0) := (zl0 BK299.1 0).trans rfl; have hcz45_1 : w43.cell? ⟨gb299, 1, none⟩ = some (.int .i64 0) := (zl0 BK299.1 1).trans rfl; have hfz45_0 := zk0 BK299.1 0; have hfz45_1 := zk0 BK299.1 1))
 refine bodyPost_ret (results_ct rfl _ _ gb299 63 #[.slice (some ⟨go19, 0, none⟩) t301.length co33, .int .i64 (rd (rd_L1 l0_0 a1_1) (ji20))] (0, 0) _ rfl (by (with_reducible repeat (first | refine zg0 ?_ _ | refine zj0 ?_ | refine zf0 ?_ _)); refine blk_put (cs := #[.slice (some ⟨go19, 0, none⟩) t301.length co33, .int .i64 0]) ?_ 1 _ rfl; (with_reducible repeat (first | refine zg0 ?_ _ | refine zj0 ?_ | refine zf0 ?_ _)); refine blk_put (cs := #[.slice none 0 0, .int .i64 0]) ?_ 0 _ rfl; (with_reducible repeat (first | refine zg0 ?_ _ | refine zj0 ?_ | refine zf0 ?_ _)); refine blk_far ?_ NB299_304.1 _; (with_reducible repeat (first | refine zg0 ?_ _ | refine zj0 ?_ | refine zf0 ?_ _)); exact BK299.1) Try.underlying63 rfl (by kernel_rfl)) rfl ?_
 exact ⟨_, by first | rfl | (simp [errW_none, errW_some] <;> rfl) | (simp only [← hji20]; first | rfl | (simp [errW_none, errW_some] <;> rfl)) | (simp [*, errW_none, errW_some] <;> rfl), by (with_reducible repeat (first | apply Kd.R_alloc | apply Kd.R_drewN | apply Kd.R_drew)); exact Kd.R_mono (Kd.R_far (p := ⟨gb299, 1, none⟩) (Kd.R_far (p := ⟨gb299, 0, none⟩) (Kd.R_far (p := ⟨gb304, 1, none⟩) (Kd.R_types (Kd.R_types HO303.1 BK304.1 (by decide)) BK299.1 (by decide)) (fun _ hk => hk.1.2) (.int .i64 (rd (rd_L1 l0_0 a1_1) (ji20)))) (fun _ hk => hk.2) (.slice (some ⟨go19, 0, none⟩) t301.length co33)) (fun _ hk => hk.2) (.int .i64 (rd (rd_L1 l0_0 a1_1) (ji20)))) (fun _ hk => hk.1.1.1), by repeat (first | exact HB.1 | apply zc0 | apply zb0 | apply zd0 | refine ze0 ?_ GE297.1 | refine ze0 ?_ GE298.1 | refine ze0 ?_ GE299.1 | refine ze0 ?_ GE304.1), by repeat (first | (with_reducible first | exact HK.1 | apply Kept.alloc | apply Kept.drewN | apply Kept.drew | refine Kept.setCell ?_ (.inr GW297.1) _ | refine Kept.setCell ?_ (.inr GW298.1) _ | refine Kept.setCell ?_ (.inr GW299.1) _ | refine Kept.setCell ?_ (.inr GW304.1) _) | exact HK.1)⟩
def yn0.l0 : Nat → Int → List Int → List (List Int) → List Int → Int → Option (List Int × List Int)
 | 0, _, _, _, _, _ => none
 | k + 1, x1, x11, x309000, x313000, x313001 => if x313001 = x1 then (some (x313000, x11)) else (if (x11.length : Int) > 4000 then (some (([] : List Int), ([] : List Int))) else ((yf2.f x309000 x313000 x313001).bind fun bt316 => (if x11.length < 17592186044416 then (yn0.l0 k x1 (x11 ++ [bt316.2.1]) x309000 bt316.1 bt316.2.1) else (none))))
def yn0.f (k : Nat) (l0_0 : List (List Int)) (a1 : Int) (l2 : List Int) (a3 : Int) : Option (List Int × List Int) := (yf1.f l2).bind fun t309 => (yn0.l0 k a1 (([a3] : List Int)) l0_0 t309 a3)
theorem yn0.mono_l : ∀ k, (∀ y0 y1 y2 y3 y4, LeO (yn0.l0 k y0 y1 y2 y3 y4) (yn0.l0 (k + 1) y0 y1 y2 y3 y4))
 | 0 => fun _ _ _ _ _ r h => by simp [yn0.l0] at h
 | k + 1 => by
  have ih0 := yn0.mono_l k
  ·intro y0 y1 y2 y3 y4
   unfold yn0.l0
   repeat' (with_reducible first | exact ih0 _ _ _ _ _ | exact LeO.refl _ | exact LeO.none _ | refine LeO.ite ?_ ?_ | refine LeO.bind ?_ (fun _ => ?_))
theorem yn0.mono : ∀ a0 a1 a2 a3 k, LeO (yn0.f k a0 a1 a2 a3) (yn0.f (k + 1) a0 a1 a2 a3) := by
 intro a0 a1 a2 a3 k
 have ih0 := yn0.mono_l k
 unfold yn0.f
 repeat' (with_reducible first | exact ih0 _ _ _ _ _ | exact LeO.refl _ | exact LeO.none _ | refine LeO.ite ?_ ?_ | refine LeO.bind ?_ (fun _ => ?_))
theorem yn0.calls (k : Nat) (A0_0 : Option Addr) (c0_0 : Nat) (l0_0 : List (List Int)) (a1 : Int) (A2 : Option Addr) (c2 : Nat) (l2 : List Int) (a3 : Int) (r1 : List Int) (r2 : List Int) (w : World) (hr0_0 : Kd.C (Kd.slice 3 (Kd.int .i64)) w A0_0 l0_0.length l0_0) (hc0_0 : l0_0.length ≤ c0_0) (hr2 : Kd.C (Kd.int .i64) w A2 l2.length l2) (hc2 : l2.length ≤ c2) (h : yn0.f k l0_0 a1 l2 a3 = some (r1, r2)) :
  Calls Try.prog 29 #[.agg #[.slice A0_0 l0_0.length c0_0], .int .i64 a1, .slice A2 l2.length c2, .int .i64 a3] w fun e w' => ∃ v0_ v1_ : Value, e = .returned (.tuple #[v0_, v1_]) ∧ Kd.R (Kd.int .i64) 3 w' w.heap.size (fun k_ => some k_ ≠ (v1_ : Value).ownBlock) v0_ r1 ∧ Kd.R (Kd.int .i64) 3 w' w.heap.size (fun k_ => some k_ ≠ (v0_ : Value).ownBlock) v1_ r2 ∧ Below w.heap.size w w' := by
 have hu29 := Try.underlying29
 have hu63 := Try.underlying63
 have HR0_0 := za0.mk hr0_0
 have HC0_0 := za0.mk hc0_0
 clear hr0_0 hc0_0
 have HR2 := za0.mk hr2
 have HC2 := za0.mk hc2
 clear hr2 hc2
 have HB := za0.mk (Below.refl w.heap.size w)
 have H : ((yf1.f l2).bind fun t309 => (yn0.l0 k a1 (([a3] : List Int)) l0_0 t309 a3)) = some (r1, r2) := h
 clear h
 replace H := Option.bind_eq_some_iff.mp H
 obtain ⟨t309, A50, H⟩ := H
 replace H : (yn0.l0 k a1 (([a3] : List Int)) l0_0 t309 a3) = some (r1, r2) := H
 have A5 := za0.mk A50
 clear A50
 obtain ⟨y313, hy313⟩ : ∃ y_ : List Int, y_ = (([a3] : List Int)) := ⟨_, rfl⟩
 replace H : (yn0.l0 k a1 y313 l0_0 t309 a3) = some (r1, r2) := by first | (rw [hy313]; with_reducible exact H) | (have H2_ := (Option.bind_some _ _).symm.trans H; rw [hy313]; with_reducible exact H2_) | (have H2_ := (Option.bind_some _ _).symm.trans H; with_reducible exact H2_) | with_reducible exact H | (rw [hy313]; exact H) | exact H
 have Ny313 := za0.mk hy313
 clear hy313
 have H' := za0.mk H
 clear H
 go_enter Try.func29, Try.ntmps29
 go_wp2_with (first | ((with_reducible refine zo0 (N := 4) rfl ?_); refine zp0 ?hg (N := 4) ?hd (cs := #[.slice A0_0 l0_0.length c0_0]) (t := 29) ?hr ?_; (case hd | hg => rfl); (case hr => go_simp <;> rfl); intro gb308 hg w6 hbox hb; have n0_ := za0.mk (zi0 (by repeat (first | exact HB.1 | apply zc0 | apply zb0 | apply zd0)) hb); have n1_ := za0.mk (hbox); have n2_ := za0.mk ((by rw [hg]; exact (zh0 (by repeat (first | exact HB.1 | apply zc0 | apply zb0 | apply zd0))) : w.heap.size ≤ gb308)); have n3_ := za0.mk ((by rw [hg]; exact (zh0 (by repeat (first | exact HB.1 | apply zc0 | apply zb0 | apply zd0))) : w.heap.size ≤ gb308)); clear HB; have HB := n0_; have BK308 := n1_; have GW308 := n2_; have GE308 := n3_; clear n0_ n1_ n2_ n3_; clear hb hbox hg) | ((with_reducible refine zn0 (f := 46) rfl ?_); refine za1 (some 13) rfl rfl Try.func46 (by kernel_rfl) rfl #[.slice A2 l2.length c2] rfl (by (try simp only [List.map_toArray, List.map_cons, List.map_nil]); first | done | rfl | (simp only [List.length_drop, List.length_take]; rfl)) ?_; (with_reducible refine (yf1.calls _ _ l2 t309 _ ?side1 ?side2 A5.1).mono ?_); (case side1 => repeat (first | exact (Kd.C_below HR2.1 HB.1) | with_reducible first | refine Kd.C_alloc ?_ _ | refine Kd.C_drewN ?_ _ | refine Kd.C_drew ?_)); (case side2 => exact HC2.1); rintro e w7 ⟨v310, rfl, ho0, hb⟩; refine ⟨_, rfl, ?_⟩; have n0_ := za0.mk (Kd.R_lower ho0 (zh0 (by repeat (first | exact HB.1 | apply zc0 | apply zb0 | apply zd0 | refine ze0 ?_ GE308.1)))); have n1_ := za0.mk (zm0 (g := gb308) (o := .cells #[.slice A0_0 l0_0.length c0_0] 29 (0, 0)) (by (with_reducible repeat (first | refine zg0 ?_ _ | refine zj0 ?_ | refine zf0 ?_ _)); exact BK308.1) hb); have n2_ := za0.mk (zi0 (by repeat (first | exact HB.1 | apply zc0 | apply zb0 | apply zd0 | refine ze0 ?_ GE308.1)) hb); clear BK308; clear HB; have HO311 := n0_; have BK308 := n1_; have HB := n2_; clear n0_ n1_ n2_; (try clear hb); (try clear hb2); (try clear hk); (try clear hi); (try clear ho0); obtain ⟨Ao8, co8, eo8⟩ := Kd.R_slice HO311.1; subst eo8) | ((with_reducible refine zo0 (N := 10) rfl ?_); refine zp0 ?hg (N := 10) ?hd (cs := #[.slice none 0 0, .int .i64 0]) (t := 63) ?hr ?_; (case hd | hg => rfl); (case hr => go_simp <;> rfl); intro gb312 hg w9 hbox hb; have n0_ := za0.mk (Kd.R_below (by (with_reducible repeat (first | apply Kd.R_alloc | apply Kd.R_drewN | apply Kd.R_drew)); exact HO311.1) hb); have n1_ := za0.mk (zm0 (g := gb308) (o := .cells #[.slice A0_0 l0_0.length c0_0] 29 (0, 0)) (by (with_reducible repeat (first | refine zg0 ?_ _ | refine zj0 ?_ | refine zf0 ?_ _)); exact BK308.1) hb); have n2_ := za0.mk (zi0 (by repeat (first | exact HB.1 | apply zc0 | apply zb0 | apply zd0 | refine ze0 ?_ GE308.1)) hb); have n3_ := za0.mk (hbox); have n4_ := za0.mk ((by rw [hg]; exact (zh0 (by repeat (first | exact HB.1 | apply zc0 | apply zb0 | apply zd0 | refine ze0 ?_ GE308.1))) : w.heap.size ≤ gb312)); have n5_ := za0.mk ((by rw [hg]; exact (zh0 (by repeat (first | exact HB.1 | apply zc0 | apply zb0 | apply zd0 | refine ze0 ?_ GE308.1))) : w.heap.size ≤ gb312)); have n6_ := za0.mk ((by rw [hg]; exact Nat.ne_of_lt (blk_lt (g := gb308) (o := .cells #[.slice A0_0 l0_0.length c0_0] 29 (0, 0)) (by (with_reducible repeat (first | refine zg0 ?_ _ | refine zj0 ?_ | refine zf0 ?_ _)); exact BK308.1)) : gb308 ≠ gb312)); have n7_ := za0.mk ((by rw [hg]; exact Nat.ne_of_gt (blk_lt (g := gb308) (o := .cells #[.slice A0_0 l0_0.length c0_0] 29 (0, 0)) (by (with_reducible repeat (first | refine zg0 ?_ _ | refine zj0 ?_ | refine zf0 ?_ _)); exact BK308.1)) : gb312 ≠ gb308)); clear HO311; clear BK308; clear HB; have HO311 := n0_; have BK308 := n1_; have HB := n2_; have BK312 := n3_; have GW312 := n4_; have GE312 := n5_; have NB308_312 := n6_; have NB312_308 := n7_; clear n0_ n1_ n2_ n3_ n4_ n5_ n6_ n7_; clear hb hbox hg; have hnb10 := NB312_308.1; have hnc10 := NB308_312.1; have hcz11_0 : w9.cell? ⟨gb312, 0, none⟩ = some (.slice none 0 0) := (zl0 BK312.1 0).trans rfl; have hcz11_1 : w9.cell? ⟨gb312, 1, none⟩ = some (.int .i64 0) := (zl0 BK312.1 1).trans rfl; have hfz11_0 := zk0 BK312.1 0; have hfz11_1 := zk0 BK312.1 1) | ((with_reducible refine zo0 (N := 17) rfl ?_); refine Kd.R_lit (Kd.int .i64) _ 3 ?hg (N := 17) ?hd (xs := ([a3] : List Int)) (inner := [.int .i64 a3]) (ok := fun _ => True) (okp := fun _ => True) ?hr ?hp (fun _ hk => hk) trivial (Below.refl _ _) (Nat.le_refl _) (by simp) ?_; (case hd | hg => rfl); (case hr => go_simp <;> rfl); (case hp => exact (Reps.one (show Kd.M (Kd.int .i64) _ _ _ a3 [.int .i64 a3] from rfl) (Reps.none _ _))); intro v314 w12 ho13 hb hg_ hnew_; clear hg_ hnew_; (first | rw [← Ny313.1] at ho13 | (simp only [Int.reduceToNat] at ho13; rw [← Ny313.1] at ho13)); have n0_ := za0.mk (Kd.R_elder' (by (with_reducible repeat (first | apply Kd.R_alloc | apply Kd.R_drewN | apply Kd.R_drew)); exact (Kd.R_mono (Kd.R_far (p := ⟨gb312, 1, none⟩) (Kd.R_far (p := ⟨gb312, 0, none⟩) (Kd.R_types HO311.1 BK312.1 (by decide)) (fun _ hk => hk.2) (.slice Ao8 t309.length co8)) (fun _ hk => hk.2) (.int .i64 a3)) (fun _ h_ => h_.1))) (Kd.R_base ho13) hb); have n1_ := za0.mk (Kd.R_lower (Kd.R_new' ho13 (Kd.R_lt (by (with_reducible repeat (first | apply Kd.R_alloc | apply Kd.R_drewN | apply Kd.R_drew)); exact (Kd.R_mono (Kd.R_far (p := ⟨gb312, 1, none⟩) (Kd.R_far (p := ⟨gb312, 0, none⟩) (Kd.R_types HO311.1 BK312.1 (by decide)) (fun _ hk => hk.2) (.slice Ao8 t309.length co8)) (fun _ hk => hk.2) (.int .i64 a3)) (fun _ h_ => h_.1))))) (zh0 (by repeat (first | exact HB.1 | apply zc0 | apply zb0 | apply zd0 | refine ze0 ?_ GE308.1 | refine ze0 ?_ GE312.1)))); have n2_ := za0.mk (zm0 (g := gb308) (o := .cells #[.slice A0_0 l0_0.length c0_0] 29 (0, 0)) (by (with_reducible repeat (first | refine zg0 ?_ _ | refine zj0 ?_ | refine zf0 ?_ _)); refine blk_far ?_ NB308_312.1 _; (with_reducible repeat (first | refine zg0 ?_ _ | refine zj0 ?_ | refine zf0 ?_ _)); refine blk_far ?_ NB308_312.1 _; (with_reducible repeat (first | refine zg0 ?_ _ | refine zj0 ?_ | refine zf0 ?_ _)); exact BK308.1) hb); have n3_ := za0.mk (zm0 (g := gb312) (o := .cells #[.slice Ao8 t309.length co8, .int .i64 a3] 63 (0, 0)) (by (with_reducible repeat (first | refine zg0 ?_ _ | refine zj0 ?_ | refine zf0 ?_ _)); refine blk_put (cs := #[.slice Ao8 t309.length co8, .int .i64 0]) ?_ 1 _ rfl; (with_reducible repeat (first | refine zg0 ?_ _ | refine zj0 ?_ | refine zf0 ?_ _)); refine blk_put (cs := #[.slice none 0 0, .int .i64 0]) ?_ 0 _ rfl; (with_reducible repeat (first | refine zg0 ?_ _ | refine zj0 ?_ | refine zf0 ?_ _)); exact BK312.1) hb); have n4_ := za0.mk (zi0 (by repeat (first | exact HB.1 | apply zc0 | apply zb0 | apply zd0 | refine ze0 ?_ GE308.1 | refine ze0 ?_ GE312.1)) hb); clear HO311; clear BK308; clear BK312; clear HB; have HO311 := n0_; have HO315 := n1_; have BK308 := n2_; have BK312 := n3_; have HB := n4_; clear n0_ n1_ n2_ n3_ n4_; clear hb ho13))
 go_loopg [11] k (fun kq v11 w' => ∃ (x11_1 : List Int) (x313000_1 : List Int) (x313001_1 : Int) (u313000 : Value), za0 (yn0.l0 kq a1 x11_1 l0_0 x313000_1 x313001_1 = some (r1, r2)) ∧ za0 (kq ≤ k) ∧ za0 (Kd.R (Kd.int .i64) 3 w' w.heap.size (fun k_ => some k_ ≠ (u313000 : Value).ownBlock) v11 x11_1) ∧ za0 (Kd.R (Kd.int .i64) 3 w' w.heap.size (fun k_ => some k_ ≠ (v11 : Value).ownBlock) u313000 x313000_1) ∧ za0 (w'.heap[gb308]? = some (.cells #[(.slice A0_0 l0_0.length c0_0)] 29 (0, 0))) ∧ za0 (w'.heap[gb312]? = some (.cells #[u313000, .int .i64 x313001_1] 63 (0, 0))) ∧ za0 (Below w.heap.size w w'))
 case atStart => exact ⟨(y313), (t309), (a3), (.slice Ao8 t309.length co8), H', ⟨Nat.le_refl _⟩, ⟨by (with_reducible repeat (first | apply Kd.R_alloc | apply Kd.R_drewN | apply Kd.R_drew)); exact Kd.R_mono HO315.1 (fun _ hk => hk.2)⟩, ⟨by (with_reducible repeat (first | apply Kd.R_alloc | apply Kd.R_drewN | apply Kd.R_drew)); exact Kd.R_mono HO311.1 (fun _ hk => hk.2)⟩, ⟨by (with_reducible repeat (first | refine zg0 ?_ _ | refine zj0 ?_ | refine zf0 ?_ _)); exact BK308.1⟩, ⟨by (with_reducible repeat (first | refine zg0 ?_ _ | refine zj0 ?_ | refine zf0 ?_ _)); exact BK312.1⟩, ⟨by repeat (first | exact HB.1 | apply zc0 | apply zb0 | apply zd0 | refine ze0 ?_ GE308.1 | refine ze0 ?_ GE312.1)⟩⟩
 case round =>
  clear H'
  try clear c1
  try clear c2
  try clear p2
  try clear c4
  try clear c10
  try clear hcz11_0
  try clear hcz11_1
  try clear hfz11_0
  try clear hfz11_1
  obtain ⟨x11_1, x313000_1, x313001_1, u313000, HA, HK1, HO_11, HO_313000, BK308, BK312, HB⟩ := hrel
  obtain _ | k1 := gk
  ·exact absurd HA.1 (by simp [yn0.l0])
  have H := HA.1
  clear HA
  simp only [yn0.l0] at H
  by_cases c14 : x313001_1 = a1
  ·rw [if_pos c14] at H
   have c14b0 : (x313001_1 == a1) = true := beq_iff_eq.mpr c14
   have c14b1 : (x313001_1 != a1) = false := bne_eq_false_iff_eq.mpr c14
   clear c14
   simp only [Option.some.injEq, Prod.mk.injEq] at H
   obtain ⟨rfl, rfl⟩ := H
   have hnb15 := NB312_308.1
   have hnc15 := NB308_312.1
   have hcz16_0 : wr.cell? ⟨gb312, 0, none⟩ = some (u313000) := (zl0 BK312.1 0).trans rfl
   have hcz16_1 : wr.cell? ⟨gb312, 1, none⟩ = some (.int .i64 x313001_1) := (zl0 BK312.1 1).trans rfl
   have hfz16_0 := zk0 BK312.1 0
   have hfz16_1 := zk0 BK312.1 1
   go_wp2
   go_ret2
   exact ⟨_, _, by first | rfl | (simp [errW_none, errW_some] <;> rfl) | (simp [*, errW_none, errW_some] <;> rfl), by (with_reducible repeat (first | apply Kd.R_alloc | apply Kd.R_drewN | apply Kd.R_drew)); exact HO_313000.1, by (with_reducible repeat (first | apply Kd.R_alloc | apply Kd.R_drewN | apply Kd.R_drew)); exact HO_11.1, by repeat (first | exact HB.1 | apply zc0 | apply zb0 | apply zd0 | refine ze0 ?_ GE308.1 | refine ze0 ?_ GE312.1)⟩
  rw [if_neg c14] at H
  have c14b0 : (x313001_1 == a1) = false := beq_eq_false_iff_ne.mpr c14
  have c14b1 : (x313001_1 != a1) = true := bne_iff_ne.mpr c14
  by_cases c17 : (x11_1.length : Int) > 4000
  ·rw [if_pos c17] at H
   have c17b0 : decide (4000 < (x11_1.length : Int)) = true := decide_eq_true c17
   have c17b1 : decide (4000 < x11_1.length) = true := decide_eq_true (by omega)
   clear c17
   simp only [Option.some.injEq, Prod.mk.injEq] at H
   obtain ⟨rfl, rfl⟩ := H
   have hnb18 := NB312_308.1
   have hnc18 := NB308_312.1
   have hcz19_0 : wr.cell? ⟨gb312, 0, none⟩ = some (u313000) := (zl0 BK312.1 0).trans rfl
   have hcz19_1 : wr.cell? ⟨gb312, 1, none⟩ = some (.int .i64 x313001_1) := (zl0 BK312.1 1).trans rfl
   have hfz19_0 := zk0 BK312.1 0
   have hfz19_1 := zk0 BK312.1 1
   obtain ⟨Ao20, co20, eo20⟩ := Kd.R_slice HO_11.1
   subst eo20
   go_wp2
   go_ret2
   exact ⟨_, _, by first | rfl | (simp [errW_none, errW_some] <;> rfl) | (simp [*, errW_none, errW_some] <;> rfl), by first | exact Kd.R_nil _ _ _ _ _ | exact Kd.N_nil _ _ _ _ _ | exact Kd.V_nil _ _ _ _ _ | exact Kd.Q_nil _ _ _ _ _ | exact Kd.S_nil _ _ _ _ _, by first | exact Kd.R_nil _ _ _ _ _ | exact Kd.N_nil _ _ _ _ _ | exact Kd.V_nil _ _ _ _ _ | exact Kd.Q_nil _ _ _ _ _ | exact Kd.S_nil _ _ _ _ _, by repeat (first | exact HB.1 | apply zc0 | apply zb0 | apply zd0 | refine ze0 ?_ GE308.1 | refine ze0 ?_ GE312.1)⟩
  rw [if_neg c17] at H
  have c17b0 : decide (4000 < (x11_1.length : Int)) = false := decide_eq_false c17
  have c17b1 : decide (4000 < x11_1.length) = false := decide_eq_false (by omega)
  clear c17
  replace H := Option.bind_eq_some_iff.mp H
  obtain ⟨⟨t316, t319, t320⟩, A210, H⟩ := H
  replace H : (if x11_1.length < 17592186044416 then (yn0.l0 k1 a1 (x11_1 ++ [t319]) l0_0 t316 t319) else (none)) = some (r1, r2) := H
  have A21 := za0.mk A210
  clear A210
  by_cases c22 : x11_1.length < 17592186044416
  rotate_left
  ·rw [if_neg c22] at H
   exact absurd H (by simp)
  rw [if_pos c22] at H
  have LMc22 := za0.mk c22
  clear c22
  obtain ⟨y321, hy321⟩ : ∃ y_ : List Int, y_ = (x11_1 ++ [t319]) := ⟨_, rfl⟩
  replace H : (yn0.l0 k1 a1 y321 l0_0 t316 t319) = some (r1, r2) := by first | (rw [hy321]; with_reducible exact H) | (have H2_ := (Option.bind_some _ _).symm.trans H; rw [hy321]; with_reducible exact H2_) | (have H2_ := (Option.bind_some _ _).symm.trans H; with_reducible exact H2_) | with_reducible exact H | (rw [hy321]; exact H) | exact H
  have Ny321 := za0.mk hy321
  clear hy321
  have H' := za0.mk H
  clear H
  have hnb23 := NB312_308.1
  have hnc23 := NB308_312.1
  have hcz24_0 : wr.cell? ⟨gb312, 0, none⟩ = some (u313000) := (zl0 BK312.1 0).trans rfl
  have hcz24_1 : wr.cell? ⟨gb312, 1, none⟩ = some (.int .i64 x313001_1) := (zl0 BK312.1 1).trans rfl
  have hfz24_0 := zk0 BK312.1 0
  have hfz24_1 := zk0 BK312.1 1
  obtain ⟨Ao25, co25, eo25⟩ := Kd.R_slice HO_11.1
  subst eo25
  have hcz26_0 : wr.cell? ⟨gb308, 0, none⟩ = some (.slice A0_0 l0_0.length c0_0) := (zl0 BK308.1 0).trans rfl
  have hfz26_0 := zk0 BK308.1 0
  obtain ⟨Ao27, co27, eo27⟩ := Kd.R_slice HO_313000.1
  subst eo27
  go_wp2_with (first | ((with_reducible refine zn0 (f := 47) rfl ?_); refine za1 (some 28) rfl rfl Try.func47 (by kernel_rfl) rfl #[.agg #[.slice A0_0 l0_0.length c0_0], .agg #[.slice Ao27 x313000_1.length co27, .int .i64 x313001_1]] rfl (by (try simp only [List.map_toArray, List.map_cons, List.map_nil]); first | done | rfl | (simp only [List.length_drop, List.length_take]; rfl)) ?_; (with_reducible refine (yf2.calls _ _ l0_0 (fun k_ => some k_ = (.slice Ao27 x313000_1.length co27 : Value).ownBlock) (.slice Ao27 x313000_1.length co27) x313000_1 x313001_1 t316 t319 t320 w _ ?side1 ?side2 ?side3 ?side4 A21.1).mono ?_); (case side1 => repeat (first | exact HB.1 | apply zc0 | apply zb0 | apply zd0 | refine ze0 ?_ GE308.1 | refine ze0 ?_ GE312.1)); (case side2 => exact Kd.C_kept_came (Kd.heap_slice 3 (Kd.heap_int .i64)) HR0_0.1 (by repeat (first | exact HB.1 | apply zc0 | apply zb0 | apply zd0 | refine ze0 ?_ GE308.1 | refine ze0 ?_ GE312.1)) (fun k_ hs_ => (fun e_ => Kd.R_base HO_313000.1 k_ e_.symm) hs_)); (case side3 => exact HC0_0.1); (case side4 => exact Kd.R_tight rfl HO_313000.1); rintro e w28 ⟨v317, rfl, ho0, hb, hkp⟩; refine ⟨_, rfl, ?_⟩; have n0_ := za0.mk (Kd.R_mono (ok' := fun k_ => some k_ ≠ (v317 : Value).ownBlock) (Kd.R_keptB (HO_11.1) hkp (fun k_ hk_ hs_ => (hk_) hs_)) (fun k_ hk_ => fun e_ => Or.elim (ho0.1 k_ e_.symm) (fun hs_ => hk_.2.1 hs_) (fun hn_ => Nat.not_le.2 hk_.2.2 hn_))); have n1_ := za0.mk (blk_kept (by (with_reducible repeat (first | refine zg0 ?_ _ | refine zj0 ?_ | refine zf0 ?_ _)); exact BK308.1) hkp (fun hs_ => (fun e_ => (Kd.R_ne HO_313000.1 BK308.1 (by decide)) e_) hs_)); have n2_ := za0.mk (blk_kept (by (with_reducible repeat (first | refine zg0 ?_ _ | refine zj0 ?_ | refine zf0 ?_ _)); exact BK312.1) hkp (fun hs_ => (fun e_ => (Kd.R_ne HO_313000.1 BK312.1 (by decide)) e_) hs_)); have n3_ := za0.mk (Kd.R_mono (ok' := fun k_ => some k_ ≠ (.slice Ao25 x11_1.length co25 : Value).ownBlock) ho0 (fun k_ hk_ => Or.elim hk_ (fun hs_ => fun e_ => (((HO_11.1).1 k_ e_.symm)) hs_) (fun hn_ => (Kd.fresh' (Kd.R_lt (by (with_reducible repeat (first | apply Kd.R_alloc | apply Kd.R_drewN | apply Kd.R_drew)); exact HO_11.1)) k_ hn_)))); have n4_ := za0.mk (hb); clear HO_11; clear BK308; clear BK312; clear HB; clear HO_313000; have HO_11 := n0_; have BK308 := n1_; have BK312 := n2_; have HO318 := n3_; have HB := n4_; clear n0_ n1_ n2_ n3_ n4_; (try clear hb); (try clear hkp); (try clear ho0); obtain ⟨Ao29, co29, eo29⟩ := Kd.R_slice HO318.1; subst eo29; have hcz30_0 : w28.cell? ⟨gb312, 0, none⟩ = some (.slice Ao27 x313000_1.length co27) := (zl0 BK312.1 0).trans rfl; have hcz30_1 : w28.cell? ⟨gb312, 1, none⟩ = some (.int .i64 x313001_1) := (zl0 BK312.1 1).trans rfl; have hfz30_0 := zk0 BK312.1 0; have hfz30_1 := zk0 BK312.1 1) | ((with_reducible refine gate_builtin (b := .append) (xs := #[.tmp 31, .tmp 34]) rfl ?_); at_builtin; refine Kd.R_append (Kd.int .i64) (w0 := w) w.heap.size rfl (.tmp 31) (.tmp 34) 25 3 (.int .i64 0) 8 rfl Try.underlying25 info3 rfl (by decide) (by omega) (.slice Ao25 x11_1.length co25) x11_1 t319 [.int .i64 t319] (fun k_ => some k_ ≠ (.slice Ao29 t316.length co29 : Value).ownBlock) (fun _ => False) rfl (by first | (go_simp; done) | (go_simp; rfl)) ?aP (fun _ hk => hk.elim) ?aF ?aO ?aB ?aS ?aL ?_; (case aP => exact rfl); (case aB => exact (by repeat (first | exact HB.1 | apply zc0 | apply zb0 | apply zd0 | refine ze0 ?_ GE308.1 | refine ze0 ?_ GE312.1))); (case aF => exact (fun k_ hk => Kd.fresh' (Kd.R_lt (by (with_reducible repeat (first | apply Kd.R_alloc | apply Kd.R_drewN | apply Kd.R_drew)); exact (Kd.R_mono (Kd.R_far (p := ⟨gb312, 1, none⟩) (Kd.R_far (p := ⟨gb312, 0, none⟩) (Kd.R_types HO318.1 BK312.1 (by decide)) (fun _ hk => hk.2) (.slice Ao29 t316.length co29)) (fun _ hk => hk.2) (.int .i64 t319)) (fun _ h_ => h_.1)))) k_ hk)); (case aO => exact (by (with_reducible repeat (first | apply Kd.R_alloc | apply Kd.R_drewN | apply Kd.R_drew)); exact Kd.R_mono (Kd.R_far (p := ⟨gb312, 1, none⟩) (Kd.R_far (p := ⟨gb312, 0, none⟩) (Kd.R_types HO_11.1 BK312.1 (by decide)) (fun _ hk => hk.2) (.slice Ao29 t316.length co29)) (fun _ hk => hk.2) (.int .i64 t319)) (fun _ hk => hk.1))); (case aS => exact (zh0 (by repeat (first | exact HB.1 | apply zc0 | apply zb0 | apply zd0 | refine ze0 ?_ GE308.1 | refine ze0 ?_ GE312.1)))); (case aL => have := LMc22.1; omega); intro v322 w31 ho hb hg hat; rw [← Ny321.1] at ho; have n0_ := za0.mk (blk_grown (g := gb308) (o := .cells #[.slice A0_0 l0_0.length c0_0] 29 (0, 0)) (by (with_reducible repeat (first | refine zg0 ?_ _ | refine zj0 ?_ | refine zf0 ?_ _)); refine blk_far ?_ NB308_312.1 _; (with_reducible repeat (first | refine zg0 ?_ _ | refine zj0 ?_ | refine zf0 ?_ _)); refine blk_far ?_ NB308_312.1 _; (with_reducible repeat (first | refine zg0 ?_ _ | refine zj0 ?_ | refine zf0 ?_ _)); exact BK308.1) hg (Kd.R_ne HO_11.1 BK308.1 (by decide))); have n1_ := za0.mk (blk_grown (g := gb312) (o := .cells #[.slice Ao29 t316.length co29, .int .i64 t319] 63 (0, 0)) (by (with_reducible repeat (first | refine zg0 ?_ _ | refine zj0 ?_ | refine zf0 ?_ _)); refine blk_put (cs := #[.slice Ao29 t316.length co29, .int .i64 x313001_1]) ?_ 1 _ rfl; (with_reducible repeat (first | refine zg0 ?_ _ | refine zj0 ?_ | refine zf0 ?_ _)); refine blk_put (cs := #[.slice Ao27 x313000_1.length co27, .int .i64 x313001_1]) ?_ 0 _ rfl; (with_reducible repeat (first | refine zg0 ?_ _ | refine zj0 ?_ | refine zf0 ?_ _)); exact BK312.1) hg (Kd.R_ne HO_11.1 BK312.1 (by decide))); have n2_ := za0.mk (Kd.R_after (ok := (fun _ => True)) (by (with_reducible repeat (first | apply Kd.R_alloc | apply Kd.R_drewN | apply Kd.R_drew)); exact Kd.R_mono (Kd.R_far (p := ⟨gb312, 1, none⟩) (Kd.R_far (p := ⟨gb312, 0, none⟩) (Kd.R_types HO318.1 BK312.1 (by decide)) (fun _ hk => hk.2) (.slice Ao29 t316.length co29)) (fun _ hk => hk.2) (.int .i64 t319)) (fun _ hk => ⟨trivial, hk.1⟩)) hg hat); have n3_ := za0.mk (hb); have n4_ := za0.mk (ho); clear BK308; clear BK312; clear HO318; clear HB; clear HO_11; have BK308 := n0_; have BK312 := n1_; have HO318 := n2_; have HB := n3_; have HO323 := n4_; clear n0_ n1_ n2_ n3_ n4_; clear ho hb hg hat))
  go_roundg k1
  case measure => have := HK1.1; omega
  case rel => exact ⟨(y321), (t316), (t319), (.slice Ao29 t316.length co29), H', ⟨by have := HK1.1; omega⟩, ⟨by (with_reducible repeat (first | apply Kd.R_alloc | apply Kd.R_drewN | apply Kd.R_drew)); exact HO323.1⟩, ⟨by (with_reducible repeat (first | apply Kd.R_alloc | apply Kd.R_drewN | apply Kd.R_drew)); exact Kd.R_mono HO318.1 (fun _ hk => hk.2)⟩, ⟨by (with_reducible repeat (first | refine zg0 ?_ _ | refine zj0 ?_ | refine zf0 ?_ _)); exact BK308.1⟩, ⟨by (with_reducible repeat (first | refine zg0 ?_ _ | refine zj0 ?_ | refine zf0 ?_ _)); exact BK312.1⟩, ⟨by repeat (first | exact HB.1 | apply zc0 | apply zb0 | apply zd0 | refine ze0 ?_ GE308.1 | refine ze0 ?_ GE312.1)⟩⟩
def yp0.l0 : Nat → List Int → List Int → Int → Int → Option (Bool)
 | 0, _, _, _, _ => none
 | k + 1, x0, x1, x12, x13 => if x13 < x12 then (if 0 ≤ x13 then (if x13 < (x0.length : Int) then (if x13 < (x1.length : Int) then (if (rd x0 x13) = (rd x1 x13) then (yp0.l0 k x0 x1 x12 (wrap64 (x13 + 1))) else (some false)) else (none)) else (none)) else (none)) else (some true)
def yp0.f (k : Nat) (l0 : List Int) (l1 : List Int) : Option (Bool) := if (l0.length : Int) = (l1.length : Int) then (yp0.l0 k l0 l1 (l0.length : Int) 0) else (some false)
theorem yp0.mono_l : ∀ k, (∀ y0 y1 y2 y3, LeO (yp0.l0 k y0 y1 y2 y3) (yp0.l0 (k + 1) y0 y1 y2 y3))
 | 0 => fun _ _ _ _ r h => by simp [yp0.l0] at h
 | k + 1 => by
  have ih0 := yp0.mono_l k
  ·intro y0 y1 y2 y3
   unfold yp0.l0
   repeat' (with_reducible first | exact ih0 _ _ _ _ | exact LeO.refl _ | exact LeO.none _ | refine LeO.ite ?_ ?_ | refine LeO.bind ?_ (fun _ => ?_))
theorem yp0.mono : ∀ a0 a1 k, LeO (yp0.f k a0 a1) (yp0.f (k + 1) a0 a1) := by
 intro a0 a1 k
 have ih0 := yp0.mono_l k
 unfold yp0.f
 repeat' (with_reducible first | exact ih0 _ _ _ _ | exact LeO.refl _ | exact LeO.none _ | refine LeO.ite ?_ ?_ | refine LeO.bind ?_ (fun _ => ?_))
theorem yp0.calls (k : Nat) (A0 : Option Addr) (c0 : Nat) (l0 : List Int) (A1 : Option Addr) (c1 : Nat) (l1 : List Int) (r : Bool) (w : World) (hr0 : Kd.C (Kd.int .i64) w A0 l0.length l0) (hc0 : l0.length ≤ c0) (hr1 : Kd.C (Kd.int .i64) w A1 l1.length l1) (hc1 : l1.length ≤ c1) (h : yp0.f k l0 l1 = some r) :
  Calls Try.prog 57 #[.slice A0 l0.length c0, .slice A1 l1.length c1] w fun e w' => e = .returned (.bool r) ∧ zt0 w w' := by
 have HR0 := za0.mk hr0
 have HC0 := za0.mk hc0
 clear hr0 hc0
 have HR1 := za0.mk hr1
 have HC1 := za0.mk hc1
 clear hr1 hc1
 have H : (if (l0.length : Int) = (l1.length : Int) then (yp0.l0 k l0 l1 (l0.length : Int) 0) else (some false)) = some r := h
 clear h
 by_cases c3 : (l0.length : Int) = (l1.length : Int)
 rotate_left
 ·rw [if_neg c3] at H
  have c3b0 : ((l0.length : Int) == (l1.length : Int)) = false := beq_eq_false_iff_ne.mpr c3
  have c3b1 : ((l0.length : Int) != (l1.length : Int)) = true := bne_iff_ne.mpr c3
  have c3b2 : (l0.length == l1.length) = false := by first | simpa using c3 | (simp at c3 ⊢; omega)
  obtain rfl := Option.some.inj H
  go_enter Try.func57, Try.ntmps57
  go_wp2
  repeat (go_quiet (fail); try go_wp2)
  go_ret
  exact ⟨by first | rfl | (simp; done) | (simp [*]; done), by repeat (first | exact zt0.refl _ | apply zt0.step)⟩
 rw [if_pos c3] at H
 have c3b0 : ((l0.length : Int) == (l1.length : Int)) = true := beq_iff_eq.mpr c3
 have c3b1 : ((l0.length : Int) != (l1.length : Int)) = false := bne_eq_false_iff_eq.mpr c3
 have c3b2 : (l0.length == l1.length) = true := by first | simpa using c3 | (simp at c3 ⊢; omega)
 clear c3
 have H' := za0.mk H
 clear H
 go_enter Try.func57, Try.ntmps57
 go_wp2
 repeat (go_quiet (fail); try go_wp2)
 go_loopg [13] k (fun kq v13 w' => ∃ (x13_1 : Int), v13 = .int .i64 x13_1 ∧ za0 (yp0.l0 kq l0 l1 (l0.length : Int) x13_1 = some r) ∧ za0 (kq ≤ k) ∧ zt0 w w')
 case atStart => exact ⟨(0), (by first | rfl | (simp; done) | (simp [*]; done)), H', ⟨Nat.le_refl _⟩, by repeat (first | exact zt0.refl _ | apply zt0.step)⟩
 case round =>
  clear H'
  try clear c1
  try clear p2
  try clear c3
  try clear c3b0
  try clear c3b1
  try clear c3b2
  obtain ⟨x13_1, rfl, HA, HK1, ⟨m1, rfl⟩⟩ := hrel
  obtain _ | k1 := gk
  ·exact absurd HA.1 (by simp [yp0.l0])
  have H := HA.1
  clear HA
  simp only [yp0.l0] at H
  by_cases c4 : x13_1 < (l0.length : Int)
  rotate_left
  ·rw [if_neg c4] at H
   have c4b0 : decide (x13_1 < (l0.length : Int)) = false := decide_eq_false c4
   clear c4
   obtain rfl := Option.some.inj H
   go_wp2
   repeat (go_quiet (fail); try go_wp2)
   go_ret
   exact ⟨by first | rfl | (simp; done) | (simp [*]; done), by repeat (first | exact zt0.refl _ | apply zt0.step)⟩
  rw [if_pos c4] at H
  have c4b0 : decide (x13_1 < (l0.length : Int)) = true := decide_eq_true c4
  clear c4
  by_cases c5 : 0 ≤ x13_1
  rotate_left
  ·rw [if_neg c5] at H
   exact absurd H (by simp)
  rw [if_pos c5] at H
  have c5b0 : decide (0 ≤ x13_1) = true := decide_eq_true c5
  clear c5
  by_cases c6 : x13_1 < (l0.length : Int)
  rotate_left
  ·rw [if_neg c6] at H
   exact absurd H (by simp)
  rw [if_pos c6] at H
  have c6b0 : decide (x13_1 < (l0.length : Int)) = true := decide_eq_true c6
  clear c6
  by_cases c7 : x13_1 < (l1.length : Int)
  rotate_left
  ·rw [if_neg c7] at H
   exact absurd H (by simp)
  rw [if_pos c7] at H
  have c7b0 : decide (x13_1 < (l1.length : Int)) = true := decide_eq_true c7
  clear c7
  by_cases c8 : (rd l0 x13_1) = (rd l1 x13_1)
  rotate_left
  ·rw [if_neg c8] at H
   have c8b0 : ((rd l0 x13_1) == (rd l1 x13_1)) = false := beq_eq_false_iff_ne.mpr c8
   have c8b1 : ((rd l0 x13_1) != (rd l1 x13_1)) = true := bne_iff_ne.mpr c8
   obtain rfl := Option.some.inj H
   have p324 : 0 ≤ (x13_1 : Int) := of_decide_eq_true (by assumption)
   have q324 : x13_1 < (l0.length : Int) := of_decide_eq_true (by assumption)
   obtain ⟨ad324, e324, hx324_0⟩ := Kd.at_int HR0.1 x13_1 p324 q324
   cases e324
   replace p324 := eq_true p324
   replace q324 := eq_true q324
   have p325 : 0 ≤ (x13_1 : Int) := of_decide_eq_true (by assumption)
   have q325 : x13_1 < (l1.length : Int) := of_decide_eq_true (by assumption)
   obtain ⟨ad325, e325, hx325_0⟩ := Kd.at_int HR1.1 x13_1 p325 q325
   cases e325
   replace p325 := eq_true p325
   replace q325 := eq_true q325
   go_wp2
   repeat (go_quiet (fail); try go_wp2)
   go_ret
   exact ⟨by first | rfl | (simp; done) | (simp [*]; done), by repeat (first | exact zt0.refl _ | apply zt0.step)⟩
  rw [if_pos c8] at H
  have c8b0 : ((rd l0 x13_1) == (rd l1 x13_1)) = true := beq_iff_eq.mpr c8
  have c8b1 : ((rd l0 x13_1) != (rd l1 x13_1)) = false := bne_eq_false_iff_eq.mpr c8
  clear c8
  have H' := za0.mk H
  clear H
  have p324 : 0 ≤ (x13_1 : Int) := of_decide_eq_true (by assumption)
  have q324 : x13_1 < (l0.length : Int) := of_decide_eq_true (by assumption)
  obtain ⟨ad324, e324, hx324_0⟩ := Kd.at_int HR0.1 x13_1 p324 q324
  cases e324
  replace p324 := eq_true p324
  replace q324 := eq_true q324
  have p325 : 0 ≤ (x13_1 : Int) := of_decide_eq_true (by assumption)
  have q325 : x13_1 < (l1.length : Int) := of_decide_eq_true (by assumption)
  obtain ⟨ad325, e325, hx325_0⟩ := Kd.at_int HR1.1 x13_1 p325 q325
  cases e325
  replace p325 := eq_true p325
  replace q325 := eq_true q325
  go_wp2
  repeat (go_quiet (fail); try go_wp2)
  go_roundg k1
  case measure => have := HK1.1; omega
  case rel => exact ⟨(wrap64 (x13_1 + 1)), (by first | rfl | (simp; done) | (simp [*]; done)), H', ⟨by have := HK1.1; omega⟩, by repeat (first | exact zt0.refl _ | apply zt0.step)⟩
def ye0.l0 : Nat → Int → List Int → Int → List (List Int) → List (List Int) → Option ((List (List Int)))
 | 0, _, _, _, _, _ => none
 | k + 1, x1, x2, x3, x9, x327000 => if 0 ≤ (wrap64 ((x9.length : Int) - 1)) then (if (wrap64 ((x9.length : Int) - 1)) < (x9.length : Int) then ((yn0.f k x327000 x1 (rd_L1 x9 (wrap64 ((x9.length : Int) - 1))) x3).bind fun bt334 => (if (bt334.2.length : Int) = 0 then (some ([] : List (List Int))) else ((yp0.f k bt334.1 x2).bind fun t340 => (if t340 = true then (some x9) else (if x9.length < 5864062014805 then (ye0.l0 k x1 x2 x3 (x9 ++ [bt334.1]) x327000) else (none)))))) else (none)) else (none)
def ye0.f (k : Nat) (l0_0 : List (List Int)) (a1 : Int) (l2 : List Int) (a3 : Int) : Option ((List (List Int))) := (yf1.f l2).bind fun t327 => (ye0.l0 k a1 l2 a3 (([t327] : List (List Int))) l0_0)
theorem ye0.mono_l : ∀ k, (∀ y0 y1 y2 y3 y4, LeO (ye0.l0 k y0 y1 y2 y3 y4) (ye0.l0 (k + 1) y0 y1 y2 y3 y4))
 | 0 => fun _ _ _ _ _ r h => by simp [ye0.l0] at h
 | k + 1 => by
  have ih0 := ye0.mono_l k
  ·intro y0 y1 y2 y3 y4
   unfold ye0.l0
   repeat' (with_reducible first | exact ih0 _ _ _ _ _ | exact yn0.mono _ _ _ _ _ | exact yp0.mono _ _ _ | exact LeO.refl _ | exact LeO.none _ | refine LeO.ite ?_ ?_ | refine LeO.bind ?_ (fun _ => ?_))
theorem ye0.mono : ∀ a0 a1 a2 a3 k, LeO (ye0.f k a0 a1 a2 a3) (ye0.f (k + 1) a0 a1 a2 a3) := by
 intro a0 a1 a2 a3 k
 have ih0 := ye0.mono_l k
 unfold ye0.f
 repeat' (with_reducible first | exact ih0 _ _ _ _ _ | exact yn0.mono _ _ _ _ _ | exact yp0.mono _ _ _ | exact LeO.refl _ | exact LeO.none _ | refine LeO.ite ?_ ?_ | refine LeO.bind ?_ (fun _ => ?_))
def ye0.T2 : Bool × List (List Nat × List Nat) := (true, [([], []), ([], []), ([], []), ([], []), ([3], [3]), ([4], [4]), ([2, 5], [2, 5]), ([6], [6]), ([], []), ([0, 1, 7, 8], [0, 1, 7, 8]), ([9], [9]), ([10], [10]), ([10], [10]), ([11, 9, 0, 1, 2, 3, 4, 5, 6, 7, 8, 9, 10, 11], [11]), ([12, 13, 0, 1, 2, 3, 4, 5, 6, 7, 8, 9, 10, 11, 12, 13], [12])])
def ye0.B2 : List Nat := [0, 0, 0, 0, 8, 24, 60, 124, 0, 511, 1023, 2047, 2047, 4095, 16383]
theorem ye0.tab2 : rtab .any (opsOf Try.f36 2) = ye0.T2 := by kernel_rfl
theorem ye0.bits2 : waitsOk ye0.T2.2 ye0.B2 = true := by kernel_rfl
theorem ye0.calls (k : Nat) (A0_0 : Option Addr) (c0_0 : Nat) (l0_0 : List (List Int)) (a1 : Int) (A2 : Option Addr) (c2 : Nat) (l2 : List Int) (a3 : Int) (r : List (List Int)) (w : World) (hr0_0 : Kd.C (Kd.slice 3 (Kd.int .i64)) w A0_0 l0_0.length l0_0) (hc0_0 : l0_0.length ≤ c0_0) (hr2 : Kd.C (Kd.int .i64) w A2 l2.length l2) (hc2 : l2.length ≤ c2) (h : ye0.f k l0_0 a1 l2 a3 = some r) :
  Calls Try.prog 36 #[.agg #[.slice A0_0 l0_0.length c0_0], .int .i64 a1, .slice A2 l2.length c2, .int .i64 a3] w fun e w' => ∃ v0_ : Value, e = .returned (v0_) ∧ Kd.N (Kd.slice 3 (Kd.int .i64)) 25 w' w.heap.size (fun k_ => (w.heap.size ≤ k_)) v0_ r ∧ Below w.heap.size w w' := by
 have hu29 := Try.underlying29
 have HR0_0 := za0.mk hr0_0
 have HC0_0 := za0.mk hc0_0
 clear hr0_0 hc0_0
 have HR2 := za0.mk hr2
 have HC2 := za0.mk hc2
 clear hr2 hc2
 have HB := za0.mk (Below.refl w.heap.size w)
 have H : ((yf1.f l2).bind fun t327 => (ye0.l0 k a1 l2 a3 (([t327] : List (List Int))) l0_0)) = some r := h
 clear h
 replace H := Option.bind_eq_some_iff.mp H
 obtain ⟨t327, A50, H⟩ := H
 replace H : (ye0.l0 k a1 l2 a3 (([t327] : List (List Int))) l0_0) = some r := H
 have A5 := za0.mk A50
 clear A50
 obtain ⟨y330, hy330⟩ : ∃ y_ : List (List Int), y_ = (([t327] : List (List Int))) := ⟨_, rfl⟩
 replace H : (ye0.l0 k a1 l2 a3 y330 l0_0) = some r := by first | (rw [hy330]; with_reducible exact H) | (have H2_ := (Option.bind_some _ _).symm.trans H; rw [hy330]; with_reducible exact H2_) | (have H2_ := (Option.bind_some _ _).symm.trans H; with_reducible exact H2_) | with_reducible exact H | (rw [hy330]; exact H) | exact H
 have Ny330 := za0.mk hy330
 clear hy330
 have H' := za0.mk H
 clear H
 go_enter Try.func36, Try.ntmps36
 go_wp2_with (first | ((with_reducible refine zo0 (N := 4) rfl ?_); refine zp0 ?hg (N := 4) ?hd (cs := #[.slice A0_0 l0_0.length c0_0]) (t := 29) ?hr ?_; (case hd | hg => rfl); (case hr => go_simp <;> rfl); intro gb326 hg w6 hbox hb; have n0_ := za0.mk (zi0 (by repeat (first | exact HB.1 | apply zc0 | apply zb0 | apply zd0)) hb); have n1_ := za0.mk (hbox); have n2_ := za0.mk ((by rw [hg]; exact (zh0 (by repeat (first | exact HB.1 | apply zc0 | apply zb0 | apply zd0))) : w.heap.size ≤ gb326)); have n3_ := za0.mk ((by rw [hg]; exact (zh0 (by repeat (first | exact HB.1 | apply zc0 | apply zb0 | apply zd0))) : w.heap.size ≤ gb326)); clear HB; have HB := n0_; have BK326 := n1_; have GW326 := n2_; have GE326 := n3_; clear n0_ n1_ n2_ n3_; clear hb hbox hg) | ((with_reducible refine zn0 (f := 46) rfl ?_); refine za1 (some 13) rfl rfl Try.func46 (by kernel_rfl) rfl #[.slice A2 l2.length c2] rfl (by (try simp only [List.map_toArray, List.map_cons, List.map_nil]); first | done | rfl | (simp only [List.length_drop, List.length_take]; rfl)) ?_; (with_reducible refine (yf1.calls _ _ l2 t327 _ ?side1 ?side2 A5.1).mono ?_); (case side1 => repeat (first | exact (Kd.C_below HR2.1 HB.1) | with_reducible first | refine Kd.C_alloc ?_ _ | refine Kd.C_drewN ?_ _ | refine Kd.C_drew ?_)); (case side2 => exact HC2.1); rintro e w7 ⟨v328, rfl, ho0, hb⟩; refine ⟨_, rfl, ?_⟩; have n0_ := za0.mk (Kd.R_lower (Kd.R_newM (M := fun k_ => (w.heap.size ≤ k_)) ho0 (zh0 (by repeat (first | exact HB.1 | apply zc0 | apply zb0 | apply zd0 | refine ze0 ?_ GE326.1))) (fun k_ h_ => h_)) (zh0 (by repeat (first | exact HB.1 | apply zc0 | apply zb0 | apply zd0 | refine ze0 ?_ GE326.1)))); have n1_ := za0.mk (zm0 (g := gb326) (o := .cells #[.slice A0_0 l0_0.length c0_0] 29 (0, 0)) (by (with_reducible repeat (first | refine zg0 ?_ _ | refine zj0 ?_ | refine zf0 ?_ _)); exact BK326.1) hb); have n2_ := za0.mk (zi0 (by repeat (first | exact HB.1 | apply zc0 | apply zb0 | apply zd0 | refine ze0 ?_ GE326.1)) hb); clear BK326; clear HB; have HO329 := n0_; have BK326 := n1_; have HB := n2_; clear n0_ n1_ n2_; (try clear hb); (try clear hb2); (try clear hk); (try clear hi); (try clear ho0); obtain ⟨Ao8, co8, eo8⟩ := Kd.R_slice HO329.1; subst eo8) | ((with_reducible refine zo0 (N := 14) rfl ?_); refine Kd.N_lit (Kd.slice 3 (Kd.int .i64)) _ 25 ?hg (N' := 14) ?hd (xs := ([t327] : List (List Int))) (inner := [.slice Ao8 t327.length co8]) (ok := (fun k_ => (w.heap.size ≤ k_) ∧ k_ ≠ gb326)) (okp := (fun k_ => (w.heap.size ≤ k_) ∧ k_ ≠ gb326)) ?hr ?hp (fun _ hk => hk) ((show ∀ k_, w7.heap.size ≤ k_ → (fun k_ => (w.heap.size ≤ k_) ∧ k_ ≠ gb326) k_ from fun k_ hk => ⟨(Nat.le_trans (zh0 (by repeat (first | exact HB.1 | apply zc0 | apply zb0 | apply zd0 | refine ze0 ?_ GE326.1))) hk), Kd.freshB (g := gb326) (o := .cells #[.slice A0_0 l0_0.length c0_0] 29 (0, 0)) (by (with_reducible repeat (first | refine zg0 ?_ _ | refine zj0 ?_ | refine zf0 ?_ _)); exact BK326.1) k_ hk⟩) _ (Nat.le_refl _)) (Below.refl _ _) (Nat.le_refl _) (by simp) ?_; (case hd | hg => rfl); (case hr => go_simp <;> rfl); (case hp => exact (Reps.one (show Kd.FK (Kd.slice 3 (Kd.int .i64)) _ _ t327 [.slice Ao8 t327.length co8] from (Kd.FK_slice_mk (Kd.R_reads' (Kd.R_mono (ok' := (fun k_ => (w.heap.size ≤ k_) ∧ k_ ≠ gb326)) (Kd.R_types (HO329.1) BK326.1 (by decide)) (fun k_ hk => ⟨hk.1.1, hk.2⟩))).2.1 (Kd.R_F (Kd.R_mono (ok' := (fun k_ => (w.heap.size ≤ k_) ∧ k_ ≠ gb326)) (Kd.R_types (HO329.1) BK326.1 (by decide)) (fun k_ hk => ⟨hk.1.1, hk.2⟩))))) (Reps.none _ _))); intro v331 w9 ho10 hb hg_ hnew_; clear hg_ hnew_; (first | rw [← Ny330.1] at ho10 | (simp only [Int.reduceToNat] at ho10; rw [← Ny330.1] at ho10)); have n0_ := za0.mk (Kd.N_lower ho10 (zh0 (by repeat (first | exact HB.1 | apply zc0 | apply zb0 | apply zd0 | refine ze0 ?_ GE326.1)))); have n1_ := za0.mk (zm0 (g := gb326) (o := .cells #[.slice A0_0 l0_0.length c0_0] 29 (0, 0)) (by (with_reducible repeat (first | refine zg0 ?_ _ | refine zj0 ?_ | refine zf0 ?_ _)); exact BK326.1) hb); have n2_ := za0.mk (zi0 (by repeat (first | exact HB.1 | apply zc0 | apply zb0 | apply zd0 | refine ze0 ?_ GE326.1)) hb); clear BK326; clear HB; clear HO329; have HO332 := n0_; have BK326 := n1_; have HB := n2_; clear n0_ n1_ n2_; clear hb ho10))
 go_loopg [9] k (fun kq v9 w' => ∃ (x9_1 : List (List Int)), za0 (ye0.l0 kq a1 l2 a3 x9_1 l0_0 = some r) ∧ za0 (kq ≤ k) ∧ za0 (Kd.N (Kd.slice 3 (Kd.int .i64)) 25 w' w.heap.size (fun k_ => (w.heap.size ≤ k_) ∧ k_ ≠ gb326) v9 x9_1) ∧ za0 (w'.heap[gb326]? = some (.cells #[(.slice A0_0 l0_0.length c0_0)] 29 (0, 0))) ∧ za0 (Below w.heap.size w w'))
 case atStart => exact ⟨(y330), H', ⟨Nat.le_refl _⟩, ⟨by (with_reducible repeat (first | apply Kd.N_alloc | apply Kd.N_drewN | apply Kd.N_drew)); exact HO332.1⟩, ⟨by (with_reducible repeat (first | refine zg0 ?_ _ | refine zj0 ?_ | refine zf0 ?_ _)); exact BK326.1⟩, ⟨by repeat (first | exact HB.1 | apply zc0 | apply zb0 | apply zd0 | refine ze0 ?_ GE326.1)⟩⟩
 case round =>
  clear H'
  try clear c2
  try clear p2
  try clear c3
  try clear c4
  obtain ⟨x9_1, HA, HK1, HO_9, BK326, HB⟩ := hrel
  obtain _ | k1 := gk
  ·exact absurd HA.1 (by simp [ye0.l0])
  have H := HA.1
  clear HA
  simp only [ye0.l0] at H
  obtain ⟨ji11, hji11⟩ : ∃ j_ : Int, (wrap64 ((x9_1.length : Int) - 1)) = j_ := ⟨_, rfl⟩
  replace H : (if 0 ≤ (ji11) then (if (ji11) < (x9_1.length : Int) then ((yn0.f k1 l0_0 a1 (rd_L1 x9_1 (ji11)) a3).bind fun bt334 => (if (bt334.2.length : Int) = 0 then (some ([] : List (List Int))) else ((yp0.f k1 bt334.1 l2).bind fun t340 => (if t340 = true then (some x9_1) else (if x9_1.length < 5864062014805 then (ye0.l0 k1 a1 l2 a3 (x9_1 ++ [bt334.1]) l0_0) else (none)))))) else (none)) else (none)) = some r := by first | (rw [hji11] at H; exact H) | (simp only [hji11] at H ⊢; exact H)
  have hji11w : (IntKind.i64.wrap ((x9_1.length : Int) - 1)) = ji11 := (i64_w _).trans hji11
  by_cases c12 : 0 ≤ (ji11)
  rotate_left
  ·rw [if_neg c12] at H
   exact absurd H (by simp)
  rw [if_pos c12] at H
  have c12b0 : decide (0 ≤ (ji11)) = true := decide_eq_true c12
  clear c12
  by_cases c13 : (ji11) < (x9_1.length : Int)
  rotate_left
  ·rw [if_neg c13] at H
   exact absurd H (by simp)
  rw [if_pos c13] at H
  have c13b0 : decide ((ji11) < (x9_1.length : Int)) = true := decide_eq_true c13
  clear c13
  replace H := Option.bind_eq_some_iff.mp H
  obtain ⟨⟨t334, t337⟩, A140, H⟩ := H
  replace H : (if (t337.length : Int) = 0 then (some ([] : List (List Int))) else ((yp0.f k1 t334 l2).bind fun t340 => (if t340 = true then (some x9_1) else (if x9_1.length < 5864062014805 then (ye0.l0 k1 a1 l2 a3 (x9_1 ++ [t334]) l0_0) else (none))))) = some r := H
  have A14 := za0.mk A140
  clear A140
  by_cases c15 : (t337.length : Int) = 0
  ·rw [if_pos c15] at H
   have c15b0 : ((t337.length : Int) == 0) = true := beq_iff_eq.mpr c15
   have c15b1 : ((t337.length : Int) != 0) = false := bne_eq_false_iff_eq.mpr c15
   clear c15
   obtain rfl := Option.some.inj H
   try go_wp2
   have n0_ := za0.mk (Kd.N_drew HO_9.1)
   have n1_ := za0.mk (zj0 BK326.1)
   have n2_ := za0.mk (zd0 HB.1)
   clear HO_9 BK326 HB
   have HO_9 := n0_
   have BK326 := n1_
   have HB := n2_
   clear n0_ n1_ n2_
   obtain ⟨Ao17, co17, eo17⟩ := Kd.N_slice HO_9.1
   (first | subst eo17 | (injection eo17 with f1_ f2_ f3_; have f4_ := f1_.symm; have f5_ := f3_.symm; clear f1_ f2_ f3_; subst f4_; subst f5_))
   have p333 : 0 ≤ ((ji11) : Int) := of_decide_eq_true (by assumption)
   have q333 : (ji11) < (x9_1.length : Int) := of_decide_eq_true (by assumption)
   obtain ⟨ad333, A333_0, c333_0, e333, hx333_0, hl333_0, hi333_0⟩ := at_L1 (Kd.N_reads' HO_9.1).2.2 (ji11) p333 q333
   cases e333
   obtain ⟨ce333, hce333, hMe333, hcc333⟩ := Kd.N_get HO_9.1 [] (ji11) p333 (by first | exact q333 | exact of_decide_eq_true (by assumption) | (have e_ := (Kd.N_reads' HO_9.1).1; omega))
   obtain ⟨ua333_0, uc333_0, rfl, ul333_0, ge333_0⟩ := Kd.FK_slice_open hMe333
   have hv333_0 := hcc333 0 _ rfl
   rw [Nat.add_zero, show ((Kd.slice 3 (Kd.int .i64))).sz = 1 from rfl, Nat.mul_one] at hv333_0
   replace hv333_0 := Option.some.inj (hv333_0.symm.trans hx333_0)
   injection hv333_0 with hva_ hvn_ hvc_
   rw [hva_] at ge333_0
   rw [hvc_] at ul333_0
   have HL333_0 := za0.mk (show Kd.V (Kd.int .i64) 3 _ w.heap.size _ _ (rd_L1 x9_1 (ji11)) from Kd.V_mk ul333_0 ge333_0)
   clear hva_ hvn_ hvc_ ge333_0 ul333_0 hcc333 hce333
   have HR333_0 := za0.mk hi333_0
   have HC333_0 := za0.mk hl333_0
   clear hi333_0 hl333_0
   replace p333 := eq_true p333
   replace q333 := eq_true q333
   refine start_ (n := 15) (S := fun w' => w'.cell? ⟨gb326, 0, none⟩ = some (.slice A0_0 l0_0.length c0_0) ∧ w'.cell? (ad333.add ((ji11)).toNat) = some (.slice A333_0 (rd_L1 x9_1 (ji11)).length c333_0)) (ds := []) #[false, false, false, false, false, false, false, false, false, false, false, false, false, false, false] (by kernel_rfl) rfl rfl ⟨(zl0 BK326.1 0).trans rfl, hx333_0⟩ (fun hHeld => ?_); refine with_tabW ye0.tab2 ye0.bits2 (fun HT_ HW_ => ?_)
   generalize wr.drew = w16 at HO_9 BK326 HB HL333_0 HR333_0 hx333_0 hHeld ⊢
   refine pv 1 (some 17) (v := ?_) (a' := ?_) (bf 15 2) HT_ ?_ ?_ ?_
   rotate_left
   ·intro w'; go_simp; with_reducible rfl
   rotate_left
   ·simp only [Act.put, zA, zB, zC, i64_w, i32_w]; rfl
   refine pv 2 (some 18) (v := ?_) (a' := ?_) (bf 15 6) HT_ ?_ ?_ ?_
   rotate_left
   ·intro w'; go_simp; with_reducible rfl
   rotate_left
   ·simp only [Act.put, zA, zB, zC, i64_w, i32_w]; rfl
   refine pv 3 (some 19) (v := ?_) (a' := ?_) (bf 15 14) HT_ ?_ ?_ ?_
   rotate_left
   ·intro w'; go_simp; with_reducible rfl
   rotate_left
   ·simp only [Act.put, zA, zB, zC, i64_w, i32_w]; rfl
   refine pv 4 (some 20) (v := ?_) (a' := ?_) (bf 15 30) HT_ ?_ ?_ ?_
   rotate_left
   ·intro w'; go_simp; with_reducible rfl
   rotate_left
   ·simp only [Act.put, zA, zB, zC, i64_w, i32_w]; rfl
   refine pv 5 (some 21) (v := ?_) (a' := ?_) (bf 15 62) HT_ ?_ ?_ ?_
   rotate_left
   ·intro w'; go_simp; with_reducible rfl
   rotate_left
   ·simp only [Act.put, zA, zB, zC, i64_w, i32_w]; rfl
   refine pv 6 (some 22) (v := ?_) (a' := ?_) (bf 15 126) HT_ ?_ ?_ ?_
   rotate_left
   ·intro w'; go_simp; with_reducible rfl
   rotate_left
   ·simp only [Act.put, zA, zB, zC, i64_w, i32_w]; rfl
   refine pv 8 (some 24) (v := ?_) (a' := ?_) (bf 15 382) HT_ ?_ ?_ ?_
   rotate_left
   ·intro w'; go_simp; with_reducible rfl
   rotate_left
   ·simp only [Act.put, zA, zB, zC, i64_w, i32_w]; rfl
   refine take_ (i := 0) (N := some 16) (v := ?_) (a' := ?_) (bf 15 383) rfl rfl (take_ofW HT_.1 HW_.1 (by kernel_rfl)) (fun _ _ _ h => h) (Or.inl ⟨by rfl, ?_⟩) hHeld ?_ ?_
   rotate_left
   ·rintro w' ⟨s0, s1⟩; go_simp; with_reducible rfl
   rotate_left
   ·simp only [Act.put, zA, zB, zC, i64_w, i32_w]; rfl
   refine take_ (i := 7) (N := some 23) (v := ?_) (a' := ?_) (bf 15 511) rfl rfl (take_ofW HT_.1 HW_.1 (by kernel_rfl)) (fun _ _ _ h => h) (Or.inl ⟨by rfl, ?_⟩) hHeld ?_ ?_
   rotate_left
   ·rintro w' ⟨s0, s1⟩; go_simp; with_reducible rfl
   rotate_left
   ·simp only [Act.put, zA, zB, zC, i64_w, i32_w]; rfl
   refine one_ (i := 9) (N := some 25) (bf 15 1023) rfl rfl (one_of HT_.1 (by kernel_rfl)) (by decide) (fun K hK => ?_)
   refine goes_ Try.func29 (by kernel_rfl) rfl #[.agg #[.slice A0_0 l0_0.length c0_0], .int .i64 a1, .slice A333_0 (rd_L1 x9_1 (ji11)).length c333_0, .int .i64 a3] (by rfl) rfl rfl (by (try simp only [List.map_toArray, List.map_cons, List.map_nil]); first | done | (simp only [hji11]; rfl) | rfl | (simp only [List.length_drop, List.length_take]; rfl)) ?_
   with_reducible refine (yn0.calls k1 _ _ l0_0 a1 _ _ (rd_L1 x9_1 (ji11)) a3 t334 t337 _ ?side1 ?side2 ?side3 ?side4 A14.1).mono ?_
   (case side1 => repeat (first | exact (Kd.C_below HR0_0.1 HB.1) | with_reducible first | refine Kd.C_alloc ?_ _ | refine Kd.C_drewN ?_ _ | refine Kd.C_drew ?_))
   (case side2 => exact HC0_0.1)
   (case side3 => repeat (first | exact (by repeat (first | (with_reducible exact HR333_0.1) | (with_reducible refine Kd.C_alloc ?_ _) | (with_reducible refine Kd.C_drewN ?_ _) | (with_reducible refine Kd.C_drew ?_) | exact HR333_0.1)) | (with_reducible refine Kd.C_alloc ?_ _) | (with_reducible refine Kd.C_drewN ?_ _) | (with_reducible refine Kd.C_drew ?_)))
   (case side4 => exact HC333_0.1)
   rintro e w18 ⟨v335, v338, rfl, ho0, ho1, hb⟩
   have HS1_ := (hb.cell (World.block_lt_of_cell? _ _ (hHeld.2))).trans (hHeld.2)
   refine ⟨_, rfl, ?_⟩
   have n0_ := za0.mk (Kd.N_mono (Kd.N_told (Kd.N_told (Kd.N_old (by (with_reducible repeat (first | apply Kd.N_alloc | apply Kd.N_drewN | apply Kd.N_drew)); exact HO_9.1) hb) (Kd.R_base ho0)) (Kd.R_base ho1)) (fun _ h_ => h_.1))
   have n1_ := za0.mk (Kd.V_mono (Kd.V_told (Kd.V_told (Kd.V_old (by (with_reducible repeat (first | apply Kd.V_alloc | apply Kd.V_drewN | apply Kd.V_drew)); exact HL333_0.1) hb) (Kd.R_base ho0)) (Kd.R_base ho1)) (fun _ h_ => h_.1))
   have n2_ := za0.mk (Kd.R_lower (Kd.R_newM (M := fun k_ => (w.heap.size ≤ k_)) ho0 (zh0 (by repeat (first | exact HB.1 | apply zc0 | apply zb0 | apply zd0 | refine ze0 ?_ GE326.1))) (fun k_ h_ => h_)) (zh0 (by repeat (first | exact HB.1 | apply zc0 | apply zb0 | apply zd0 | refine ze0 ?_ GE326.1))))
   have n3_ := za0.mk (Kd.R_lower (Kd.R_newM (M := fun k_ => (w.heap.size ≤ k_)) ho1 (zh0 (by repeat (first | exact HB.1 | apply zc0 | apply zb0 | apply zd0 | refine ze0 ?_ GE326.1))) (fun k_ h_ => h_)) (zh0 (by repeat (first | exact HB.1 | apply zc0 | apply zb0 | apply zd0 | refine ze0 ?_ GE326.1))))
   have n4_ := za0.mk (zm0 (g := gb326) (o := .cells #[.slice A0_0 l0_0.length c0_0] 29 (0, 0)) (by (with_reducible repeat (first | refine zg0 ?_ _ | refine zj0 ?_ | refine zf0 ?_ _)); exact BK326.1) hb)
   have n5_ := za0.mk (Kd.C_below (by repeat (first | (with_reducible exact HR333_0.1) | (with_reducible refine Kd.C_alloc ?_ _) | (with_reducible refine Kd.C_drewN ?_ _) | (with_reducible refine Kd.C_drew ?_) | exact HR333_0.1)) hb)
   have n6_ := za0.mk (zi0 (by repeat (first | exact HB.1 | apply zc0 | apply zb0 | apply zd0 | refine ze0 ?_ GE326.1)) hb)
   clear HO_9 HL333_0 BK326 HR333_0 HB
   have HO_9 := n0_
   have HL333_0 := n1_
   have HO336 := n2_
   have HO339 := n3_
   have BK326 := n4_
   have HR333_0 := n5_
   have HB := n6_
   clear n0_ n1_ n2_ n3_ n4_ n5_ n6_
   (try clear hb)
   (try clear hb2)
   (try clear hk)
   (try clear hi)
   (try clear ho0)
   (try clear ho1)
   refine hK.out _ _ ⟨(zl0 BK326.1 0).trans rfl, HS1_⟩ (fun hHeld => ?_)
   clear hK K
   refine norm_ (a' := ?_) ?_ ?_
   rotate_left
   ·show Act.put _ (some 25) _ = _; simp only [Act.put, zA, zB, zC, i64_w, i32_w]; rfl
   refine pv 10 (some 15) (v := ?_) (a' := ?_) (bf 15 2047) HT_ ?_ ?_ ?_
   rotate_left
   ·intro w'; go_simp; with_reducible rfl
   rotate_left
   ·simp only [Act.put, zA, zB, zC, i64_w, i32_w]; rfl
   refine pv 11 (some 26) (v := ?_) (a' := ?_) (bf 15 4095) HT_ ?_ ?_ ?_
   rotate_left
   ·intro w'; go_simp; with_reducible rfl
   rotate_left
   ·simp only [Act.put, zA, zB, zC, i64_w, i32_w]; rfl
   refine pv 12 (some 27) (v := ?_) (a' := ?_) (bf 15 8191) HT_ ?_ ?_ ?_
   rotate_left
   ·intro w'; go_simp; with_reducible rfl
   rotate_left
   ·simp only [Act.put, zA, zB, zC, i64_w, i32_w]; rfl
   refine pv 13 (some 10) (v := ?_) (a' := ?_) (bf 15 16383) HT_ ?_ ?_ ?_
   rotate_left
   ·intro w'; go_simp; with_reducible rfl
   rotate_left
   ·simp only [Act.put, zA, zB, zC, i64_w, i32_w]; rfl
   refine pv 14 (some 11) (v := ?_) (a' := ?_) (bf 15 32767) HT_ ?_ ?_ ?_
   rotate_left
   ·intro w'; go_simp; with_reducible rfl
   rotate_left
   ·simp only [Act.put, zA, zB, zC, i64_w, i32_w]; rfl
   refine done_ (done_of HT_.1 (by kernel_rfl)) ?_
   obtain ⟨Ao19, co19, eo19⟩ := Kd.R_slice HO339.1
   subst eo19
   try go_wp2
   go_ret
   exact ⟨_, by first | rfl | (simp [errW_none, errW_some] <;> rfl) | (simp only [← hji11]; first | rfl | (simp [errW_none, errW_some] <;> rfl)) | (simp [*, errW_none, errW_some] <;> rfl), by first | exact Kd.S_nil _ _ _ _ _ | exact Kd.N_nil _ _ _ _ _ | exact Kd.V_nil _ _ _ _ _ | exact Kd.Q_nil _ _ _ _ _ | exact Kd.R_nil _ _ _ _ _, by repeat (first | exact HB.1 | apply zc0 | apply zb0 | apply zd0 | refine ze0 ?_ GE326.1)⟩
  rw [if_neg c15] at H
  have c15b0 : ((t337.length : Int) == 0) = false := beq_eq_false_iff_ne.mpr c15
  have c15b1 : ((t337.length : Int) != 0) = true := bne_iff_ne.mpr c15
  have c15b2 : ¬ (t337 = []) := fun h_ => c15 (by rw [h_]; rfl)
  replace H := Option.bind_eq_some_iff.mp H
  obtain ⟨t340, A200, H⟩ := H
  replace H : (if t340 = true then (some x9_1) else (if x9_1.length < 5864062014805 then (ye0.l0 k1 a1 l2 a3 (x9_1 ++ [t334]) l0_0) else (none))) = some r := H
  have A20 := za0.mk A200
  clear A200
  by_cases c21 : t340 = true
  ·subst c21
   have H1 : (some x9_1) = some r := by rw [if_pos rfl] at H; exact H
   clear H
   have H := H1
   clear H1
   obtain rfl := Option.some.inj H
   try go_wp2
   have n0_ := za0.mk (Kd.N_drew HO_9.1)
   have n1_ := za0.mk (zj0 BK326.1)
   have n2_ := za0.mk (zd0 HB.1)
   clear HO_9 BK326 HB
   have HO_9 := n0_
   have BK326 := n1_
   have HB := n2_
   clear n0_ n1_ n2_
   obtain ⟨Ao23, co23, eo23⟩ := Kd.N_slice HO_9.1
   (first | subst eo23 | (injection eo23 with f1_ f2_ f3_; have f4_ := f1_.symm; have f5_ := f3_.symm; clear f1_ f2_ f3_; subst f4_; subst f5_))
   have p333 : 0 ≤ ((ji11) : Int) := of_decide_eq_true (by assumption)
   have q333 : (ji11) < (x9_1.length : Int) := of_decide_eq_true (by assumption)
   obtain ⟨ad333, A333_0, c333_0, e333, hx333_0, hl333_0, hi333_0⟩ := at_L1 (Kd.N_reads' HO_9.1).2.2 (ji11) p333 q333
   cases e333
   obtain ⟨ce333, hce333, hMe333, hcc333⟩ := Kd.N_get HO_9.1 [] (ji11) p333 (by first | exact q333 | exact of_decide_eq_true (by assumption) | (have e_ := (Kd.N_reads' HO_9.1).1; omega))
   obtain ⟨ua333_0, uc333_0, rfl, ul333_0, ge333_0⟩ := Kd.FK_slice_open hMe333
   have hv333_0 := hcc333 0 _ rfl
   rw [Nat.add_zero, show ((Kd.slice 3 (Kd.int .i64))).sz = 1 from rfl, Nat.mul_one] at hv333_0
   replace hv333_0 := Option.some.inj (hv333_0.symm.trans hx333_0)
   injection hv333_0 with hva_ hvn_ hvc_
   rw [hva_] at ge333_0
   rw [hvc_] at ul333_0
   have HL333_0 := za0.mk (show Kd.V (Kd.int .i64) 3 _ w.heap.size _ _ (rd_L1 x9_1 (ji11)) from Kd.V_mk ul333_0 ge333_0)
   clear hva_ hvn_ hvc_ ge333_0 ul333_0 hcc333 hce333
   have HR333_0 := za0.mk hi333_0
   have HC333_0 := za0.mk hl333_0
   clear hi333_0 hl333_0
   replace p333 := eq_true p333
   replace q333 := eq_true q333
   refine start_ (n := 15) (S := fun w' => w'.cell? ⟨gb326, 0, none⟩ = some (.slice A0_0 l0_0.length c0_0) ∧ w'.cell? (ad333.add ((ji11)).toNat) = some (.slice A333_0 (rd_L1 x9_1 (ji11)).length c333_0)) (ds := []) #[false, false, false, false, false, false, false, false, false, false, false, false, false, false, false] (by kernel_rfl) rfl rfl ⟨(zl0 BK326.1 0).trans rfl, hx333_0⟩ (fun hHeld => ?_); refine with_tabW ye0.tab2 ye0.bits2 (fun HT_ HW_ => ?_)
   generalize wr.drew = w22 at HO_9 BK326 HB HL333_0 HR333_0 hx333_0 hHeld ⊢
   refine pv 1 (some 17) (v := ?_) (a' := ?_) (bf 15 2) HT_ ?_ ?_ ?_
   rotate_left
   ·intro w'; go_simp; with_reducible rfl
   rotate_left
   ·simp only [Act.put, zA, zB, zC, i64_w, i32_w]; rfl
   refine pv 2 (some 18) (v := ?_) (a' := ?_) (bf 15 6) HT_ ?_ ?_ ?_
   rotate_left
   ·intro w'; go_simp; with_reducible rfl
   rotate_left
   ·simp only [Act.put, zA, zB, zC, i64_w, i32_w]; rfl
   refine pv 3 (some 19) (v := ?_) (a' := ?_) (bf 15 14) HT_ ?_ ?_ ?_
   rotate_left
   ·intro w'; go_simp; with_reducible rfl
   rotate_left
   ·simp only [Act.put, zA, zB, zC, i64_w, i32_w]; rfl
   refine pv 4 (some 20) (v := ?_) (a' := ?_) (bf 15 30) HT_ ?_ ?_ ?_
   rotate_left
   ·intro w'; go_simp; with_reducible rfl
   rotate_left
   ·simp only [Act.put, zA, zB, zC, i64_w, i32_w]; rfl
   refine pv 5 (some 21) (v := ?_) (a' := ?_) (bf 15 62) HT_ ?_ ?_ ?_
   rotate_left
   ·intro w'; go_simp; with_reducible rfl
   rotate_left
   ·simp only [Act.put, zA, zB, zC, i64_w, i32_w]; rfl
   refine pv 6 (some 22) (v := ?_) (a' := ?_) (bf 15 126) HT_ ?_ ?_ ?_
   rotate_left
   ·intro w'; go_simp; with_reducible rfl
   rotate_left
   ·simp only [Act.put, zA, zB, zC, i64_w, i32_w]; rfl
   refine pv 8 (some 24) (v := ?_) (a' := ?_) (bf 15 382) HT_ ?_ ?_ ?_
   rotate_left
   ·intro w'; go_simp; with_reducible rfl
   rotate_left
   ·simp only [Act.put, zA, zB, zC, i64_w, i32_w]; rfl
   refine take_ (i := 0) (N := some 16) (v := ?_) (a' := ?_) (bf 15 383) rfl rfl (take_ofW HT_.1 HW_.1 (by kernel_rfl)) (fun _ _ _ h => h) (Or.inl ⟨by rfl, ?_⟩) hHeld ?_ ?_
   rotate_left
   ·rintro w' ⟨s0, s1⟩; go_simp; with_reducible rfl
   rotate_left
   ·simp only [Act.put, zA, zB, zC, i64_w, i32_w]; rfl
   refine take_ (i := 7) (N := some 23) (v := ?_) (a' := ?_) (bf 15 511) rfl rfl (take_ofW HT_.1 HW_.1 (by kernel_rfl)) (fun _ _ _ h => h) (Or.inl ⟨by rfl, ?_⟩) hHeld ?_ ?_
   rotate_left
   ·rintro w' ⟨s0, s1⟩; go_simp; with_reducible rfl
   rotate_left
   ·simp only [Act.put, zA, zB, zC, i64_w, i32_w]; rfl
   refine one_ (i := 9) (N := some 25) (bf 15 1023) rfl rfl (one_of HT_.1 (by kernel_rfl)) (by decide) (fun K hK => ?_)
   refine goes_ Try.func29 (by kernel_rfl) rfl #[.agg #[.slice A0_0 l0_0.length c0_0], .int .i64 a1, .slice A333_0 (rd_L1 x9_1 (ji11)).length c333_0, .int .i64 a3] (by rfl) rfl rfl (by (try simp only [List.map_toArray, List.map_cons, List.map_nil]); first | done | (simp only [hji11]; rfl) | rfl | (simp only [List.length_drop, List.length_take]; rfl)) ?_
   with_reducible refine (yn0.calls k1 _ _ l0_0 a1 _ _ (rd_L1 x9_1 (ji11)) a3 t334 t337 _ ?side1 ?side2 ?side3 ?side4 A14.1).mono ?_
   (case side1 => repeat (first | exact (Kd.C_below HR0_0.1 HB.1) | with_reducible first | refine Kd.C_alloc ?_ _ | refine Kd.C_drewN ?_ _ | refine Kd.C_drew ?_))
   (case side2 => exact HC0_0.1)
   (case side3 => repeat (first | exact (by repeat (first | (with_reducible exact HR333_0.1) | (with_reducible refine Kd.C_alloc ?_ _) | (with_reducible refine Kd.C_drewN ?_ _) | (with_reducible refine Kd.C_drew ?_) | exact HR333_0.1)) | (with_reducible refine Kd.C_alloc ?_ _) | (with_reducible refine Kd.C_drewN ?_ _) | (with_reducible refine Kd.C_drew ?_)))
   (case side4 => exact HC333_0.1)
   rintro e w24 ⟨v335, v338, rfl, ho0, ho1, hb⟩
   have HS1_ := (hb.cell (World.block_lt_of_cell? _ _ (hHeld.2))).trans (hHeld.2)
   refine ⟨_, rfl, ?_⟩
   have n0_ := za0.mk (Kd.N_mono (Kd.N_told (Kd.N_told (Kd.N_old (by (with_reducible repeat (first | apply Kd.N_alloc | apply Kd.N_drewN | apply Kd.N_drew)); exact HO_9.1) hb) (Kd.R_base ho0)) (Kd.R_base ho1)) (fun _ h_ => h_.1))
   have n1_ := za0.mk (Kd.V_mono (Kd.V_told (Kd.V_told (Kd.V_old (by (with_reducible repeat (first | apply Kd.V_alloc | apply Kd.V_drewN | apply Kd.V_drew)); exact HL333_0.1) hb) (Kd.R_base ho0)) (Kd.R_base ho1)) (fun _ h_ => h_.1))
   have n2_ := za0.mk (Kd.R_lower (Kd.R_newM (M := fun k_ => (w.heap.size ≤ k_)) ho0 (zh0 (by repeat (first | exact HB.1 | apply zc0 | apply zb0 | apply zd0 | refine ze0 ?_ GE326.1))) (fun k_ h_ => h_)) (zh0 (by repeat (first | exact HB.1 | apply zc0 | apply zb0 | apply zd0 | refine ze0 ?_ GE326.1))))
   have n3_ := za0.mk (Kd.R_lower (Kd.R_newM (M := fun k_ => (w.heap.size ≤ k_)) ho1 (zh0 (by repeat (first | exact HB.1 | apply zc0 | apply zb0 | apply zd0 | refine ze0 ?_ GE326.1))) (fun k_ h_ => h_)) (zh0 (by repeat (first | exact HB.1 | apply zc0 | apply zb0 | apply zd0 | refine ze0 ?_ GE326.1))))
   have n4_ := za0.mk (zm0 (g := gb326) (o := .cells #[.slice A0_0 l0_0.length c0_0] 29 (0, 0)) (by (with_reducible repeat (first | refine zg0 ?_ _ | refine zj0 ?_ | refine zf0 ?_ _)); exact BK326.1) hb)
   have n5_ := za0.mk (Kd.C_below (by repeat (first | (with_reducible exact HR333_0.1) | (with_reducible refine Kd.C_alloc ?_ _) | (with_reducible refine Kd.C_drewN ?_ _) | (with_reducible refine Kd.C_drew ?_) | exact HR333_0.1)) hb)
   have n6_ := za0.mk (zi0 (by repeat (first | exact HB.1 | apply zc0 | apply zb0 | apply zd0 | refine ze0 ?_ GE326.1)) hb)
   clear HO_9 HL333_0 BK326 HR333_0 HB
   have HO_9 := n0_
   have HL333_0 := n1_
   have HO336 := n2_
   have HO339 := n3_
   have BK326 := n4_
   have HR333_0 := n5_
   have HB := n6_
   clear n0_ n1_ n2_ n3_ n4_ n5_ n6_
   (try clear hb)
   (try clear hb2)
   (try clear hk)
   (try clear hi)
   (try clear ho0)
   (try clear ho1)
   refine hK.out _ _ ⟨(zl0 BK326.1 0).trans rfl, HS1_⟩ (fun hHeld => ?_)
   clear hK K
   refine norm_ (a' := ?_) ?_ ?_
   rotate_left
   ·show Act.put _ (some 25) _ = _; simp only [Act.put, zA, zB, zC, i64_w, i32_w]; rfl
   refine pv 10 (some 15) (v := ?_) (a' := ?_) (bf 15 2047) HT_ ?_ ?_ ?_
   rotate_left
   ·intro w'; go_simp; with_reducible rfl
   rotate_left
   ·simp only [Act.put, zA, zB, zC, i64_w, i32_w]; rfl
   refine pv 11 (some 26) (v := ?_) (a' := ?_) (bf 15 4095) HT_ ?_ ?_ ?_
   rotate_left
   ·intro w'; go_simp; with_reducible rfl
   rotate_left
   ·simp only [Act.put, zA, zB, zC, i64_w, i32_w]; rfl
   refine pv 12 (some 27) (v := ?_) (a' := ?_) (bf 15 8191) HT_ ?_ ?_ ?_
   rotate_left
   ·intro w'; go_simp; with_reducible rfl
   rotate_left
   ·simp only [Act.put, zA, zB, zC, i64_w, i32_w]; rfl
   refine pv 13 (some 10) (v := ?_) (a' := ?_) (bf 15 16383) HT_ ?_ ?_ ?_
   rotate_left
   ·intro w'; go_simp; with_reducible rfl
   rotate_left
   ·simp only [Act.put, zA, zB, zC, i64_w, i32_w]; rfl
   refine pv 14 (some 11) (v := ?_) (a' := ?_) (bf 15 32767) HT_ ?_ ?_ ?_
   rotate_left
   ·intro w'; go_simp; with_reducible rfl
   rotate_left
   ·simp only [Act.put, zA, zB, zC, i64_w, i32_w]; rfl
   refine done_ (done_of HT_.1 (by kernel_rfl)) ?_
   obtain ⟨Ao25, co25, eo25⟩ := Kd.R_slice HO339.1
   subst eo25
   obtain ⟨Ao26, co26, eo26⟩ := Kd.R_slice HO336.1
   subst eo26
   try go_wp2_with (first | ((with_reducible refine zn0 (f := 57) rfl ?_); refine za1 (some 33) rfl rfl Try.func57 (by kernel_rfl) rfl #[.slice Ao26 t334.length co26, .slice A2 l2.length c2] rfl (by (try simp only [List.map_toArray, List.map_cons, List.map_nil]); first | done | rfl | (simp only [List.length_drop, List.length_take]; rfl)) ?_; (with_reducible refine (yp0.calls k1 _ _ t334 _ _ l2 true _ ?side1 ?side2 ?side3 ?side4 A20.1).mono ?_); (case side1 => repeat (first | exact (Kd.R_reads' HO336.1).2.2 | (with_reducible refine Kd.C_alloc ?_ _) | (with_reducible refine Kd.C_drewN ?_ _) | (with_reducible refine Kd.C_drew ?_))); (case side2 => exact (Kd.R_reads' HO336.1).2.1); (case side3 => repeat (first | exact (Kd.C_below HR2.1 HB.1) | with_reducible first | refine Kd.C_alloc ?_ _ | refine Kd.C_drewN ?_ _ | refine Kd.C_drew ?_)); (case side4 => exact HC2.1); rintro e w' ⟨rfl, ⟨nd, rfl⟩⟩; refine ⟨_, rfl, ?_⟩))
   go_ret
   exact ⟨_, by first | rfl | (simp [errW_none, errW_some] <;> rfl) | (simp only [← hji11]; first | rfl | (simp [errW_none, errW_some] <;> rfl)) | (simp [*, errW_none, errW_some] <;> rfl), by (with_reducible repeat (first | apply Kd.N_alloc | apply Kd.N_drewN | apply Kd.N_drew)); exact Kd.N_mono HO_9.1 (fun _ hk => hk.1.1.1), by repeat (first | exact HB.1 | apply zc0 | apply zb0 | apply zd0 | refine ze0 ?_ GE326.1)⟩
  replace c21 := Bool.eq_false_iff.mpr c21
  subst c21
  have H1 : (if x9_1.length < 5864062014805 then (ye0.l0 k1 a1 l2 a3 (x9_1 ++ [t334]) l0_0) else (none)) = some r := by rw [if_neg (show ¬ (false = true) by decide)] at H; exact H
  clear H
  have H := H1
  clear H1
  by_cases c27 : x9_1.length < 5864062014805
  rotate_left
  ·rw [if_neg c27] at H
   exact absurd H (by simp)
  rw [if_pos c27] at H
  have LMc27 := za0.mk c27
  clear c27
  obtain ⟨y341, hy341⟩ : ∃ y_ : List (List Int), y_ = (x9_1 ++ [t334]) := ⟨_, rfl⟩
  replace H : (ye0.l0 k1 a1 l2 a3 y341 l0_0) = some r := by first | (rw [hy341]; with_reducible exact H) | (have H2_ := (Option.bind_some _ _).symm.trans H; rw [hy341]; with_reducible exact H2_) | (have H2_ := (Option.bind_some _ _).symm.trans H; with_reducible exact H2_) | with_reducible exact H | (rw [hy341]; exact H) | exact H
  have Ny341 := za0.mk hy341
  clear hy341
  have H' := za0.mk H
  clear H
  try go_wp2
  have n0_ := za0.mk (Kd.N_drew HO_9.1)
  have n1_ := za0.mk (zj0 BK326.1)
  have n2_ := za0.mk (zd0 HB.1)
  clear HO_9 BK326 HB
  have HO_9 := n0_
  have BK326 := n1_
  have HB := n2_
  clear n0_ n1_ n2_
  obtain ⟨Ao29, co29, eo29⟩ := Kd.N_slice HO_9.1
  (first | subst eo29 | (injection eo29 with f1_ f2_ f3_; have f4_ := f1_.symm; have f5_ := f3_.symm; clear f1_ f2_ f3_; subst f4_; subst f5_))
  have p333 : 0 ≤ ((ji11) : Int) := of_decide_eq_true (by assumption)
  have q333 : (ji11) < (x9_1.length : Int) := of_decide_eq_true (by assumption)
  obtain ⟨ad333, A333_0, c333_0, e333, hx333_0, hl333_0, hi333_0⟩ := at_L1 (Kd.N_reads' HO_9.1).2.2 (ji11) p333 q333
  cases e333
  obtain ⟨ce333, hce333, hMe333, hcc333⟩ := Kd.N_get HO_9.1 [] (ji11) p333 (by first | exact q333 | exact of_decide_eq_true (by assumption) | (have e_ := (Kd.N_reads' HO_9.1).1; omega))
  obtain ⟨ua333_0, uc333_0, rfl, ul333_0, ge333_0⟩ := Kd.FK_slice_open hMe333
  have hv333_0 := hcc333 0 _ rfl
  rw [Nat.add_zero, show ((Kd.slice 3 (Kd.int .i64))).sz = 1 from rfl, Nat.mul_one] at hv333_0
  replace hv333_0 := Option.some.inj (hv333_0.symm.trans hx333_0)
  injection hv333_0 with hva_ hvn_ hvc_
  rw [hva_] at ge333_0
  rw [hvc_] at ul333_0
  have HL333_0 := za0.mk (show Kd.V (Kd.int .i64) 3 _ w.heap.size _ _ (rd_L1 x9_1 (ji11)) from Kd.V_mk ul333_0 ge333_0)
  clear hva_ hvn_ hvc_ ge333_0 ul333_0 hcc333 hce333
  have HR333_0 := za0.mk hi333_0
  have HC333_0 := za0.mk hl333_0
  clear hi333_0 hl333_0
  replace p333 := eq_true p333
  replace q333 := eq_true q333
  refine start_ (n := 15) (S := fun w' => w'.cell? ⟨gb326, 0, none⟩ = some (.slice A0_0 l0_0.length c0_0) ∧ w'.cell? (ad333.add ((ji11)).toNat) = some (.slice A333_0 (rd_L1 x9_1 (ji11)).length c333_0)) (ds := []) #[false, false, false, false, false, false, false, false, false, false, false, false, false, false, false] (by kernel_rfl) rfl rfl ⟨(zl0 BK326.1 0).trans rfl, hx333_0⟩ (fun hHeld => ?_); refine with_tabW ye0.tab2 ye0.bits2 (fun HT_ HW_ => ?_)
  generalize wr.drew = w28 at HO_9 BK326 HB HL333_0 HR333_0 hx333_0 hHeld ⊢
  refine pv 1 (some 17) (v := ?_) (a' := ?_) (bf 15 2) HT_ ?_ ?_ ?_
  rotate_left
  ·intro w'; go_simp; with_reducible rfl
  rotate_left
  ·simp only [Act.put, zA, zB, zC, i64_w, i32_w]; rfl
  refine pv 2 (some 18) (v := ?_) (a' := ?_) (bf 15 6) HT_ ?_ ?_ ?_
  rotate_left
  ·intro w'; go_simp; with_reducible rfl
  rotate_left
  ·simp only [Act.put, zA, zB, zC, i64_w, i32_w]; rfl
  refine pv 3 (some 19) (v := ?_) (a' := ?_) (bf 15 14) HT_ ?_ ?_ ?_
  rotate_left
  ·intro w'; go_simp; with_reducible rfl
  rotate_left
  ·simp only [Act.put, zA, zB, zC, i64_w, i32_w]; rfl
  refine pv 4 (some 20) (v := ?_) (a' := ?_) (bf 15 30) HT_ ?_ ?_ ?_
  rotate_left
  ·intro w'; go_simp; with_reducible rfl
  rotate_left
  ·simp only [Act.put, zA, zB, zC, i64_w, i32_w]; rfl
  refine pv 5 (some 21) (v := ?_) (a' := ?_) (bf 15 62) HT_ ?_ ?_ ?_
  rotate_left
  ·intro w'; go_simp; with_reducible rfl
  rotate_left
  ·simp only [Act.put, zA, zB, zC, i64_w, i32_w]; rfl
  refine pv 6 (some 22) (v := ?_) (a' := ?_) (bf 15 126) HT_ ?_ ?_ ?_
  rotate_left
  ·intro w'; go_simp; with_reducible rfl
  rotate_left
  ·simp only [Act.put, zA, zB, zC, i64_w, i32_w]; rfl
  refine pv 8 (some 24) (v := ?_) (a' := ?_) (bf 15 382) HT_ ?_ ?_ ?_
  rotate_left
  ·intro w'; go_simp; with_reducible rfl
  rotate_left
  ·simp only [Act.put, zA, zB, zC, i64_w, i32_w]; rfl
  refine take_ (i := 0) (N := some 16) (v := ?_) (a' := ?_) (bf 15 383) rfl rfl (take_ofW HT_.1 HW_.1 (by kernel_rfl)) (fun _ _ _ h => h) (Or.inl ⟨by rfl, ?_⟩) hHeld ?_ ?_
  rotate_left
  ·rintro w' ⟨s0, s1⟩; go_simp; with_reducible rfl
  rotate_left
  ·simp only [Act.put, zA, zB, zC, i64_w, i32_w]; rfl
  refine take_ (i := 7) (N := some 23) (v := ?_) (a' := ?_) (bf 15 511) rfl rfl (take_ofW HT_.1 HW_.1 (by kernel_rfl)) (fun _ _ _ h => h) (Or.inl ⟨by rfl, ?_⟩) hHeld ?_ ?_
  rotate_left
  ·rintro w' ⟨s0, s1⟩; go_simp; with_reducible rfl
  rotate_left
  ·simp only [Act.put, zA, zB, zC, i64_w, i32_w]; rfl
  refine one_ (i := 9) (N := some 25) (bf 15 1023) rfl rfl (one_of HT_.1 (by kernel_rfl)) (by decide) (fun K hK => ?_)
  refine goes_ Try.func29 (by kernel_rfl) rfl #[.agg #[.slice A0_0 l0_0.length c0_0], .int .i64 a1, .slice A333_0 (rd_L1 x9_1 (ji11)).length c333_0, .int .i64 a3] (by rfl) rfl rfl (by (try simp only [List.map_toArray, List.map_cons, List.map_nil]); first | done | (simp only [hji11]; rfl) | rfl | (simp only [List.length_drop, List.length_take]; rfl)) ?_
  with_reducible refine (yn0.calls k1 _ _ l0_0 a1 _ _ (rd_L1 x9_1 (ji11)) a3 t334 t337 _ ?side1 ?side2 ?side3 ?side4 A14.1).mono ?_
  (case side1 => repeat (first | exact (Kd.C_below HR0_0.1 HB.1) | with_reducible first | refine Kd.C_alloc ?_ _ | refine Kd.C_drewN ?_ _ | refine Kd.C_drew ?_))
  (case side2 => exact HC0_0.1)
  (case side3 => repeat (first | exact (by repeat (first | (with_reducible exact HR333_0.1) | (with_reducible refine Kd.C_alloc ?_ _) | (with_reducible refine Kd.C_drewN ?_ _) | (with_reducible refine Kd.C_drew ?_) | exact HR333_0.1)) | (with_reducible refine Kd.C_alloc ?_ _) | (with_reducible refine Kd.C_drewN ?_ _) | (with_reducible refine Kd.C_drew ?_)))
  (case side4 => exact HC333_0.1)
  rintro e w30 ⟨v335, v338, rfl, ho0, ho1, hb⟩
  have HS1_ := (hb.cell (World.block_lt_of_cell? _ _ (hHeld.2))).trans (hHeld.2)
  refine ⟨_, rfl, ?_⟩
  have n0_ := za0.mk (Kd.N_mono (Kd.N_told (Kd.N_told (Kd.N_old (by (with_reducible repeat (first | apply Kd.N_alloc | apply Kd.N_drewN | apply Kd.N_drew)); exact HO_9.1) hb) (Kd.R_base ho0)) (Kd.R_base ho1)) (fun _ h_ => h_.1))
  have n1_ := za0.mk (Kd.V_mono (Kd.V_told (Kd.V_told (Kd.V_old (by (with_reducible repeat (first | apply Kd.V_alloc | apply Kd.V_drewN | apply Kd.V_drew)); exact HL333_0.1) hb) (Kd.R_base ho0)) (Kd.R_base ho1)) (fun _ h_ => h_.1))
  have n2_ := za0.mk (Kd.R_lower (Kd.R_newM (M := fun k_ => (w.heap.size ≤ k_)) ho0 (zh0 (by repeat (first | exact HB.1 | apply zc0 | apply zb0 | apply zd0 | refine ze0 ?_ GE326.1))) (fun k_ h_ => h_)) (zh0 (by repeat (first | exact HB.1 | apply zc0 | apply zb0 | apply zd0 | refine ze0 ?_ GE326.1))))
  have n3_ := za0.mk (Kd.R_lower (Kd.R_newM (M := fun k_ => (w.heap.size ≤ k_)) ho1 (zh0 (by repeat (first | exact HB.1 | apply zc0 | apply zb0 | apply zd0 | refine ze0 ?_ GE326.1))) (fun k_ h_ => h_)) (zh0 (by repeat (first | exact HB.1 | apply zc0 | apply zb0 | apply zd0 | refine ze0 ?_ GE326.1))))
  have n4_ := za0.mk (zm0 (g := gb326) (o := .cells #[.slice A0_0 l0_0.length c0_0] 29 (0, 0)) (by (with_reducible repeat (first | refine zg0 ?_ _ | refine zj0 ?_ | refine zf0 ?_ _)); exact BK326.1) hb)
  have n5_ := za0.mk (Kd.C_below (by repeat (first | (with_reducible exact HR333_0.1) | (with_reducible refine Kd.C_alloc ?_ _) | (with_reducible refine Kd.C_drewN ?_ _) | (with_reducible refine Kd.C_drew ?_) | exact HR333_0.1)) hb)
  have n6_ := za0.mk (zi0 (by repeat (first | exact HB.1 | apply zc0 | apply zb0 | apply zd0 | refine ze0 ?_ GE326.1)) hb)
  clear HO_9 HL333_0 BK326 HR333_0 HB
  have HO_9 := n0_
  have HL333_0 := n1_
  have HO336 := n2_
  have HO339 := n3_
  have BK326 := n4_
  have HR333_0 := n5_
  have HB := n6_
  clear n0_ n1_ n2_ n3_ n4_ n5_ n6_
  (try clear hb)
  (try clear hb2)
  (try clear hk)
  (try clear hi)
  (try clear ho0)
  (try clear ho1)
  refine hK.out _ _ ⟨(zl0 BK326.1 0).trans rfl, HS1_⟩ (fun hHeld => ?_)
  clear hK K
  refine norm_ (a' := ?_) ?_ ?_
  rotate_left
  ·show Act.put _ (some 25) _ = _; simp only [Act.put, zA, zB, zC, i64_w, i32_w]; rfl
  refine pv 10 (some 15) (v := ?_) (a' := ?_) (bf 15 2047) HT_ ?_ ?_ ?_
  rotate_left
  ·intro w'; go_simp; with_reducible rfl
  rotate_left
  ·simp only [Act.put, zA, zB, zC, i64_w, i32_w]; rfl
  refine pv 11 (some 26) (v := ?_) (a' := ?_) (bf 15 4095) HT_ ?_ ?_ ?_
  rotate_left
  ·intro w'; go_simp; with_reducible rfl
  rotate_left
  ·simp only [Act.put, zA, zB, zC, i64_w, i32_w]; rfl
  refine pv 12 (some 27) (v := ?_) (a' := ?_) (bf 15 8191) HT_ ?_ ?_ ?_
  rotate_left
  ·intro w'; go_simp; with_reducible rfl
  rotate_left
  ·simp only [Act.put, zA, zB, zC, i64_w, i32_w]; rfl
  refine pv 13 (some 10) (v := ?_) (a' := ?_) (bf 15 16383) HT_ ?_ ?_ ?_
  rotate_left
  ·intro w'; go_simp; with_reducible rfl
  rotate_left
  ·simp only [Act.put, zA, zB, zC, i64_w, i32_w]; rfl
  refine pv 14 (some 11) (v := ?_) (a' := ?_) (bf 15 32767) HT_ ?_ ?_ ?_
  rotate_left
  ·intro w'; go_simp; with_reducible rfl
  rotate_left
  ·simp only [Act.put, zA, zB, zC, i64_w, i32_w]; rfl
  refine done_ (done_of HT_.1 (by kernel_rfl)) ?_
  obtain ⟨Ao31, co31, eo31⟩ := Kd.R_slice HO339.1
  subst eo31
  obtain ⟨Ao32, co32, eo32⟩ := Kd.R_slice HO336.1
  subst eo32
  try go_wp2_with (first | ((with_reducible refine zn0 (f := 57) rfl ?_); refine za1 (some 33) rfl rfl Try.func57 (by kernel_rfl) rfl #[.slice Ao32 t334.length co32, .slice A2 l2.length c2] rfl (by (try simp only [List.map_toArray, List.map_cons, List.map_nil]); first | done | rfl | (simp only [List.length_drop, List.length_take]; rfl)) ?_; (with_reducible refine (yp0.calls k1 _ _ t334 _ _ l2 false _ ?side1 ?side2 ?side3 ?side4 A20.1).mono ?_); (case side1 => repeat (first | exact (Kd.R_reads' HO336.1).2.2 | (with_reducible refine Kd.C_alloc ?_ _) | (with_reducible refine Kd.C_drewN ?_ _) | (with_reducible refine Kd.C_drew ?_))); (case side2 => exact (Kd.R_reads' HO336.1).2.1); (case side3 => repeat (first | exact (Kd.C_below HR2.1 HB.1) | with_reducible first | refine Kd.C_alloc ?_ _ | refine Kd.C_drewN ?_ _ | refine Kd.C_drew ?_)); (case side4 => exact HC2.1); rintro e w' ⟨rfl, ⟨nd, rfl⟩⟩; refine ⟨_, rfl, ?_⟩) | ((with_reducible refine gate_builtin (b := .append) (xs := #[.tmp 35, .tmp 37]) rfl ?_); at_builtin; refine Kd.N_append (Kd.slice 3 (Kd.int .i64)) (w0 := w) w.heap.size rfl (.tmp 35) (.tmp 37) 22 25 (.slice none 0 0) 24 rfl Try.underlying22 info25 rfl (by decide) (by omega) (.slice (some ad333) x9_1.length co29) x9_1 t334 [.slice Ao32 t334.length co32] (fun k_ => (w.heap.size ≤ k_) ∧ some k_ ≠ (.slice Ao31 t337.length co31 : Value).ownBlock ∧ k_ ≠ gb326) (fun k_ => ((fun k_ => (w.heap.size ≤ k_) ∧ some k_ ≠ (.slice Ao31 t337.length co31 : Value).ownBlock ∧ k_ ≠ gb326)) k_ ∧ some k_ ≠ (.slice (some ad333) x9_1.length co29 : Value).ownBlock) rfl rfl ?aP (fun _ hk => hk) ?aF ?aO ?aB ?aS ?aL ?_; (case aP => exact (Kd.FK_slice_mk (Kd.R_reads' (Kd.R_mono (ok' := (fun k_ => ((fun k_ => (w.heap.size ≤ k_) ∧ some k_ ≠ (.slice Ao31 t337.length co31 : Value).ownBlock ∧ k_ ≠ gb326)) k_ ∧ some k_ ≠ (.slice (some ad333) x9_1.length co29 : Value).ownBlock)) (Kd.R_types (Kd.R_apart' (HO336.1) (Kd.N_typed HO_9.1) (by decide)) BK326.1 (by decide)) (fun k_ hk => ⟨⟨hk.1.1.1, ⟨hk.1.1.2, hk.2⟩⟩, hk.1.2⟩))).2.1 (Kd.R_F (Kd.R_mono (ok' := (fun k_ => ((fun k_ => (w.heap.size ≤ k_) ∧ some k_ ≠ (.slice Ao31 t337.length co31 : Value).ownBlock ∧ k_ ≠ gb326)) k_ ∧ some k_ ≠ (.slice (some ad333) x9_1.length co29 : Value).ownBlock)) (Kd.R_types (Kd.R_apart' (HO336.1) (Kd.N_typed HO_9.1) (by decide)) BK326.1 (by decide)) (fun k_ hk => ⟨⟨hk.1.1.1, ⟨hk.1.1.2, hk.2⟩⟩, hk.1.2⟩))))); (case aB => exact (by repeat (first | exact HB.1 | apply zc0 | apply zb0 | apply zd0 | refine ze0 ?_ GE326.1))); (case aF => exact (fun k_ hk => ⟨(Nat.le_trans (zh0 (by repeat (first | exact HB.1 | apply zc0 | apply zb0 | apply zd0 | refine ze0 ?_ GE326.1))) hk), Kd.fresh' (Kd.R_lt (by (with_reducible repeat (first | apply Kd.R_alloc | apply Kd.R_drewN | apply Kd.R_drew)); exact HO339.1)) k_ hk, Kd.freshB (g := gb326) (o := .cells #[.slice A0_0 l0_0.length c0_0] 29 (0, 0)) (by (with_reducible repeat (first | refine zg0 ?_ _ | refine zj0 ?_ | refine zf0 ?_ _)); exact BK326.1) k_ hk⟩)); (case aO => exact (by (with_reducible repeat (first | apply Kd.N_alloc | apply Kd.N_drewN | apply Kd.N_drew)); exact Kd.N_mono HO_9.1 (fun _ hk => ⟨hk.1.1.1, ⟨hk.2, hk.1.1.2⟩⟩))); (case aS => exact (zh0 (by repeat (first | exact HB.1 | apply zc0 | apply zb0 | apply zd0 | refine ze0 ?_ GE326.1)))); (case aL => have := LMc27.1; omega); intro v342 w33 ho hb hg hat; rw [← Ny341.1] at ho; have n0_ := za0.mk (blk_grown (g := gb326) (o := .cells #[.slice A0_0 l0_0.length c0_0] 29 (0, 0)) (by (with_reducible repeat (first | refine zg0 ?_ _ | refine zj0 ?_ | refine zf0 ?_ _)); exact BK326.1) hg (Kd.N_ne HO_9.1 BK326.1 (by decide))); have n1_ := za0.mk (Kd.V_afterv (ok := (fun k_ => (w.heap.size ≤ k_) ∧ some k_ ≠ (.slice Ao32 t334.length co32 : Value).ownBlock ∧ some k_ ≠ (.slice Ao31 t337.length co31 : Value).ownBlock ∧ k_ ≠ gb326)) (by (with_reducible repeat (first | apply Kd.V_alloc | apply Kd.V_drewN | apply Kd.V_drew)); exact Kd.V_mono HL333_0.1 (fun _ hk => ⟨⟨hk.1.1.1.1, ⟨hk.1.2, ⟨hk.2, hk.1.1.1.2⟩⟩⟩, hk.1.1.2⟩)) hg hat); have n2_ := za0.mk (Kd.R_over' (by (with_reducible repeat (first | apply Kd.R_alloc | apply Kd.R_drewN | apply Kd.R_drew)); exact HO339.1) (Kd.N_typed (by (with_reducible repeat (first | apply Kd.N_alloc | apply Kd.N_drewN | apply Kd.N_drew)); exact HO_9.1)) (by decide) hg); have n3_ := za0.mk (hb); have n4_ := za0.mk (ho); clear BK326; clear HL333_0; clear HO339; clear HB; clear HO_9; clear HO336; have BK326 := n0_; have HL333_0 := n1_; have HO339 := n2_; have HB := n3_; have HO343 := n4_; clear n0_ n1_ n2_ n3_ n4_; clear ho hb hg hat))
  go_roundg k1
  case measure => have := HK1.1; omega
  case rel => exact ⟨(y341), H', ⟨by have := HK1.1; omega⟩, ⟨by (with_reducible repeat (first | apply Kd.N_alloc | apply Kd.N_drewN | apply Kd.N_drew)); exact Kd.N_mono HO343.1 (fun _ hk => ⟨hk.1, hk.2.2⟩)⟩, ⟨by (with_reducible repeat (first | refine zg0 ?_ _ | refine zj0 ?_ | refine zf0 ?_ _)); exact BK326.1⟩, ⟨by repeat (first | exact HB.1 | apply zc0 | apply zb0 | apply zd0 | refine ze0 ?_ GE326.1)⟩⟩
def ys1.f (k : Nat) (l0_0 : List (List Int)) (a1 : Int) (l2 : List Int) (a3 : Int) : Option ((List (List Int)) × Bool) := (ym1.f k l0_0 a1 l2).bind fun t345 => (if t345 = true then ((yl0.f k l0_0 a3).bind fun t346 => (if t346 = true then ((ye0.f k l0_0 a1 l2 a3).bind fun t347 => (some (t347, decide ((t347.length : Int) > 0)))) else (some (([] : List (List Int)), false)))) else (some (([] : List (List Int)), false)))
theorem ys1.mono : ∀ a0 a1 a2 a3 k, LeO (ys1.f k a0 a1 a2 a3) (ys1.f (k + 1) a0 a1 a2 a3) := by
 intro a0 a1 a2 a3 k
 unfold ys1.f
 repeat' (with_reducible first | exact ym1.mono _ _ _ _ | exact ye0.mono _ _ _ _ _ | exact yl0.mono _ _ _ | exact LeO.refl _ | exact LeO.none _ | refine LeO.ite ?_ ?_ | refine LeO.bind ?_ (fun _ => ?_))
theorem ys1.calls (k : Nat) (A0_0 : Option Addr) (c0_0 : Nat) (l0_0 : List (List Int)) (a1 : Int) (A2 : Option Addr) (c2 : Nat) (l2 : List Int) (a3 : Int) (r1 : List (List Int)) (r2 : Bool) (w : World) (hr0_0 : Kd.C (Kd.slice 3 (Kd.int .i64)) w A0_0 l0_0.length l0_0) (hc0_0 : l0_0.length ≤ c0_0) (hr2 : Kd.C (Kd.int .i64) w A2 l2.length l2) (hc2 : l2.length ≤ c2) (h : ys1.f k l0_0 a1 l2 a3 = some (r1, r2)) :
  Calls Try.prog 19 #[.agg #[.slice A0_0 l0_0.length c0_0], .int .i64 a1, .slice A2 l2.length c2, .int .i64 a3] w fun e w' => ∃ v0_ : Value, e = .returned (.tuple #[v0_, .bool r2]) ∧ Kd.N (Kd.slice 3 (Kd.int .i64)) 25 w' w.heap.size (fun k_ => (w.heap.size ≤ k_)) v0_ r1 ∧ Below w.heap.size w w' := by
 have hu29 := Try.underlying29
 have HR0_0 := za0.mk hr0_0
 have HC0_0 := za0.mk hc0_0
 clear hr0_0 hc0_0
 have HR2 := za0.mk hr2
 have HC2 := za0.mk hc2
 clear hr2 hc2
 have HB := za0.mk (Below.refl w.heap.size w)
 have H : ((ym1.f k l0_0 a1 l2).bind fun t345 => (if t345 = true then ((yl0.f k l0_0 a3).bind fun t346 => (if t346 = true then ((ye0.f k l0_0 a1 l2 a3).bind fun t347 => (some (t347, decide ((t347.length : Int) > 0)))) else (some (([] : List (List Int)), false)))) else (some (([] : List (List Int)), false)))) = some (r1, r2) := h
 clear h
 replace H := Option.bind_eq_some_iff.mp H
 obtain ⟨t345, A50, H⟩ := H
 replace H : (if t345 = true then ((yl0.f k l0_0 a3).bind fun t346 => (if t346 = true then ((ye0.f k l0_0 a1 l2 a3).bind fun t347 => (some (t347, decide ((t347.length : Int) > 0)))) else (some (([] : List (List Int)), false)))) else (some (([] : List (List Int)), false))) = some (r1, r2) := H
 have A5 := za0.mk A50
 clear A50
 by_cases c6 : t345 = true
 rotate_left
 ·replace c6 := Bool.eq_false_iff.mpr c6
  subst c6
  have H1 : (some (([] : List (List Int)), false)) = some (r1, r2) := by rw [if_neg (show ¬ (false = true) by decide)] at H; exact H
  clear H
  have H := H1
  clear H1
  simp only [Option.some.injEq, Prod.mk.injEq] at H
  obtain ⟨rfl, rfl⟩ := H
  go_enter Try.func19, Try.ntmps19
  go_wp2_with (first | ((with_reducible refine zo0 (N := 4) rfl ?_); refine zp0 ?hg (N := 4) ?hd (cs := #[.slice A0_0 l0_0.length c0_0]) (t := 29) ?hr ?_; (case hd | hg => rfl); (case hr => go_simp <;> rfl); intro gb344 hg w23 hbox hb; have n0_ := za0.mk (zi0 (by repeat (first | exact HB.1 | apply zc0 | apply zb0 | apply zd0)) hb); have n1_ := za0.mk (hbox); have n2_ := za0.mk ((by rw [hg]; exact (zh0 (by repeat (first | exact HB.1 | apply zc0 | apply zb0 | apply zd0))) : w.heap.size ≤ gb344)); have n3_ := za0.mk ((by rw [hg]; exact (zh0 (by repeat (first | exact HB.1 | apply zc0 | apply zb0 | apply zd0))) : w.heap.size ≤ gb344)); clear HB; have HB := n0_; have BK344 := n1_; have GW344 := n2_; have GE344 := n3_; clear n0_ n1_ n2_ n3_; clear hb hbox hg; have hcz24_0 : w23.cell? ⟨gb344, 0, none⟩ = some (.slice A0_0 l0_0.length c0_0) := (zl0 BK344.1 0).trans rfl; have hfz24_0 := zk0 BK344.1 0) | ((with_reducible refine zn0 (f := 27) rfl ?_); refine za1 (some 14) rfl rfl Try.func27 (by kernel_rfl) rfl #[.agg #[.slice A0_0 l0_0.length c0_0], .int .i64 a1, .slice A2 l2.length c2] rfl (by (try simp only [List.map_toArray, List.map_cons, List.map_nil]); first | done | rfl | (simp only [List.length_drop, List.length_take]; rfl)) ?_; (with_reducible refine (ym1.calls k _ _ l0_0 a1 _ _ l2 false _ ?side1 ?side2 ?side3 ?side4 A5.1).mono ?_); (case side1 => repeat (first | exact (Kd.C_below HR0_0.1 HB.1) | with_reducible first | refine Kd.C_alloc ?_ _ | refine Kd.C_drewN ?_ _ | refine Kd.C_drew ?_)); (case side2 => exact HC0_0.1); (case side3 => repeat (first | exact (Kd.C_below HR2.1 HB.1) | with_reducible first | refine Kd.C_alloc ?_ _ | refine Kd.C_drewN ?_ _ | refine Kd.C_drew ?_)); (case side4 => exact HC2.1); rintro e w25 ⟨rfl, hb⟩; refine ⟨_, rfl, ?_⟩; have n0_ := za0.mk (zm0 (g := gb344) (o := .cells #[.slice A0_0 l0_0.length c0_0] 29 (0, 0)) (by (with_reducible repeat (first | refine zg0 ?_ _ | refine zj0 ?_ | refine zf0 ?_ _)); exact BK344.1) hb); have n1_ := za0.mk (zi0 (by repeat (first | exact HB.1 | apply zc0 | apply zb0 | apply zd0 | refine ze0 ?_ GE344.1)) hb); clear BK344; clear HB; have BK344 := n0_; have HB := n1_; clear n0_ n1_; (try clear hb); (try clear hb2); (try clear hk); (try clear hi)))
  go_ret2
  exact ⟨_, by first | rfl | (simp [errW_none, errW_some] <;> rfl) | (simp [*, errW_none, errW_some] <;> rfl), by first | exact Kd.S_nil _ _ _ _ _ | exact Kd.N_nil _ _ _ _ _ | exact Kd.V_nil _ _ _ _ _ | exact Kd.Q_nil _ _ _ _ _ | exact Kd.R_nil _ _ _ _ _, by repeat (first | exact HB.1 | apply zc0 | apply zb0 | apply zd0 | refine ze0 ?_ GE344.1)⟩
 subst c6
 have H1 : ((yl0.f k l0_0 a3).bind fun t346 => (if t346 = true then ((ye0.f k l0_0 a1 l2 a3).bind fun t347 => (some (t347, decide ((t347.length : Int) > 0)))) else (some (([] : List (List Int)), false)))) = some (r1, r2) := by rw [if_pos rfl] at H; exact H
 clear H
 have H := H1
 clear H1
 replace H := Option.bind_eq_some_iff.mp H
 obtain ⟨t346, A70, H⟩ := H
 replace H : (if t346 = true then ((ye0.f k l0_0 a1 l2 a3).bind fun t347 => (some (t347, decide ((t347.length : Int) > 0)))) else (some (([] : List (List Int)), false))) = some (r1, r2) := H
 have A7 := za0.mk A70
 clear A70
 by_cases c8 : t346 = true
 rotate_left
 ·replace c8 := Bool.eq_false_iff.mpr c8
  subst c8
  have H1 : (some (([] : List (List Int)), false)) = some (r1, r2) := by rw [if_neg (show ¬ (false = true) by decide)] at H; exact H
  clear H
  have H := H1
  clear H1
  simp only [Option.some.injEq, Prod.mk.injEq] at H
  obtain ⟨rfl, rfl⟩ := H
  go_enter Try.func19, Try.ntmps19
  go_wp2_with (first | ((with_reducible refine zo0 (N := 4) rfl ?_); refine zp0 ?hg (N := 4) ?hd (cs := #[.slice A0_0 l0_0.length c0_0]) (t := 29) ?hr ?_; (case hd | hg => rfl); (case hr => go_simp <;> rfl); intro gb344 hg w18 hbox hb; have n0_ := za0.mk (zi0 (by repeat (first | exact HB.1 | apply zc0 | apply zb0 | apply zd0)) hb); have n1_ := za0.mk (hbox); have n2_ := za0.mk ((by rw [hg]; exact (zh0 (by repeat (first | exact HB.1 | apply zc0 | apply zb0 | apply zd0))) : w.heap.size ≤ gb344)); have n3_ := za0.mk ((by rw [hg]; exact (zh0 (by repeat (first | exact HB.1 | apply zc0 | apply zb0 | apply zd0))) : w.heap.size ≤ gb344)); clear HB; have HB := n0_; have BK344 := n1_; have GW344 := n2_; have GE344 := n3_; clear n0_ n1_ n2_ n3_; clear hb hbox hg; have hcz19_0 : w18.cell? ⟨gb344, 0, none⟩ = some (.slice A0_0 l0_0.length c0_0) := (zl0 BK344.1 0).trans rfl; have hfz19_0 := zk0 BK344.1 0) | ((with_reducible refine zn0 (f := 27) rfl ?_); refine za1 (some 14) rfl rfl Try.func27 (by kernel_rfl) rfl #[.agg #[.slice A0_0 l0_0.length c0_0], .int .i64 a1, .slice A2 l2.length c2] rfl (by (try simp only [List.map_toArray, List.map_cons, List.map_nil]); first | done | rfl | (simp only [List.length_drop, List.length_take]; rfl)) ?_; (with_reducible refine (ym1.calls k _ _ l0_0 a1 _ _ l2 true _ ?side1 ?side2 ?side3 ?side4 A5.1).mono ?_); (case side1 => repeat (first | exact (Kd.C_below HR0_0.1 HB.1) | with_reducible first | refine Kd.C_alloc ?_ _ | refine Kd.C_drewN ?_ _ | refine Kd.C_drew ?_)); (case side2 => exact HC0_0.1); (case side3 => repeat (first | exact (Kd.C_below HR2.1 HB.1) | with_reducible first | refine Kd.C_alloc ?_ _ | refine Kd.C_drewN ?_ _ | refine Kd.C_drew ?_)); (case side4 => exact HC2.1); rintro e w20 ⟨rfl, hb⟩; refine ⟨_, rfl, ?_⟩; have n0_ := za0.mk (zm0 (g := gb344) (o := .cells #[.slice A0_0 l0_0.length c0_0] 29 (0, 0)) (by (with_reducible repeat (first | refine zg0 ?_ _ | refine zj0 ?_ | refine zf0 ?_ _)); exact BK344.1) hb); have n1_ := za0.mk (zi0 (by repeat (first | exact HB.1 | apply zc0 | apply zb0 | apply zd0 | refine ze0 ?_ GE344.1)) hb); clear BK344; clear HB; have BK344 := n0_; have HB := n1_; clear n0_ n1_; (try clear hb); (try clear hb2); (try clear hk); (try clear hi); have hcz21_0 : w20.cell? ⟨gb344, 0, none⟩ = some (.slice A0_0 l0_0.length c0_0) := (zl0 BK344.1 0).trans rfl; have hfz21_0 := zk0 BK344.1 0) | (go_at_call 28; (with_reducible refine (yl0.calls k _ _ l0_0 a3 false _ ?side1 ?side2 A7.1).mono ?_); (case side1 => repeat (first | exact (Kd.C_below HR0_0.1 HB.1) | with_reducible first | refine Kd.C_alloc ?_ _ | refine Kd.C_drewN ?_ _ | refine Kd.C_drew ?_)); (case side2 => exact HC0_0.1); rintro e w22 ⟨rfl, hb⟩; have n0_ := za0.mk (zm0 (g := gb344) (o := .cells #[.slice A0_0 l0_0.length c0_0] 29 (0, 0)) (by (with_reducible repeat (first | refine zg0 ?_ _ | refine zj0 ?_ | refine zf0 ?_ _)); exact BK344.1) hb); have n1_ := za0.mk (zi0 (by repeat (first | exact HB.1 | apply zc0 | apply zb0 | apply zd0 | refine ze0 ?_ GE344.1)) hb); clear BK344; clear HB; have BK344 := n0_; have HB := n1_; clear n0_ n1_; (try clear hb); (try clear hb2); (try clear hk); (try clear hi)))
  go_ret2
  exact ⟨_, by first | rfl | (simp [errW_none, errW_some] <;> rfl) | (simp [*, errW_none, errW_some] <;> rfl), by first | exact Kd.S_nil _ _ _ _ _ | exact Kd.N_nil _ _ _ _ _ | exact Kd.V_nil _ _ _ _ _ | exact Kd.Q_nil _ _ _ _ _ | exact Kd.R_nil _ _ _ _ _, by repeat (first | exact HB.1 | apply zc0 | apply zb0 | apply zd0 | refine ze0 ?_ GE344.1)⟩
 subst c8
 have H1 : ((ye0.f k l0_0 a1 l2 a3).bind fun t347 => (some (t347, decide ((t347.length : Int) > 0)))) = some (r1, r2) := by rw [if_pos rfl] at H; exact H
 clear H
 have H := H1
 clear H1
 replace H := Option.bind_eq_some_iff.mp H
 obtain ⟨t347, A90, H⟩ := H
 replace H : (some (t347, decide ((t347.length : Int) > 0))) = some (r1, r2) := H
 have A9 := za0.mk A90
 clear A90
 simp only [Option.some.injEq, Prod.mk.injEq] at H
 obtain ⟨rfl, rfl⟩ := H
 go_enter Try.func19, Try.ntmps19
 go_wp2_with (first | ((with_reducible refine zo0 (N := 4) rfl ?_); refine zp0 ?hg (N := 4) ?hd (cs := #[.slice A0_0 l0_0.length c0_0]) (t := 29) ?hr ?_; (case hd | hg => rfl); (case hr => go_simp <;> rfl); intro gb344 hg w10 hbox hb; have n0_ := za0.mk (zi0 (by repeat (first | exact HB.1 | apply zc0 | apply zb0 | apply zd0)) hb); have n1_ := za0.mk (hbox); have n2_ := za0.mk ((by rw [hg]; exact (zh0 (by repeat (first | exact HB.1 | apply zc0 | apply zb0 | apply zd0))) : w.heap.size ≤ gb344)); have n3_ := za0.mk ((by rw [hg]; exact (zh0 (by repeat (first | exact HB.1 | apply zc0 | apply zb0 | apply zd0))) : w.heap.size ≤ gb344)); clear HB; have HB := n0_; have BK344 := n1_; have GW344 := n2_; have GE344 := n3_; clear n0_ n1_ n2_ n3_; clear hb hbox hg; have hcz11_0 : w10.cell? ⟨gb344, 0, none⟩ = some (.slice A0_0 l0_0.length c0_0) := (zl0 BK344.1 0).trans rfl; have hfz11_0 := zk0 BK344.1 0) | ((with_reducible refine zn0 (f := 27) rfl ?_); refine za1 (some 14) rfl rfl Try.func27 (by kernel_rfl) rfl #[.agg #[.slice A0_0 l0_0.length c0_0], .int .i64 a1, .slice A2 l2.length c2] rfl (by (try simp only [List.map_toArray, List.map_cons, List.map_nil]); first | done | rfl | (simp only [List.length_drop, List.length_take]; rfl)) ?_; (with_reducible refine (ym1.calls k _ _ l0_0 a1 _ _ l2 true _ ?side1 ?side2 ?side3 ?side4 A5.1).mono ?_); (case side1 => repeat (first | exact (Kd.C_below HR0_0.1 HB.1) | with_reducible first | refine Kd.C_alloc ?_ _ | refine Kd.C_drewN ?_ _ | refine Kd.C_drew ?_)); (case side2 => exact HC0_0.1); (case side3 => repeat (first | exact (Kd.C_below HR2.1 HB.1) | with_reducible first | refine Kd.C_alloc ?_ _ | refine Kd.C_drewN ?_ _ | refine Kd.C_drew ?_)); (case side4 => exact HC2.1); rintro e w12 ⟨rfl, hb⟩; refine ⟨_, rfl, ?_⟩; have n0_ := za0.mk (zm0 (g := gb344) (o := .cells #[.slice A0_0 l0_0.length c0_0] 29 (0, 0)) (by (with_reducible repeat (first | refine zg0 ?_ _ | refine zj0 ?_ | refine zf0 ?_ _)); exact BK344.1) hb); have n1_ := za0.mk (zi0 (by repeat (first | exact HB.1 | apply zc0 | apply zb0 | apply zd0 | refine ze0 ?_ GE344.1)) hb); clear BK344; clear HB; have BK344 := n0_; have HB := n1_; clear n0_ n1_; (try clear hb); (try clear hb2); (try clear hk); (try clear hi); have hcz13_0 : w12.cell? ⟨gb344, 0, none⟩ = some (.slice A0_0 l0_0.length c0_0) := (zl0 BK344.1 0).trans rfl; have hfz13_0 := zk0 BK344.1 0) | (go_at_call 28; (with_reducible refine (yl0.calls k _ _ l0_0 a3 true _ ?side1 ?side2 A7.1).mono ?_); (case side1 => repeat (first | exact (Kd.C_below HR0_0.1 HB.1) | with_reducible first | refine Kd.C_alloc ?_ _ | refine Kd.C_drewN ?_ _ | refine Kd.C_drew ?_)); (case side2 => exact HC0_0.1); rintro e w14 ⟨rfl, hb⟩; have n0_ := za0.mk (zm0 (g := gb344) (o := .cells #[.slice A0_0 l0_0.length c0_0] 29 (0, 0)) (by (with_reducible repeat (first | refine zg0 ?_ _ | refine zj0 ?_ | refine zf0 ?_ _)); exact BK344.1) hb); have n1_ := za0.mk (zi0 (by repeat (first | exact HB.1 | apply zc0 | apply zb0 | apply zd0 | refine ze0 ?_ GE344.1)) hb); clear BK344; clear HB; have BK344 := n0_; have HB := n1_; clear n0_ n1_; (try clear hb); (try clear hb2); (try clear hk); (try clear hi); have hcz15_0 : w14.cell? ⟨gb344, 0, none⟩ = some (.slice A0_0 l0_0.length c0_0) := (zl0 BK344.1 0).trans rfl; have hfz15_0 := zk0 BK344.1 0) | ((with_reducible refine zn0 (f := 36) rfl ?_); refine za1 (some 26) rfl rfl Try.func36 (by kernel_rfl) rfl #[.agg #[.slice A0_0 l0_0.length c0_0], .int .i64 a1, .slice A2 l2.length c2, .int .i64 a3] rfl (by (try simp only [List.map_toArray, List.map_cons, List.map_nil]); first | done | rfl | (simp only [List.length_drop, List.length_take]; rfl)) ?_; (with_reducible refine (ye0.calls k _ _ l0_0 a1 _ _ l2 a3 t347 _ ?side1 ?side2 ?side3 ?side4 A9.1).mono ?_); (case side1 => repeat (first | exact (Kd.C_below HR0_0.1 HB.1) | with_reducible first | refine Kd.C_alloc ?_ _ | refine Kd.C_drewN ?_ _ | refine Kd.C_drew ?_)); (case side2 => exact HC0_0.1); (case side3 => repeat (first | exact (Kd.C_below HR2.1 HB.1) | with_reducible first | refine Kd.C_alloc ?_ _ | refine Kd.C_drewN ?_ _ | refine Kd.C_drew ?_)); (case side4 => exact HC2.1); rintro e w16 ⟨v348, rfl, ho0, hb⟩; refine ⟨_, rfl, ?_⟩; have n0_ := za0.mk (Kd.N_lower (Kd.N_mono (ok' := fun k_ => (w.heap.size ≤ k_) ∧ k_ ≠ gb344) ho0 (fun k_ hk_ => ⟨(Nat.le_trans (zh0 (by repeat (first | exact HB.1 | apply zc0 | apply zb0 | apply zd0 | refine ze0 ?_ GE344.1))) hk_), (Kd.freshB (g := gb344) (o := .cells #[.slice A0_0 l0_0.length c0_0] 29 (0, 0)) (by (with_reducible repeat (first | refine zg0 ?_ _ | refine zj0 ?_ | refine zf0 ?_ _)); exact BK344.1) k_ hk_)⟩)) (zh0 (by repeat (first | exact HB.1 | apply zc0 | apply zb0 | apply zd0 | refine ze0 ?_ GE344.1)))); have n1_ := za0.mk (zm0 (g := gb344) (o := .cells #[.slice A0_0 l0_0.length c0_0] 29 (0, 0)) (by (with_reducible repeat (first | refine zg0 ?_ _ | refine zj0 ?_ | refine zf0 ?_ _)); exact BK344.1) hb); have n2_ := za0.mk (zi0 (by repeat (first | exact HB.1 | apply zc0 | apply zb0 | apply zd0 | refine ze0 ?_ GE344.1)) hb); clear BK344; clear HB; have HO349 := n0_; have BK344 := n1_; have HB := n2_; clear n0_ n1_ n2_; (try clear hb); (try clear hb2); (try clear hk); (try clear hi); (try clear ho0); obtain ⟨Ao17, co17, eo17⟩ := Kd.N_slice HO349.1; subst eo17))
 go_ret2
 exact ⟨_, by first | rfl | (simp [errW_none, errW_some] <;> rfl) | (simp [*, errW_none, errW_some] <;> rfl), by (with_reducible repeat (first | apply Kd.N_alloc | apply Kd.N_drewN | apply Kd.N_drew)); exact Kd.N_mono HO349.1 (fun _ hk => hk.1), by repeat (first | exact HB.1 | apply zc0 | apply zb0 | apply zd0 | refine ze0 ?_ GE344.1)⟩
end Go.Proofs.Ytlbgajpbdbgmkaa.P
namespace Go.Proofs.Ytlbgajpbdbgmkaa.In
set_option maxHeartbeats 8000000
set_option maxRecDepth 100000
open Go.RowKit Go.Proofs.YtlbgajpbdbgmkaaW.PrintWords Go.Proofs.YtlbgajpbdbgmkaaW.PrintLast Go.Proofs.YtlbgajpbdbgmkaaW.PrintMore
set_option linter.unusedVariables false
theorem in_ints {w : World} {A : Option Addr} {L C : Nat} {zs : List Int} (hl : L ≤ C) (hm : C ≤ maxLen) (hz : zs.length = C) (hn : A = none → C = 0) (hc : ∀ a', A = some a' → ∀ c, c < C → w.cell? (a'.add c) = some (.int .i64 (zs.getD c 0))) :
  Kd.C (Kd.int .i64) w A (zs.take L).length (zs.take L) := by
 have hlen : (zs.take L).length = L := by rw [List.length_take]; omega
 refine ⟨rfl, by rw [hlen]; unfold maxLen at hm; omega, fun h => ?_⟩
 rw [hlen] at h
 cases A with
 | none => have := hn rfl; omega
 | some a =>
  refine ⟨a, rfl, fun j p hj => ⟨[.int .i64 p], rfl, rfl, fun i u hi => ?_⟩⟩
  have hi0 : i = 0 := by
   cases i with
   | zero => rfl
   | succ i => simp at hi
  subst hi0
  obtain rfl := Option.some.inj hi
  show w.cell? (a.add (j * 1 + 0)) = _
  rw [List.getElem?_take] at hj
  split at hj
  ·rename_i hjl
   have h2 : zs.getD j 0 = p := by rw [List.getD_eq_getElem?_getD, hj]; rfl
   rw [Nat.mul_one, Nat.add_zero, hc a rfl j (by omega), h2]
  ·cases hj
theorem in_rows {w : World} {q : Nat} {a : Addr} {len cap : Nat} {A : Nat → Option Addr} {L C : Nat → Nat} {Z : Nat → List Int} (hl : len ≤ cap) (hm : cap ≤ maxLen)
  (h : ∀ r, r < cap → w.cell? (a.add r) = some (.slice (A r) (L r) (C r)) ∧ L r ≤ C r ∧ C r ≤ maxLen ∧ (Z r).length = C r ∧ (∀ n ∈ Z r, (Lit.int .i64 n).wf = true) ∧ (A r = none → C r = 0) ∧ ∀ a', A r = some a' → ∀ c, c < C r → w.cell? (a'.add c) = some (.int .i64 ((Z r).getD c 0))) :
  ∃ ll : List (List Int), len = ll.length ∧ Kd.C (Kd.slice q (Kd.int .i64)) w (some a) ll.length ll ∧ (∀ row ∈ ll, row.length ≤ maxLen ∧ ∀ x ∈ row, (Lit.int .i64 x).wf = true) := by
 refine ⟨(List.range len).map fun r => (Z r).take (L r), by simp, ⟨by simp, by simp; unfold maxLen at hm; omega, fun _ => ⟨a, rfl, fun j p hj => ?_⟩⟩, fun row hrow => ?_⟩
 ·rw [List.getElem?_map] at hj
  have hjl : j < len := by
   rcases Nat.lt_or_ge j len with h1 | h1
   ·exact h1
   ·rw [List.getElem?_eq_none (by simpa using h1)] at hj; cases hj
  rw [List.getElem?_range hjl] at hj
  simp at hj
  subst hj
  obtain ⟨h1, h2, h3, h4, h5, h6, h7⟩ := h j (by omega)
  have hlen : ((Z j).take (L j)).length = L j := by rw [List.length_take]; omega
  refine ⟨[.slice (A j) ((Z j).take (L j)).length (C j)], rfl, ⟨A j, C j, rfl, by omega, in_ints h2 h3 h4 h6 h7⟩, fun i u hi => ?_⟩
  have hi0 : i = 0 := by
   cases i with
   | zero => rfl
   | succ i => simp at hi
  subst hi0
  obtain rfl := Option.some.inj hi
  show w.cell? (a.add (j * 1 + 0)) = _
  rw [Nat.mul_one, Nat.add_zero, h1, hlen]
 ·simp only [List.mem_map, List.mem_range] at hrow
  obtain ⟨r, hr, rfl⟩ := hrow
  obtain ⟨h1, h2, h3, h4, h5, h6, h7⟩ := h r (by omega)
  exact ⟨by rw [List.length_take]; omega, fun x hx => h5 x (List.mem_of_mem_take hx)⟩
section
variable {H : Type} {enc : TypeId × Value → H} {P : Program} {w : World} {base : Nat} {held : Bool}
open Go.ChangeShapes Go.WideShapes Go.Deep in
theorem in_rows_cell {t e q : TypeId} {fuel : Nat} {cs : List Value} {x : DataW H × List MemPlace} (ht : P.underlying t = some (.slice e)) (he : P.underlying e = some (.slice q)) (hq : P.underlying q = some (.int .i64))
  (ce : P.cellsOf e = 1) (cq : P.cellsOf q = 1) (h : DataW.trod enc P w base (fun _ => true) held fuel t cs = some x) :
  ∃ (A : Option Addr) (ll : List (List Int)) (cap : Nat), cs = [.slice A ll.length cap] ∧ ll.length ≤ cap ∧ Kd.C (Kd.slice q (Kd.int .i64)) w A ll.length ll ∧ (∀ row ∈ ll, row.length ≤ maxLen ∧ ∀ x ∈ row, (Lit.int .i64 x).wf = true) := by
 rcases open_int_rows ht he hq ce cq h with ⟨rfl, _⟩ | ⟨a, len, cap, A, L, C, Z, rfl, _, hl, hm, _, hr⟩
 ·exact ⟨none, [], 0, rfl, Nat.le_refl _, Kd.C_nil _ _, by simp⟩
 ·obtain ⟨ll, rfl, hc, hw⟩ := in_rows (q := q) hl hm (fun r hr' => by
   obtain ⟨h1, h2, h3, h4, h5, h6, h7⟩ := hr r hr'
   exact ⟨h1, h2, h3, h4, h5, h6, fun a' ha c hc => (h7 a' ha).2 c hc⟩)
  exact ⟨some a, ll, cap, rfl, hl, hc, hw⟩
open Go.ChangeShapes Go.WideShapes Go.Deep in
theorem in_ints_cell {t q : TypeId} {fuel : Nat} {cs : List Value} {x : DataW H × List MemPlace} (ht : P.underlying t = some (.slice q)) (hq : P.underlying q = some (.int .i64))
  (cq : P.cellsOf q = 1) (h : DataW.trod enc P w base (fun _ => true) held fuel t cs = some x) :
  ∃ (A : Option Addr) (l : List Int) (cap : Nat), cs = [.slice A l.length cap] ∧ l.length ≤ cap ∧ Kd.C (Kd.int .i64) w A l.length l ∧ (l.length ≤ maxLen ∧ ∀ x ∈ l, (Lit.int .i64 x).wf = true) := by
 rcases open_ints ht hq cq h with ⟨rfl, _⟩ | ⟨a, len, cap, zs, rfl, _, hl, hm, hz, _, hc, hw⟩
 ·exact ⟨none, [], 0, rfl, Nat.le_refl _, Kd.C_nil _ _, by simp⟩
 ·simp only [if_true] at hz
  have hlen : (zs.take len).length = len := by rw [List.length_take]; omega
  refine ⟨some a, zs.take len, cap, by rw [hlen], by omega, in_ints hl hm hz (fun e => by cases e) (fun a' e c hlt => by cases e; exact hc c (by omega)), by omega, fun x hx => hw x (List.mem_of_mem_take hx)⟩
theorem array1 {α : Type} {cs : Array α} (h : cs.size = 1) : ∃ c0, cs = #[c0] := by
 obtain ⟨l⟩ := cs
 match l, h with
 | [c0], _ => exact ⟨c0, rfl⟩
open Go.ChangeShapes Go.WideShapes Go.Deep in
theorem in_graph {r : Reach} {b0 : Nat} {t ts te q : TypeId} {f0 : Field} {v : Value} {d : DataW H} {p : List MemPlace} (hs : P.underlying t = some (.struct #[f0])) (hone : oneCellFields P #[f0] = true) (hC : P.cellsOf t = 1) (hf0 : f0.type = ts)
  (ht : P.underlying ts = some (.slice te)) (he : P.underlying te = some (.slice q)) (hq : P.underlying q = some (.int .i64)) (ce : P.cellsOf te = 1) (cq : P.cellsOf q = 1) (hv : Value.okWide P w r b0 t v) (h : DataW.Trod enc P w base (fun _ => true) held t v d p) :
  ∃ (A : Option Addr) (ll : List (List Int)) (cap : Nat), v = .agg #[.slice A ll.length cap] ∧ ll.length ≤ cap ∧ Kd.C (Kd.slice q (Kd.int .i64)) w A ll.length ll ∧ (∀ row ∈ ll, row.length ≤ maxLen ∧ ∀ x ∈ row, (Lit.int .i64 x).wf = true) := by
 subst hf0
 obtain ⟨cs, rfl, hsz⟩ := okWide_struct hs hv
 obtain ⟨c0, rfl⟩ := array1 (hsz.trans hC)
 obtain ⟨fuel, hf⟩ := h
 obtain ⟨y0, n, hx, _, h0⟩ := trod_struct1 hs hf
 obtain ⟨o0, k0⟩ := hone_of hone 0 f0 rfl
 obtain ⟨A, ll, cap, hcs, h1, h2, h3⟩ := in_rows_cell ht he hq ce cq h0
 simp [Value.cells, o0, k0] at hcs
 subst hcs
 exact ⟨A, ll, cap, rfl, h1, h2, h3⟩
end
section
variable {H : Type} {enc : TypeId × Value → H} {P : Program} {w : World} {base : Nat} {held : Bool}
open Go.ChangeShapes Go.WideShapes Go.Deep in
open Go.ChangeShapes Go.WideShapes Go.Deep in
open Go.ChangeShapes Go.WideShapes Go.Deep in
theorem in_slice {r : Reach} {b0 : Nat} {t q : TypeId} {v : Value} {d : DataW H} {p : List MemPlace} (ht : P.underlying t = some (.slice q)) (hq : P.underlying q = some (.int .i64)) (cq : P.cellsOf q = 1) (hv : Value.okWide P w r b0 t v) (h : DataW.Trod enc P w base (fun _ => true) held t v d p) :
  ∃ (A : Option Addr) (l : List Int) (cap : Nat), v = .slice A l.length cap ∧ l.length ≤ cap ∧ Kd.C (Kd.int .i64) w A l.length l ∧ (l.length ≤ maxLen ∧ ∀ y ∈ l, (Lit.int .i64 y).wf = true) := by
 obtain ⟨A0, n0, c0, rfl⟩ := okWide_slice ht hv
 obtain ⟨fuel, hf⟩ := h
 obtain ⟨A, l, cap, hcs, hl, hc, hw⟩ := in_ints_cell ht hq cq hf
 simp [Value.cells] at hcs
 obtain ⟨rfl, rfl, rfl⟩ := hcs
 exact ⟨_, l, _, rfl, hl, hc, hw⟩
open Go.ChangeShapes Go.WideShapes Go.Deep in
end
def okI (x : Int) : Prop := -9223372036854775808 ≤ x ∧ x ≤ 9223372036854775807
def okIs (l : List Int) : Prop := l.length ≤ 9223372036854775807 ∧ ∀ x ∈ l, okI x
def okSS (ll : List (List Int)) : Prop := ll.length ≤ 9223372036854775807 ∧ ∀ row ∈ ll, okIs row
theorem okI_wf {x : Int} (h : (Lit.int .i64 x).wf = true) : okI x := by
 simp only [Lit.wf, Bool.and_eq_true, decide_eq_true_eq] at h
 exact h
theorem okIs_wf {l : List Int} (h : l.length ≤ maxLen ∧ ∀ x ∈ l, (Lit.int .i64 x).wf = true) : okIs l := ⟨h.1, fun x hx => okI_wf (h.2 x hx)⟩
theorem okSS_wf {w : World} {q : Nat} {A : Option Addr} {ll : List (List Int)} (hc : Kd.C (Kd.slice q (Kd.int .i64)) w A ll.length ll) (h : ∀ row ∈ ll, row.length ≤ maxLen ∧ ∀ x ∈ row, (Lit.int .i64 x).wf = true) : okSS ll := ⟨hc.2.1, fun row hr => okIs_wf (h row hr)⟩
end Go.Proofs.Ytlbgajpbdbgmkaa.In
namespace Go.Proofs.Ytlbgajpbdbgmkaa.M
set_option maxHeartbeats 8000000
set_option maxRecDepth 100000
open Go.RowKit Go.Proofs.Ytlbgajpbdbgmkaa.P Go.Proofs.Ytlbgajpbdbgmkaa.In Go.Proofs.YtlbgajpbdbgmkaaW.PrintWords Go.Proofs.YtlbgajpbdbgmkaaW.PrintLast
set_option linter.unusedVariables false
set_option linter.unusedSimpArgs false
theorem ev_kept {w wc W w' : World} {S : Nat → Prop} {s : Nat} (hs : s ≤ wc.heap.size) (hB : Below w.heap.size w wc) (hb : Below W.heap.size W w') (hk : Kept wc W S) : Kept wc w' S ∧ s ≤ W.heap.size ∧ W.heap.size ≤ w'.heap.size ∧ w.heap.size ≤ W.heap.size :=
 ⟨hk.below hb, Nat.le_trans hs hk.1, hb.size, Nat.le_trans hB.size hk.1⟩
theorem ev_mark {wc W w' : World} {S : Nat → Prop} {s : Nat} (hs : s ≤ wc.heap.size) (hm : Kept W w' S) (hk : Kept wc W S) : Kept wc w' S ∧ s ≤ w'.heap.size :=
 ⟨hk.then_ hm (fun _ h => .inl h), Nat.le_trans hs (Nat.le_trans hk.1 hm.1)⟩
theorem S_new {α : Type} {d : Kd α} {e : Nat} {W w' : World} {v : Value} {r : List α} {b0 s : Nat} (h : Kd.S d e w' W.heap.size (fun _ => True) v r) (hb : W.heap.size ≤ w'.heap.size) (h0 : b0 ≤ W.heap.size) (hs : s ≤ W.heap.size) :
  ∃ lo hi, s ≤ lo ∧ lo ≤ hi ∧ hi ≤ w'.heap.size ∧ Kd.S d e w' b0 (fun k => lo ≤ k ∧ k < hi) v r :=
 ⟨W.heap.size, w'.heap.size, hs, hb, Nat.le_refl _, Kd.S_lower (Kd.S_mono (Kd.S_bound h) (fun _ hk => ⟨hk.2.1, hk.2.2.1⟩)) h0⟩
theorem R_new {α : Type} {d : Kd α} {e : Nat} {W w' : World} {v : Value} {r : List α} {b0 s : Nat} (h : Kd.R d e w' W.heap.size (fun _ => True) v r) (hb : W.heap.size ≤ w'.heap.size) (h0 : b0 ≤ W.heap.size) (hs : s ≤ W.heap.size) :
  ∃ lo hi, s ≤ lo ∧ lo ≤ hi ∧ hi ≤ w'.heap.size ∧ Kd.R d e w' b0 (fun k => lo ≤ k ∧ k < hi) v r :=
 ⟨W.heap.size, w'.heap.size, hs, hb, Nat.le_refl _, Kd.R_lower (Kd.R_mono (Kd.R_bound h) (fun _ hk => ⟨hk.2.1, hk.2.2.1⟩)) h0⟩
theorem S_now {α : Type} {d : Kd α} {e base : Nat} {wc W : World} {ok S : Nat → Prop} {A : Option Addr} {c : Nat} {xs : List α} (h : Kd.S d e wc base ok (.slice A xs.length c) xs) (hk : Kept wc W S) (hne : ∀ k, ok k → ¬ S k) : Kd.C d W A xs.length xs :=
 (Kd.S_reads' (Kd.S_kept h hk hne)).2.2
theorem R_now {α : Type} {d : Kd α} {e base : Nat} {wc W : World} {ok S : Nat → Prop} {A : Option Addr} {c : Nat} {xs : List α} (h : Kd.R d e wc base ok (.slice A xs.length c) xs) (hk : Kept wc W S) (hne : ∀ k, ok k → ¬ S k) : Kd.C d W A xs.length xs :=
 (Kd.R_reads' (Kd.R_kept h hk hne)).2.2
theorem F_at {α : Type} {d : Kd α} {wc W : World} {ok S : Nat → Prop} {A : Option Addr} {n : Nat} {xs : List α} (h : Kd.F d wc ok A n xs) (hk : Kept wc W S) (hne : ∀ k, ok k → ¬ S k) : Kd.C d W A n xs :=
 Kd.F_now (Kd.F_kept h hk hne)
theorem N_new {α : Type} {d : Kd α} {e : Nat} {W w' : World} {v : Value} {r : List α} {b0 s : Nat} (h : Kd.N d e w' W.heap.size (fun k => W.heap.size ≤ k) v r) (hb : W.heap.size ≤ w'.heap.size) (h0 : b0 ≤ W.heap.size) (hs : s ≤ W.heap.size) :
  ∃ lo hi, s ≤ lo ∧ lo ≤ hi ∧ hi ≤ w'.heap.size ∧ Kd.N d e w' b0 (fun k => lo ≤ k ∧ k < hi) v r :=
 ⟨W.heap.size, w'.heap.size, hs, hb, Nat.le_refl _, Kd.N_lower (Kd.N_mono (Kd.N_bound h) (fun _ hk => ⟨hk.1, hk.2⟩)) h0⟩
theorem N_now {α : Type} {d : Kd α} {e base : Nat} {wc W : World} {ok S : Nat → Prop} {A : Option Addr} {c : Nat} {xs : List α} (h : Kd.N d e wc base ok (.slice A xs.length c) xs) (hk : Kept wc W S) (hne : ∀ k, ok k → ¬ S k) : Kd.C d W A xs.length xs :=
 (Kd.N_reads' (Kd.N_kept h hk hne)).2.2
theorem box_in {w : World} {g : Nat} {o : Obj} (h : w.heap[g]? = some o) : g + 1 ≤ w.heap.size := blk_lt h
theorem calls_len {P : Program} {n : FuncId} {args args' : Array Value} {w : World} {Q : Ending → World → Prop} (e : args = args') (h : Calls P n args' w Q) : Calls P n args w Q := e ▸ h
end Go.Proofs.Ytlbgajpbdbgmkaa.M
