/- Texts of this session on the way to the law FnRecurrentHeaps, part 6: words of the print, walks, plain laws; only what the law's proof uses. -/
import Derived.Test.YtdfabioienofhaaCFnRecurrentHeapsb
import Derived.Test.YtdfabioienofhaaCFnRecurrentHeapsd
import Derived.Test.YtdfabioienofhaaCFnRecurrentHeapse
import Derived.Test.YtdfabioienofhaaCFnRecurrentHeapsc
import Derived.Test.YtdfabioienofhaaCFnRecurrentHeapsa
import Derived.WalkKit
import Derived.ProofKit
import Derived.OpenShut
import Derived.ShutString
import Derived.ChangeOld
import Derived.Below
import Derived.SizedLaws
import Derived.Deep.Matrix
import Derived.Lib.SmallJoins
namespace Go.Proofs.Ytdfabioienofhaa.P
set_option maxHeartbeats 8000000
set_option maxRecDepth 100000
open Go.RowKit Go.Proofs.YtdfabioienofhaaW.PrintWords Go.Proofs.YtdfabioienofhaaW.PrintLast Go.Proofs.YtdfabioienofhaaW.PrintMore
attribute [local go_sem] zr0 zp0 zw0 zv0 zn0 zo0 zq0 zs0
set_option linter.unusedVariables false
set_option linter.unusedSimpArgs false
def yl1.f (k : Nat) (J0 : List (List Int)) (a1 : Int) (l2 : List Int) : Option (Bool) := (yh1.f k J0 a1).bind fun UI => (if UI = true then (if (l2.length : Int) = (J0.length : Int) then ((yu0.f k l2 0 20).bind fun XI => (if XI = true then (if 0 ≤ a1 then (if a1 < (l2.length : Int) then (some ((rd l2 a1) == 0)) else (none)) else (none)) else (some false))) else (some false)) else (some false))
theorem yl1.mono : ∀ a0 a1 a2 k, LeO (yl1.f k a0 a1 a2) (yl1.f (k + 1) a0 a1 a2) := by
 intro a0 a1 a2 k
 unfold yl1.f
 repeat' (with_reducible first | apply yh1.mono | apply yu0.mono | apply LeO.refl | apply LeO.none | refine LeO.ite ?_ ?_ | refine LeO.bind ?_ (fun _ => ?_))
theorem yl1.calls (k : Nat) (J4 : Option Addr) (J2 : Nat) (J0 : List (List Int)) (a1 : Int) (A2 : Option Addr) (c2 : Nat) (l2 : List Int) (r : Bool) (w : World) (hr0_0 : Kd.C (Kd.slice 3 (Kd.int .i64)) w J4 J0.length J0) (hc0_0 : J0.length ≤ J2) (hr2 : Kd.C (Kd.int .i64) w A2 l2.length l2) (hc2 : l2.length ≤ c2) (h : yl1.f k J0 a1 l2 = some r) :
  Calls Try.prog 30 #[.agg #[.slice J4 J0.length J2], .int .i64 a1, .slice A2 l2.length c2] w fun e w' => e = .returned (.bool r) ∧ Below w.heap.size w w' := by
 have hu26 := Try.underlying26
 have Ja := hqZ hr0_0
 have HC0_0 := hqZ hc0_0
 clear hr0_0 hc0_0
 have jz := hqZ hr2
 have HC2 := hqZ hc2
 clear hr2 hc2
 have HB := hqZ (Below.refl w.heap.size w)
 have H : ((yh1.f k J0 a1).bind fun UI => (if UI = true then (if (l2.length : Int) = (J0.length : Int) then ((yu0.f k l2 0 20).bind fun XI => (if XI = true then (if 0 ≤ a1 then (if a1 < (l2.length : Int) then (some ((rd l2 a1) == 0)) else (none)) else (none)) else (some false))) else (some false)) else (some false))) = some r := h
 clear h
 replace H := Option.bind_eq_some_iff.mp H
 obtain ⟨UI, A40, H⟩ := H
 try dsimp only at H
 have A4 := hqZ A40
 clear A40
 by_cases c5 : UI = true
 rotate_left
 ·replace c5 := Bool.eq_false_iff.mpr c5
  subst c5
  rw [if_neg (show ¬ (false = true) by decide)] at H
  obtain rfl := Option.some.inj H
  go_enter Try.func30, Try.ntmps30
  go_wp2_with (first | ((with_reducible refine zi0 (N := 3) rfl ?_); (try (refine gate_guard (by rfl) ?_; dsimp only)); refine zk0 ?hg (N := 3) ?hd (cs := #[.slice J4 J0.length J2]) (t := 26) ?hr ?_; (case hd | hg => rfl); (case hr => go_simp); intro JV hg w23 hbox hb; have Vc := hqZ (hbox); have oN := hqZ ((by rw [hg]; exact (zb0 (HB.1)) : w.heap.size ≤ JV)); have oO := hqZ ((by rw [hg]; exact (zb0 (HB.1)) : w.heap.size ≤ JV)); replace HB := hqZ (za0 (HB.1) hb); clear hb hbox hg; have Ja0 : w23.cell? ⟨JV, 0, none⟩ = some (.slice J4 J0.length J2) := (zf0 Vc.1 0).trans rfl; have Ja1 := zc0 Vc.1 0) | ((with_reducible refine ze0 (f := 50) rfl ?_); refine zM (some 9) Try.func50 #[.agg #[.slice J4 J0.length J2], .int .i64 a1] ?_; (with_reducible refine (yh1.calls k _ _ J0 a1 false _ ?side1 ?side2 A4.1).mono ?_); (case side1 => exact (Kd.C_below Ja.1 HB.1)); (case side2 => exact HC0_0.1); rintro e w25 ⟨rfl, hb⟩; refine ⟨_, rfl, ?_⟩; replace Vc := hqZ (zd0 (g := JV) (Vc.1) hb); replace HB := hqZ (za0 (HB.1) hb); clear hb))
  go_ret
  exact ⟨rfl, HB.1⟩
 subst c5
 rw [if_pos rfl] at H
 by_cases c6 : (l2.length : Int) = (J0.length : Int)
 rotate_left
 ·rw [if_neg c6] at H
  have c6b0 : ((l2.length : Int) == (J0.length : Int)) = false := beq_eq_false_iff_ne.mpr c6
  have c6b1 : ((l2.length : Int) != (J0.length : Int)) = true := bne_iff_ne.mpr c6
  have c6b2 : (l2.length == J0.length) = false := by (simp at c6 ⊢; omega)
  obtain rfl := Option.some.inj H
  go_enter Try.func30, Try.ntmps30
  go_wp2_with (first | ((with_reducible refine zi0 (N := 3) rfl ?_); (try (refine gate_guard (by rfl) ?_; dsimp only)); refine zk0 ?hg (N := 3) ?hd (cs := #[.slice J4 J0.length J2]) (t := 26) ?hr ?_; (case hd | hg => rfl); (case hr => go_simp); intro JV hg w19 hbox hb; have Vc := hqZ (hbox); have oN := hqZ ((by rw [hg]; exact (zb0 (HB.1)) : w.heap.size ≤ JV)); have oO := hqZ ((by rw [hg]; exact (zb0 (HB.1)) : w.heap.size ≤ JV)); replace HB := hqZ (za0 (HB.1) hb); clear hb hbox hg; have jJ : w19.cell? ⟨JV, 0, none⟩ = some (.slice J4 J0.length J2) := (zf0 Vc.1 0).trans rfl; have jK := zc0 Vc.1 0) | ((with_reducible refine ze0 (f := 50) rfl ?_); refine zM (some 9) Try.func50 #[.agg #[.slice J4 J0.length J2], .int .i64 a1] ?_; (with_reducible refine (yh1.calls k _ _ J0 a1 true _ ?side1 ?side2 A4.1).mono ?_); (case side1 => exact (Kd.C_below Ja.1 HB.1)); (case side2 => exact HC0_0.1); rintro e w21 ⟨rfl, hb⟩; refine ⟨_, rfl, ?_⟩; replace Vc := hqZ (zd0 (g := JV) (Vc.1) hb); replace HB := hqZ (za0 (HB.1) hb); clear hb; have Yp : w21.cell? ⟨JV, 0, none⟩ = some (.slice J4 J0.length J2) := (zf0 Vc.1 0).trans rfl; have Yq := zc0 Vc.1 0))
  go_ret
  exact ⟨rfl, HB.1⟩
 rw [if_pos c6] at H
 have c6b0 : ((l2.length : Int) == (J0.length : Int)) = true := beq_iff_eq.mpr c6
 have c6b1 : ((l2.length : Int) != (J0.length : Int)) = false := bne_eq_false_iff_eq.mpr c6
 have c6b2 : (l2.length == J0.length) = true := by (simp at c6 ⊢; omega)
 clear c6
 replace H := Option.bind_eq_some_iff.mp H
 obtain ⟨XI, A70, H⟩ := H
 try dsimp only at H
 have A7 := hqZ A70
 clear A70
 by_cases c8 : XI = true
 rotate_left
 ·replace c8 := Bool.eq_false_iff.mpr c8
  subst c8
  rw [if_neg (show ¬ (false = true) by decide)] at H
  obtain rfl := Option.some.inj H
  go_enter Try.func30, Try.ntmps30
  go_wp2_with (first | ((with_reducible refine zi0 (N := 3) rfl ?_); (try (refine gate_guard (by rfl) ?_; dsimp only)); refine zk0 ?hg (N := 3) ?hd (cs := #[.slice J4 J0.length J2]) (t := 26) ?hr ?_; (case hd | hg => rfl); (case hr => go_simp); intro JV hg w15 hbox hb; have Vc := hqZ (hbox); have oN := hqZ ((by rw [hg]; exact (zb0 (HB.1)) : w.heap.size ≤ JV)); have oO := hqZ ((by rw [hg]; exact (zb0 (HB.1)) : w.heap.size ≤ JV)); replace HB := hqZ (za0 (HB.1) hb); clear hb hbox hg; have YM : w15.cell? ⟨JV, 0, none⟩ = some (.slice J4 J0.length J2) := (zf0 Vc.1 0).trans rfl; have YN := zc0 Vc.1 0) | ((with_reducible refine ze0 (f := 50) rfl ?_); refine zM (some 9) Try.func50 #[.agg #[.slice J4 J0.length J2], .int .i64 a1] ?_; (with_reducible refine (yh1.calls k _ _ J0 a1 true _ ?side1 ?side2 A4.1).mono ?_); (case side1 => exact (Kd.C_below Ja.1 HB.1)); (case side2 => exact HC0_0.1); rintro e w17 ⟨rfl, hb⟩; refine ⟨_, rfl, ?_⟩; replace Vc := hqZ (zd0 (g := JV) (Vc.1) hb); replace HB := hqZ (za0 (HB.1) hb); clear hb; have YT : w17.cell? ⟨JV, 0, none⟩ = some (.slice J4 J0.length J2) := (zf0 Vc.1 0).trans rfl; have YU := zc0 Vc.1 0) | (go_at_call 44; (with_reducible refine (yu0.calls k _ _ l2 0 20 false _ ?side1 ?side2 A7.1).mono ?_); (case side1 => exact (Kd.C_below jz.1 HB.1)); (case side2 => exact HC2.1); rintro e w' ⟨rfl, ⟨nd, rfl⟩⟩))
  go_ret
  exact ⟨rfl, hqB HB.1⟩
 subst c8
 rw [if_pos rfl] at H
 by_cases c9 : 0 ≤ a1
 rotate_left
 ·rw [if_neg c9] at H
  exact absurd H (by simp)
 rw [if_pos c9] at H
 have c9b0 : decide (0 ≤ a1) = true := decide_eq_true c9
 clear c9
 by_cases c10 : a1 < (l2.length : Int)
 rotate_left
 ·rw [if_neg c10] at H
  exact absurd H (by simp)
 rw [if_pos c10] at H
 have c10b0 : decide (a1 < (l2.length : Int)) = true := decide_eq_true c10
 clear c10
 obtain rfl := Option.some.inj H
 go_enter Try.func30, Try.ntmps30
 go_wp2_with (first | ((with_reducible refine zi0 (N := 3) rfl ?_); (try (refine gate_guard (by rfl) ?_; dsimp only)); refine zk0 ?hg (N := 3) ?hd (cs := #[.slice J4 J0.length J2]) (t := 26) ?hr ?_; (case hd | hg => rfl); (case hr => go_simp); intro JV hg w11 hbox hb; have Vc := hqZ (hbox); have oN := hqZ ((by rw [hg]; exact (zb0 (HB.1)) : w.heap.size ≤ JV)); have oO := hqZ ((by rw [hg]; exact (zb0 (HB.1)) : w.heap.size ≤ JV)); replace HB := hqZ (za0 (HB.1) hb); clear hb hbox hg; have jj : w11.cell? ⟨JV, 0, none⟩ = some (.slice J4 J0.length J2) := (zf0 Vc.1 0).trans rfl; have jk := zc0 Vc.1 0) | ((with_reducible refine ze0 (f := 50) rfl ?_); refine zM (some 9) Try.func50 #[.agg #[.slice J4 J0.length J2], .int .i64 a1] ?_; (with_reducible refine (yh1.calls k _ _ J0 a1 true _ ?side1 ?side2 A4.1).mono ?_); (case side1 => exact (Kd.C_below Ja.1 HB.1)); (case side2 => exact HC0_0.1); rintro e w13 ⟨rfl, hb⟩; refine ⟨_, rfl, ?_⟩; replace Vc := hqZ (zd0 (g := JV) (Vc.1) hb); replace HB := hqZ (za0 (HB.1) hb); clear hb; have u4 : w13.cell? ⟨JV, 0, none⟩ = some (.slice J4 J0.length J2) := (zf0 Vc.1 0).trans rfl; have u7 := zc0 Vc.1 0) | (go_at_call 44; (with_reducible refine (yu0.calls k _ _ l2 0 20 true _ ?side1 ?side2 A7.1).mono ?_); (case side1 => exact (Kd.C_below jz.1 HB.1)); (case side2 => exact HC2.1); rintro e w' ⟨rfl, ⟨nd, rfl⟩⟩; have p373 : 0 ≤ (a1 : Int) := oA; have q373 : a1 < (l2.length : Int) := oA; obtain ⟨ad373, e373, hx373_0⟩ := Kd.at_int jz.1 a1 p373 q373; cases e373; replace hx373_0 := (HB.1.cell (World.block_lt_of_cell? w _ hx373_0)).trans hx373_0; replace p373 := eq_true p373; replace q373 := eq_true q373))
 go_ret
 exact ⟨rfl, hqB HB.1⟩
def yy0.j0 : Nat → Int → List Int → Bool → List Int → Int → Int → List (List Int) → Option ((List (List Int)) × Int × List Int × Int × Int)
 | 0, _, _, _, _, _, _, _ => none
 | k + 1, x7, x8, U1, VD, VY, VZ, ot => if U1 = true then ((yi0.f k ot x7 x8).bind fun qd => (if qd.2.2 = true then (some (ot, x7, qd.1, VY, VZ)) else (some (ot, x7, x8, VY, VZ)))) else (some (ot, x7, x8, VY, VZ))
def yy0.f (k : Nat) (J6 : List Int) (Jv : Int) (JQ : Int) : Option ((List (List Int)) × Int × List Int × Int × Int) := (ym0.f k J6 Jv JQ 6).bind fun Y5 => ((yl1.f k Y5.1 Y5.2.1 Y5.2.2.1).bind fun qe => (if qe = true then ((ys0.f J6 Y5.2.2.2.1 Y5.2.2.2.2 4).bind fun YW => (yy0.j0 k Y5.2.1 Y5.2.2.1 (!YW.1) J6 YW.2.1 YW.2.2 Y5.1)) else (yy0.j0 k Y5.2.1 Y5.2.2.1 false J6 Y5.2.2.2.1 Y5.2.2.2.2 Y5.1)))
theorem yy0.mono_l : ∀ k, (∀ y0 y1 y2 y3 y4 y5 y6, LeO (yy0.j0 k y0 y1 y2 y3 y4 y5 y6) (yy0.j0 (k + 1) y0 y1 y2 y3 y4 y5 y6))
 | 0 => fun _ _ _ _ _ _ _ r h => by simp [yy0.j0] at h
 | k + 1 => by
  have ih0 := yy0.mono_l k
  ·intro y0 y1 y2 y3 y4 y5 y6
   unfold yy0.j0
   repeat' (with_reducible first | apply ih0 | apply yl1.mono | apply yi0.mono | apply ym0.mono | apply LeO.refl | apply LeO.none | refine LeO.ite ?_ ?_ | refine LeO.bind ?_ (fun _ => ?_))
theorem yy0.mono : ∀ a0 a1 a2 k, LeO (yy0.f k a0 a1 a2) (yy0.f (k + 1) a0 a1 a2) := by
 intro a0 a1 a2 k
 have ih0 := yy0.mono_l k
 unfold yy0.f
 repeat' (with_reducible first | apply ih0 | apply yl1.mono | apply yi0.mono | apply ym0.mono | apply LeO.refl | apply LeO.none | refine LeO.ite ?_ ?_ | refine LeO.bind ?_ (fun _ => ?_))
theorem yy0.calls (k : Nat) (A0 : Option Addr) (c0 : Nat) (J6 : List Int) (r1 : List (List Int)) (r2 : Int) (r3 : List Int) (r4 : Int) (r5 : Int) (w : World) (hr0 : Kd.C (Kd.int .u8) w A0 J6.length J6) (hc0 : J6.length ≤ c0) (h : yy0.f k J6 0 0 = some (r1, r2, r3, r4, r5)) :
  Calls Try.prog 25 #[.slice A0 J6.length c0] w fun e w' => ∃ v0_ v2_ : Value, e = .returned (.tuple #[.agg #[v0_], .int .i64 r2, v2_]) ∧ Kd.N (Kd.slice 3 (Kd.int .i64)) 27 w' w.heap.size (fun k_ => (w.heap.size ≤ k_) ∧ some k_ ≠ (v2_ : Value).ownBlock) v0_ r1 ∧ Kd.R (Kd.int .i64) 3 w' w.heap.size (fun k_ => (w.heap.size ≤ k_)) v2_ r3 ∧ Below w.heap.size w w' := by
 have hu26 := Try.underlying26
 have hu46 := Try.underlying46
 have uU := hqZ hr0
 clear hr0
 have HW0 := hqZ (Nat.le_refl w.heap.size)
 have HL := hqZ (Nat.le_refl w.heap.size)
 have HB := hqZ (Below.refl w.heap.size w)
 have H : ((ym0.f k J6 0 0 6).bind fun Y5 => ((yl1.f k Y5.1 Y5.2.1 Y5.2.2.1).bind fun qe => (if qe = true then ((ys0.f J6 Y5.2.2.2.1 Y5.2.2.2.2 4).bind fun YW => (yy0.j0 k Y5.2.1 Y5.2.2.1 (!YW.1) J6 YW.2.1 YW.2.2 Y5.1)) else (yy0.j0 k Y5.2.1 Y5.2.2.1 false J6 Y5.2.2.2.1 Y5.2.2.2.2 Y5.1)))) = some (r1, r2, r3, r4, r5) := h
 clear h
 replace H := Option.bind_eq_some_iff.mp H
 obtain ⟨⟨Vu, jx, YX, Xw, Xx⟩, A20, H⟩ := H
 replace H : ((yl1.f k Vu jx YX).bind fun qe => (if qe = true then ((ys0.f J6 Xw Xx 4).bind fun YW => (yy0.j0 k jx YX (!YW.1) J6 YW.2.1 YW.2.2 Vu)) else (yy0.j0 k jx YX false J6 Xw Xx Vu))) = some (r1, r2, r3, r4, r5) := H
 have A2 := hqZ A20
 clear A20
 have HC3 := hqZ H
 clear H
 go_enter Try.func25, Try.ntmps25
 go_upto_region 3 with (first | ((with_reducible refine zi0 (N := 2) rfl ?_); refine zk0 ?hg (N := 2) ?hd (cs := #[.slice none 0 0]) (t := 26) ?hr ?_; (case hd | hg => rfl); (case hr => go_simp); intro VA hg wA hbox hb; have n2_ := hqZ (za0 (HB.1) hb); have n3_ := hqZ hbox; have n4_ := hqZ ((by rw [hg]; exact (show Below w.heap.size w _ from HB.1).size) : w.heap.size ≤ VA); clear HB; have HB := n2_; have VE := n3_; have Jn6 := n4_; have Z3 := n4_; clear n2_ n3_ n4_; clear hb hbox hg) | ((with_reducible refine zi0 (N := 14) rfl ?_); refine zk0 ?hg (N := 14) ?hd (cs := #[.slice A0 J6.length c0, .int .i64 0, .int .u64 0]) (t := 46) ?hr ?_; (case hd | hg => rfl); (case hr => go_simp); intro g hg wB hbox hb; have Jg := hqZ (⟨A0, c0, hbox, (by rw [hg]; exact (show Below w.heap.size w _ from HB.1).size), uU.1⟩ : IsS46 w wB g J6 0 0); have HK := hqZ (zh0.of_below (za0 (HB.1) hb) g none); replace HB := hqZ (za0 (HB.1) hb); have Us := hqZ (by rw [hg]; exact Nat.ne_of_gt (blk_lt (g := VA) (o := .cells #[.slice none 0 0] 26 (0, 0)) (VE.1)) : g ≠ VA); have Xy := hqZ (by rw [hg]; exact Nat.ne_of_lt (blk_lt (g := VA) (o := .cells #[.slice none 0 0] 26 (0, 0)) (VE.1)) : VA ≠ g); replace VE := hqZ (zd0 (g := VA) (o := .cells #[.slice none 0 0] 26 (0, 0)) (VE.1) hb); clear hb hbox hg) | ((with_reducible refine ze0 (f := 27) rfl ?_); refine zM (some 17) Try.func27 #[.pointer (some ⟨g, 0, none⟩), .int .i64 6] ?_; (with_reducible refine (ym0.calls k g J6 0 0 6 Vu jx YX Xw Xx w _ ?side1 ?side2 A2.1).mono ?_); (case side1 => repeat (exact Jg.1)); (case side2 => exact HB.1); rintro e w5 ⟨v398, v402, rfl, ho0, ho1, hi, hb, hk⟩; refine ⟨_, rfl, ?_⟩; have vp := hqZ (Kd.N_lower (Kd.N_mono (ok' := fun k_ => (w.heap.size ≤ k_) ∧ some k_ ≠ (v402 : Value).ownBlock ∧ k_ ≠ VA ∧ k_ ≠ g) ho0 (fun k_ hk_ => ⟨(Nat.le_trans (zj0 (w := w) (g := g) (row := none) (HK.1)) hk_.1), hk_.2, (Kd.freshB (g := VA) (o := .cells #[.slice none 0 0] 26 (0, 0)) (VE.1) k_ hk_.1), (IsS46.fresh (Jg.1) k_ hk_.1)⟩)) (zj0 (w := w) (g := g) (row := none) (HK.1))); replace VE := hqZ (zh0.blk hk (g' := VA) (o := .cells #[.slice none 0 0] 26 (0, 0)) (VE.1) Xy.1 (by simp)); have jI := hqZ (Kd.R_lower (Kd.R_newM (M := fun k_ => (w.heap.size ≤ k_)) (Kd.R_mono (ok' := fun k_ => True) ho1 (fun _ hk_ => trivial)) (zj0 (w := w) (g := g) (row := none) (HK.1)) (fun k_ h_ => h_)) (zj0 (w := w) (g := g) (row := none) (HK.1))); replace HK := hqZ (zh0.trans (HK.1) hk (.inl rfl)); replace HB := hqZ (hb); replace Jg := hqZ (hi); clear hb hk hi ho0 ho1) | ((with_reducible refine zi0 (N := 6) rfl ?_); refine zk0 ?hg (N := 6) ?hd (cs := #[.slice none 0 0]) (t := 26) ?hr ?_; (case hd | hg => rfl); (case hr => go_simp); intro Vs hg w6 hbox hb; replace vp := hqZ (Kd.N_below (Kd.N_elderB (vp.1) Vs (Nat.le_of_eq hg.symm)) hb); replace jI := hqZ (Kd.R_below (jI.1) hb); replace HB := hqZ (za0 (HB.1) hb); have VN := hqZ (hbox); have Dv := hqZ ((by rw [hg]; exact (zj0 (w := w) (g := g) (row := none) (HK.1)) : w.heap.size ≤ Vs)); have Dw := hqZ ((Nat.le_trans HW0.1 (by rw [hg]; exact (zj0 (w := w) (g := g) (row := none) (HK.1)) : w.heap.size ≤ Vs) : w.heap.size ≤ Vs)); replace HK := hqZ (zh0.trans (HK.1) (zh0.of_below hb g none) (.inl rfl)); have YK := hqZ ((by rw [hg]; exact Nat.ne_of_lt (blk_lt (g := VA) (o := .cells #[.slice none 0 0] 26 (0, 0)) (VE.1)) : VA ≠ Vs)); have jV := hqZ ((by rw [hg]; exact Nat.ne_of_gt (blk_lt (g := VA) (o := .cells #[.slice none 0 0] 26 (0, 0)) (VE.1)) : Vs ≠ VA)); replace VE := hqZ (zd0 (g := VA) (o := .cells #[.slice none 0 0] 26 (0, 0)) (VE.1) hb); have vC := hqZ ((by rw [hg]; exact Nat.ne_of_lt (IsS46.lt (show IsS46 w _ g J6 Xw Xx from Jg.1)) : g ≠ Vs)); have ua := hqZ ((by rw [hg]; exact Nat.ne_of_gt (IsS46.lt (show IsS46 w _ g J6 Xw Xx from Jg.1)) : Vs ≠ g)); replace Jg := hqZ (IsS46.below (Jg.1) hb); clear hb hbox hg; obtain ⟨j7, YY, eo7⟩ := Kd.N_slice vp.1; subst eo7; have hnb8 := jV.1; have hnc8 := YK.1; have hnb9 := ua.1; have hnc9 := vC.1; have Y0 : w6.cell? ⟨Vs, 0, none⟩ = some (.slice none 0 0) := (zf0 VN.1 0).trans rfl; have Y1 := zc0 VN.1 0))
 (try simp only [Act.put, zA, zB, zC])
 go_cut [29] (fun v29 wc => ∃ (kq : Nat) (J9 : Bool) (V0 : Int) (V1 : Int), v29 = .bool J9 ∧ zg0 (yy0.j0 kq jx YX J9 J6 V0 V1 Vu = some (r1, r2, r3, r4, r5)) ∧ zg0 (kq ≤ k) ∧ zg0 (Kd.R (Kd.int .i64) 3 wc w.heap.size (fun k_ => (w.heap.size ≤ k_)) v402 YX) ∧ zg0 (Kd.N (Kd.slice 3 (Kd.int .i64)) 27 wc w.heap.size (fun k_ => (w.heap.size ≤ k_) ∧ some k_ ≠ (v402 : Value).ownBlock ∧ k_ ≠ VA ∧ k_ ≠ Vs ∧ k_ ≠ g) (.slice j7 Vu.length YY) Vu) ∧ zg0 (wc.heap[VA]? = some (.cells #[(.slice none 0 0)] 26 (0, 0))) ∧ zg0 (wc.heap[Vs]? = some (.cells #[(.slice j7 Vu.length YY)] 26 (0, 0))) ∧ zg0 (IsS46 w wc g J6 V0 V1) ∧ zg0 (zh0 w wc g none) ∧ zg0 (Below w.heap.size w wc))
 case first =>
  have H := HC3.1
  clear HC3
  replace H := Option.bind_eq_some_iff.mp H
  obtain ⟨qe, A110, H⟩ := H
  replace H : (if qe = true then ((ys0.f J6 Xw Xx 4).bind fun YW => (yy0.j0 k jx YX (!YW.1) J6 YW.2.1 YW.2.2 Vu)) else (yy0.j0 k jx YX false J6 Xw Xx Vu)) = some (r1, r2, r3, r4, r5) := H
  have A11 := hqZ A110
  clear A110
  by_cases c12 : qe = true
  rotate_left
  ·replace c12 := Bool.eq_false_iff.mpr c12
   subst c12
   have H1 : (yy0.j0 k jx YX false J6 Xw Xx Vu) = some (r1, r2, r3, r4, r5) := by rw [if_neg (show ¬ (false = true) by decide)] at H; exact H
   clear H
   have H := H1
   clear H1
   have H' := hqZ H
   clear H
   have hnb20 := jV.1
   have hnc20 := YK.1
   have hnb21 := ua.1
   have hnc21 := vC.1
   have Yp : w6.cell? ⟨Vs, 0, none⟩ = some (.slice none 0 0) := (zf0 VN.1 0).trans rfl
   have Yq := zc0 VN.1 0
   obtain ⟨DQ, ZA, eo23⟩ := Kd.R_slice jI.1
   subst eo23
   go_wp2_with (((with_reducible refine ze0 (f := 30) rfl ?_); refine zM (some 24) Try.func30 #[.agg #[.slice j7 Vu.length YY], .int .i64 jx, .slice DQ YX.length ZA] ?_; (with_reducible refine (yl1.calls k _ _ Vu jx _ _ YX false _ ?side1 ?side2 ?side3 ?side4 A11.1).mono ?_); (case side1 => refine (Kd.N_reads' (e := 27) (base := w.heap.size) (ok := fun k_ => (((w.heap.size ≤ k_) ∧ (some k_ ≠ (.slice DQ YX.length ZA : Value).ownBlock ∧ (k_ ≠ VA ∧ k_ ≠ g))) ∧ k_ ≠ Vs)) (n := Vu.length) (c := YY) ?_).2.2; exact ((Kd.N_mono (Kd.N_far (p := ⟨Vs, 0, none⟩) (Kd.N_mono vp.1 (fun k_ hk => (⟨hk, hk.2⟩ : _ ∧ k_ ≠ Vs))) (fun _ hk => hk.2) (.slice j7 Vu.length YY)) (fun _ h_ => h_.1)))); (case side2 => exact (Kd.N_reads' vp.1).2.1); (case side3 => refine (Kd.R_reads' (e := 3) (base := w.heap.size) (ok := fun k_ => ((w.heap.size ≤ k_) ∧ True)) (n := YX.length) (c := ZA) ?_).2.2; exact ((Kd.R_mono (Kd.R_far (p := ⟨Vs, 0, none⟩) (Kd.R_types jI.1 VN.1 (by decide)) (fun _ hk => hk.2) (.slice j7 Vu.length YY)) (fun _ h_ => h_.1)))); (case side4 => exact (Kd.R_reads' jI.1).2.1); rintro e w24 ⟨rfl, hb⟩; refine ⟨_, rfl, ?_⟩; replace vp := hqZ (Kd.N_below ((Kd.N_mono (Kd.N_far (p := ⟨Vs, 0, none⟩) (Kd.N_mono vp.1 (fun k_ hk => (⟨hk, hk.2⟩ : _ ∧ k_ ≠ Vs))) (fun _ hk => hk.2) (.slice j7 Vu.length YY)) (fun _ h_ => h_.1))) hb); replace jI := hqZ (Kd.R_below ((Kd.R_mono (Kd.R_far (p := ⟨Vs, 0, none⟩) (Kd.R_types jI.1 VN.1 (by decide)) (fun _ hk => hk.2) (.slice j7 Vu.length YY)) (fun _ h_ => h_.1))) hb); replace VE := hqZ (zd0 (g := VA) (o := .cells #[.slice none 0 0] 26 (0, 0)) (by refine blk_far ?_ YK.1 _; exact VE.1) hb); replace VN := hqZ (zd0 (g := Vs) (o := .cells #[.slice j7 Vu.length YY] 26 (0, 0)) (by refine blk_put (cs := #[.slice none 0 0]) ?_ 0 _ rfl; exact VN.1) hb); replace HK := hqZ (zh0.trans (keep_far HK.1 Dv.1 _) (zh0.of_below hb g none) (.inl rfl)); replace HB := hqZ (za0 (zm0 HB.1 Dw.1) hb); replace Jg := hqZ (IsS46.below (show IsS46 w (w6.setCell ⟨Vs, 0, none⟩ (.slice j7 Vu.length YY)) g J6 Xw Xx from IsS46.far Jg.1 vC.1 _) hb); clear hb))
   go_meet
   case rel => exact ⟨_, (false), (Xw), (Xx), (rfl), H', ⟨by omega⟩, ⟨Kd.R_mono jI.1 (fun _ hk => hk.1)⟩, ⟨Kd.N_mono vp.1 (fun _ hk => ⟨hk.1.1, ⟨hk.1.2.1, ⟨hk.1.2.2.1, ⟨hk.2, hk.1.2.2.2⟩⟩⟩⟩)⟩, ⟨VE.1⟩, ⟨VN.1⟩, ⟨Jg.1⟩, ⟨HK.1⟩, ⟨HB.1⟩⟩
  subst c12
  have H1 : ((ys0.f J6 Xw Xx 4).bind fun YW => (yy0.j0 k jx YX (!YW.1) J6 YW.2.1 YW.2.2 Vu)) = some (r1, r2, r3, r4, r5) := by rw [if_pos rfl] at H; exact H
  clear H
  have H := H1
  clear H1
  replace H := Option.bind_eq_some_iff.mp H
  obtain ⟨⟨mO, mP, mQ⟩, A130, H⟩ := H
  replace H : (yy0.j0 k jx YX (!mO) J6 mP mQ Vu) = some (r1, r2, r3, r4, r5) := H
  have A13 := hqZ A130
  clear A130
  have H' := hqZ H
  clear H
  have hnb14 := jV.1
  have hnc14 := YK.1
  have hnb15 := ua.1
  have hnc15 := vC.1
  have YM : w6.cell? ⟨Vs, 0, none⟩ = some (.slice none 0 0) := (zf0 VN.1 0).trans rfl
  have YN := zc0 VN.1 0
  obtain ⟨mR, US, eo17⟩ := Kd.R_slice jI.1
  subst eo17
  go_wp2_with (first | ((with_reducible refine ze0 (f := 30) rfl ?_); refine zM (some 24) Try.func30 #[.agg #[.slice j7 Vu.length YY], .int .i64 jx, .slice mR YX.length US] ?_; (with_reducible refine (yl1.calls k _ _ Vu jx _ _ YX true _ ?side1 ?side2 ?side3 ?side4 A11.1).mono ?_); (case side1 => refine (Kd.N_reads' (e := 27) (base := w.heap.size) (ok := fun k_ => (((w.heap.size ≤ k_) ∧ (some k_ ≠ (.slice mR YX.length US : Value).ownBlock ∧ (k_ ≠ VA ∧ k_ ≠ g))) ∧ k_ ≠ Vs)) (n := Vu.length) (c := YY) ?_).2.2; exact ((Kd.N_mono (Kd.N_far (p := ⟨Vs, 0, none⟩) (Kd.N_mono vp.1 (fun k_ hk => (⟨hk, hk.2⟩ : _ ∧ k_ ≠ Vs))) (fun _ hk => hk.2) (.slice j7 Vu.length YY)) (fun _ h_ => h_.1)))); (case side2 => exact (Kd.N_reads' vp.1).2.1); (case side3 => refine (Kd.R_reads' (e := 3) (base := w.heap.size) (ok := fun k_ => ((w.heap.size ≤ k_) ∧ True)) (n := YX.length) (c := US) ?_).2.2; exact ((Kd.R_mono (Kd.R_far (p := ⟨Vs, 0, none⟩) (Kd.R_types jI.1 VN.1 (by decide)) (fun _ hk => hk.2) (.slice j7 Vu.length YY)) (fun _ h_ => h_.1)))); (case side4 => exact (Kd.R_reads' jI.1).2.1); rintro e w18 ⟨rfl, hb⟩; refine ⟨_, rfl, ?_⟩; replace vp := hqZ (Kd.N_below ((Kd.N_mono (Kd.N_far (p := ⟨Vs, 0, none⟩) (Kd.N_mono vp.1 (fun k_ hk => (⟨hk, hk.2⟩ : _ ∧ k_ ≠ Vs))) (fun _ hk => hk.2) (.slice j7 Vu.length YY)) (fun _ h_ => h_.1))) hb); replace jI := hqZ (Kd.R_below ((Kd.R_mono (Kd.R_far (p := ⟨Vs, 0, none⟩) (Kd.R_types jI.1 VN.1 (by decide)) (fun _ hk => hk.2) (.slice j7 Vu.length YY)) (fun _ h_ => h_.1))) hb); replace VE := hqZ (zd0 (g := VA) (o := .cells #[.slice none 0 0] 26 (0, 0)) (by refine blk_far ?_ YK.1 _; exact VE.1) hb); replace VN := hqZ (zd0 (g := Vs) (o := .cells #[.slice j7 Vu.length YY] 26 (0, 0)) (by refine blk_put (cs := #[.slice none 0 0]) ?_ 0 _ rfl; exact VN.1) hb); replace HK := hqZ (zh0.trans (keep_far HK.1 Dv.1 _) (zh0.of_below hb g none) (.inl rfl)); replace HB := hqZ (za0 (zm0 HB.1 Dw.1) hb); replace Jg := hqZ (IsS46.below (show IsS46 w (w6.setCell ⟨Vs, 0, none⟩ (.slice j7 Vu.length YY)) g J6 Xw Xx from IsS46.far Jg.1 vC.1 _) hb); clear hb) | (go_at_call 34; (with_reducible refine (ys0.calls g J6 Xw Xx 4 mO mP mQ w _ ?side1 ?side2 A13.1).mono ?_); (case side1 => exact Jg.1); (case side2 => exact HB.1); rintro e w19 ⟨rfl, hi, hb, hk⟩; replace VE := hqZ (zh0.blk hk (g' := VA) (o := .cells #[.slice none 0 0] 26 (0, 0)) (VE.1) Xy.1 (by simp)); replace vp := hqZ (Kd.N_mono (Kd.N_keep (Kd.N_mono (ok := fun k_ => ((((w.heap.size ≤ k_)) ∧ (some k_ ≠ (.slice mR YX.length US : Value).ownBlock ∧ (k_ ≠ VA ∧ k_ ≠ g))) ∧ k_ ≠ Vs)) (vp.1) (fun k_ hk_ => (⟨hk_, hk_.1.2.2.2⟩ : _ ∧ k_ ≠ g))) hk (fun _ h => h.2)) (fun _ h => h.1)); replace jI := hqZ (Kd.R_mono (Kd.R_keep (IsS46.apart (show IsS46 w _ g J6 Xw Xx from Jg.1) (jI.1) (by decide)) hk (fun _ h => h.2)) (fun _ h => h.1)); replace VN := hqZ (zh0.blk hk (g' := Vs) (o := .cells #[.slice j7 Vu.length YY] 26 (0, 0)) (VN.1) ua.1 (by simp)); replace HK := hqZ (zh0.trans (HK.1) hk (.inl rfl)); replace HB := hqZ (hb); replace Jg := hqZ (hi); clear hb hk hi))
  go_meet
  case rel => exact ⟨_, (!mO), (mP), (mQ), (rfl), H', ⟨by omega⟩, ⟨Kd.R_mono jI.1 (fun _ hk => hk.1)⟩, ⟨Kd.N_mono vp.1 (fun _ hk => ⟨hk.1.1, ⟨hk.1.2.1, ⟨hk.1.2.2.1, ⟨hk.2, hk.1.2.2.2⟩⟩⟩⟩)⟩, ⟨VE.1⟩, ⟨VN.1⟩, ⟨Jg.1⟩, ⟨HK.1⟩, ⟨HB.1⟩⟩
 case rest =>
  clear HC3
  try clear c1
  try clear c2
  try clear p2
  try clear c3
  try clear c8
  try clear c9
  try clear c12
  try clear c14
  try clear c15
  try clear c20
  try clear c21
  try clear Y0
  try clear YM
  try clear Yp
  try clear Y1
  try clear YN
  try clear Yq
  obtain ⟨kq, J9, V0, V1, rfl, HA, HJ2, VP, Y6, VE, VN, Jg, HK, HB⟩ := hcut
  cases kq with
  | zero => exact absurd HA.1 (by simp [yy0.j0])
  | succ kj2 =>
   have H := HA.1
   clear HA
   simp only [yy0.j0] at H
   by_cases c25 : J9 = true
   rotate_left
   ·replace c25 := Bool.eq_false_iff.mpr c25
    subst c25
    have H1 : (some (Vu, jx, YX, V0, V1)) = some (r1, r2, r3, r4, r5) := by rw [if_neg (show ¬ (false = true) by decide)] at H; exact H
    clear H
    have H := H1
    clear H1
    simp only [Option.some.injEq, Prod.mk.injEq] at H
    obtain ⟨rfl, rfl, rfl, rfl, rfl⟩ := H
    have hnb44 := jV.1
    have hnc44 := YK.1
    have hnb45 := ua.1
    have hnc45 := vC.1
    have Ja2 : wc.cell? ⟨Vs, 0, none⟩ = some (.slice j7 Vu.length YY) := (zf0 VN.1 0).trans rfl
    have Ja3 := zc0 VN.1 0
    have hnb47 := Xy.1
    have hnc47 := Us.1
    have Xz : wc.cell? ⟨VA, 0, none⟩ = some (.slice none 0 0) := (zf0 VE.1 0).trans rfl
    have XA := zc0 VE.1 0
    go_wp2
    refine bodyPost_ret (results_ctt rfl _ _ VA 26 #[.slice j7 Vu.length YY] (0, 0) _ rfl (by refine blk_put (cs := #[.slice none 0 0]) ?_ 0 _ rfl; exact VE.1) Try.underlying26 rfl (by kernel_rfl)) rfl ?_
    exact ⟨_, _, rfl, Kd.N_mono (Kd.N_far (p := ⟨VA, 0, none⟩) (Kd.N_mono Y6.1 (fun k_ hk => (⟨hk, hk.2.2.1⟩ : _ ∧ k_ ≠ VA))) (fun _ hk => hk.2) (.slice j7 Vu.length YY)) (fun _ hk => ⟨hk.1.1, hk.1.2.1⟩), Kd.R_mono (Kd.R_far (p := ⟨VA, 0, none⟩) (Kd.R_types VP.1 VE.1 (by decide)) (fun _ hk => hk.2) (.slice j7 Vu.length YY)) (fun _ hk => hk.1), zm0 HB.1 Z3.1⟩
   subst c25
   have H1 : ((yi0.f kj2 Vu jx YX).bind fun qd => (if qd.2.2 = true then (some (Vu, jx, qd.1, V0, V1)) else (some (Vu, jx, YX, V0, V1)))) = some (r1, r2, r3, r4, r5) := by rw [if_pos rfl] at H; exact H
   clear H
   have H := H1
   clear H1
   replace H := Option.bind_eq_some_iff.mp H
   obtain ⟨⟨ZY, Nh, Nk⟩, A260, H⟩ := H
   replace H : (if Nk = true then (some (Vu, jx, ZY, V0, V1)) else (some (Vu, jx, YX, V0, V1))) = some (r1, r2, r3, r4, r5) := H
   have A26 := hqZ A260
   clear A260
   by_cases c27 : Nk = true
   ·subst c27
    have H1 : (some (Vu, jx, ZY, V0, V1)) = some (r1, r2, r3, r4, r5) := by rw [if_pos rfl] at H; exact H
    clear H
    have H := H1
    clear H1
    simp only [Option.some.injEq, Prod.mk.injEq] at H
    obtain ⟨rfl, rfl, rfl, rfl, rfl⟩ := H
    have hnb28 := jV.1
    have hnc28 := YK.1
    have hnb29 := ua.1
    have hnc29 := vC.1
    have Ja4 : wc.cell? ⟨Vs, 0, none⟩ = some (.slice j7 Vu.length YY) := (zf0 VN.1 0).trans rfl
    have Ja5 := zc0 VN.1 0
    obtain ⟨mu, dP, eo31⟩ := Kd.R_slice VP.1
    subst eo31
    go_wp2_with (((with_reducible refine ze0 (f := 31) rfl ?_); refine zM (some 34) Try.func31 #[.agg #[.slice j7 Vu.length YY], .int .i64 jx, .slice mu YX.length dP] ?_; (with_reducible refine (yi0.calls kj2 _ _ Vu jx _ _ YX ZY Nh true _ ?side1 ?side2 ?side3 ?side4 A26.1).mono ?_); (case side1 => exact (Kd.N_reads' Y6.1).2.2); (case side2 => exact (Kd.N_reads' Y6.1).2.1); (case side3 => exact (Kd.R_reads' VP.1).2.2); (case side4 => exact (Kd.R_reads' VP.1).2.1); rintro e w32 ⟨v412, v415, rfl, ho0, ho1, hb⟩; refine ⟨_, rfl, ?_⟩; replace Y6 := hqZ (Kd.N_mono (Kd.N_told (Kd.N_told (Kd.N_old (Y6.1) hb) (Kd.R_base ho0)) (Kd.R_base ho1)) (fun _ h_ => h_.1)); have Dx := hqZ (Kd.R_lower (Kd.R_new' (Kd.R_newM (M := fun k_ => (w.heap.size ≤ k_)) ho0 (zj0 (w := w) (g := g) (row := none) (HK.1)) (fun k_ h_ => h_)) (Kd.R_lt (VP.1))) (zj0 (w := w) (g := g) (row := none) (HK.1))); have Nl := hqZ (Kd.R_lower (Kd.R_new' (Kd.R_newM (M := fun k_ => (w.heap.size ≤ k_)) ho1 (zj0 (w := w) (g := g) (row := none) (HK.1)) (fun k_ h_ => h_)) (Kd.R_lt (VP.1))) (zj0 (w := w) (g := g) (row := none) (HK.1))); replace VP := hqZ (Kd.R_mono (Kd.R_told (Kd.R_told (Kd.R_old (VP.1) hb) (Kd.R_base ho0)) (Kd.R_base ho1)) (fun _ h_ => h_.1)); replace VE := hqZ (zd0 (g := VA) (o := .cells #[.slice none 0 0] 26 (0, 0)) (VE.1) hb); replace VN := hqZ (zd0 (g := Vs) (o := .cells #[.slice j7 Vu.length YY] 26 (0, 0)) (VN.1) hb); replace HK := hqZ (zh0.trans (HK.1) (zh0.of_below hb g none) (.inl rfl)); replace HB := hqZ (za0 (HB.1) hb); replace Jg := hqZ (IsS46.below (Jg.1) hb); clear hb ho0 ho1; have Zd : w32.cell? ⟨Vs, 0, none⟩ = some (.slice j7 Vu.length YY) := (zf0 VN.1 0).trans rfl; have Ze := zc0 VN.1 0; have hnb34 := Xy.1; have hnc34 := Us.1; have qZ : w32.cell? ⟨VA, 0, none⟩ = some (.slice none 0 0) := (zf0 VE.1 0).trans rfl; have d2 := zc0 VE.1 0))
    refine bodyPost_ret (results_ctt rfl _ _ VA 26 #[.slice j7 Vu.length YY] (0, 0) _ rfl (by refine blk_put (cs := #[.slice none 0 0]) ?_ 0 _ rfl; exact VE.1) Try.underlying26 rfl (by kernel_rfl)) rfl ?_
    exact ⟨_, _, rfl, Kd.N_mono (Kd.N_far (p := ⟨VA, 0, none⟩) (Kd.N_mono Y6.1 (fun k_ hk => (⟨hk, hk.1.1.2.2.1⟩ : _ ∧ k_ ≠ VA))) (fun _ hk => hk.2) (.slice j7 Vu.length YY)) (fun _ hk => ⟨hk.1.1.1.1, hk.1.1.2⟩), Kd.R_mono (Kd.R_far (p := ⟨VA, 0, none⟩) (Kd.R_types Dx.1 VE.1 (by decide)) (fun _ hk => hk.2) (.slice j7 Vu.length YY)) (fun _ hk => hk.1.1.1), zm0 HB.1 Z3.1⟩
   replace c27 := Bool.eq_false_iff.mpr c27
   subst c27
   have H1 : (some (Vu, jx, YX, V0, V1)) = some (r1, r2, r3, r4, r5) := by rw [if_neg (show ¬ (false = true) by decide)] at H; exact H
   clear H
   have H := H1
   clear H1
   simp only [Option.some.injEq, Prod.mk.injEq] at H
   obtain ⟨rfl, rfl, rfl, rfl, rfl⟩ := H
   have hnb36 := jV.1
   have hnc36 := YK.1
   have hnb37 := ua.1
   have hnc37 := vC.1
   have Ja6 : wc.cell? ⟨Vs, 0, none⟩ = some (.slice j7 Vu.length YY) := (zf0 VN.1 0).trans rfl
   have Ja7 := zc0 VN.1 0
   obtain ⟨X3, Xg, eo39⟩ := Kd.R_slice VP.1
   subst eo39
   go_wp2_with (((with_reducible refine ze0 (f := 31) rfl ?_); refine zM (some 34) Try.func31 #[.agg #[.slice j7 Vu.length YY], .int .i64 jx, .slice X3 YX.length Xg] ?_; (with_reducible refine (yi0.calls kj2 _ _ Vu jx _ _ YX ZY Nh false _ ?side1 ?side2 ?side3 ?side4 A26.1).mono ?_); (case side1 => exact (Kd.N_reads' Y6.1).2.2); (case side2 => exact (Kd.N_reads' Y6.1).2.1); (case side3 => exact (Kd.R_reads' VP.1).2.2); (case side4 => exact (Kd.R_reads' VP.1).2.1); rintro e w40 ⟨v412, v415, rfl, ho0, ho1, hb⟩; refine ⟨_, rfl, ?_⟩; replace Y6 := hqZ (Kd.N_mono (Kd.N_told (Kd.N_told (Kd.N_old (Y6.1) hb) (Kd.R_base ho0)) (Kd.R_base ho1)) (fun _ h_ => h_.1)); have Dx := hqZ (Kd.R_lower (Kd.R_new' (Kd.R_newM (M := fun k_ => (w.heap.size ≤ k_)) ho0 (zj0 (w := w) (g := g) (row := none) (HK.1)) (fun k_ h_ => h_)) (Kd.R_lt (VP.1))) (zj0 (w := w) (g := g) (row := none) (HK.1))); have Nl := hqZ (Kd.R_lower (Kd.R_new' (Kd.R_newM (M := fun k_ => (w.heap.size ≤ k_)) ho1 (zj0 (w := w) (g := g) (row := none) (HK.1)) (fun k_ h_ => h_)) (Kd.R_lt (VP.1))) (zj0 (w := w) (g := g) (row := none) (HK.1))); replace VP := hqZ (Kd.R_mono (Kd.R_told (Kd.R_told (Kd.R_old (VP.1) hb) (Kd.R_base ho0)) (Kd.R_base ho1)) (fun _ h_ => h_.1)); replace VE := hqZ (zd0 (g := VA) (o := .cells #[.slice none 0 0] 26 (0, 0)) (VE.1) hb); replace VN := hqZ (zd0 (g := Vs) (o := .cells #[.slice j7 Vu.length YY] 26 (0, 0)) (VN.1) hb); replace HK := hqZ (zh0.trans (HK.1) (zh0.of_below hb g none) (.inl rfl)); replace HB := hqZ (za0 (HB.1) hb); replace Jg := hqZ (IsS46.below (Jg.1) hb); clear hb ho0 ho1; have qX : w40.cell? ⟨Vs, 0, none⟩ = some (.slice j7 Vu.length YY) := (zf0 VN.1 0).trans rfl; have qY := zc0 VN.1 0; have hnb42 := Xy.1; have hnc42 := Us.1; have uP : w40.cell? ⟨VA, 0, none⟩ = some (.slice none 0 0) := (zf0 VE.1 0).trans rfl; have uQ := zc0 VE.1 0))
   refine bodyPost_ret (results_ctt rfl _ _ VA 26 #[.slice j7 Vu.length YY] (0, 0) _ rfl (by refine blk_put (cs := #[.slice none 0 0]) ?_ 0 _ rfl; exact VE.1) Try.underlying26 rfl (by kernel_rfl)) rfl ?_
   exact ⟨_, _, rfl, Kd.N_mono (Kd.N_far (p := ⟨VA, 0, none⟩) (Kd.N_mono Y6.1 (fun k_ hk => (⟨hk, hk.1.1.2.2.1⟩ : _ ∧ k_ ≠ VA))) (fun _ hk => hk.2) (.slice j7 Vu.length YY)) (fun _ hk => ⟨hk.1.1.1.1, hk.1.1.1.2.1⟩), Kd.R_mono (Kd.R_far (p := ⟨VA, 0, none⟩) (Kd.R_types VP.1 VE.1 (by decide)) (fun _ hk => hk.2) (.slice j7 Vu.length YY)) (fun _ hk => hk.1.1.1), zm0 HB.1 Z3.1⟩
def yq1.f (k : Nat) (l0 : List Int) : Option ((List (List Int)) × Int × List Int) := (yy0.f k l0 0 0).bind fun t => some (t.1, t.2.1, t.2.2.1)
theorem yq1.mono : ∀ a0 k, LeO (yq1.f k a0) (yq1.f (k + 1) a0) := fun a0 k => LeO.bind (yy0.mono _ _ _ _) (fun _ => LeO.refl _)
theorem yq1.calls (k : Nat) (A0 : Option Addr) (c0 : Nat) (l0 : List Int) (r1 : List (List Int)) (r2 : Int) (r3 : List Int) (w : World) (hr0 : Kd.C (Kd.int .u8) w A0 l0.length l0) (hc0 : l0.length ≤ c0) (h : yq1.f k l0 = some (r1, r2, r3)) :
  Calls Try.prog 25 #[.slice A0 l0.length c0] w fun e w' => ∃ v0_ v2_ : Value, e = .returned (.tuple #[.agg #[v0_], .int .i64 r2, v2_]) ∧ Kd.N (Kd.slice 3 (Kd.int .i64)) 27 w' w.heap.size (fun k_ => (w.heap.size ≤ k_) ∧ some k_ ≠ (v2_ : Value).ownBlock) v0_ r1 ∧ Kd.R (Kd.int .i64) 3 w' w.heap.size (fun k_ => (w.heap.size ≤ k_)) v2_ r3 ∧ Below w.heap.size w w' := by
 unfold yq1.f at h
 obtain ⟨t, ht, h⟩ := Option.bind_eq_some_iff.mp h
 obtain ⟨z1, z2, z3, z4, z5⟩ := t
 simp only [Option.some.injEq, Prod.mk.injEq] at h
 obtain ⟨rfl, rfl, rfl⟩ := h
 exact yy0.calls k A0 c0 l0 z1 z2 z3 z4 z5 w hr0 hc0 ht
def yp1.f (k : Nat) (J0 : List (List Int)) (a1 : Int) (l2 : List Int) : Option (Bool × Bool) := (yl1.f k J0 a1 l2).bind fun Z4 => (if Z4 = true then ((yt0.f k J0 a1 l2).bind fun Ut => (if Ut ≥ 0 then (some (false, false)) else ((yh0.f k J0 a1 l2).bind fun qf => (some (qf.1, qf.2))))) else (some (false, false)))
theorem yp1.mono : ∀ a0 a1 a2 k, LeO (yp1.f k a0 a1 a2) (yp1.f (k + 1) a0 a1 a2) := by
 intro a0 a1 a2 k
 unfold yp1.f
 repeat' (with_reducible first | apply yl1.mono | apply yt0.mono | apply yh0.mono | apply LeO.refl | apply LeO.none | refine LeO.ite ?_ ?_ | refine LeO.bind ?_ (fun _ => ?_))
theorem yp1.calls (k : Nat) (J4 : Option Addr) (J2 : Nat) (J0 : List (List Int)) (a1 : Int) (A2 : Option Addr) (c2 : Nat) (l2 : List Int) (r1 : Bool) (r2 : Bool) (w : World) (hr0_0 : Kd.C (Kd.slice 3 (Kd.int .i64)) w J4 J0.length J0) (hc0_0 : J0.length ≤ J2) (hr2 : Kd.C (Kd.int .i64) w A2 l2.length l2) (hc2 : l2.length ≤ c2) (h : yp1.f k J0 a1 l2 = some (r1, r2)) :
  Calls Try.prog 26 #[.agg #[.slice J4 J0.length J2], .int .i64 a1, .slice A2 l2.length c2] w fun e w' => e = .returned (.tuple #[.bool r1, .bool r2]) ∧ Below w.heap.size w w' := by
 have hu26 := Try.underlying26
 have Ja := hqZ hr0_0
 have HC0_0 := hqZ hc0_0
 clear hr0_0 hc0_0
 have jz := hqZ hr2
 have HC2 := hqZ hc2
 clear hr2 hc2
 have HB := hqZ (Below.refl w.heap.size w)
 have H : ((yl1.f k J0 a1 l2).bind fun Z4 => (if Z4 = true then ((yt0.f k J0 a1 l2).bind fun Ut => (if Ut ≥ 0 then (some (false, false)) else ((yh0.f k J0 a1 l2).bind fun qf => (some (qf.1, qf.2))))) else (some (false, false)))) = some (r1, r2) := h
 clear h
 replace H := Option.bind_eq_some_iff.mp H
 obtain ⟨Z4, A40, H⟩ := H
 try dsimp only at H
 have A4 := hqZ A40
 clear A40
 by_cases c5 : Z4 = true
 rotate_left
 ·replace c5 := Bool.eq_false_iff.mpr c5
  subst c5
  rw [if_neg (show ¬ (false = true) by decide)] at H
  simp only [Option.some.injEq, Prod.mk.injEq] at H
  obtain ⟨rfl, rfl⟩ := H
  go_enter Try.func26, Try.ntmps26
  go_wp2_with (first | ((with_reducible refine zi0 (N := 3) rfl ?_); refine zk0 ?hg (N := 3) ?hd (cs := #[.slice J4 J0.length J2]) (t := 26) ?hr ?_; (case hd | hg => rfl); (case hr => go_simp); intro YL hg w21 hbox hb; have Yb := hqZ (hbox); have Dy := hqZ ((by rw [hg]; exact (zb0 (HB.1)) : w.heap.size ≤ YL)); have Dz := hqZ ((by rw [hg]; exact (zb0 (HB.1)) : w.heap.size ≤ YL)); replace HB := hqZ (za0 (HB.1) hb); clear hb hbox hg; have Yp : w21.cell? ⟨YL, 0, none⟩ = some (.slice J4 J0.length J2) := (zf0 Yb.1 0).trans rfl; have Yq := zc0 Yb.1 0) | ((with_reducible refine ze0 (f := 30) rfl ?_); refine zM (some 11) Try.func30 #[.agg #[.slice J4 J0.length J2], .int .i64 a1, .slice A2 l2.length c2] ?_; (with_reducible refine (yl1.calls k _ _ J0 a1 _ _ l2 false _ ?side1 ?side2 ?side3 ?side4 A4.1).mono ?_); (case side1 => exact (Kd.C_below Ja.1 HB.1)); (case side2 => exact HC0_0.1); (case side3 => exact (Kd.C_below jz.1 HB.1)); (case side4 => exact HC2.1); rintro e w23 ⟨rfl, hb⟩; refine ⟨_, rfl, ?_⟩; replace Yb := hqZ (zd0 (g := YL) (Yb.1) hb); replace HB := hqZ (za0 (HB.1) hb); clear hb))
  go_ret2
  exact ⟨rfl, HB.1⟩
 subst c5
 rw [if_pos rfl] at H
 replace H := Option.bind_eq_some_iff.mp H
 obtain ⟨Ut, A60, H⟩ := H
 try dsimp only at H
 have A6 := hqZ A60
 clear A60
 by_cases c7 : Ut ≥ 0
 ·rw [if_pos c7] at H
  have c7b0 : decide (0 ≤ Ut) = true := decide_eq_true c7
  clear c7
  simp only [Option.some.injEq, Prod.mk.injEq] at H
  obtain ⟨rfl, rfl⟩ := H
  go_enter Try.func26, Try.ntmps26
  go_wp2_with (first | ((with_reducible refine zi0 (N := 3) rfl ?_); refine zk0 ?hg (N := 3) ?hd (cs := #[.slice J4 J0.length J2]) (t := 26) ?hr ?_; (case hd | hg => rfl); (case hr => go_simp); intro YL hg w8 hbox hb; have Yb := hqZ (hbox); have Dy := hqZ ((by rw [hg]; exact (zb0 (HB.1)) : w.heap.size ≤ YL)); have Dz := hqZ ((by rw [hg]; exact (zb0 (HB.1)) : w.heap.size ≤ YL)); replace HB := hqZ (za0 (HB.1) hb); clear hb hbox hg; have jB : w8.cell? ⟨YL, 0, none⟩ = some (.slice J4 J0.length J2) := (zf0 Yb.1 0).trans rfl; have vm := zc0 Yb.1 0) | ((with_reducible refine ze0 (f := 30) rfl ?_); refine zM (some 11) Try.func30 #[.agg #[.slice J4 J0.length J2], .int .i64 a1, .slice A2 l2.length c2] ?_; (with_reducible refine (yl1.calls k _ _ J0 a1 _ _ l2 true _ ?side1 ?side2 ?side3 ?side4 A4.1).mono ?_); (case side1 => exact (Kd.C_below Ja.1 HB.1)); (case side2 => exact HC0_0.1); (case side3 => exact (Kd.C_below jz.1 HB.1)); (case side4 => exact HC2.1); rintro e w10 ⟨rfl, hb⟩; refine ⟨_, rfl, ?_⟩; replace Yb := hqZ (zd0 (g := YL) (Yb.1) hb); replace HB := hqZ (za0 (HB.1) hb); clear hb; have vZ : w10.cell? ⟨YL, 0, none⟩ = some (.slice J4 J0.length J2) := (zf0 Yb.1 0).trans rfl; have u0 := zc0 Yb.1 0) | (go_at_call 33; (with_reducible refine (yt0.calls k _ _ J0 a1 _ _ l2 Ut _ ?side1 ?side2 ?side3 ?side4 A6.1).mono ?_); (case side1 => exact (Kd.C_below Ja.1 HB.1)); (case side2 => exact HC0_0.1); (case side3 => exact (Kd.C_below jz.1 HB.1)); (case side4 => exact HC2.1); rintro e w12 ⟨rfl, hb⟩; replace Yb := hqZ (zd0 (g := YL) (Yb.1) hb); replace HB := hqZ (za0 (HB.1) hb); clear hb))
  go_ret2
  exact ⟨rfl, HB.1⟩
 rw [if_neg c7] at H
 have c7b0 : decide (0 ≤ Ut) = false := decide_eq_false c7
 clear c7
 replace H := Option.bind_eq_some_iff.mp H
 obtain ⟨⟨Jj1, Jj2⟩, A130, H⟩ := H
 try dsimp only at H
 have A13 := hqZ A130
 clear A130
 simp only [Option.some.injEq, Prod.mk.injEq] at H
 obtain ⟨rfl, rfl⟩ := H
 go_enter Try.func26, Try.ntmps26
 go_wp2_with (first | ((with_reducible refine zi0 (N := 3) rfl ?_); refine zk0 ?hg (N := 3) ?hd (cs := #[.slice J4 J0.length J2]) (t := 26) ?hr ?_; (case hd | hg => rfl); (case hr => go_simp); intro YL hg w14 hbox hb; have Yb := hqZ (hbox); have Dy := hqZ ((by rw [hg]; exact (zb0 (HB.1)) : w.heap.size ≤ YL)); have Dz := hqZ ((by rw [hg]; exact (zb0 (HB.1)) : w.heap.size ≤ YL)); replace HB := hqZ (za0 (HB.1) hb); clear hb hbox hg; have jL : w14.cell? ⟨YL, 0, none⟩ = some (.slice J4 J0.length J2) := (zf0 Yb.1 0).trans rfl; have jM := zc0 Yb.1 0) | ((with_reducible refine ze0 (f := 30) rfl ?_); refine zM (some 11) Try.func30 #[.agg #[.slice J4 J0.length J2], .int .i64 a1, .slice A2 l2.length c2] ?_; (with_reducible refine (yl1.calls k _ _ J0 a1 _ _ l2 true _ ?side1 ?side2 ?side3 ?side4 A4.1).mono ?_); (case side1 => exact (Kd.C_below Ja.1 HB.1)); (case side2 => exact HC0_0.1); (case side3 => exact (Kd.C_below jz.1 HB.1)); (case side4 => exact HC2.1); rintro e w16 ⟨rfl, hb⟩; refine ⟨_, rfl, ?_⟩; replace Yb := hqZ (zd0 (g := YL) (Yb.1) hb); replace HB := hqZ (za0 (HB.1) hb); clear hb; have ZR : w16.cell? ⟨YL, 0, none⟩ = some (.slice J4 J0.length J2) := (zf0 Yb.1 0).trans rfl; have ZS := zc0 Yb.1 0) | (go_at_call 33; (with_reducible refine (yt0.calls k _ _ J0 a1 _ _ l2 Ut _ ?side1 ?side2 ?side3 ?side4 A6.1).mono ?_); (case side1 => exact (Kd.C_below Ja.1 HB.1)); (case side2 => exact HC0_0.1); (case side3 => exact (Kd.C_below jz.1 HB.1)); (case side4 => exact HC2.1); rintro e w18 ⟨rfl, hb⟩; replace Yb := hqZ (zd0 (g := YL) (Yb.1) hb); replace HB := hqZ (za0 (HB.1) hb); clear hb; have oq : w18.cell? ⟨YL, 0, none⟩ = some (.slice J4 J0.length J2) := (zf0 Yb.1 0).trans rfl; have or := zc0 Yb.1 0) | ((with_reducible refine ze0 (f := 52) rfl ?_); refine zM (some 23) Try.func52 #[.agg #[.slice J4 J0.length J2], .int .i64 a1, .slice A2 l2.length c2] ?_; (with_reducible refine (yh0.calls k _ _ J0 a1 _ _ l2 Jj1 Jj2 _ ?side1 ?side2 ?side3 ?side4 A13.1).mono ?_); (case side1 => exact (Kd.C_below Ja.1 HB.1)); (case side2 => exact HC0_0.1); (case side3 => exact (Kd.C_below jz.1 HB.1)); (case side4 => exact HC2.1); rintro e w20 ⟨rfl, hb⟩; refine ⟨_, rfl, ?_⟩; replace Yb := hqZ (zd0 (g := YL) (Yb.1) hb); replace HB := hqZ (za0 (HB.1) hb); clear hb))
 go_ret2
 exact ⟨rfl, HB.1⟩
mutual
def ya0.j0 : Nat → List Int → Int → Int → Bool → List Int → Bool → List (List Int) → Option (Bool)
 | 0, _, _, _, _, _, _, _ => none
 | k + 1, x1, x6, x7, x8, YE, x90, dw => if x90 = true then (some false) else (if x8 = true then ((ym1.f k dw x6).bind fun o3 => ((ya1.f k dw x6 YE).bind fun uE => (if o3.2 = true then (if o3.1 = x7 then (if uE.2 = true then (if uE.1 = true then (ya0.j1 k x1) else (some false)) else (some false)) else (some false)) else (some false)))) else (ya0.j1 k x1))
def ya0.j1 : Nat → List Int → Option (Bool)
 | 0, _ => none
 | k + 1, x1 => (yq1.f k x1).bind fun ud => ((ya1.f k ud.1 ud.2.1 ud.2.2).bind fun vS => ((yp1.f k ud.1 ud.2.1 ud.2.2).bind fun o4 => (if (vS.2 != o4.2) = true then (ya0.j2 k ud.2.1 ud.2.2 vS.1 vS.2 true ud.1) else (ya0.j2 k ud.2.1 ud.2.2 vS.1 vS.2 (vS.1 != o4.1) ud.1))))
def ya0.j2 : Nat → Int → List Int → Bool → Bool → Bool → List (List Int) → Option (Bool)
 | 0, _, _, _, _, _, _ => none
 | k + 1, Zc, dZ, MQ, NR, Jj3, jl => if Jj3 = true then (some false) else (if NR = true then (ya0.j3 k Zc dZ MQ jl) else (ya0.j3 k Zc dZ false jl))
def ya0.j3 : Nat → Int → List Int → Bool → List (List Int) → Option (Bool)
 | 0, _, _, _, _ => none
 | k + 1, Zc, dZ, Jj4, jl => if Jj4 = true then ((yi1.f k jl Zc).bind fun qg => (if qg.2 = true then (ya0.l0 k Zc dZ qg.1 dZ (dZ.length : Int) 0 jl) else (some false))) else (some true)
def ya0.l0 : Nat → Int → List Int → List Int → List Int → Int → Int → List (List Int) → Option (Bool)
 | 0, _, _, _, _, _, _, _ => none
 | k + 1, Zc, dZ, X9, dW, ZZ, XB, jl => if XB < ZZ then (if 0 ≤ XB then (if XB < (dW.length : Int) then (if XB < (X9.length : Int) then (if (rd dW XB) > (rd X9 XB) then (some false) else (if (rd dW XB) < (rd X9 XB) then ((some (([] : List Int) : List Int)).bind fun U5 => (if U5.length + dZ.length < 17592186044416 then ((some (U5 ++ dZ : List Int)).bind fun Vj => (if XB < (Vj.length : Int) then ((ya1.f k jl Zc (Vj.set (XB : Int).toNat (wrap64 ((rd Vj XB) + 1)))).bind fun uF => (if uF.2 = true then (if uF.1 = true then (ya0.l0 k Zc dZ X9 dW ZZ (wrap64 (XB + 1)) jl) else (some false)) else (ya0.l0 k Zc dZ X9 dW ZZ (wrap64 (XB + 1)) jl))) else (none))) else (none))) else (ya0.l0 k Zc dZ X9 dW ZZ (wrap64 (XB + 1)) jl))) else (none)) else (none)) else (none)) else (some true)
end
def ya0.f (k : Nat) (l0 : List Int) (l1 : List Int) : Option (Bool) := (ye2.f l0 l1).bind fun dX => (if dX = true then (some true) else ((yn1.f k l0).bind fun Ju => ((yw0.f k Ju.1 Ju.2).bind fun Jx => ((yf0.f k Ju.1 Ju.2).bind fun jy => ((yi1.f k Ju.1 Ju.2).bind fun JG => ((yk1.f k Ju.1 Ju.2).bind fun Yn => (if (Jx.2 != jy.2) = true then (ya0.j0 k l1 Ju.2 Jx.1 Jx.2 JG.1 true Ju.1) else (if Jx.1 = jy.1 then (if (JG.2 != Yn.2) = true then (ya0.j0 k l1 Ju.2 Jx.1 Jx.2 JG.1 true Ju.1) else ((yn0.f k JG.1 Yn.1).bind fun vT => (if vT = true then (if Jx.2 = true then (ya0.j0 k l1 Ju.2 Jx.1 Jx.2 JG.1 (!JG.2) Ju.1) else (ya0.j0 k l1 Ju.2 Jx.1 Jx.2 JG.1 false Ju.1)) else (ya0.j0 k l1 Ju.2 Jx.1 Jx.2 JG.1 true Ju.1)))) else (ya0.j0 k l1 Ju.2 Jx.1 Jx.2 JG.1 true Ju.1)))))))))
theorem ya0.mono_l : ∀ k, (∀ y0 y1 y2 y3 y4 y5 y6, LeO (ya0.j0 k y0 y1 y2 y3 y4 y5 y6) (ya0.j0 (k + 1) y0 y1 y2 y3 y4 y5 y6)) ∧ (∀ y0, LeO (ya0.j1 k y0) (ya0.j1 (k + 1) y0)) ∧ (∀ y0 y1 y2 y3 y4 y5, LeO (ya0.j2 k y0 y1 y2 y3 y4 y5) (ya0.j2 (k + 1) y0 y1 y2 y3 y4 y5)) ∧ (∀ y0 y1 y2 y3, LeO (ya0.j3 k y0 y1 y2 y3) (ya0.j3 (k + 1) y0 y1 y2 y3)) ∧ (∀ y0 y1 y2 y3 y4 y5 y6, LeO (ya0.l0 k y0 y1 y2 y3 y4 y5 y6) (ya0.l0 (k + 1) y0 y1 y2 y3 y4 y5 y6))
 | 0 => ⟨fun _ _ _ _ _ _ _ r h => by simp [ya0.j0] at h, fun _ r h => by simp [ya0.j1] at h, fun _ _ _ _ _ _ r h => by simp [ya0.j2] at h, fun _ _ _ _ r h => by simp [ya0.j3] at h, fun _ _ _ _ _ _ _ r h => by simp [ya0.l0] at h⟩
 | k + 1 => by
  obtain ⟨ih0, ih1, ih2, ih3, ih4⟩ := ya0.mono_l k
  refine ⟨?_, ?_, ?_, ?_, ?_⟩
  ·intro y0 y1 y2 y3 y4 y5 y6
   unfold ya0.j0
   repeat' (with_reducible first | apply ih0 | apply ih1 | apply ih2 | apply ih3 | apply ih4 | apply yw0.mono | apply ym1.mono | apply yi1.mono | apply ya1.mono | apply yn0.mono | apply yf0.mono | apply yn1.mono | apply yq1.mono | apply yk1.mono | apply yp1.mono | apply LeO.refl | apply LeO.none | refine LeO.ite ?_ ?_ | refine LeO.bind ?_ (fun _ => ?_))
  ·intro y0
   unfold ya0.j1
   repeat' (with_reducible first | apply ih0 | apply ih1 | apply ih2 | apply ih3 | apply ih4 | apply yw0.mono | apply ym1.mono | apply yi1.mono | apply ya1.mono | apply yn0.mono | apply yf0.mono | apply yn1.mono | apply yq1.mono | apply yk1.mono | apply yp1.mono | apply LeO.refl | apply LeO.none | refine LeO.ite ?_ ?_ | refine LeO.bind ?_ (fun _ => ?_))
  ·intro y0 y1 y2 y3 y4 y5
   unfold ya0.j2
   repeat' (with_reducible first | apply ih0 | apply ih1 | apply ih2 | apply ih3 | apply ih4 | apply yw0.mono | apply ym1.mono | apply yi1.mono | apply ya1.mono | apply yn0.mono | apply yf0.mono | apply yn1.mono | apply yq1.mono | apply yk1.mono | apply yp1.mono | apply LeO.refl | apply LeO.none | refine LeO.ite ?_ ?_ | refine LeO.bind ?_ (fun _ => ?_))
  ·intro y0 y1 y2 y3
   unfold ya0.j3
   repeat' (with_reducible first | apply ih0 | apply ih1 | apply ih2 | apply ih3 | apply ih4 | apply yw0.mono | apply ym1.mono | apply yi1.mono | apply ya1.mono | apply yn0.mono | apply yf0.mono | apply yn1.mono | apply yq1.mono | apply yk1.mono | apply yp1.mono | apply LeO.refl | apply LeO.none | refine LeO.ite ?_ ?_ | refine LeO.bind ?_ (fun _ => ?_))
  ·intro y0 y1 y2 y3 y4 y5 y6
   unfold ya0.l0
   repeat' (with_reducible first | apply ih0 | apply ih1 | apply ih2 | apply ih3 | apply ih4 | apply yw0.mono | apply ym1.mono | apply yi1.mono | apply ya1.mono | apply yn0.mono | apply yf0.mono | apply yn1.mono | apply yq1.mono | apply yk1.mono | apply yp1.mono | apply LeO.refl | apply LeO.none | refine LeO.ite ?_ ?_ | refine LeO.bind ?_ (fun _ => ?_))
theorem ya0.mono : ∀ a0 a1 k, LeO (ya0.f k a0 a1) (ya0.f (k + 1) a0 a1) := by
 intro a0 a1 k
 obtain ⟨ih0, ih1, ih2, ih3, ih4⟩ := ya0.mono_l k
 unfold ya0.f
 repeat' (with_reducible first | apply ih0 | apply ih1 | apply ih2 | apply ih3 | apply ih4 | apply yw0.mono | apply ym1.mono | apply yi1.mono | apply ya1.mono | apply yn0.mono | apply yf0.mono | apply yn1.mono | apply yq1.mono | apply yk1.mono | apply yp1.mono | apply LeO.refl | apply LeO.none | refine LeO.ite ?_ ?_ | refine LeO.bind ?_ (fun _ => ?_))
theorem ya0.calls (k : Nat) (A0 : Option Addr) (c0 : Nat) (l0 : List Int) (A1 : Option Addr) (c1 : Nat) (l1 : List Int) (r : Bool) (w : World) (hr0 : Kd.C (Kd.int .u8) w A0 l0.length l0) (hc0 : l0.length ≤ c0) (hr1 : Kd.C (Kd.int .u8) w A1 l1.length l1) (hc1 : l1.length ≤ c1) (h : ya0.f k l0 l1 = some r) :
  Calls Try.prog 4 #[.slice A0 l0.length c0, .slice A1 l1.length c1] w fun e w' => e = .returned (.bool r) ∧ Below w.heap.size w w' := by
 have hu26 := Try.underlying26
 have uU := hqZ hr0
 have HC0 := hqZ hc0
 clear hr0 hc0
 have Ue := hqZ hr1
 have HC1 := hqZ hc1
 clear hr1 hc1
 have HB := hqZ (Below.refl w.heap.size w)
 have H : ((ye2.f l0 l1).bind fun dX => (if dX = true then (some true) else ((yn1.f k l0).bind fun Ju => ((yw0.f k Ju.1 Ju.2).bind fun Jx => ((yf0.f k Ju.1 Ju.2).bind fun jy => ((yi1.f k Ju.1 Ju.2).bind fun JG => ((yk1.f k Ju.1 Ju.2).bind fun Yn => (if (Jx.2 != jy.2) = true then (ya0.j0 k l1 Ju.2 Jx.1 Jx.2 JG.1 true Ju.1) else (if Jx.1 = jy.1 then (if (JG.2 != Yn.2) = true then (ya0.j0 k l1 Ju.2 Jx.1 Jx.2 JG.1 true Ju.1) else ((yn0.f k JG.1 Yn.1).bind fun vT => (if vT = true then (if Jx.2 = true then (ya0.j0 k l1 Ju.2 Jx.1 Jx.2 JG.1 (!JG.2) Ju.1) else (ya0.j0 k l1 Ju.2 Jx.1 Jx.2 JG.1 false Ju.1)) else (ya0.j0 k l1 Ju.2 Jx.1 Jx.2 JG.1 true Ju.1)))) else (ya0.j0 k l1 Ju.2 Jx.1 Jx.2 JG.1 true Ju.1)))))))))) = some r := h
 clear h
 replace H := Option.bind_eq_some_iff.mp H
 obtain ⟨dX, A30, H⟩ := H
 replace H : (if dX = true then (some true) else ((yn1.f k l0).bind fun Ju => ((yw0.f k Ju.1 Ju.2).bind fun Jx => ((yf0.f k Ju.1 Ju.2).bind fun jy => ((yi1.f k Ju.1 Ju.2).bind fun JG => ((yk1.f k Ju.1 Ju.2).bind fun Yn => (if (Jx.2 != jy.2) = true then (ya0.j0 k l1 Ju.2 Jx.1 Jx.2 JG.1 true Ju.1) else (if Jx.1 = jy.1 then (if (JG.2 != Yn.2) = true then (ya0.j0 k l1 Ju.2 Jx.1 Jx.2 JG.1 true Ju.1) else ((yn0.f k JG.1 Yn.1).bind fun vT => (if vT = true then (if Jx.2 = true then (ya0.j0 k l1 Ju.2 Jx.1 Jx.2 JG.1 (!JG.2) Ju.1) else (ya0.j0 k l1 Ju.2 Jx.1 Jx.2 JG.1 false Ju.1)) else (ya0.j0 k l1 Ju.2 Jx.1 Jx.2 JG.1 true Ju.1)))) else (ya0.j0 k l1 Ju.2 Jx.1 Jx.2 JG.1 true Ju.1))))))))) = some r := H
 have A3 := hqZ A30
 clear A30
 by_cases c4 : dX = true
 ·as_aux_lemma =>
  subst c4
  have H1 : (some true) = some r := by rw [if_pos rfl] at H; exact H
  clear H
  have H := H1
  clear H1
  obtain rfl := Option.some.inj H
  go_enter Try.func4, Try.ntmps4
  go_wp2_with (((with_reducible refine ze0 (f := 5) rfl ?_); refine zM (some 35) Try.func5 #[.slice A0 l0.length c0, .slice A1 l1.length c1] ?_; (with_reducible refine (ye2.calls _ _ l0 _ _ l1 true _ ?side1 ?side2 ?side3 ?side4 A3.1).mono ?_); (case side1 => exact uU.1); (case side2 => exact HC0.1); (case side3 => exact Ue.1); (case side4 => exact HC1.1); rintro e w' ⟨rfl, ⟨nd, rfl⟩⟩; refine ⟨_, rfl, ?_⟩))
  go_ret
  exact ⟨rfl, hqB HB.1⟩
 as_aux_lemma =>
 replace c4 := Bool.eq_false_iff.mpr c4
 subst c4
 have H1 : ((yn1.f k l0).bind fun Ju => ((yw0.f k Ju.1 Ju.2).bind fun Jx => ((yf0.f k Ju.1 Ju.2).bind fun jy => ((yi1.f k Ju.1 Ju.2).bind fun JG => ((yk1.f k Ju.1 Ju.2).bind fun Yn => (if (Jx.2 != jy.2) = true then (ya0.j0 k l1 Ju.2 Jx.1 Jx.2 JG.1 true Ju.1) else (if Jx.1 = jy.1 then (if (JG.2 != Yn.2) = true then (ya0.j0 k l1 Ju.2 Jx.1 Jx.2 JG.1 true Ju.1) else ((yn0.f k JG.1 Yn.1).bind fun vT => (if vT = true then (if Jx.2 = true then (ya0.j0 k l1 Ju.2 Jx.1 Jx.2 JG.1 (!JG.2) Ju.1) else (ya0.j0 k l1 Ju.2 Jx.1 Jx.2 JG.1 false Ju.1)) else (ya0.j0 k l1 Ju.2 Jx.1 Jx.2 JG.1 true Ju.1)))) else (ya0.j0 k l1 Ju.2 Jx.1 Jx.2 JG.1 true Ju.1)))))))) = some r := by rw [if_neg (show ¬ (false = true) by decide)] at H; exact H
 clear H
 have H := H1
 clear H1
 replace H := Option.bind_eq_some_iff.mp H
 obtain ⟨⟨Ji, JX⟩, A50, H⟩ := H
 replace H : ((yw0.f k Ji JX).bind fun Jx => ((yf0.f k Ji JX).bind fun jy => ((yi1.f k Ji JX).bind fun JG => ((yk1.f k Ji JX).bind fun Yn => (if (Jx.2 != jy.2) = true then (ya0.j0 k l1 JX Jx.1 Jx.2 JG.1 true Ji) else (if Jx.1 = jy.1 then (if (JG.2 != Yn.2) = true then (ya0.j0 k l1 JX Jx.1 Jx.2 JG.1 true Ji) else ((yn0.f k JG.1 Yn.1).bind fun vT => (if vT = true then (if Jx.2 = true then (ya0.j0 k l1 JX Jx.1 Jx.2 JG.1 (!JG.2) Ji) else (ya0.j0 k l1 JX Jx.1 Jx.2 JG.1 false Ji)) else (ya0.j0 k l1 JX Jx.1 Jx.2 JG.1 true Ji)))) else (ya0.j0 k l1 JX Jx.1 Jx.2 JG.1 true Ji))))))) = some r := H
 have A5 := hqZ A50
 clear A50
 replace H := Option.bind_eq_some_iff.mp H
 obtain ⟨⟨VH, VI⟩, A60, H⟩ := H
 replace H : ((yf0.f k Ji JX).bind fun jy => ((yi1.f k Ji JX).bind fun JG => ((yk1.f k Ji JX).bind fun Yn => (if (VI != jy.2) = true then (ya0.j0 k l1 JX VH VI JG.1 true Ji) else (if VH = jy.1 then (if (JG.2 != Yn.2) = true then (ya0.j0 k l1 JX VH VI JG.1 true Ji) else ((yn0.f k JG.1 Yn.1).bind fun vT => (if vT = true then (if VI = true then (ya0.j0 k l1 JX VH VI JG.1 (!JG.2) Ji) else (ya0.j0 k l1 JX VH VI JG.1 false Ji)) else (ya0.j0 k l1 JX VH VI JG.1 true Ji)))) else (ya0.j0 k l1 JX VH VI JG.1 true Ji)))))) = some r := H
 have A6 := hqZ A60
 clear A60
 replace H := Option.bind_eq_some_iff.mp H
 obtain ⟨⟨Uu, oc⟩, A70, H⟩ := H
 replace H : ((yi1.f k Ji JX).bind fun JG => ((yk1.f k Ji JX).bind fun Yn => (if (VI != oc) = true then (ya0.j0 k l1 JX VH VI JG.1 true Ji) else (if VH = Uu then (if (JG.2 != Yn.2) = true then (ya0.j0 k l1 JX VH VI JG.1 true Ji) else ((yn0.f k JG.1 Yn.1).bind fun vT => (if vT = true then (if VI = true then (ya0.j0 k l1 JX VH VI JG.1 (!JG.2) Ji) else (ya0.j0 k l1 JX VH VI JG.1 false Ji)) else (ya0.j0 k l1 JX VH VI JG.1 true Ji)))) else (ya0.j0 k l1 JX VH VI JG.1 true Ji))))) = some r := H
 have A7 := hqZ A70
 clear A70
 replace H := Option.bind_eq_some_iff.mp H
 obtain ⟨⟨Y7, uG⟩, A80, H⟩ := H
 replace H : ((yk1.f k Ji JX).bind fun Yn => (if (VI != oc) = true then (ya0.j0 k l1 JX VH VI Y7 true Ji) else (if VH = Uu then (if (uG != Yn.2) = true then (ya0.j0 k l1 JX VH VI Y7 true Ji) else ((yn0.f k Y7 Yn.1).bind fun vT => (if vT = true then (if VI = true then (ya0.j0 k l1 JX VH VI Y7 (!uG) Ji) else (ya0.j0 k l1 JX VH VI Y7 false Ji)) else (ya0.j0 k l1 JX VH VI Y7 true Ji)))) else (ya0.j0 k l1 JX VH VI Y7 true Ji)))) = some r := H
 have A8 := hqZ A80
 clear A80
 replace H := Option.bind_eq_some_iff.mp H
 obtain ⟨⟨Z5, U6⟩, A90, H⟩ := H
 replace H : (if (VI != oc) = true then (ya0.j0 k l1 JX VH VI Y7 true Ji) else (if VH = Uu then (if (uG != U6) = true then (ya0.j0 k l1 JX VH VI Y7 true Ji) else ((yn0.f k Y7 Z5).bind fun vT => (if vT = true then (if VI = true then (ya0.j0 k l1 JX VH VI Y7 (!uG) Ji) else (ya0.j0 k l1 JX VH VI Y7 false Ji)) else (ya0.j0 k l1 JX VH VI Y7 true Ji)))) else (ya0.j0 k l1 JX VH VI Y7 true Ji))) = some r := H
 have A9 := hqZ A90
 clear A90
 have HC10 := hqZ H
 clear H
 go_enter Try.func4, Try.ntmps4
 go_upto_region 8 with (first | ((with_reducible refine ze0 (f := 5) rfl ?_); refine zM (some 35) Try.func5 #[.slice A0 l0.length c0, .slice A1 l1.length c1] ?_; (with_reducible refine (ye2.calls _ _ l0 _ _ l1 false _ ?side1 ?side2 ?side3 ?side4 A3.1).mono ?_); (case side1 => exact uU.1); (case side2 => exact HC0.1); (case side3 => exact Ue.1); (case side4 => exact HC1.1); rintro e w' ⟨rfl, ⟨nd, rfl⟩⟩; refine ⟨_, rfl, ?_⟩) | ((with_reducible refine ze0 (f := 18) rfl ?_); refine zM (some 38) Try.func18 #[.slice A0 l0.length c0] ?_; (with_reducible refine (yn1.calls k _ _ l0 Ji JX _ ?side1 ?side2 A5.1).mono ?_); (case side1 => exact uU.1); (case side2 => exact HC0.1); rintro e w11 ⟨v768, rfl, ho0, hb⟩; refine ⟨_, rfl, ?_⟩; have Yf := hqZ (Kd.N_lower (Kd.N_mono (ok' := fun k_ => True) ho0 (fun k_ hk_ => trivial)) (zb0 (hqB HB.1))); replace HB := hqZ (za0 (hqB HB.1) hb); clear hb ho0) | ((with_reducible refine zi0 (N := 5) rfl ?_); refine zk0 ?hg (N := 5) ?hd (cs := #[.slice none 0 0]) (t := 26) ?hr ?_; (case hd | hg => rfl); (case hr => go_simp); intro Jr hg w12 hbox hb; replace Yf := hqZ (Kd.N_below (Kd.N_elderB (Yf.1) Jr (Nat.le_of_eq hg.symm)) hb); have Jb := hqZ (hbox); have Jn7 := hqZ ((by rw [hg]; exact (zb0 (HB.1)) : w.heap.size ≤ Jr)); have Nm := hqZ ((by rw [hg]; exact (zb0 (HB.1)) : w.heap.size ≤ Jr)); replace HB := hqZ (za0 (HB.1) hb); clear hb hbox hg; obtain ⟨JU, JR, eo13⟩ := Kd.N_slice Yf.1; subst eo13; have u4 : w12.cell? ⟨Jr, 0, none⟩ = some (.slice none 0 0) := (zf0 Jb.1 0).trans rfl; have u7 := zc0 Jb.1 0) | ((with_reducible refine ze0 (f := 19) rfl ?_); refine zM (some 44) Try.func19 #[.agg #[.slice JU Ji.length JR], .int .i64 JX] ?_; (with_reducible refine (yw0.calls k _ _ Ji JX VH VI _ ?side1 ?side2 A6.1).mono ?_); (case side1 => refine (Kd.N_reads' (e := 27) (base := w.heap.size) (ok := fun k_ => (True ∧ k_ ≠ Jr)) (n := Ji.length) (c := JR) ?_).2.2; exact ((Kd.N_mono (Kd.N_far (p := ⟨Jr, 0, none⟩) (Kd.N_mono Yf.1 (fun k_ hk => (⟨hk, hk.2⟩ : _ ∧ k_ ≠ Jr))) (fun _ hk => hk.2) (.slice JU Ji.length JR)) (fun _ h_ => h_.1)))); (case side2 => exact (Kd.N_reads' Yf.1).2.1); rintro e w15 ⟨rfl, hb⟩; refine ⟨_, rfl, ?_⟩; replace Yf := hqZ (Kd.N_below ((Kd.N_mono (Kd.N_far (p := ⟨Jr, 0, none⟩) (Kd.N_mono Yf.1 (fun k_ hk => (⟨hk, hk.2⟩ : _ ∧ k_ ≠ Jr))) (fun _ hk => hk.2) (.slice JU Ji.length JR)) (fun _ h_ => h_.1))) hb); replace Jb := hqZ (zd0 (g := Jr) (o := .cells #[.slice JU Ji.length JR] 26 (0, 0)) (by refine blk_put (cs := #[.slice none 0 0]) ?_ 0 _ rfl; exact Jb.1) hb); replace HB := hqZ (za0 (zm0 HB.1 Nm.1) hb); clear hb; have YM : w15.cell? ⟨Jr, 0, none⟩ = some (.slice JU Ji.length JR) := (zf0 Jb.1 0).trans rfl; have YN := zc0 Jb.1 0) | ((with_reducible refine ze0 (f := 20) rfl ?_); refine zM (some 50) Try.func20 #[.agg #[.slice JU Ji.length JR], .int .i64 JX] ?_; (with_reducible refine (yf0.calls k _ _ Ji JX Uu oc _ ?side1 ?side2 A7.1).mono ?_); (case side1 => exact (Kd.N_reads' Yf.1).2.2); (case side2 => exact (Kd.N_reads' Yf.1).2.1); rintro e w17 ⟨rfl, hb⟩; refine ⟨_, rfl, ?_⟩; replace Yf := hqZ (Kd.N_below (Yf.1) hb); replace Jb := hqZ (zd0 (g := Jr) (o := .cells #[.slice JU Ji.length JR] 26 (0, 0)) (Jb.1) hb); replace HB := hqZ (za0 (HB.1) hb); clear hb; have YT : w17.cell? ⟨Jr, 0, none⟩ = some (.slice JU Ji.length JR) := (zf0 Jb.1 0).trans rfl; have YU := zc0 Jb.1 0) | ((with_reducible refine ze0 (f := 21) rfl ?_); refine zM (some 56) Try.func21 #[.agg #[.slice JU Ji.length JR], .int .i64 JX] ?_; (with_reducible refine (yi1.calls k _ _ Ji JX Y7 uG _ ?side1 ?side2 A8.1).mono ?_); (case side1 => exact (Kd.N_reads' Yf.1).2.2); (case side2 => exact (Kd.N_reads' Yf.1).2.1); rintro e w19 ⟨v777, rfl, ho0, hb⟩; refine ⟨_, rfl, ?_⟩; replace Yf := hqZ (Kd.N_elder' (Yf.1) (Kd.R_base ho0) hb); have jc := hqZ (Kd.R_lower ho0 (zb0 (HB.1))); replace Jb := hqZ (zd0 (g := Jr) (o := .cells #[.slice JU Ji.length JR] 26 (0, 0)) (Jb.1) hb); replace HB := hqZ (za0 (HB.1) hb); clear hb ho0; have jJ : w19.cell? ⟨Jr, 0, none⟩ = some (.slice JU Ji.length JR) := (zf0 Jb.1 0).trans rfl; have jK := zc0 Jb.1 0) | ((with_reducible refine ze0 (f := 22) rfl ?_); refine zM (some 62) Try.func22 #[.agg #[.slice JU Ji.length JR], .int .i64 JX] ?_; (with_reducible refine (yk1.calls k _ _ Ji JX Z5 U6 _ ?side1 ?side2 A9.1).mono ?_); (case side1 => exact (Kd.N_reads' Yf.1).2.2); (case side2 => exact (Kd.N_reads' Yf.1).2.1); rintro e w21 ⟨v781, rfl, ho0, hb⟩; refine ⟨_, rfl, ?_⟩; replace Yf := hqZ (Kd.N_elder' (Yf.1) (Kd.R_base ho0) hb); have XC := hqZ (Kd.R_lower (Kd.R_new' ho0 (Kd.R_lt (jc.1))) (zb0 (HB.1))); replace jc := hqZ (Kd.R_elder' (jc.1) (Kd.R_base ho0) hb); replace Jb := hqZ (zd0 (g := Jr) (o := .cells #[.slice JU Ji.length JR] 26 (0, 0)) (Jb.1) hb); replace HB := hqZ (za0 (HB.1) hb); clear hb ho0))
 (try simp only [Act.put, zA, zB, zC])
 go_cut [90] (fun v90 wc => ∃ (kq : Nat) (dx : Bool), v90 = .bool dx ∧ zg0 (ya0.j0 kq l1 JX VH VI Y7 dx Ji = some r) ∧ zg0 (kq ≤ k) ∧ zg0 (Kd.R (Kd.int .i64) 3 wc w.heap.size (fun _ => True) v777 Y7) ∧ zg0 (Kd.N (Kd.slice 3 (Kd.int .i64)) 27 wc w.heap.size (fun k_ => some k_ ≠ (v777 : Value).ownBlock ∧ k_ ≠ Jr) (.slice JU Ji.length JR) Ji) ∧ zg0 (wc.heap[Jr]? = some (.cells #[(.slice JU Ji.length JR)] 26 (0, 0))) ∧ zg0 (Below w.heap.size w wc))
 case first =>
  have H := HC10.1
  clear HC10
  by_cases c22 : (VI != oc) = true
  ·as_aux_lemma =>
   rw [if_pos c22] at H
   have c22b0 : (VI != oc) = true := c22
   (try (have c22b1 : decide (VI = oc) = false := by simpa using c22))
   (try (have c22b2 : (VI == oc) = false := by simpa using c22))
   (try (have c22b3 : ¬ (VI = oc) := by simpa using c22))
   clear c22
   (skip)
   have H' := hqZ H
   clear H
   go_wp2
   go_meet
   case rel => exact ⟨_, (true), (rfl), H', ⟨by omega⟩, ⟨Kd.R_mono jc.1 (fun _ hk => trivial)⟩, ⟨Kd.N_mono Yf.1 (fun _ hk => ⟨hk.1.2, hk.1.1.2⟩)⟩, ⟨Jb.1⟩, ⟨HB.1⟩⟩
  as_aux_lemma =>
  rw [if_neg c22] at H
  have c22b0 : (VI != oc) = false := by simpa using c22
  (try (have c22b1 : decide (VI = oc) = true := by simpa using c22))
  (try (have c22b2 : (VI == oc) = true := by simpa using c22))
  clear c22
  (skip)
  by_cases c23 : VH = Uu
  rotate_left
  ·as_aux_lemma =>
   rw [if_neg c23] at H
   have c23b0 : (VH == Uu) = false := beq_eq_false_iff_ne.mpr c23
   have c23b1 : (VH != Uu) = true := bne_iff_ne.mpr c23
   have H' := hqZ H
   clear H
   go_wp2
   go_meet
   case rel => exact ⟨_, (true), (rfl), H', ⟨by omega⟩, ⟨Kd.R_mono jc.1 (fun _ hk => trivial)⟩, ⟨Kd.N_mono Yf.1 (fun _ hk => ⟨hk.1.2, hk.1.1.2⟩)⟩, ⟨Jb.1⟩, ⟨HB.1⟩⟩
  as_aux_lemma =>
  rw [if_pos c23] at H
  have c23b0 : (VH == Uu) = true := beq_iff_eq.mpr c23
  have c23b1 : (VH != Uu) = false := bne_eq_false_iff_eq.mpr c23
  clear c23
  by_cases c24 : (uG != U6) = true
  ·as_aux_lemma =>
   rw [if_pos c24] at H
   have c24b0 : (uG != U6) = true := c24
   (try (have c24b1 : decide (uG = U6) = false := by simpa using c24))
   (try (have c24b2 : (uG == U6) = false := by simpa using c24))
   (try (have c24b3 : ¬ (uG = U6) := by simpa using c24))
   clear c24
   have H' := hqZ H
   clear H
   go_wp2
   go_meet
   case rel => exact ⟨_, (true), (rfl), H', ⟨by omega⟩, ⟨Kd.R_mono jc.1 (fun _ hk => trivial)⟩, ⟨Kd.N_mono Yf.1 (fun _ hk => ⟨hk.1.2, hk.1.1.2⟩)⟩, ⟨Jb.1⟩, ⟨HB.1⟩⟩
  as_aux_lemma =>
  rw [if_neg c24] at H
  have c24b0 : (uG != U6) = false := by simpa using c24
  (try (have c24b1 : decide (uG = U6) = true := by simpa using c24))
  (try (have c24b2 : (uG == U6) = true := by simpa using c24))
  clear c24
  replace H := Option.bind_eq_some_iff.mp H
  obtain ⟨vT, A250, H⟩ := H
  replace H : (if vT = true then (if VI = true then (ya0.j0 k l1 JX VH VI Y7 (!uG) Ji) else (ya0.j0 k l1 JX VH VI Y7 false Ji)) else (ya0.j0 k l1 JX VH VI Y7 true Ji)) = some r := H
  have A25 := hqZ A250
  clear A250
  by_cases c26 : vT = true
  rotate_left
  ·as_aux_lemma =>
   replace c26 := Bool.eq_false_iff.mpr c26
   subst c26
   have H1 : (ya0.j0 k l1 JX VH VI Y7 true Ji) = some r := by rw [if_neg (show ¬ (false = true) by decide)] at H; exact H
   clear H
   have H := H1
   clear H1
   have H' := hqZ H
   clear H
   obtain ⟨o6, XE, eo32⟩ := Kd.R_slice jc.1
   subst eo32
   obtain ⟨U3, ob, eo33⟩ := Kd.R_slice XC.1
   subst eo33
   go_wp2_with ((go_at_call 11; (with_reducible refine (yn0.calls k _ _ Y7 _ _ Z5 false _ ?side1 ?side2 ?side3 ?side4 A25.1).mono ?_); (case side1 => exact (Kd.R_reads' jc.1).2.2); (case side2 => exact (Kd.R_reads' jc.1).2.1); (case side3 => exact (Kd.R_reads' XC.1).2.2); (case side4 => exact (Kd.R_reads' XC.1).2.1); rintro e w' ⟨rfl, ⟨nd, rfl⟩⟩))
   go_meet
   case rel => exact ⟨_, (true), (rfl), H', ⟨by omega⟩, ⟨Kd.R_mono jc.1 (fun _ hk => trivial)⟩, ⟨Kd.N_mono Yf.1 (fun _ hk => ⟨hk.1.2, hk.1.1.2⟩)⟩, ⟨Jb.1⟩, ⟨hqB HB.1⟩⟩
  as_aux_lemma =>
  subst c26
  have H1 : (if VI = true then (ya0.j0 k l1 JX VH VI Y7 (!uG) Ji) else (ya0.j0 k l1 JX VH VI Y7 false Ji)) = some r := by rw [if_pos rfl] at H; exact H
  clear H
  have H := H1
  clear H1
  by_cases c27 : VI = true
  ·as_aux_lemma =>
   subst c27
   have H1 : (ya0.j0 k l1 JX VH true Y7 (!uG) Ji) = some r := by rw [if_pos rfl] at H; exact H
   clear H
   have H := H1
   clear H1
   have H' := hqZ H
   clear H
   obtain ⟨Zi, Zj, eo28⟩ := Kd.R_slice jc.1
   subst eo28
   obtain ⟨Jq4, Jq5, eo29⟩ := Kd.R_slice XC.1
   subst eo29
   go_wp2_with ((go_at_call 11; (with_reducible refine (yn0.calls k _ _ Y7 _ _ Z5 true _ ?side1 ?side2 ?side3 ?side4 A25.1).mono ?_); (case side1 => exact (Kd.R_reads' jc.1).2.2); (case side2 => exact (Kd.R_reads' jc.1).2.1); (case side3 => exact (Kd.R_reads' XC.1).2.2); (case side4 => exact (Kd.R_reads' XC.1).2.1); rintro e w' ⟨rfl, ⟨nd, rfl⟩⟩))
   go_meet
   case rel => exact ⟨_, (!uG), (rfl), H', ⟨by omega⟩, ⟨Kd.R_mono jc.1 (fun _ hk => trivial)⟩, ⟨Kd.N_mono Yf.1 (fun _ hk => ⟨hk.1.2, hk.1.1.2⟩)⟩, ⟨Jb.1⟩, ⟨hqB HB.1⟩⟩
  as_aux_lemma =>
  replace c27 := Bool.eq_false_iff.mpr c27
  subst c27
  have H1 : (ya0.j0 k l1 JX VH false Y7 false Ji) = some r := by rw [if_neg (show ¬ (false = true) by decide)] at H; exact H
  clear H
  have H := H1
  clear H1
  have H' := hqZ H
  clear H
  obtain ⟨mC, EH, eo30⟩ := Kd.R_slice jc.1
  subst eo30
  obtain ⟨mu, dP, eo31⟩ := Kd.R_slice XC.1
  subst eo31
  go_wp2_with ((go_at_call 11; (with_reducible refine (yn0.calls k _ _ Y7 _ _ Z5 true _ ?side1 ?side2 ?side3 ?side4 A25.1).mono ?_); (case side1 => exact (Kd.R_reads' jc.1).2.2); (case side2 => exact (Kd.R_reads' jc.1).2.1); (case side3 => exact (Kd.R_reads' XC.1).2.2); (case side4 => exact (Kd.R_reads' XC.1).2.1); rintro e w' ⟨rfl, ⟨nd, rfl⟩⟩))
  go_meet
  case rel => exact ⟨_, (false), (rfl), H', ⟨by omega⟩, ⟨Kd.R_mono jc.1 (fun _ hk => trivial)⟩, ⟨Kd.N_mono Yf.1 (fun _ hk => ⟨hk.1.2, hk.1.1.2⟩)⟩, ⟨Jb.1⟩, ⟨hqB HB.1⟩⟩
 case rest =>
  clear HC10
  try clear c1
  try clear c2
  try clear p2
  try clear c4
  try clear c5
  try clear c18
  try clear c19
  try clear c20
  try clear c21
  try clear c22
  try clear c22b0
  try clear c22b1
  try clear c22b2
  try clear c23
  try clear c23b0
  try clear c23b1
  try clear c24
  try clear c24b0
  try clear c24b1
  try clear c24b2
  try clear c26
  try clear c27
  try clear u4
  try clear YM
  try clear YT
  try clear jJ
  try clear u7
  try clear YN
  try clear YU
  try clear jK
  obtain ⟨kq, dx, rfl, HA, E0, JJ, J5, Jb, HB⟩ := hcut
  cases kq with
  | zero => exact absurd HA.1 (by simp [ya0.j0])
  | succ kj9 =>
   have H := HA.1
   clear HA
   simp only [ya0.j0] at H
   by_cases c34 : dx = true
   ·as_aux_lemma =>
    subst c34
    have H1 : (some false) = some r := by rw [if_pos rfl] at H; exact H
    clear H
    have H := H1
    clear H1
    obtain rfl := Option.some.inj H
    go_wp2
    go_ret
    exact ⟨rfl, HB.1⟩
   as_aux_lemma =>
   replace c34 := Bool.eq_false_iff.mpr c34
   subst c34
   have H1 : (if VI = true then ((ym1.f kj9 Ji JX).bind fun o3 => ((ya1.f kj9 Ji JX Y7).bind fun uE => (if o3.2 = true then (if o3.1 = VH then (if uE.2 = true then (if uE.1 = true then (ya0.j1 kj9 l1) else (some false)) else (some false)) else (some false)) else (some false)))) else (ya0.j1 kj9 l1)) = some r := by rw [if_neg (show ¬ (false = true) by decide)] at H; exact H
   clear H
   have H := H1
   clear H1
   have HC35 := hqZ H
   clear H
   go_upto_if 91 with (fail)
   go_cut [] (fun wc => ∃ (kq : Nat), zg0 (ya0.j1 kq l1 = some r) ∧ zg0 (kq ≤ kj9) ∧ zg0 (Kd.N (Kd.slice 3 (Kd.int .i64)) 27 wc w.heap.size (fun k_ => k_ ≠ Jr) (.slice JU Ji.length JR) Ji) ∧ zg0 (wc.heap[Jr]? = some (.cells #[(.slice JU Ji.length JR)] 26 (0, 0))) ∧ zg0 (Below w.heap.size w wc))
   case first =>
    have H := HC35.1
    clear HC35
    by_cases c36 : VI = true
    rotate_left
    ·as_aux_lemma =>
     replace c36 := Bool.eq_false_iff.mpr c36
     subst c36
     have H1 : (ya0.j1 kj9 l1) = some r := by rw [if_neg (show ¬ (false = true) by decide)] at H; exact H
     clear H
     have H := H1
     clear H1
     have H' := hqZ H
     clear H
     go_wp2
     go_meet
     case rel => exact ⟨_, H', ⟨by have := E0.1; omega⟩, ⟨Kd.N_mono J5.1 (fun _ hk => hk.2)⟩, ⟨Jb.1⟩, ⟨HB.1⟩⟩
    as_aux_lemma =>
    subst c36
    have H1 : ((ym1.f kj9 Ji JX).bind fun o3 => ((ya1.f kj9 Ji JX Y7).bind fun uE => (if o3.2 = true then (if o3.1 = VH then (if uE.2 = true then (if uE.1 = true then (ya0.j1 kj9 l1) else (some false)) else (some false)) else (some false)) else (some false)))) = some r := by rw [if_pos rfl] at H; exact H
    clear H
    have H := H1
    clear H1
    replace H := Option.bind_eq_some_iff.mp H
    obtain ⟨⟨XR, mS⟩, A370, H⟩ := H
    replace H : ((ya1.f kj9 Ji JX Y7).bind fun uE => (if mS = true then (if XR = VH then (if uE.2 = true then (if uE.1 = true then (ya0.j1 kj9 l1) else (some false)) else (some false)) else (some false)) else (some false))) = some r := H
    have A37 := hqZ A370
    clear A370
    replace H := Option.bind_eq_some_iff.mp H
    obtain ⟨⟨qK, Z6⟩, A380, H⟩ := H
    replace H : (if mS = true then (if XR = VH then (if Z6 = true then (if qK = true then (ya0.j1 kj9 l1) else (some false)) else (some false)) else (some false)) else (some false)) = some r := H
    have A38 := hqZ A380
    clear A380
    by_cases c39 : mS = true
    rotate_left
    ·as_aux_lemma =>
     replace c39 := Bool.eq_false_iff.mpr c39
     subst c39
     have H1 : (some false) = some r := by rw [if_neg (show ¬ (false = true) by decide)] at H; exact H
     clear H
     have H := H1
     clear H1
     obtain rfl := Option.some.inj H
     have Xj : wc.cell? ⟨Jr, 0, none⟩ = some (.slice JU Ji.length JR) := (zf0 Jb.1 0).trans rfl
     have Xk := zc0 Jb.1 0
     go_wp2_with (first | ((with_reducible refine ze0 (f := 23) rfl ?_); refine zM (some 95) Try.func23 #[.agg #[.slice JU Ji.length JR], .int .i64 JX] ?_; (with_reducible refine (ym1.calls kj9 _ _ Ji JX XR false _ ?side1 ?side2 A37.1).mono ?_); (case side1 => exact (Kd.N_reads' J5.1).2.2); (case side2 => exact (Kd.N_reads' J5.1).2.1); rintro e w64 ⟨rfl, hb⟩; refine ⟨_, rfl, ?_⟩; replace JJ := hqZ (Kd.R_below (JJ.1) hb); replace J5 := hqZ (Kd.N_below (J5.1) hb); replace Jb := hqZ (zd0 (g := Jr) (o := .cells #[.slice JU Ji.length JR] 26 (0, 0)) (Jb.1) hb); replace HB := hqZ (za0 (HB.1) hb); clear hb; have ou : w64.cell? ⟨Jr, 0, none⟩ = some (.slice JU Ji.length JR) := (zf0 Jb.1 0).trans rfl; have ov := zc0 Jb.1 0; obtain ⟨Jj5, Jj6, eo66⟩ := Kd.R_slice JJ.1; subst eo66) | ((with_reducible refine ze0 (f := 24) rfl ?_); refine zM (some 102) Try.func24 #[.agg #[.slice JU Ji.length JR], .int .i64 JX, .slice Jj5 Y7.length Jj6] ?_; (with_reducible refine (ya1.calls kj9 _ _ Ji JX _ _ Y7 qK Z6 _ ?side1 ?side2 ?side3 ?side4 A38.1).mono ?_); (case side1 => exact (Kd.N_reads' J5.1).2.2); (case side2 => exact (Kd.N_reads' J5.1).2.1); (case side3 => exact (Kd.R_reads' JJ.1).2.2); (case side4 => exact (Kd.R_reads' JJ.1).2.1); rintro e w67 ⟨rfl, hb⟩; refine ⟨_, rfl, ?_⟩; replace JJ := hqZ (Kd.R_below (JJ.1) hb); replace J5 := hqZ (Kd.N_below (J5.1) hb); replace Jb := hqZ (zd0 (g := Jr) (o := .cells #[.slice JU Ji.length JR] 26 (0, 0)) (Jb.1) hb); replace HB := hqZ (za0 (HB.1) hb); clear hb))
     go_ret
     exact ⟨rfl, HB.1⟩
    as_aux_lemma =>
    subst c39
    have H1 : (if XR = VH then (if Z6 = true then (if qK = true then (ya0.j1 kj9 l1) else (some false)) else (some false)) else (some false)) = some r := by rw [if_pos rfl] at H; exact H
    clear H
    have H := H1
    clear H1
    by_cases c40 : XR = VH
    rotate_left
    ·as_aux_lemma =>
     rw [if_neg c40] at H
     have c40b0 : (XR == VH) = false := beq_eq_false_iff_ne.mpr c40
     have c40b1 : (XR != VH) = true := bne_iff_ne.mpr c40
     (skip)
     obtain rfl := Option.some.inj H
     have ow : wc.cell? ⟨Jr, 0, none⟩ = some (.slice JU Ji.length JR) := (zf0 Jb.1 0).trans rfl
     have ox := zc0 Jb.1 0
     go_wp2_with (first | ((with_reducible refine ze0 (f := 23) rfl ?_); refine zM (some 95) Try.func23 #[.agg #[.slice JU Ji.length JR], .int .i64 JX] ?_; (with_reducible refine (ym1.calls kj9 _ _ Ji JX XR true _ ?side1 ?side2 A37.1).mono ?_); (case side1 => exact (Kd.N_reads' J5.1).2.2); (case side2 => exact (Kd.N_reads' J5.1).2.1); rintro e w59 ⟨rfl, hb⟩; refine ⟨_, rfl, ?_⟩; replace JJ := hqZ (Kd.R_below (JJ.1) hb); replace J5 := hqZ (Kd.N_below (J5.1) hb); replace Jb := hqZ (zd0 (g := Jr) (o := .cells #[.slice JU Ji.length JR] 26 (0, 0)) (Jb.1) hb); replace HB := hqZ (za0 (HB.1) hb); clear hb; have Xu : w59.cell? ⟨Jr, 0, none⟩ = some (.slice JU Ji.length JR) := (zf0 Jb.1 0).trans rfl; have Xv := zc0 Jb.1 0; obtain ⟨Jj7, Jj8, eo61⟩ := Kd.R_slice JJ.1; subst eo61) | ((with_reducible refine ze0 (f := 24) rfl ?_); refine zM (some 102) Try.func24 #[.agg #[.slice JU Ji.length JR], .int .i64 JX, .slice Jj7 Y7.length Jj8] ?_; (with_reducible refine (ya1.calls kj9 _ _ Ji JX _ _ Y7 qK Z6 _ ?side1 ?side2 ?side3 ?side4 A38.1).mono ?_); (case side1 => exact (Kd.N_reads' J5.1).2.2); (case side2 => exact (Kd.N_reads' J5.1).2.1); (case side3 => exact (Kd.R_reads' JJ.1).2.2); (case side4 => exact (Kd.R_reads' JJ.1).2.1); rintro e w62 ⟨rfl, hb⟩; refine ⟨_, rfl, ?_⟩; replace JJ := hqZ (Kd.R_below (JJ.1) hb); replace J5 := hqZ (Kd.N_below (J5.1) hb); replace Jb := hqZ (zd0 (g := Jr) (o := .cells #[.slice JU Ji.length JR] 26 (0, 0)) (Jb.1) hb); replace HB := hqZ (za0 (HB.1) hb); clear hb))
     go_ret
     exact ⟨rfl, HB.1⟩
    as_aux_lemma =>
    rw [if_pos c40] at H
    have c40b0 : (XR == VH) = true := beq_iff_eq.mpr c40
    have c40b1 : (XR != VH) = false := bne_eq_false_iff_eq.mpr c40
    clear c40
    (skip)
    by_cases c41 : Z6 = true
    rotate_left
    ·as_aux_lemma =>
     replace c41 := Bool.eq_false_iff.mpr c41
     subst c41
     have H1 : (some false) = some r := by rw [if_neg (show ¬ (false = true) by decide)] at H; exact H
     clear H
     have H := H1
     clear H1
     obtain rfl := Option.some.inj H
     have oy : wc.cell? ⟨Jr, 0, none⟩ = some (.slice JU Ji.length JR) := (zf0 Jb.1 0).trans rfl
     have oz := zc0 Jb.1 0
     go_wp2_with (first | ((with_reducible refine ze0 (f := 23) rfl ?_); refine zM (some 95) Try.func23 #[.agg #[.slice JU Ji.length JR], .int .i64 JX] ?_; (with_reducible refine (ym1.calls kj9 _ _ Ji JX XR true _ ?side1 ?side2 A37.1).mono ?_); (case side1 => exact (Kd.N_reads' J5.1).2.2); (case side2 => exact (Kd.N_reads' J5.1).2.1); rintro e w54 ⟨rfl, hb⟩; refine ⟨_, rfl, ?_⟩; replace JJ := hqZ (Kd.R_below (JJ.1) hb); replace J5 := hqZ (Kd.N_below (J5.1) hb); replace Jb := hqZ (zd0 (g := Jr) (o := .cells #[.slice JU Ji.length JR] 26 (0, 0)) (Jb.1) hb); replace HB := hqZ (za0 (HB.1) hb); clear hb; have uJ : w54.cell? ⟨Jr, 0, none⟩ = some (.slice JU Ji.length JR) := (zf0 Jb.1 0).trans rfl; have uK := zc0 Jb.1 0; obtain ⟨DM, DN, eo56⟩ := Kd.R_slice JJ.1; subst eo56) | ((with_reducible refine ze0 (f := 24) rfl ?_); refine zM (some 102) Try.func24 #[.agg #[.slice JU Ji.length JR], .int .i64 JX, .slice DM Y7.length DN] ?_; (with_reducible refine (ya1.calls kj9 _ _ Ji JX _ _ Y7 qK false _ ?side1 ?side2 ?side3 ?side4 A38.1).mono ?_); (case side1 => exact (Kd.N_reads' J5.1).2.2); (case side2 => exact (Kd.N_reads' J5.1).2.1); (case side3 => exact (Kd.R_reads' JJ.1).2.2); (case side4 => exact (Kd.R_reads' JJ.1).2.1); rintro e w57 ⟨rfl, hb⟩; refine ⟨_, rfl, ?_⟩; replace JJ := hqZ (Kd.R_below (JJ.1) hb); replace J5 := hqZ (Kd.N_below (J5.1) hb); replace Jb := hqZ (zd0 (g := Jr) (o := .cells #[.slice JU Ji.length JR] 26 (0, 0)) (Jb.1) hb); replace HB := hqZ (za0 (HB.1) hb); clear hb))
     go_ret
     exact ⟨rfl, HB.1⟩
    as_aux_lemma =>
    subst c41
    have H1 : (if qK = true then (ya0.j1 kj9 l1) else (some false)) = some r := by rw [if_pos rfl] at H; exact H
    clear H
    have H := H1
    clear H1
    by_cases c42 : qK = true
    ·as_aux_lemma =>
     subst c42
     have H1 : (ya0.j1 kj9 l1) = some r := by rw [if_pos rfl] at H; exact H
     clear H
     have H := H1
     clear H1
     have H' := hqZ H
     clear H
     have uP : wc.cell? ⟨Jr, 0, none⟩ = some (.slice JU Ji.length JR) := (zf0 Jb.1 0).trans rfl
     have uQ := zc0 Jb.1 0
     go_wp2_with (first | ((with_reducible refine ze0 (f := 23) rfl ?_); refine zM (some 95) Try.func23 #[.agg #[.slice JU Ji.length JR], .int .i64 JX] ?_; (with_reducible refine (ym1.calls kj9 _ _ Ji JX XR true _ ?side1 ?side2 A37.1).mono ?_); (case side1 => exact (Kd.N_reads' J5.1).2.2); (case side2 => exact (Kd.N_reads' J5.1).2.1); rintro e w44 ⟨rfl, hb⟩; refine ⟨_, rfl, ?_⟩; replace JJ := hqZ (Kd.R_below (JJ.1) hb); replace J5 := hqZ (Kd.N_below (J5.1) hb); replace Jb := hqZ (zd0 (g := Jr) (o := .cells #[.slice JU Ji.length JR] 26 (0, 0)) (Jb.1) hb); replace HB := hqZ (za0 (HB.1) hb); clear hb; have jg : w44.cell? ⟨Jr, 0, none⟩ = some (.slice JU Ji.length JR) := (zf0 Jb.1 0).trans rfl; have jh := zc0 Jb.1 0; obtain ⟨my, mz, eo46⟩ := Kd.R_slice JJ.1; subst eo46) | ((with_reducible refine ze0 (f := 24) rfl ?_); refine zM (some 102) Try.func24 #[.agg #[.slice JU Ji.length JR], .int .i64 JX, .slice my Y7.length mz] ?_; (with_reducible refine (ya1.calls kj9 _ _ Ji JX _ _ Y7 true true _ ?side1 ?side2 ?side3 ?side4 A38.1).mono ?_); (case side1 => exact (Kd.N_reads' J5.1).2.2); (case side2 => exact (Kd.N_reads' J5.1).2.1); (case side3 => exact (Kd.R_reads' JJ.1).2.2); (case side4 => exact (Kd.R_reads' JJ.1).2.1); rintro e w47 ⟨rfl, hb⟩; refine ⟨_, rfl, ?_⟩; replace JJ := hqZ (Kd.R_below (JJ.1) hb); replace J5 := hqZ (Kd.N_below (J5.1) hb); replace Jb := hqZ (zd0 (g := Jr) (o := .cells #[.slice JU Ji.length JR] 26 (0, 0)) (Jb.1) hb); replace HB := hqZ (za0 (HB.1) hb); clear hb))
     go_meet
     case rel => exact ⟨_, H', ⟨by have := E0.1; omega⟩, ⟨Kd.N_mono J5.1 (fun _ hk => hk.2)⟩, ⟨Jb.1⟩, ⟨HB.1⟩⟩
    as_aux_lemma =>
    replace c42 := Bool.eq_false_iff.mpr c42
    subst c42
    have H1 : (some false) = some r := by rw [if_neg (show ¬ (false = true) by decide)] at H; exact H
    clear H
    have H := H1
    clear H1
    obtain rfl := Option.some.inj H
    have Xz : wc.cell? ⟨Jr, 0, none⟩ = some (.slice JU Ji.length JR) := (zf0 Jb.1 0).trans rfl
    have XA := zc0 Jb.1 0
    go_wp2_with (first | ((with_reducible refine ze0 (f := 23) rfl ?_); refine zM (some 95) Try.func23 #[.agg #[.slice JU Ji.length JR], .int .i64 JX] ?_; (with_reducible refine (ym1.calls kj9 _ _ Ji JX XR true _ ?side1 ?side2 A37.1).mono ?_); (case side1 => exact (Kd.N_reads' J5.1).2.2); (case side2 => exact (Kd.N_reads' J5.1).2.1); rintro e w49 ⟨rfl, hb⟩; refine ⟨_, rfl, ?_⟩; replace JJ := hqZ (Kd.R_below (JJ.1) hb); replace J5 := hqZ (Kd.N_below (J5.1) hb); replace Jb := hqZ (zd0 (g := Jr) (o := .cells #[.slice JU Ji.length JR] 26 (0, 0)) (Jb.1) hb); replace HB := hqZ (za0 (HB.1) hb); clear hb; have uL : w49.cell? ⟨Jr, 0, none⟩ = some (.slice JU Ji.length JR) := (zf0 Jb.1 0).trans rfl; have uM := zc0 Jb.1 0; obtain ⟨Zy, Zz, eo51⟩ := Kd.R_slice JJ.1; subst eo51) | ((with_reducible refine ze0 (f := 24) rfl ?_); refine zM (some 102) Try.func24 #[.agg #[.slice JU Ji.length JR], .int .i64 JX, .slice Zy Y7.length Zz] ?_; (with_reducible refine (ya1.calls kj9 _ _ Ji JX _ _ Y7 false true _ ?side1 ?side2 ?side3 ?side4 A38.1).mono ?_); (case side1 => exact (Kd.N_reads' J5.1).2.2); (case side2 => exact (Kd.N_reads' J5.1).2.1); (case side3 => exact (Kd.R_reads' JJ.1).2.2); (case side4 => exact (Kd.R_reads' JJ.1).2.1); rintro e w52 ⟨rfl, hb⟩; refine ⟨_, rfl, ?_⟩; replace JJ := hqZ (Kd.R_below (JJ.1) hb); replace J5 := hqZ (Kd.N_below (J5.1) hb); replace Jb := hqZ (zd0 (g := Jr) (o := .cells #[.slice JU Ji.length JR] 26 (0, 0)) (Jb.1) hb); replace HB := hqZ (za0 (HB.1) hb); clear hb))
    go_ret
    exact ⟨rfl, HB.1⟩
   case rest =>
    clear HC35
    try clear c1
    try clear c2
    try clear p2
    try clear c3
    try clear c4
    try clear c5
    try clear c18
    try clear c19
    try clear c20
    try clear c21
    try clear c22
    try clear c22b0
    try clear c22b1
    try clear c22b2
    try clear c23
    try clear c23b0
    try clear c23b1
    try clear c24
    try clear c24b0
    try clear c24b1
    try clear c24b2
    try clear c26
    try clear c27
    try clear c34
    try clear c36
    try clear c39
    try clear c40
    try clear c40b0
    try clear c40b1
    try clear c41
    try clear c42
    try clear u4
    try clear YM
    try clear YT
    try clear jJ
    try clear uP
    try clear jg
    try clear Xz
    try clear uL
    try clear oy
    try clear uJ
    try clear ow
    try clear Xu
    try clear Xj
    try clear ou
    try clear u7
    try clear YN
    try clear YU
    try clear jK
    try clear uQ
    try clear jh
    try clear XA
    try clear uM
    try clear oz
    try clear uK
    try clear ox
    try clear Xv
    try clear Xk
    try clear ov
    try clear p2
    obtain ⟨kq, HA, U7, J5, Jb, HB⟩ := hcut
    cases kq with
    | zero => exact absurd HA.1 (by simp [ya0.j1])
    | succ kj34 =>
     have H := HA.1
     clear HA
     simp only [ya0.j1] at H
     replace H := Option.bind_eq_some_iff.mp H
     obtain ⟨⟨JN, VQ, Jk⟩, A680, H⟩ := H
     replace H : ((ya1.f kj34 JN VQ Jk).bind fun vS => ((yp1.f kj34 JN VQ Jk).bind fun o4 => (if (vS.2 != o4.2) = true then (ya0.j2 kj34 VQ Jk vS.1 vS.2 true JN) else (ya0.j2 kj34 VQ Jk vS.1 vS.2 (vS.1 != o4.1) JN)))) = some r := H
     have A68 := hqZ A680
     clear A680
     replace H := Option.bind_eq_some_iff.mp H
     obtain ⟨⟨od, uk⟩, A690, H⟩ := H
     replace H : ((yp1.f kj34 JN VQ Jk).bind fun o4 => (if (uk != o4.2) = true then (ya0.j2 kj34 VQ Jk od uk true JN) else (ya0.j2 kj34 VQ Jk od uk (od != o4.1) JN))) = some r := H
     have A69 := hqZ A690
     clear A690
     replace H := Option.bind_eq_some_iff.mp H
     obtain ⟨⟨mT, U8⟩, A700, H⟩ := H
     replace H : (if (uk != U8) = true then (ya0.j2 kj34 VQ Jk od uk true JN) else (ya0.j2 kj34 VQ Jk od uk (od != mT) JN)) = some r := H
     have A70 := hqZ A700
     clear A700
     have HC71 := hqZ H
     clear H
     go_upto_region 18 with (first | ((with_reducible refine ze0 (f := 25) rfl ?_); refine zM (some 122) Try.func25 #[.slice A1 l1.length c1] ?_; (with_reducible refine (yq1.calls kj34 _ _ l1 JN VQ Jk _ ?side1 ?side2 A68.1).mono ?_); (case side1 => exact (Kd.C_below Ue.1 HB.1)); (case side2 => exact HC1.1); rintro e w72 ⟨v790, v794, rfl, ho0, ho1, hb⟩; refine ⟨_, rfl, ?_⟩; have vU := hqZ (Kd.N_lower (Kd.N_mono (ok' := fun k_ => some k_ ≠ (v794 : Value).ownBlock ∧ some k_ ≠ (.slice JU Ji.length JR : Value).ownBlock ∧ k_ ≠ Jr) ho0 (fun k_ hk_ => ⟨hk_.2, (Kd.fresh' (Kd.N_lt (J5.1)) k_ hk_.1), (Kd.freshB (g := Jr) (o := .cells #[.slice JU Ji.length JR] 26 (0, 0)) (Jb.1) k_ hk_.1)⟩)) (zb0 (HB.1))); replace J5 := hqZ (Kd.N_mono (Kd.N_told (Kd.N_told (Kd.N_old (J5.1) hb) (Kd.N_base ho0)) (Kd.R_base ho1)) (fun _ h_ => h_.1)); have vV := hqZ (Kd.R_lower (Kd.R_mono (ok' := fun k_ => True) ho1 (fun _ hk_ => trivial)) (zb0 (HB.1))); replace Jb := hqZ (zd0 (g := Jr) (o := .cells #[.slice JU Ji.length JR] 26 (0, 0)) (Jb.1) hb); replace HB := hqZ (za0 (HB.1) hb); clear hb ho0 ho1) | ((with_reducible refine zi0 (N := 19) rfl ?_); refine zk0 ?hg (N := 19) ?hd (cs := #[.slice none 0 0]) (t := 26) ?hr ?_; (case hd | hg => rfl); (case hr => go_simp); intro JT hg w73 hbox hb; replace J5 := hqZ (Kd.N_below (Kd.N_elderB (J5.1) JT (Nat.le_of_eq hg.symm)) hb); replace vU := hqZ (Kd.N_below (Kd.N_elderB (vU.1) JT (Nat.le_of_eq hg.symm)) hb); replace vV := hqZ (Kd.R_below (vV.1) hb); have JH := hqZ (hbox); have Jn8 := hqZ ((by rw [hg]; exact (zb0 (HB.1)) : w.heap.size ≤ JT)); have Nn := hqZ ((by rw [hg]; exact (zb0 (HB.1)) : w.heap.size ≤ JT)); replace HB := hqZ (za0 (HB.1) hb); have jf := hqZ ((by rw [hg]; exact Nat.ne_of_lt (blk_lt (g := Jr) (o := .cells #[.slice JU Ji.length JR] 26 (0, 0)) (Jb.1)) : Jr ≠ JT)); have jW := hqZ ((by rw [hg]; exact Nat.ne_of_gt (blk_lt (g := Jr) (o := .cells #[.slice JU Ji.length JR] 26 (0, 0)) (Jb.1)) : JT ≠ Jr)); replace Jb := hqZ (zd0 (g := Jr) (o := .cells #[.slice JU Ji.length JR] 26 (0, 0)) (Jb.1) hb); clear hb hbox hg; obtain ⟨VR, VO, eo74⟩ := Kd.N_slice vU.1; subst eo74; have hnb75 := jW.1; have hnc75 := jf.1; have Uv : w73.cell? ⟨JT, 0, none⟩ = some (.slice none 0 0) := (zf0 JH.1 0).trans rfl; have Uw := zc0 JH.1 0; obtain ⟨uH, Vk, eo77⟩ := Kd.R_slice vV.1; subst eo77) | ((with_reducible refine ze0 (f := 24) rfl ?_); refine zM (some 130) Try.func24 #[.agg #[.slice VR JN.length VO], .int .i64 VQ, .slice uH Jk.length Vk] ?_; (with_reducible refine (ya1.calls kj34 _ _ JN VQ _ _ Jk od uk _ ?side1 ?side2 ?side3 ?side4 A69.1).mono ?_); (case side1 => refine (Kd.N_reads' (e := 27) (base := w.heap.size) (ok := fun k_ => ((some k_ ≠ (.slice uH Jk.length Vk : Value).ownBlock ∧ (some k_ ≠ (.slice JU Ji.length JR : Value).ownBlock ∧ k_ ≠ Jr)) ∧ k_ ≠ JT)) (n := JN.length) (c := VO) ?_).2.2; exact ((Kd.N_mono (Kd.N_far (p := ⟨JT, 0, none⟩) (Kd.N_mono vU.1 (fun k_ hk => (⟨hk, hk.2⟩ : _ ∧ k_ ≠ JT))) (fun _ hk => hk.2) (.slice VR JN.length VO)) (fun _ h_ => h_.1)))); (case side2 => exact (Kd.N_reads' vU.1).2.1); (case side3 => refine (Kd.R_reads' (e := 3) (base := w.heap.size) (ok := fun k_ => True) (n := Jk.length) (c := Vk) ?_).2.2; exact ((Kd.R_mono (Kd.R_far (p := ⟨JT, 0, none⟩) (Kd.R_types vV.1 JH.1 (by decide)) (fun _ hk => hk.2) (.slice VR JN.length VO)) (fun _ h_ => h_.1)))); (case side4 => exact (Kd.R_reads' vV.1).2.1); rintro e w78 ⟨rfl, hb⟩; refine ⟨_, rfl, ?_⟩; replace J5 := hqZ (Kd.N_below ((Kd.N_mono (Kd.N_far (p := ⟨JT, 0, none⟩) (Kd.N_mono J5.1 (fun k_ hk => (⟨hk, hk.2⟩ : _ ∧ k_ ≠ JT))) (fun _ hk => hk.2) (.slice VR JN.length VO)) (fun _ h_ => h_.1))) hb); replace vU := hqZ (Kd.N_below ((Kd.N_mono (Kd.N_far (p := ⟨JT, 0, none⟩) (Kd.N_mono vU.1 (fun k_ hk => (⟨hk, hk.2⟩ : _ ∧ k_ ≠ JT))) (fun _ hk => hk.2) (.slice VR JN.length VO)) (fun _ h_ => h_.1))) hb); replace vV := hqZ (Kd.R_below ((Kd.R_mono (Kd.R_far (p := ⟨JT, 0, none⟩) (Kd.R_types vV.1 JH.1 (by decide)) (fun _ hk => hk.2) (.slice VR JN.length VO)) (fun _ h_ => h_.1))) hb); replace Jb := hqZ (zd0 (g := Jr) (o := .cells #[.slice JU Ji.length JR] 26 (0, 0)) (by refine blk_far ?_ jf.1 _; exact Jb.1) hb); replace JH := hqZ (zd0 (g := JT) (o := .cells #[.slice VR JN.length VO] 26 (0, 0)) (by refine blk_put (cs := #[.slice none 0 0]) ?_ 0 _ rfl; exact JH.1) hb); replace HB := hqZ (za0 (zm0 HB.1 Nn.1) hb); clear hb; have Xh : w78.cell? ⟨JT, 0, none⟩ = some (.slice VR JN.length VO) := (zf0 JH.1 0).trans rfl; have Xi := zc0 JH.1 0) | ((with_reducible refine ze0 (f := 26) rfl ?_); refine zM (some 137) Try.func26 #[.agg #[.slice VR JN.length VO], .int .i64 VQ, .slice uH Jk.length Vk] ?_; (with_reducible refine (yp1.calls kj34 _ _ JN VQ _ _ Jk mT U8 _ ?side1 ?side2 ?side3 ?side4 A70.1).mono ?_); (case side1 => exact (Kd.N_reads' vU.1).2.2); (case side2 => exact (Kd.N_reads' vU.1).2.1); (case side3 => exact (Kd.R_reads' vV.1).2.2); (case side4 => exact (Kd.R_reads' vV.1).2.1); rintro e w80 ⟨rfl, hb⟩; refine ⟨_, rfl, ?_⟩; replace J5 := hqZ (Kd.N_below (J5.1) hb); replace vU := hqZ (Kd.N_below (vU.1) hb); replace vV := hqZ (Kd.R_below (vV.1) hb); replace Jb := hqZ (zd0 (g := Jr) (o := .cells #[.slice JU Ji.length JR] 26 (0, 0)) (Jb.1) hb); replace JH := hqZ (zd0 (g := JT) (o := .cells #[.slice VR JN.length VO] 26 (0, 0)) (JH.1) hb); replace HB := hqZ (za0 (HB.1) hb); clear hb))
     (try simp only [Act.put, zA, zB, zC])
     go_cut [147] (fun v147 wc => ∃ (kq : Nat) (oB : Bool), v147 = .bool oB ∧ zg0 (ya0.j2 kq VQ Jk od uk oB JN = some r) ∧ zg0 (kq ≤ kj34) ∧ zg0 (Kd.R (Kd.int .i64) 3 wc w.heap.size (fun _ => True) (.slice uH Jk.length Vk) Jk) ∧ zg0 (Kd.N (Kd.slice 3 (Kd.int .i64)) 27 wc w.heap.size (fun k_ => some k_ ≠ ((.slice uH Jk.length Vk) : Value).ownBlock ∧ some k_ ≠ ((.slice VR JN.length VO) : Value).ownBlock ∧ k_ ≠ Jr ∧ k_ ≠ JT) (.slice JU Ji.length JR) Ji) ∧ zg0 (Kd.N (Kd.slice 3 (Kd.int .i64)) 27 wc w.heap.size (fun k_ => some k_ ≠ ((.slice uH Jk.length Vk) : Value).ownBlock ∧ some k_ ≠ ((.slice JU Ji.length JR) : Value).ownBlock ∧ k_ ≠ Jr ∧ k_ ≠ JT) (.slice VR JN.length VO) JN) ∧ zg0 (wc.heap[Jr]? = some (.cells #[(.slice JU Ji.length JR)] 26 (0, 0))) ∧ zg0 (wc.heap[JT]? = some (.cells #[(.slice VR JN.length VO)] 26 (0, 0))) ∧ zg0 (Below w.heap.size w wc))
     case first =>
      have H := HC71.1
      clear HC71
      by_cases c81 : (uk != U8) = true
      rotate_left
      ·as_aux_lemma =>
       rw [if_neg c81] at H
       have c81b0 : (uk != U8) = false := by simpa using c81
       (try (have c81b1 : decide (uk = U8) = true := by simpa using c81))
       (try (have c81b2 : (uk == U8) = true := by simpa using c81))
       clear c81
       (skip)
       have H' := hqZ H
       clear H
       go_wp2
       go_meet
       case rel => exact ⟨_, ((od != mT)), (rfl), H', ⟨by have := E0.1; have := U7.1; omega⟩, ⟨vV.1⟩, ⟨Kd.N_mono J5.1 (fun _ hk => ⟨hk.1.2, ⟨hk.1.1.2, ⟨hk.1.1.1, hk.2⟩⟩⟩)⟩, ⟨Kd.N_mono vU.1 (fun _ hk => ⟨hk.1.1, ⟨hk.1.2.1, ⟨hk.1.2.2, hk.2⟩⟩⟩)⟩, ⟨Jb.1⟩, ⟨JH.1⟩, ⟨HB.1⟩⟩
      as_aux_lemma =>
      rw [if_pos c81] at H
      have c81b0 : (uk != U8) = true := c81
      (try (have c81b1 : decide (uk = U8) = false := by simpa using c81))
      (try (have c81b2 : (uk == U8) = false := by simpa using c81))
      (try (have c81b3 : ¬ (uk = U8) := by simpa using c81))
      clear c81
      (skip)
      have H' := hqZ H
      clear H
      go_wp2
      go_meet
      case rel => exact ⟨_, (true), (rfl), H', ⟨by have := E0.1; have := U7.1; omega⟩, ⟨vV.1⟩, ⟨Kd.N_mono J5.1 (fun _ hk => ⟨hk.1.2, ⟨hk.1.1.2, ⟨hk.1.1.1, hk.2⟩⟩⟩)⟩, ⟨Kd.N_mono vU.1 (fun _ hk => ⟨hk.1.1, ⟨hk.1.2.1, ⟨hk.1.2.2, hk.2⟩⟩⟩)⟩, ⟨Jb.1⟩, ⟨JH.1⟩, ⟨HB.1⟩⟩
     case rest =>
      clear HC71
      try clear c1
      try clear c2
      try clear p2
      try clear c3
      try clear c4
      try clear c5
      try clear c7
      try clear c8
      try clear c18
      try clear c19
      try clear c20
      try clear c21
      try clear c22
      try clear c22b0
      try clear c22b1
      try clear c22b2
      try clear c23
      try clear c23b0
      try clear c23b1
      try clear c24
      try clear c24b0
      try clear c24b1
      try clear c24b2
      try clear c25
      try clear c26
      try clear c27
      try clear c34
      try clear c36
      try clear c39
      try clear c40
      try clear c40b0
      try clear c40b1
      try clear c41
      try clear c42
      try clear c75
      try clear c81
      try clear c81b0
      try clear c81b1
      try clear c81b2
      try clear u4
      try clear YM
      try clear YT
      try clear jJ
      try clear uP
      try clear jg
      try clear Xz
      try clear uL
      try clear oy
      try clear uJ
      try clear ow
      try clear Xu
      try clear Xj
      try clear ou
      try clear Uv
      try clear Xh
      try clear u7
      try clear YN
      try clear YU
      try clear jK
      try clear uQ
      try clear jh
      try clear XA
      try clear uM
      try clear oz
      try clear uK
      try clear ox
      try clear Xv
      try clear Xk
      try clear ov
      try clear Uw
      try clear Xi
      try clear p2
      obtain ⟨kq, oB, rfl, HA, qh, V6, J5, Jf, Jb, JH, HB⟩ := hcut
      cases kq with
      | zero => exact absurd HA.1 (by simp [ya0.j2])
      | succ kj70 =>
       have H := HA.1
       clear HA
       simp only [ya0.j2] at H
       by_cases c82 : oB = true
       ·as_aux_lemma =>
        subst c82
        have H1 : (some false) = some r := by rw [if_pos rfl] at H; exact H
        clear H
        have H := H1
        clear H1
        obtain rfl := Option.some.inj H
        go_wp2
        go_ret
        exact ⟨rfl, HB.1⟩
       as_aux_lemma =>
       replace c82 := Bool.eq_false_iff.mpr c82
       subst c82
       have H1 : (if uk = true then (ya0.j3 kj70 VQ Jk od JN) else (ya0.j3 kj70 VQ Jk false JN)) = some r := by rw [if_neg (show ¬ (false = true) by decide)] at H; exact H
       clear H
       have H := H1
       clear H1
       have HC83 := hqZ H
       clear H
       go_upto_region 20 with (fail)
       go_cut [151] (fun v151 wc => ∃ (kq : Nat) (oC : Bool), v151 = .bool oC ∧ zg0 (ya0.j3 kq VQ Jk oC JN = some r) ∧ zg0 (kq ≤ kj70) ∧ zg0 (Kd.R (Kd.int .i64) 3 wc w.heap.size (fun _ => True) (.slice uH Jk.length Vk) Jk) ∧ zg0 (Kd.N (Kd.slice 3 (Kd.int .i64)) 27 wc w.heap.size (fun k_ => some k_ ≠ ((.slice uH Jk.length Vk) : Value).ownBlock ∧ some k_ ≠ ((.slice VR JN.length VO) : Value).ownBlock ∧ k_ ≠ Jr ∧ k_ ≠ JT) (.slice JU Ji.length JR) Ji) ∧ zg0 (Kd.N (Kd.slice 3 (Kd.int .i64)) 27 wc w.heap.size (fun k_ => some k_ ≠ ((.slice uH Jk.length Vk) : Value).ownBlock ∧ some k_ ≠ ((.slice JU Ji.length JR) : Value).ownBlock ∧ k_ ≠ Jr ∧ k_ ≠ JT) (.slice VR JN.length VO) JN) ∧ zg0 (wc.heap[Jr]? = some (.cells #[(.slice JU Ji.length JR)] 26 (0, 0))) ∧ zg0 (wc.heap[JT]? = some (.cells #[(.slice VR JN.length VO)] 26 (0, 0))) ∧ zg0 (Below w.heap.size w wc))
       case first =>
        have H := HC83.1
        clear HC83
        by_cases c84 : uk = true
        ·as_aux_lemma =>
         subst c84
         have H1 : (ya0.j3 kj70 VQ Jk od JN) = some r := by rw [if_pos rfl] at H; exact H
         clear H
         have H := H1
         clear H1
         have H' := hqZ H
         clear H
         go_wp2
         go_meet
         case rel => exact ⟨_, (od), (rfl), H', ⟨by have := E0.1; have := U7.1; have := qh.1; omega⟩, ⟨V6.1⟩, ⟨J5.1⟩, ⟨Jf.1⟩, ⟨Jb.1⟩, ⟨JH.1⟩, ⟨HB.1⟩⟩
        as_aux_lemma =>
        replace c84 := Bool.eq_false_iff.mpr c84
        subst c84
        have H1 : (ya0.j3 kj70 VQ Jk false JN) = some r := by rw [if_neg (show ¬ (false = true) by decide)] at H; exact H
        clear H
        have H := H1
        clear H1
        have H' := hqZ H
        clear H
        go_wp2
        go_meet
        case rel => exact ⟨_, (false), (rfl), H', ⟨by have := E0.1; have := U7.1; have := qh.1; omega⟩, ⟨V6.1⟩, ⟨J5.1⟩, ⟨Jf.1⟩, ⟨Jb.1⟩, ⟨JH.1⟩, ⟨HB.1⟩⟩
       case rest =>
        clear HC83
        try clear c1
        try clear c2
        try clear p2
        try clear c3
        try clear c4
        try clear c5
        try clear c7
        try clear c8
        try clear c18
        try clear c19
        try clear c20
        try clear c21
        try clear c22
        try clear c22b0
        try clear c22b1
        try clear c22b2
        try clear c23
        try clear c23b0
        try clear c23b1
        try clear c24
        try clear c24b0
        try clear c24b1
        try clear c24b2
        try clear c25
        try clear c26
        try clear c27
        try clear c34
        try clear c36
        try clear c39
        try clear c40
        try clear c40b0
        try clear c40b1
        try clear c41
        try clear c42
        try clear c75
        try clear c81
        try clear c81b0
        try clear c81b1
        try clear c81b2
        try clear c82
        try clear c84
        try clear u4
        try clear YM
        try clear YT
        try clear jJ
        try clear uP
        try clear jg
        try clear Xz
        try clear uL
        try clear oy
        try clear uJ
        try clear ow
        try clear Xu
        try clear Xj
        try clear ou
        try clear Uv
        try clear Xh
        try clear u7
        try clear YN
        try clear YU
        try clear jK
        try clear uQ
        try clear jh
        try clear XA
        try clear uM
        try clear oz
        try clear uK
        try clear ox
        try clear Xv
        try clear Xk
        try clear ov
        try clear Uw
        try clear Xi
        try clear p2
        obtain ⟨kq, oC, rfl, HA, dY, V6, J5, Jf, Jb, JH, HB⟩ := hcut
        cases kq with
        | zero => exact absurd HA.1 (by simp [ya0.j3])
        | succ kj82 =>
         have H := HA.1
         clear HA
         simp only [ya0.j3] at H
         by_cases c85 : oC = true
         rotate_left
         ·as_aux_lemma =>
          replace c85 := Bool.eq_false_iff.mpr c85
          subst c85
          have H1 : (some true) = some r := by rw [if_neg (show ¬ (false = true) by decide)] at H; exact H
          clear H
          have H := H1
          clear H1
          obtain rfl := Option.some.inj H
          go_wp2
          go_ret
          exact ⟨rfl, HB.1⟩
         as_aux_lemma =>
         subst c85
         have H1 : ((yi1.f kj82 JN VQ).bind fun qg => (if qg.2 = true then (ya0.l0 kj82 VQ Jk qg.1 Jk (Jk.length : Int) 0 JN) else (some false))) = some r := by rw [if_pos rfl] at H; exact H
         clear H
         have H := H1
         clear H1
         replace H := Option.bind_eq_some_iff.mp H
         obtain ⟨⟨Vn, No⟩, A860, H⟩ := H
         replace H : (if No = true then (ya0.l0 kj82 VQ Jk Vn Jk (Jk.length : Int) 0 JN) else (some false)) = some r := H
         have A86 := hqZ A860
         clear A860
         by_cases c87 : No = true
         rotate_left
         ·as_aux_lemma =>
          replace c87 := Bool.eq_false_iff.mpr c87
          subst c87
          have H1 : (some false) = some r := by rw [if_neg (show ¬ (false = true) by decide)] at H; exact H
          clear H
          have H := H1
          clear H1
          obtain rfl := Option.some.inj H
          have hnb135 := jW.1
          have hnc135 := jf.1
          have Np : wc.cell? ⟨JT, 0, none⟩ = some (.slice VR JN.length VO) := (zf0 JH.1 0).trans rfl
          have Nq := zc0 JH.1 0
          go_wp2_with (((with_reducible refine ze0 (f := 21) rfl ?_); refine zM (some 155) Try.func21 #[.agg #[.slice VR JN.length VO], .int .i64 VQ] ?_; (with_reducible refine (yi1.calls kj82 _ _ JN VQ Vn false _ ?side1 ?side2 A86.1).mono ?_); (case side1 => exact (Kd.N_reads' Jf.1).2.2); (case side2 => exact (Kd.N_reads' Jf.1).2.1); rintro e w137 ⟨v802, rfl, ho0, hb⟩; refine ⟨_, rfl, ?_⟩; replace J5 := hqZ (Kd.N_elder' (J5.1) (Kd.R_base ho0) hb); replace Jf := hqZ (Kd.N_elder' (Jf.1) (Kd.R_base ho0) hb); have DA := hqZ (Kd.R_lower (Kd.R_new' ho0 (Kd.R_lt (V6.1))) (zb0 (HB.1))); replace V6 := hqZ (Kd.R_elder' (V6.1) (Kd.R_base ho0) hb); replace Jb := hqZ (zd0 (g := Jr) (o := .cells #[.slice JU Ji.length JR] 26 (0, 0)) (Jb.1) hb); replace JH := hqZ (zd0 (g := JT) (o := .cells #[.slice VR JN.length VO] 26 (0, 0)) (JH.1) hb); replace HB := hqZ (za0 (HB.1) hb); clear hb ho0))
          go_ret
          exact ⟨rfl, HB.1⟩
         as_aux_lemma =>
         subst c87
         have H1 : (ya0.l0 kj82 VQ Jk Vn Jk (Jk.length : Int) 0 JN) = some r := by rw [if_pos rfl] at H; exact H
         clear H
         have H := H1
         clear H1
         have H' := hqZ H
         clear H
         have hnb88 := jW.1
         have hnc88 := jf.1
         have D0 : wc.cell? ⟨JT, 0, none⟩ = some (.slice VR JN.length VO) := (zf0 JH.1 0).trans rfl
         have D1 := zc0 JH.1 0
         go_wp2_with (((with_reducible refine ze0 (f := 21) rfl ?_); refine zM (some 155) Try.func21 #[.agg #[.slice VR JN.length VO], .int .i64 VQ] ?_; (with_reducible refine (yi1.calls kj82 _ _ JN VQ Vn true _ ?side1 ?side2 A86.1).mono ?_); (case side1 => exact (Kd.N_reads' Jf.1).2.2); (case side2 => exact (Kd.N_reads' Jf.1).2.1); rintro e w90 ⟨v802, rfl, ho0, hb⟩; refine ⟨_, rfl, ?_⟩; replace J5 := hqZ (Kd.N_elder' (J5.1) (Kd.R_base ho0) hb); replace Jf := hqZ (Kd.N_elder' (Jf.1) (Kd.R_base ho0) hb); have DA := hqZ (Kd.R_lower (Kd.R_new' ho0 (Kd.R_lt (V6.1))) (zb0 (HB.1))); replace V6 := hqZ (Kd.R_elder' (V6.1) (Kd.R_base ho0) hb); replace Jb := hqZ (zd0 (g := Jr) (o := .cells #[.slice JU Ji.length JR] 26 (0, 0)) (Jb.1) hb); replace JH := hqZ (zd0 (g := JT) (o := .cells #[.slice VR JN.length VO] 26 (0, 0)) (JH.1) hb); replace HB := hqZ (za0 (HB.1) hb); clear hb ho0))
         go_loopg [162] kj82 (fun kq v162 w' => ∃ (J8 : Int), v162 = .int .i64 J8 ∧ zg0 (ya0.l0 kq VQ Jk Vn Jk (Jk.length : Int) J8 JN = some r) ∧ zg0 (kq ≤ kj82) ∧ zg0 (Kd.R (Kd.int .i64) 3 w' w.heap.size (fun k_ => some k_ ≠ (v802 : Value).ownBlock) (.slice uH Jk.length Vk) Jk) ∧ zg0 (Kd.R (Kd.int .i64) 3 w' w.heap.size (fun k_ => some k_ ≠ ((.slice uH Jk.length Vk) : Value).ownBlock ∧ some k_ ≠ ((.slice uH Jk.length Vk) : Value).ownBlock) v802 Vn) ∧ zg0 (Kd.R (Kd.int .i64) 3 w' w.heap.size (fun k_ => some k_ ≠ (v802 : Value).ownBlock) (.slice uH Jk.length Vk) Jk) ∧ zg0 (Kd.N (Kd.slice 3 (Kd.int .i64)) 27 w' w.heap.size (fun k_ => some k_ ≠ ((.slice uH Jk.length Vk) : Value).ownBlock ∧ some k_ ≠ (v802 : Value).ownBlock ∧ some k_ ≠ ((.slice uH Jk.length Vk) : Value).ownBlock ∧ some k_ ≠ ((.slice VR JN.length VO) : Value).ownBlock ∧ k_ ≠ Jr ∧ k_ ≠ JT) (.slice JU Ji.length JR) Ji) ∧ zg0 (Kd.N (Kd.slice 3 (Kd.int .i64)) 27 w' w.heap.size (fun k_ => some k_ ≠ ((.slice uH Jk.length Vk) : Value).ownBlock ∧ some k_ ≠ (v802 : Value).ownBlock ∧ some k_ ≠ ((.slice uH Jk.length Vk) : Value).ownBlock ∧ some k_ ≠ ((.slice JU Ji.length JR) : Value).ownBlock ∧ k_ ≠ Jr ∧ k_ ≠ JT) (.slice VR JN.length VO) JN) ∧ zg0 (w'.heap[Jr]? = some (.cells #[(.slice JU Ji.length JR)] 26 (0, 0))) ∧ zg0 (w'.heap[JT]? = some (.cells #[(.slice VR JN.length VO)] 26 (0, 0))) ∧ zg0 (Below w.heap.size w w'))
         case atStart => exact ⟨(0), (rfl), H', ⟨Nat.le_refl _⟩, ⟨Kd.R_mono V6.1 (fun _ hk => hk.2)⟩, ⟨Kd.R_mono DA.1 (fun _ hk => ⟨hk.2, hk.2⟩)⟩, ⟨Kd.R_mono V6.1 (fun _ hk => hk.2)⟩, ⟨Kd.N_mono J5.1 (fun _ hk => ⟨hk.1.1, ⟨hk.2, ⟨hk.1.1, ⟨hk.1.2.1, ⟨hk.1.2.2.1, hk.1.2.2.2⟩⟩⟩⟩⟩)⟩, ⟨Kd.N_mono Jf.1 (fun _ hk => ⟨hk.1.1, ⟨hk.2, ⟨hk.1.1, ⟨hk.1.2.1, ⟨hk.1.2.2.1, hk.1.2.2.2⟩⟩⟩⟩⟩)⟩, ⟨Jb.1⟩, ⟨JH.1⟩, ⟨HB.1⟩⟩
         case round =>
          clear H'
          try clear c1
          try clear c2
          try clear p2
          try clear c3
          try clear c4
          try clear c5
          try clear c7
          try clear c8
          try clear c18
          try clear c19
          try clear c20
          try clear c21
          try clear c22
          try clear c22b0
          try clear c22b1
          try clear c22b2
          try clear c23
          try clear c23b0
          try clear c23b1
          try clear c24
          try clear c24b0
          try clear c24b1
          try clear c24b2
          try clear c25
          try clear c26
          try clear c27
          try clear c34
          try clear c36
          try clear c39
          try clear c40
          try clear c40b0
          try clear c40b1
          try clear c41
          try clear c42
          try clear c75
          try clear c81
          try clear c81b0
          try clear c81b1
          try clear c81b2
          try clear c82
          try clear c84
          try clear c85
          try clear c87
          try clear c88
          try clear u4
          try clear YM
          try clear YT
          try clear jJ
          try clear uP
          try clear jg
          try clear Xz
          try clear uL
          try clear oy
          try clear uJ
          try clear ow
          try clear Xu
          try clear Xj
          try clear ou
          try clear Uv
          try clear Xh
          try clear D0
          try clear u7
          try clear YN
          try clear YU
          try clear jK
          try clear uQ
          try clear jh
          try clear XA
          try clear uM
          try clear oz
          try clear uK
          try clear ox
          try clear Xv
          try clear Xk
          try clear ov
          try clear Uw
          try clear Xi
          try clear D1
          try clear p2
          obtain ⟨J8, rfl, HA, dO, V6, JI, JY, J5, Jf, Jb, JH, HB⟩ := hrel
          obtain _ | k5 := gk
          ·exact absurd HA.1 (by simp [ya0.l0])
          have H := HA.1
          clear HA
          simp only [ya0.l0] at H
          by_cases c91 : J8 < (Jk.length : Int)
          rotate_left
          ·as_aux_lemma =>
           rw [if_neg c91] at H
           have c91b0 : decide (J8 < (Jk.length : Int)) = false := decide_eq_false c91
           clear c91
           obtain rfl := Option.some.inj H
           go_wp2
           go_ret
           exact ⟨rfl, HB.1⟩
          as_aux_lemma =>
          rw [if_pos c91] at H
          have c91b0 : decide (J8 < (Jk.length : Int)) = true := decide_eq_true c91
          clear c91
          by_cases c92 : 0 ≤ J8
          rotate_left
          ·as_aux_lemma =>
           rw [if_neg c92] at H
           exact absurd H (by simp)
          as_aux_lemma =>
          rw [if_pos c92] at H
          have c92b0 : decide (0 ≤ J8) = true := decide_eq_true c92
          clear c92
          by_cases c93 : J8 < (Jk.length : Int)
          rotate_left
          ·as_aux_lemma =>
           rw [if_neg c93] at H
           exact absurd H (by simp)
          as_aux_lemma =>
          rw [if_pos c93] at H
          have c93b0 : decide (J8 < (Jk.length : Int)) = true := decide_eq_true c93
          clear c93
          by_cases c94 : J8 < (Vn.length : Int)
          rotate_left
          ·as_aux_lemma =>
           rw [if_neg c94] at H
           exact absurd H (by simp)
          as_aux_lemma =>
          rw [if_pos c94] at H
          have c94b0 : decide (J8 < (Vn.length : Int)) = true := decide_eq_true c94
          clear c94
          by_cases c95 : (rd Jk J8) > (rd Vn J8)
          ·as_aux_lemma =>
           rw [if_pos c95] at H
           have c95b0 : decide ((rd Vn J8) < (rd Jk J8)) = true := decide_eq_true c95
           clear c95
           obtain rfl := Option.some.inj H
           have p805 : 0 ≤ (J8 : Int) := oA
           have q805 : J8 < (Jk.length : Int) := oA
           obtain ⟨ad805, e805, hx805_0⟩ := Kd.at_int (Kd.R_reads' JY.1).2.2 J8 p805 q805
           cases e805
           replace p805 := eq_true p805
           replace q805 := eq_true q805
           obtain ⟨Jq6, Jq7, eo96⟩ := Kd.R_slice JI.1
           subst eo96
           have p806 : 0 ≤ (J8 : Int) := oA
           have q806 : J8 < (Vn.length : Int) := oA
           obtain ⟨ad806, e806, hx806_0⟩ := Kd.at_int (Kd.R_reads' JI.1).2.2 J8 p806 q806
           cases e806
           replace p806 := eq_true p806
           replace q806 := eq_true q806
           go_wp2
           go_ret
           exact ⟨rfl, HB.1⟩
          as_aux_lemma =>
          rw [if_neg c95] at H
          have c95b0 : decide ((rd Vn J8) < (rd Jk J8)) = false := decide_eq_false c95
          clear c95
          by_cases c97 : (rd Jk J8) < (rd Vn J8)
          rotate_left
          ·as_aux_lemma =>
           rw [if_neg c97] at H
           have c97b0 : decide ((rd Jk J8) < (rd Vn J8)) = false := decide_eq_false c97
           clear c97
           have H' := hqZ H
           clear H
           have p805 : 0 ≤ (J8 : Int) := oA
           have q805 : J8 < (Jk.length : Int) := oA
           obtain ⟨ad805, e805, hx805_0⟩ := Kd.at_int (Kd.R_reads' JY.1).2.2 J8 p805 q805
           cases e805
           replace p805 := eq_true p805
           replace q805 := eq_true q805
           obtain ⟨Jn9, Jo0, eo134⟩ := Kd.R_slice JI.1
           subst eo134
           have p806 : 0 ≤ (J8 : Int) := oA
           have q806 : J8 < (Vn.length : Int) := oA
           obtain ⟨ad806, e806, hx806_0⟩ := Kd.at_int (Kd.R_reads' JI.1).2.2 J8 p806 q806
           cases e806
           replace p806 := eq_true p806
           replace q806 := eq_true q806
           have p807 : 0 ≤ (J8 : Int) := oA
           have q807 : J8 < (Vn.length : Int) := oA
           obtain ⟨ad807, e807, hx807_0⟩ := Kd.at_int (Kd.R_reads' JI.1).2.2 J8 p807 q807
           obtain rfl : ad806 = ad807 := (by injection e807)
           replace p807 := eq_true p807
           replace q807 := eq_true q807
           go_wp2
           go_roundg k5
           case measure => have := E0.1; have := U7.1; have := qh.1; have := dY.1; have := dO.1; omega
           case rel => exact ⟨(wrap64 (J8 + 1)), (rfl), H', ⟨by have := E0.1; have := U7.1; have := qh.1; have := dY.1; have := dO.1; omega⟩, ⟨V6.1⟩, ⟨JI.1⟩, ⟨JY.1⟩, ⟨J5.1⟩, ⟨Jf.1⟩, ⟨Jb.1⟩, ⟨JH.1⟩, ⟨HB.1⟩⟩
          as_aux_lemma =>
          rw [if_pos c97] at H
          have c97b0 : decide ((rd Jk J8) < (rd Vn J8)) = true := decide_eq_true c97
          clear c97
          obtain ⟨U5, hy808⟩ : ∃ y_ : List Int, y_ = (([] : List Int)) := ⟨_, rfl⟩
          replace H : (if U5.length + Jk.length < 17592186044416 then ((some (U5 ++ Jk : List Int)).bind fun Vj => (if J8 < (Vj.length : Int) then ((ya1.f k5 JN VQ (Vj.set (J8 : Int).toNat (wrap64 ((rd Vj J8) + 1)))).bind fun uF => (if uF.2 = true then (if uF.1 = true then (ya0.l0 k5 VQ Jk Vn Jk (Jk.length : Int) (wrap64 (J8 + 1)) JN) else (some false)) else (ya0.l0 k5 VQ Jk Vn Jk (Jk.length : Int) (wrap64 (J8 + 1)) JN))) else (none))) else (none)) = some r := by (have H2_ := (Option.bind_some _ _).symm.trans H; rw [hy808]; with_reducible exact H2_)
          have Ny808 := hqZ hy808
          clear hy808
          by_cases c98 : U5.length + Jk.length < 17592186044416
          rotate_left
          ·as_aux_lemma =>
           rw [if_neg c98] at H
           exact absurd H (by simp)
          as_aux_lemma =>
          rw [if_pos c98] at H
          have LMc98 := hqZ c98
          clear c98
          obtain ⟨Vj, hy811⟩ : ∃ y_ : List Int, y_ = (U5 ++ Jk) := ⟨_, rfl⟩
          replace H : (if J8 < (Vj.length : Int) then ((ya1.f k5 JN VQ (Vj.set (J8 : Int).toNat (wrap64 ((rd Vj J8) + 1)))).bind fun uF => (if uF.2 = true then (if uF.1 = true then (ya0.l0 k5 VQ Jk Vn Jk (Jk.length : Int) (wrap64 (J8 + 1)) JN) else (some false)) else (ya0.l0 k5 VQ Jk Vn Jk (Jk.length : Int) (wrap64 (J8 + 1)) JN))) else (none)) = some r := by (have H2_ := (Option.bind_some _ _).symm.trans H; rw [hy811]; with_reducible exact H2_)
          have Ny811 := hqZ hy811
          clear hy811
          by_cases c99 : J8 < (Vj.length : Int)
          rotate_left
          ·as_aux_lemma =>
           rw [if_neg c99] at H
           exact absurd H (by simp)
          as_aux_lemma =>
          rw [if_pos c99] at H
          have c99b0 : decide (J8 < (Vj.length : Int)) = true := decide_eq_true c99
          clear c99
          obtain ⟨uX, hy815⟩ : ∃ y_ : List Int, y_ = (Vj.set (J8 : Int).toNat (wrap64 ((rd Vj J8) + 1))) := ⟨_, rfl⟩
          replace H : ((ya1.f k5 JN VQ uX).bind fun uF => (if uF.2 = true then (if uF.1 = true then (ya0.l0 k5 VQ Jk Vn Jk (Jk.length : Int) (wrap64 (J8 + 1)) JN) else (some false)) else (ya0.l0 k5 VQ Jk Vn Jk (Jk.length : Int) (wrap64 (J8 + 1)) JN))) = some r := by (rw [hy815]; with_reducible exact H)
          have Ny815 := hqZ hy815
          clear hy815
          replace H := Option.bind_eq_some_iff.mp H
          obtain ⟨⟨D2, Nr⟩, A1010, H⟩ := H
          replace H : (if Nr = true then (if D2 = true then (ya0.l0 k5 VQ Jk Vn Jk (Jk.length : Int) (wrap64 (J8 + 1)) JN) else (some false)) else (ya0.l0 k5 VQ Jk Vn Jk (Jk.length : Int) (wrap64 (J8 + 1)) JN)) = some r := H
          have A101 := hqZ A1010
          clear A1010
          by_cases c102 : Nr = true
          rotate_left
          ·as_aux_lemma =>
           replace c102 := Bool.eq_false_iff.mpr c102
           subst c102
           have H1 : (ya0.l0 k5 VQ Jk Vn Jk (Jk.length : Int) (wrap64 (J8 + 1)) JN) = some r := by rw [if_neg (show ¬ (false = true) by decide)] at H; exact H
           clear H
           have H := H1
           clear H1
           have H' := hqZ H
           clear H
           have p805 : 0 ≤ (J8 : Int) := oA
           have q805 : J8 < (Jk.length : Int) := oA
           obtain ⟨ad805, e805, hx805_0⟩ := Kd.at_int (Kd.R_reads' JY.1).2.2 J8 p805 q805
           cases e805
           replace p805 := eq_true p805
           replace q805 := eq_true q805
           obtain ⟨Jo1, X0, eo124⟩ := Kd.R_slice JI.1
           subst eo124
           have p806 : 0 ≤ (J8 : Int) := oA
           have q806 : J8 < (Vn.length : Int) := oA
           obtain ⟨ad806, e806, hx806_0⟩ := Kd.at_int (Kd.R_reads' JI.1).2.2 J8 p806 q806
           cases e806
           replace p806 := eq_true p806
           replace q806 := eq_true q806
           have p807 : 0 ≤ (J8 : Int) := oA
           have q807 : J8 < (Vn.length : Int) := oA
           obtain ⟨ad807, e807, hx807_0⟩ := Kd.at_int (Kd.R_reads' JI.1).2.2 J8 p807 q807
           obtain rfl : ad806 = ad807 := (by injection e807)
           replace p807 := eq_true p807
           replace q807 := eq_true q807
           go_wp2_with (first | ((with_reducible refine zi0 (N := 179) rfl ?_); refine Kd.R_lit (Kd.int .i64) _ 3 ?hg (N := 179) ?hd (xs := ([] : List Int)) (inner := []) (ok := fun _ => True) (okp := fun _ => True) ?hr ?hp (fun _ hk => hk) trivial (Below.refl _ _) (Nat.le_refl _) (by simp) ?_; (case hd | hg => rfl); (case hr => go_simp); (case hp => exact (Reps.none _ _)); intro v809 w125 ho126 hb hg_ hnew_; clear hg_ hnew_; (rw [← Ny808.1] at ho126); replace J5 := hqZ (Kd.N_elder' (J5.1) (Kd.R_base ho126) hb); replace Jf := hqZ (Kd.N_elder' (Jf.1) (Kd.R_base ho126) hb); have vD := hqZ (Kd.R_lower (Kd.R_new' (Kd.R_new' (Kd.R_new' ho126 (Kd.R_lt (V6.1))) (Kd.R_lt (JI.1))) (Kd.R_lt (JY.1))) (zb0 (HB.1))); replace V6 := hqZ (Kd.R_elder' (V6.1) (Kd.R_base ho126) hb); replace JI := hqZ (Kd.R_elder' (JI.1) (Kd.R_base ho126) hb); replace JY := hqZ (Kd.R_elder' (JY.1) (Kd.R_base ho126) hb); replace Jb := hqZ (zd0 (g := Jr) (o := .cells #[.slice JU Ji.length JR] 26 (0, 0)) (Jb.1) hb); replace JH := hqZ (zd0 (g := JT) (o := .cells #[.slice VR JN.length VO] 26 (0, 0)) (JH.1) hb); replace HB := hqZ (za0 (HB.1) hb); clear hb ho126) | ((with_reducible refine zu0 (b := .append) (xs := #[.tmp 179, .tmp 180]) rfl ?_); at_builtin; refine Kd.R_append_rows (Kd.int .i64) (w0 := w) w.heap.size rfl (.tmp 179) (.tmp 180) 27 3 (.int .i64 0) 8 rfl Try.underlying27 info3 rfl (by decide) (by omega) v809 U5 Jk _ _ _ (fun k_ => some k_ ≠ (.slice (some ad805) Jk.length Vk : Value).ownBlock ∧ some k_ ≠ (.slice (some ad806) Vn.length X0 : Value).ownBlock ∧ some k_ ≠ (.slice (some ad805) Jk.length Vk : Value).ownBlock) (fun _ => False) rfl rfl ?aO ?aR (fun _ _ h => h) (fun _ h => h.elim) ?aF ?aB ?aS ?aL ?_; (case aR => exact (Kd.R_reads' V6.1).2.2); (case aB => exact (HB.1)); (case aF => exact (fun k_ hk => ⟨Kd.fresh' (Kd.R_lt (V6.1)) k_ hk, Kd.fresh' (Kd.R_lt (JI.1)) k_ hk, Kd.fresh' (Kd.R_lt (JY.1)) k_ hk⟩)); (case aO => exact (Kd.R_mono vD.1 (fun _ hk => ⟨hk.1.1.2, ⟨hk.1.2, hk.2⟩⟩))); (case aS => exact (zb0 (HB.1))); (case aL => have := LMc98.1; omega); intro v812 w127 ho hb hg hat; rw [← Ny811.1] at ho; have n0_ := hqZ (Kd.R_after (ok := (fun k_ => some k_ ≠ (.slice (some ad806) Vn.length X0 : Value).ownBlock)) (V6.1) hg hat); have n1_ := hqZ (Kd.R_after (ok := (fun k_ => some k_ ≠ (.slice (some ad805) Jk.length Vk : Value).ownBlock ∧ some k_ ≠ (.slice (some ad805) Jk.length Vk : Value).ownBlock)) (JI.1) hg hat); have n2_ := hqZ (Kd.R_after (ok := (fun k_ => some k_ ≠ (.slice (some ad806) Vn.length X0 : Value).ownBlock)) (JY.1) hg hat); have n3_ := hqZ (Kd.N_afterv (ok := (fun k_ => some k_ ≠ (.slice (some ad805) Jk.length Vk : Value).ownBlock ∧ some k_ ≠ (.slice (some ad806) Vn.length X0 : Value).ownBlock ∧ some k_ ≠ (.slice (some ad805) Jk.length Vk : Value).ownBlock ∧ some k_ ≠ (.slice VR JN.length VO : Value).ownBlock ∧ k_ ≠ Jr ∧ k_ ≠ JT)) (J5.1) hg hat); have n4_ := hqZ (Kd.N_afterv (ok := (fun k_ => some k_ ≠ (.slice (some ad805) Jk.length Vk : Value).ownBlock ∧ some k_ ≠ (.slice (some ad806) Vn.length X0 : Value).ownBlock ∧ some k_ ≠ (.slice (some ad805) Jk.length Vk : Value).ownBlock ∧ some k_ ≠ (.slice JU Ji.length JR : Value).ownBlock ∧ k_ ≠ Jr ∧ k_ ≠ JT)) (Jf.1) hg hat); have n5_ := hqZ (zl0 (g := Jr) (o := .cells #[.slice JU Ji.length JR] 26 (0, 0)) (Jb.1) hg (Kd.R_ne vD.1 Jb.1 (by decide))); have n6_ := hqZ (zl0 (g := JT) (o := .cells #[.slice VR JN.length VO] 26 (0, 0)) (JH.1) hg (Kd.R_ne vD.1 JH.1 (by decide))); have n7_ := hqZ (hb); have n8_ := hqZ (ho); clear V6; clear JI; clear JY; clear J5; clear Jf; clear Jb; clear JH; clear HB; clear vD; have V6 := n0_; have JI := n1_; have JY := n2_; have J5 := n3_; have Jf := n4_; have Jb := n5_; have JH := n6_; have HB := n7_; have Vb := n8_; clear n0_ n1_ n2_ n3_ n4_ n5_ n6_ n7_ n8_; clear ho hb hg hat; obtain ⟨Jo2, ue, eo128⟩ := Kd.R_slice Vb.1; subst eo128; have p814 : 0 ≤ (J8 : Int) := oA; have q814 : J8 < (Vj.length : Int) := oA; obtain ⟨ad814, e814, hx814_0⟩ := Kd.at_int (Kd.R_reads' Vb.1).2.2 J8 p814 q814; cases e814; replace p814 := eq_true p814; replace q814 := eq_true q814; have p100 : 0 ≤ (J8 : Int) := oA; have q100 : (J8 : Int) < ((Vj.length : Int) : Int) := oA; obtain ⟨Vi, DB, eo100, o5, gl100, cl100, HG100⟩ := Kd.R_form Vb.1 (by omega); (cases eo100); have GB100 := hqZ o5; have GG100 := hqZ HG100; clear o5 gl100 HG100; (simp only [add_plain] at hx814_0); obtain ⟨hx100_0, hf100_0⟩ := Kd.R_celln 0 Vb.1 (J8 : Int) p100 q100; replace p100 := eq_true p100; replace q100 := eq_true q100; obtain ⟨hy129_, hz129_⟩ := Kd.R_celln 0 Vb.1 (J8 : Int) (oA) (oA); have HP129 := Kd.R_putg Vb.1 (J8 : Int) (wrap64 ((rd Vj J8) + 1))) | ((with_reducible refine gate_store (t := 3) (p := 187) rfl ?_); refine store_event (t := 3) (p := 187) (v := ?vo_w130) (w1 := (w127.setCell ⟨Vi, (J8 : Int).toNat, none⟩ (.int .i64 (wrap64 ((rd Vj J8) + 1))))) ?hg ?ho ?hn ?hr ?_; (case ho => rfl); (case hg => rfl); (case hn => rfl); (case hr => go_simp); intro w130 hw; have hg : w127.grownBy w130 (some Vi) := (by rw [hw]; exact HP129.2); have hp_ : Kd.R (Kd.int .i64) 3 w130 w.heap.size (fun k_ => some k_ ≠ (.slice (some ad805) Jk.length Vk : Value).ownBlock ∧ some k_ ≠ (.slice (some ad806) Vn.length X0 : Value).ownBlock ∧ some k_ ≠ (.slice (some ad805) Jk.length Vk : Value).ownBlock) (.slice (some ⟨Vi, 0, none⟩) Vj.length ue) uX := (by rw [hw, Ny815.1]; exact HP129.1); clear HP129; replace V6 := hqZ (Kd.R_after (v := (.slice (some ⟨Vi, 0, none⟩) Vj.length ue)) (v1 := (.slice (some ⟨Vi, 0, none⟩) Vj.length ue)) (ok := (fun k_ => some k_ ≠ (.slice (some ad806) Vn.length X0 : Value).ownBlock)) (V6.1) hg (.inl rfl)); replace JI := hqZ (Kd.R_after (v := (.slice (some ⟨Vi, 0, none⟩) Vj.length ue)) (v1 := (.slice (some ⟨Vi, 0, none⟩) Vj.length ue)) (ok := (fun k_ => some k_ ≠ (.slice (some ad805) Jk.length Vk : Value).ownBlock ∧ some k_ ≠ (.slice (some ad805) Jk.length Vk : Value).ownBlock)) (JI.1) hg (.inl rfl)); replace JY := hqZ (Kd.R_after (v := (.slice (some ⟨Vi, 0, none⟩) Vj.length ue)) (v1 := (.slice (some ⟨Vi, 0, none⟩) Vj.length ue)) (ok := (fun k_ => some k_ ≠ (.slice (some ad806) Vn.length X0 : Value).ownBlock)) (JY.1) hg (.inl rfl)); replace J5 := hqZ (Kd.N_afterv (v := (.slice (some ⟨Vi, 0, none⟩) Vj.length ue)) (v1 := (.slice (some ⟨Vi, 0, none⟩) Vj.length ue)) (ok := (fun k_ => some k_ ≠ (.slice (some ad805) Jk.length Vk : Value).ownBlock ∧ some k_ ≠ (.slice (some ad806) Vn.length X0 : Value).ownBlock ∧ some k_ ≠ (.slice (some ad805) Jk.length Vk : Value).ownBlock ∧ some k_ ≠ (.slice VR JN.length VO : Value).ownBlock ∧ k_ ≠ Jr ∧ k_ ≠ JT)) (J5.1) hg (.inl rfl)); replace Jf := hqZ (Kd.N_afterv (v := (.slice (some ⟨Vi, 0, none⟩) Vj.length ue)) (v1 := (.slice (some ⟨Vi, 0, none⟩) Vj.length ue)) (ok := (fun k_ => some k_ ≠ (.slice (some ad805) Jk.length Vk : Value).ownBlock ∧ some k_ ≠ (.slice (some ad806) Vn.length X0 : Value).ownBlock ∧ some k_ ≠ (.slice (some ad805) Jk.length Vk : Value).ownBlock ∧ some k_ ≠ (.slice JU Ji.length JR : Value).ownBlock ∧ k_ ≠ Jr ∧ k_ ≠ JT)) (Jf.1) hg (.inl rfl)); replace Jb := hqZ (zl0 (g := Jr) (o := .cells #[.slice JU Ji.length JR] 26 (0, 0)) (Jb.1) hg (Kd.R_ne Vb.1 Jb.1 (by decide))); replace JH := hqZ (zl0 (g := JT) (o := .cells #[.slice VR JN.length VO] 26 (0, 0)) (JH.1) hg (Kd.R_ne Vb.1 JH.1 (by decide))); replace Vb := hqZ (hp_); replace HB := hqZ ((by rw [hw]; exact zm0 (HB.1) GB100.1 : Below w.heap.size w w130)); clear hg hw hp_; have hnb131 := jW.1; have hnc131 := jf.1; have Ns : w130.cell? ⟨JT, 0, none⟩ = some (.slice VR JN.length VO) := (zf0 JH.1 0).trans rfl; have Nt := zc0 JH.1 0) | ((with_reducible refine ze0 (f := 24) rfl ?_); refine goesL_ (some 192) rfl rfl Try.func24 (by kernel_rfl) rfl #[.agg #[.slice VR JN.length VO], .int .i64 VQ, .slice (some ⟨Vi, 0, none⟩) uX.length ue] rfl (by (try simp only [List.map_toArray, List.map_cons, List.map_nil]); (rw [show uX.length = Vj.length from (Kd.R_reads' Vb.1).1.symm] <;> rfl)) ?_; (with_reducible refine (ya1.calls k5 _ _ JN VQ _ _ uX D2 false _ ?side1 ?side2 ?side3 ?side4 A101.1).mono ?_); (case side1 => exact (Kd.N_reads' Jf.1).2.2); (case side2 => exact (Kd.N_reads' Jf.1).2.1); (case side3 => exact (Kd.R_reads' Vb.1).2.2); (case side4 => rw [show uX.length = Vj.length from (Kd.R_reads' Vb.1).1.symm]; exact (Kd.R_reads' Vb.1).2.1); rintro e w133 ⟨rfl, hb⟩; refine ⟨_, rfl, ?_⟩; replace V6 := hqZ (Kd.R_below (V6.1) hb); replace JI := hqZ (Kd.R_below (JI.1) hb); replace JY := hqZ (Kd.R_below (JY.1) hb); replace J5 := hqZ (Kd.N_below (J5.1) hb); replace Jf := hqZ (Kd.N_below (Jf.1) hb); replace Vb := hqZ (Kd.R_below (Vb.1) hb); replace Jb := hqZ (zd0 (g := Jr) (o := .cells #[.slice JU Ji.length JR] 26 (0, 0)) (Jb.1) hb); replace JH := hqZ (zd0 (g := JT) (o := .cells #[.slice VR JN.length VO] 26 (0, 0)) (JH.1) hb); replace HB := hqZ (za0 (HB.1) hb); clear hb))
           go_roundg k5
           case measure => have := E0.1; have := U7.1; have := qh.1; have := dY.1; have := dO.1; omega
           case rel => exact ⟨(wrap64 (J8 + 1)), (rfl), H', ⟨by have := E0.1; have := U7.1; have := qh.1; have := dY.1; have := dO.1; omega⟩, ⟨Kd.R_mono V6.1 (fun _ hk => hk.1)⟩, ⟨Kd.R_mono JI.1 (fun _ hk => ⟨hk.1.1, hk.1.2⟩)⟩, ⟨Kd.R_mono JY.1 (fun _ hk => hk.1)⟩, ⟨Kd.N_mono J5.1 (fun _ hk => ⟨hk.1.1, ⟨hk.1.2.1, ⟨hk.1.2.2.1, ⟨hk.1.2.2.2.1, ⟨hk.1.2.2.2.2.1, hk.1.2.2.2.2.2⟩⟩⟩⟩⟩)⟩, ⟨Kd.N_mono Jf.1 (fun _ hk => ⟨hk.1.1, ⟨hk.1.2.1, ⟨hk.1.2.2.1, ⟨hk.1.2.2.2.1, ⟨hk.1.2.2.2.2.1, hk.1.2.2.2.2.2⟩⟩⟩⟩⟩)⟩, ⟨Jb.1⟩, ⟨JH.1⟩, ⟨HB.1⟩⟩
          as_aux_lemma =>
          subst c102
          have H1 : (if D2 = true then (ya0.l0 k5 VQ Jk Vn Jk (Jk.length : Int) (wrap64 (J8 + 1)) JN) else (some false)) = some r := by rw [if_pos rfl] at H; exact H
          clear H
          have H := H1
          clear H1
          by_cases c103 : D2 = true
          rotate_left
          ·as_aux_lemma =>
           replace c103 := Bool.eq_false_iff.mpr c103
           subst c103
           have H1 : (some false) = some r := by rw [if_neg (show ¬ (false = true) by decide)] at H; exact H
           clear H
           have H := H1
           clear H1
           obtain rfl := Option.some.inj H
           have p805 : 0 ≤ (J8 : Int) := oA
           have q805 : J8 < (Jk.length : Int) := oA
           obtain ⟨ad805, e805, hx805_0⟩ := Kd.at_int (Kd.R_reads' JY.1).2.2 J8 p805 q805
           cases e805
           replace p805 := eq_true p805
           replace q805 := eq_true q805
           obtain ⟨Jo3, X1, eo114⟩ := Kd.R_slice JI.1
           subst eo114
           have p806 : 0 ≤ (J8 : Int) := oA
           have q806 : J8 < (Vn.length : Int) := oA
           obtain ⟨ad806, e806, hx806_0⟩ := Kd.at_int (Kd.R_reads' JI.1).2.2 J8 p806 q806
           cases e806
           replace p806 := eq_true p806
           replace q806 := eq_true q806
           have p807 : 0 ≤ (J8 : Int) := oA
           have q807 : J8 < (Vn.length : Int) := oA
           obtain ⟨ad807, e807, hx807_0⟩ := Kd.at_int (Kd.R_reads' JI.1).2.2 J8 p807 q807
           obtain rfl : ad806 = ad807 := (by injection e807)
           replace p807 := eq_true p807
           replace q807 := eq_true q807
           go_wp2_with (first | ((with_reducible refine zi0 (N := 179) rfl ?_); refine Kd.R_lit (Kd.int .i64) _ 3 ?hg (N := 179) ?hd (xs := ([] : List Int)) (inner := []) (ok := fun _ => True) (okp := fun _ => True) ?hr ?hp (fun _ hk => hk) trivial (Below.refl _ _) (Nat.le_refl _) (by simp) ?_; (case hd | hg => rfl); (case hr => go_simp); (case hp => exact (Reps.none _ _)); intro v809 w115 ho116 hb hg_ hnew_; clear hg_ hnew_; (rw [← Ny808.1] at ho116); replace J5 := hqZ (Kd.N_elder' (J5.1) (Kd.R_base ho116) hb); replace Jf := hqZ (Kd.N_elder' (Jf.1) (Kd.R_base ho116) hb); have vD := hqZ (Kd.R_lower (Kd.R_new' (Kd.R_new' (Kd.R_new' ho116 (Kd.R_lt (V6.1))) (Kd.R_lt (JI.1))) (Kd.R_lt (JY.1))) (zb0 (HB.1))); replace V6 := hqZ (Kd.R_elder' (V6.1) (Kd.R_base ho116) hb); replace JI := hqZ (Kd.R_elder' (JI.1) (Kd.R_base ho116) hb); replace JY := hqZ (Kd.R_elder' (JY.1) (Kd.R_base ho116) hb); replace Jb := hqZ (zd0 (g := Jr) (o := .cells #[.slice JU Ji.length JR] 26 (0, 0)) (Jb.1) hb); replace JH := hqZ (zd0 (g := JT) (o := .cells #[.slice VR JN.length VO] 26 (0, 0)) (JH.1) hb); replace HB := hqZ (za0 (HB.1) hb); clear hb ho116) | ((with_reducible refine zu0 (b := .append) (xs := #[.tmp 179, .tmp 180]) rfl ?_); at_builtin; refine Kd.R_append_rows (Kd.int .i64) (w0 := w) w.heap.size rfl (.tmp 179) (.tmp 180) 27 3 (.int .i64 0) 8 rfl Try.underlying27 info3 rfl (by decide) (by omega) v809 U5 Jk _ _ _ (fun k_ => some k_ ≠ (.slice (some ad805) Jk.length Vk : Value).ownBlock ∧ some k_ ≠ (.slice (some ad806) Vn.length X1 : Value).ownBlock ∧ some k_ ≠ (.slice (some ad805) Jk.length Vk : Value).ownBlock) (fun _ => False) rfl rfl ?aO ?aR (fun _ _ h => h) (fun _ h => h.elim) ?aF ?aB ?aS ?aL ?_; (case aR => exact (Kd.R_reads' V6.1).2.2); (case aB => exact (HB.1)); (case aF => exact (fun k_ hk => ⟨Kd.fresh' (Kd.R_lt (V6.1)) k_ hk, Kd.fresh' (Kd.R_lt (JI.1)) k_ hk, Kd.fresh' (Kd.R_lt (JY.1)) k_ hk⟩)); (case aO => exact (Kd.R_mono vD.1 (fun _ hk => ⟨hk.1.1.2, ⟨hk.1.2, hk.2⟩⟩))); (case aS => exact (zb0 (HB.1))); (case aL => have := LMc98.1; omega); intro v812 w117 ho hb hg hat; rw [← Ny811.1] at ho; have n0_ := hqZ (Kd.R_after (ok := (fun k_ => some k_ ≠ (.slice (some ad806) Vn.length X1 : Value).ownBlock)) (V6.1) hg hat); have n1_ := hqZ (Kd.R_after (ok := (fun k_ => some k_ ≠ (.slice (some ad805) Jk.length Vk : Value).ownBlock ∧ some k_ ≠ (.slice (some ad805) Jk.length Vk : Value).ownBlock)) (JI.1) hg hat); have n2_ := hqZ (Kd.R_after (ok := (fun k_ => some k_ ≠ (.slice (some ad806) Vn.length X1 : Value).ownBlock)) (JY.1) hg hat); have n3_ := hqZ (Kd.N_afterv (ok := (fun k_ => some k_ ≠ (.slice (some ad805) Jk.length Vk : Value).ownBlock ∧ some k_ ≠ (.slice (some ad806) Vn.length X1 : Value).ownBlock ∧ some k_ ≠ (.slice (some ad805) Jk.length Vk : Value).ownBlock ∧ some k_ ≠ (.slice VR JN.length VO : Value).ownBlock ∧ k_ ≠ Jr ∧ k_ ≠ JT)) (J5.1) hg hat); have n4_ := hqZ (Kd.N_afterv (ok := (fun k_ => some k_ ≠ (.slice (some ad805) Jk.length Vk : Value).ownBlock ∧ some k_ ≠ (.slice (some ad806) Vn.length X1 : Value).ownBlock ∧ some k_ ≠ (.slice (some ad805) Jk.length Vk : Value).ownBlock ∧ some k_ ≠ (.slice JU Ji.length JR : Value).ownBlock ∧ k_ ≠ Jr ∧ k_ ≠ JT)) (Jf.1) hg hat); have n5_ := hqZ (zl0 (g := Jr) (o := .cells #[.slice JU Ji.length JR] 26 (0, 0)) (Jb.1) hg (Kd.R_ne vD.1 Jb.1 (by decide))); have n6_ := hqZ (zl0 (g := JT) (o := .cells #[.slice VR JN.length VO] 26 (0, 0)) (JH.1) hg (Kd.R_ne vD.1 JH.1 (by decide))); have n7_ := hqZ (hb); have n8_ := hqZ (ho); clear V6; clear JI; clear JY; clear J5; clear Jf; clear Jb; clear JH; clear HB; clear vD; have V6 := n0_; have JI := n1_; have JY := n2_; have J5 := n3_; have Jf := n4_; have Jb := n5_; have JH := n6_; have HB := n7_; have Vb := n8_; clear n0_ n1_ n2_ n3_ n4_ n5_ n6_ n7_ n8_; clear ho hb hg hat; obtain ⟨Jo4, uf, eo118⟩ := Kd.R_slice Vb.1; subst eo118; have p814 : 0 ≤ (J8 : Int) := oA; have q814 : J8 < (Vj.length : Int) := oA; obtain ⟨ad814, e814, hx814_0⟩ := Kd.at_int (Kd.R_reads' Vb.1).2.2 J8 p814 q814; cases e814; replace p814 := eq_true p814; replace q814 := eq_true q814; have p100 : 0 ≤ (J8 : Int) := oA; have q100 : (J8 : Int) < ((Vj.length : Int) : Int) := oA; obtain ⟨Vi, DB, eo100, o5, gl100, cl100, HG100⟩ := Kd.R_form Vb.1 (by omega); (cases eo100); have GB100 := hqZ o5; have GG100 := hqZ HG100; clear o5 gl100 HG100; (simp only [add_plain] at hx814_0); obtain ⟨hx100_0, hf100_0⟩ := Kd.R_celln 0 Vb.1 (J8 : Int) p100 q100; replace p100 := eq_true p100; replace q100 := eq_true q100; obtain ⟨hy119_, hz119_⟩ := Kd.R_celln 0 Vb.1 (J8 : Int) (oA) (oA); have HP119 := Kd.R_putg Vb.1 (J8 : Int) (wrap64 ((rd Vj J8) + 1))) | ((with_reducible refine gate_store (t := 3) (p := 187) rfl ?_); refine store_event (t := 3) (p := 187) (v := ?vo_w120) (w1 := (w117.setCell ⟨Vi, (J8 : Int).toNat, none⟩ (.int .i64 (wrap64 ((rd Vj J8) + 1))))) ?hg ?ho ?hn ?hr ?_; (case ho => rfl); (case hg => rfl); (case hn => rfl); (case hr => go_simp); intro w120 hw; have hg : w117.grownBy w120 (some Vi) := (by rw [hw]; exact HP119.2); have hp_ : Kd.R (Kd.int .i64) 3 w120 w.heap.size (fun k_ => some k_ ≠ (.slice (some ad805) Jk.length Vk : Value).ownBlock ∧ some k_ ≠ (.slice (some ad806) Vn.length X1 : Value).ownBlock ∧ some k_ ≠ (.slice (some ad805) Jk.length Vk : Value).ownBlock) (.slice (some ⟨Vi, 0, none⟩) Vj.length uf) uX := (by rw [hw, Ny815.1]; exact HP119.1); clear HP119; replace V6 := hqZ (Kd.R_after (v := (.slice (some ⟨Vi, 0, none⟩) Vj.length uf)) (v1 := (.slice (some ⟨Vi, 0, none⟩) Vj.length uf)) (ok := (fun k_ => some k_ ≠ (.slice (some ad806) Vn.length X1 : Value).ownBlock)) (V6.1) hg (.inl rfl)); replace JI := hqZ (Kd.R_after (v := (.slice (some ⟨Vi, 0, none⟩) Vj.length uf)) (v1 := (.slice (some ⟨Vi, 0, none⟩) Vj.length uf)) (ok := (fun k_ => some k_ ≠ (.slice (some ad805) Jk.length Vk : Value).ownBlock ∧ some k_ ≠ (.slice (some ad805) Jk.length Vk : Value).ownBlock)) (JI.1) hg (.inl rfl)); replace JY := hqZ (Kd.R_after (v := (.slice (some ⟨Vi, 0, none⟩) Vj.length uf)) (v1 := (.slice (some ⟨Vi, 0, none⟩) Vj.length uf)) (ok := (fun k_ => some k_ ≠ (.slice (some ad806) Vn.length X1 : Value).ownBlock)) (JY.1) hg (.inl rfl)); replace J5 := hqZ (Kd.N_afterv (v := (.slice (some ⟨Vi, 0, none⟩) Vj.length uf)) (v1 := (.slice (some ⟨Vi, 0, none⟩) Vj.length uf)) (ok := (fun k_ => some k_ ≠ (.slice (some ad805) Jk.length Vk : Value).ownBlock ∧ some k_ ≠ (.slice (some ad806) Vn.length X1 : Value).ownBlock ∧ some k_ ≠ (.slice (some ad805) Jk.length Vk : Value).ownBlock ∧ some k_ ≠ (.slice VR JN.length VO : Value).ownBlock ∧ k_ ≠ Jr ∧ k_ ≠ JT)) (J5.1) hg (.inl rfl)); replace Jf := hqZ (Kd.N_afterv (v := (.slice (some ⟨Vi, 0, none⟩) Vj.length uf)) (v1 := (.slice (some ⟨Vi, 0, none⟩) Vj.length uf)) (ok := (fun k_ => some k_ ≠ (.slice (some ad805) Jk.length Vk : Value).ownBlock ∧ some k_ ≠ (.slice (some ad806) Vn.length X1 : Value).ownBlock ∧ some k_ ≠ (.slice (some ad805) Jk.length Vk : Value).ownBlock ∧ some k_ ≠ (.slice JU Ji.length JR : Value).ownBlock ∧ k_ ≠ Jr ∧ k_ ≠ JT)) (Jf.1) hg (.inl rfl)); replace Jb := hqZ (zl0 (g := Jr) (o := .cells #[.slice JU Ji.length JR] 26 (0, 0)) (Jb.1) hg (Kd.R_ne Vb.1 Jb.1 (by decide))); replace JH := hqZ (zl0 (g := JT) (o := .cells #[.slice VR JN.length VO] 26 (0, 0)) (JH.1) hg (Kd.R_ne Vb.1 JH.1 (by decide))); replace Vb := hqZ (hp_); replace HB := hqZ ((by rw [hw]; exact zm0 (HB.1) GB100.1 : Below w.heap.size w w120)); clear hg hw hp_; have hnb121 := jW.1; have hnc121 := jf.1; have Nu : w120.cell? ⟨JT, 0, none⟩ = some (.slice VR JN.length VO) := (zf0 JH.1 0).trans rfl; have Nv := zc0 JH.1 0) | ((with_reducible refine ze0 (f := 24) rfl ?_); refine goesL_ (some 192) rfl rfl Try.func24 (by kernel_rfl) rfl #[.agg #[.slice VR JN.length VO], .int .i64 VQ, .slice (some ⟨Vi, 0, none⟩) uX.length uf] rfl (by (try simp only [List.map_toArray, List.map_cons, List.map_nil]); (rw [show uX.length = Vj.length from (Kd.R_reads' Vb.1).1.symm] <;> rfl)) ?_; (with_reducible refine (ya1.calls k5 _ _ JN VQ _ _ uX false true _ ?side1 ?side2 ?side3 ?side4 A101.1).mono ?_); (case side1 => exact (Kd.N_reads' Jf.1).2.2); (case side2 => exact (Kd.N_reads' Jf.1).2.1); (case side3 => exact (Kd.R_reads' Vb.1).2.2); (case side4 => rw [show uX.length = Vj.length from (Kd.R_reads' Vb.1).1.symm]; exact (Kd.R_reads' Vb.1).2.1); rintro e w123 ⟨rfl, hb⟩; refine ⟨_, rfl, ?_⟩; replace V6 := hqZ (Kd.R_below (V6.1) hb); replace JI := hqZ (Kd.R_below (JI.1) hb); replace JY := hqZ (Kd.R_below (JY.1) hb); replace J5 := hqZ (Kd.N_below (J5.1) hb); replace Jf := hqZ (Kd.N_below (Jf.1) hb); replace Vb := hqZ (Kd.R_below (Vb.1) hb); replace Jb := hqZ (zd0 (g := Jr) (o := .cells #[.slice JU Ji.length JR] 26 (0, 0)) (Jb.1) hb); replace JH := hqZ (zd0 (g := JT) (o := .cells #[.slice VR JN.length VO] 26 (0, 0)) (JH.1) hb); replace HB := hqZ (za0 (HB.1) hb); clear hb))
           go_ret
           exact ⟨rfl, HB.1⟩
          as_aux_lemma =>
          subst c103
          have H1 : (ya0.l0 k5 VQ Jk Vn Jk (Jk.length : Int) (wrap64 (J8 + 1)) JN) = some r := by rw [if_pos rfl] at H; exact H
          clear H
          have H := H1
          clear H1
          have H' := hqZ H
          clear H
          have p805 : 0 ≤ (J8 : Int) := oA
          have q805 : J8 < (Jk.length : Int) := oA
          obtain ⟨ad805, e805, hx805_0⟩ := Kd.at_int (Kd.R_reads' JY.1).2.2 J8 p805 q805
          cases e805
          replace p805 := eq_true p805
          replace q805 := eq_true q805
          obtain ⟨Jo5, X2, eo104⟩ := Kd.R_slice JI.1
          subst eo104
          have p806 : 0 ≤ (J8 : Int) := oA
          have q806 : J8 < (Vn.length : Int) := oA
          obtain ⟨ad806, e806, hx806_0⟩ := Kd.at_int (Kd.R_reads' JI.1).2.2 J8 p806 q806
          cases e806
          replace p806 := eq_true p806
          replace q806 := eq_true q806
          have p807 : 0 ≤ (J8 : Int) := oA
          have q807 : J8 < (Vn.length : Int) := oA
          obtain ⟨ad807, e807, hx807_0⟩ := Kd.at_int (Kd.R_reads' JI.1).2.2 J8 p807 q807
          obtain rfl : ad806 = ad807 := (by injection e807)
          replace p807 := eq_true p807
          replace q807 := eq_true q807
          go_wp2_with (first | ((with_reducible refine zi0 (N := 179) rfl ?_); refine Kd.R_lit (Kd.int .i64) _ 3 ?hg (N := 179) ?hd (xs := ([] : List Int)) (inner := []) (ok := fun _ => True) (okp := fun _ => True) ?hr ?hp (fun _ hk => hk) trivial (Below.refl _ _) (Nat.le_refl _) (by simp) ?_; (case hd | hg => rfl); (case hr => go_simp); (case hp => exact (Reps.none _ _)); intro v809 w105 ho106 hb hg_ hnew_; clear hg_ hnew_; (rw [← Ny808.1] at ho106); replace J5 := hqZ (Kd.N_elder' (J5.1) (Kd.R_base ho106) hb); replace Jf := hqZ (Kd.N_elder' (Jf.1) (Kd.R_base ho106) hb); have vD := hqZ (Kd.R_lower (Kd.R_new' (Kd.R_new' (Kd.R_new' ho106 (Kd.R_lt (V6.1))) (Kd.R_lt (JI.1))) (Kd.R_lt (JY.1))) (zb0 (HB.1))); replace V6 := hqZ (Kd.R_elder' (V6.1) (Kd.R_base ho106) hb); replace JI := hqZ (Kd.R_elder' (JI.1) (Kd.R_base ho106) hb); replace JY := hqZ (Kd.R_elder' (JY.1) (Kd.R_base ho106) hb); replace Jb := hqZ (zd0 (g := Jr) (o := .cells #[.slice JU Ji.length JR] 26 (0, 0)) (Jb.1) hb); replace JH := hqZ (zd0 (g := JT) (o := .cells #[.slice VR JN.length VO] 26 (0, 0)) (JH.1) hb); replace HB := hqZ (za0 (HB.1) hb); clear hb ho106) | ((with_reducible refine zu0 (b := .append) (xs := #[.tmp 179, .tmp 180]) rfl ?_); at_builtin; refine Kd.R_append_rows (Kd.int .i64) (w0 := w) w.heap.size rfl (.tmp 179) (.tmp 180) 27 3 (.int .i64 0) 8 rfl Try.underlying27 info3 rfl (by decide) (by omega) v809 U5 Jk _ _ _ (fun k_ => some k_ ≠ (.slice (some ad805) Jk.length Vk : Value).ownBlock ∧ some k_ ≠ (.slice (some ad806) Vn.length X2 : Value).ownBlock ∧ some k_ ≠ (.slice (some ad805) Jk.length Vk : Value).ownBlock) (fun _ => False) rfl rfl ?aO ?aR (fun _ _ h => h) (fun _ h => h.elim) ?aF ?aB ?aS ?aL ?_; (case aR => exact (Kd.R_reads' V6.1).2.2); (case aB => exact (HB.1)); (case aF => exact (fun k_ hk => ⟨Kd.fresh' (Kd.R_lt (V6.1)) k_ hk, Kd.fresh' (Kd.R_lt (JI.1)) k_ hk, Kd.fresh' (Kd.R_lt (JY.1)) k_ hk⟩)); (case aO => exact (Kd.R_mono vD.1 (fun _ hk => ⟨hk.1.1.2, ⟨hk.1.2, hk.2⟩⟩))); (case aS => exact (zb0 (HB.1))); (case aL => have := LMc98.1; omega); intro v812 w107 ho hb hg hat; rw [← Ny811.1] at ho; have n0_ := hqZ (Kd.R_after (ok := (fun k_ => some k_ ≠ (.slice (some ad806) Vn.length X2 : Value).ownBlock)) (V6.1) hg hat); have n1_ := hqZ (Kd.R_after (ok := (fun k_ => some k_ ≠ (.slice (some ad805) Jk.length Vk : Value).ownBlock ∧ some k_ ≠ (.slice (some ad805) Jk.length Vk : Value).ownBlock)) (JI.1) hg hat); have n2_ := hqZ (Kd.R_after (ok := (fun k_ => some k_ ≠ (.slice (some ad806) Vn.length X2 : Value).ownBlock)) (JY.1) hg hat); have n3_ := hqZ (Kd.N_afterv (ok := (fun k_ => some k_ ≠ (.slice (some ad805) Jk.length Vk : Value).ownBlock ∧ some k_ ≠ (.slice (some ad806) Vn.length X2 : Value).ownBlock ∧ some k_ ≠ (.slice (some ad805) Jk.length Vk : Value).ownBlock ∧ some k_ ≠ (.slice VR JN.length VO : Value).ownBlock ∧ k_ ≠ Jr ∧ k_ ≠ JT)) (J5.1) hg hat); have n4_ := hqZ (Kd.N_afterv (ok := (fun k_ => some k_ ≠ (.slice (some ad805) Jk.length Vk : Value).ownBlock ∧ some k_ ≠ (.slice (some ad806) Vn.length X2 : Value).ownBlock ∧ some k_ ≠ (.slice (some ad805) Jk.length Vk : Value).ownBlock ∧ some k_ ≠ (.slice JU Ji.length JR : Value).ownBlock ∧ k_ ≠ Jr ∧ k_ ≠ JT)) (Jf.1) hg hat); have n5_ := hqZ (zl0 (g := Jr) (o := .cells #[.slice JU Ji.length JR] 26 (0, 0)) (Jb.1) hg (Kd.R_ne vD.1 Jb.1 (by decide))); have n6_ := hqZ (zl0 (g := JT) (o := .cells #[.slice VR JN.length VO] 26 (0, 0)) (JH.1) hg (Kd.R_ne vD.1 JH.1 (by decide))); have n7_ := hqZ (hb); have n8_ := hqZ (ho); clear V6; clear JI; clear JY; clear J5; clear Jf; clear Jb; clear JH; clear HB; clear vD; have V6 := n0_; have JI := n1_; have JY := n2_; have J5 := n3_; have Jf := n4_; have Jb := n5_; have JH := n6_; have HB := n7_; have Vb := n8_; clear n0_ n1_ n2_ n3_ n4_ n5_ n6_ n7_ n8_; clear ho hb hg hat; obtain ⟨Jo6, ug, eo108⟩ := Kd.R_slice Vb.1; subst eo108; have p814 : 0 ≤ (J8 : Int) := oA; have q814 : J8 < (Vj.length : Int) := oA; obtain ⟨ad814, e814, hx814_0⟩ := Kd.at_int (Kd.R_reads' Vb.1).2.2 J8 p814 q814; cases e814; replace p814 := eq_true p814; replace q814 := eq_true q814; have p100 : 0 ≤ (J8 : Int) := oA; have q100 : (J8 : Int) < ((Vj.length : Int) : Int) := oA; obtain ⟨Vi, DB, eo100, o5, gl100, cl100, HG100⟩ := Kd.R_form Vb.1 (by omega); (cases eo100); have GB100 := hqZ o5; have GG100 := hqZ HG100; clear o5 gl100 HG100; (simp only [add_plain] at hx814_0); obtain ⟨hx100_0, hf100_0⟩ := Kd.R_celln 0 Vb.1 (J8 : Int) p100 q100; replace p100 := eq_true p100; replace q100 := eq_true q100; obtain ⟨hy109_, hz109_⟩ := Kd.R_celln 0 Vb.1 (J8 : Int) (oA) (oA); have HP109 := Kd.R_putg Vb.1 (J8 : Int) (wrap64 ((rd Vj J8) + 1))) | ((with_reducible refine gate_store (t := 3) (p := 187) rfl ?_); refine store_event (t := 3) (p := 187) (v := ?vo_w110) (w1 := (w107.setCell ⟨Vi, (J8 : Int).toNat, none⟩ (.int .i64 (wrap64 ((rd Vj J8) + 1))))) ?hg ?ho ?hn ?hr ?_; (case ho => rfl); (case hg => rfl); (case hn => rfl); (case hr => go_simp); intro w110 hw; have hg : w107.grownBy w110 (some Vi) := (by rw [hw]; exact HP109.2); have hp_ : Kd.R (Kd.int .i64) 3 w110 w.heap.size (fun k_ => some k_ ≠ (.slice (some ad805) Jk.length Vk : Value).ownBlock ∧ some k_ ≠ (.slice (some ad806) Vn.length X2 : Value).ownBlock ∧ some k_ ≠ (.slice (some ad805) Jk.length Vk : Value).ownBlock) (.slice (some ⟨Vi, 0, none⟩) Vj.length ug) uX := (by rw [hw, Ny815.1]; exact HP109.1); clear HP109; replace V6 := hqZ (Kd.R_after (v := (.slice (some ⟨Vi, 0, none⟩) Vj.length ug)) (v1 := (.slice (some ⟨Vi, 0, none⟩) Vj.length ug)) (ok := (fun k_ => some k_ ≠ (.slice (some ad806) Vn.length X2 : Value).ownBlock)) (V6.1) hg (.inl rfl)); replace JI := hqZ (Kd.R_after (v := (.slice (some ⟨Vi, 0, none⟩) Vj.length ug)) (v1 := (.slice (some ⟨Vi, 0, none⟩) Vj.length ug)) (ok := (fun k_ => some k_ ≠ (.slice (some ad805) Jk.length Vk : Value).ownBlock ∧ some k_ ≠ (.slice (some ad805) Jk.length Vk : Value).ownBlock)) (JI.1) hg (.inl rfl)); replace JY := hqZ (Kd.R_after (v := (.slice (some ⟨Vi, 0, none⟩) Vj.length ug)) (v1 := (.slice (some ⟨Vi, 0, none⟩) Vj.length ug)) (ok := (fun k_ => some k_ ≠ (.slice (some ad806) Vn.length X2 : Value).ownBlock)) (JY.1) hg (.inl rfl)); replace J5 := hqZ (Kd.N_afterv (v := (.slice (some ⟨Vi, 0, none⟩) Vj.length ug)) (v1 := (.slice (some ⟨Vi, 0, none⟩) Vj.length ug)) (ok := (fun k_ => some k_ ≠ (.slice (some ad805) Jk.length Vk : Value).ownBlock ∧ some k_ ≠ (.slice (some ad806) Vn.length X2 : Value).ownBlock ∧ some k_ ≠ (.slice (some ad805) Jk.length Vk : Value).ownBlock ∧ some k_ ≠ (.slice VR JN.length VO : Value).ownBlock ∧ k_ ≠ Jr ∧ k_ ≠ JT)) (J5.1) hg (.inl rfl)); replace Jf := hqZ (Kd.N_afterv (v := (.slice (some ⟨Vi, 0, none⟩) Vj.length ug)) (v1 := (.slice (some ⟨Vi, 0, none⟩) Vj.length ug)) (ok := (fun k_ => some k_ ≠ (.slice (some ad805) Jk.length Vk : Value).ownBlock ∧ some k_ ≠ (.slice (some ad806) Vn.length X2 : Value).ownBlock ∧ some k_ ≠ (.slice (some ad805) Jk.length Vk : Value).ownBlock ∧ some k_ ≠ (.slice JU Ji.length JR : Value).ownBlock ∧ k_ ≠ Jr ∧ k_ ≠ JT)) (Jf.1) hg (.inl rfl)); replace Jb := hqZ (zl0 (g := Jr) (o := .cells #[.slice JU Ji.length JR] 26 (0, 0)) (Jb.1) hg (Kd.R_ne Vb.1 Jb.1 (by decide))); replace JH := hqZ (zl0 (g := JT) (o := .cells #[.slice VR JN.length VO] 26 (0, 0)) (JH.1) hg (Kd.R_ne Vb.1 JH.1 (by decide))); replace Vb := hqZ (hp_); replace HB := hqZ ((by rw [hw]; exact zm0 (HB.1) GB100.1 : Below w.heap.size w w110)); clear hg hw hp_; have hnb111 := jW.1; have hnc111 := jf.1; have Nw : w110.cell? ⟨JT, 0, none⟩ = some (.slice VR JN.length VO) := (zf0 JH.1 0).trans rfl; have Nx := zc0 JH.1 0) | ((with_reducible refine ze0 (f := 24) rfl ?_); refine goesL_ (some 192) rfl rfl Try.func24 (by kernel_rfl) rfl #[.agg #[.slice VR JN.length VO], .int .i64 VQ, .slice (some ⟨Vi, 0, none⟩) uX.length ug] rfl (by (try simp only [List.map_toArray, List.map_cons, List.map_nil]); (rw [show uX.length = Vj.length from (Kd.R_reads' Vb.1).1.symm] <;> rfl)) ?_; (with_reducible refine (ya1.calls k5 _ _ JN VQ _ _ uX true true _ ?side1 ?side2 ?side3 ?side4 A101.1).mono ?_); (case side1 => exact (Kd.N_reads' Jf.1).2.2); (case side2 => exact (Kd.N_reads' Jf.1).2.1); (case side3 => exact (Kd.R_reads' Vb.1).2.2); (case side4 => rw [show uX.length = Vj.length from (Kd.R_reads' Vb.1).1.symm]; exact (Kd.R_reads' Vb.1).2.1); rintro e w113 ⟨rfl, hb⟩; refine ⟨_, rfl, ?_⟩; replace V6 := hqZ (Kd.R_below (V6.1) hb); replace JI := hqZ (Kd.R_below (JI.1) hb); replace JY := hqZ (Kd.R_below (JY.1) hb); replace J5 := hqZ (Kd.N_below (J5.1) hb); replace Jf := hqZ (Kd.N_below (Jf.1) hb); replace Vb := hqZ (Kd.R_below (Vb.1) hb); replace Jb := hqZ (zd0 (g := Jr) (o := .cells #[.slice JU Ji.length JR] 26 (0, 0)) (Jb.1) hb); replace JH := hqZ (zd0 (g := JT) (o := .cells #[.slice VR JN.length VO] 26 (0, 0)) (JH.1) hb); replace HB := hqZ (za0 (HB.1) hb); clear hb))
          go_roundg k5
          case measure => have := E0.1; have := U7.1; have := qh.1; have := dY.1; have := dO.1; omega
          case rel => exact ⟨(wrap64 (J8 + 1)), (rfl), H', ⟨by have := E0.1; have := U7.1; have := qh.1; have := dY.1; have := dO.1; omega⟩, ⟨Kd.R_mono V6.1 (fun _ hk => hk.1)⟩, ⟨Kd.R_mono JI.1 (fun _ hk => ⟨hk.1.1, hk.1.2⟩)⟩, ⟨Kd.R_mono JY.1 (fun _ hk => hk.1)⟩, ⟨Kd.N_mono J5.1 (fun _ hk => ⟨hk.1.1, ⟨hk.1.2.1, ⟨hk.1.2.2.1, ⟨hk.1.2.2.2.1, ⟨hk.1.2.2.2.2.1, hk.1.2.2.2.2.2⟩⟩⟩⟩⟩)⟩, ⟨Kd.N_mono Jf.1 (fun _ hk => ⟨hk.1.1, ⟨hk.1.2.1, ⟨hk.1.2.2.1, ⟨hk.1.2.2.2.1, ⟨hk.1.2.2.2.2.1, hk.1.2.2.2.2.2⟩⟩⟩⟩⟩)⟩, ⟨Jb.1⟩, ⟨JH.1⟩, ⟨HB.1⟩⟩
end Go.Proofs.Ytdfabioienofhaa.P
namespace Go.Proofs.Ytdfabioienofhaa.In
set_option maxHeartbeats 8000000
set_option maxRecDepth 100000
open Go.RowKit Go.Proofs.YtdfabioienofhaaW.PrintWords Go.Proofs.YtdfabioienofhaaW.PrintLast Go.Proofs.YtdfabioienofhaaW.PrintMore
set_option linter.unusedVariables false
theorem in_ints {w : World} {A : Option Addr} {L C : Nat} {zs : List Int} (hl : L ≤ C) (hm : C ≤ maxLen) (hz : zs.length = C) (hn : A = none → C = 0) (hc : ∀ a', A = some a' → ∀ c, c < C → w.cell? (a'.add c) = some (.int .i64 (zs.getD c 0))) :
  Kd.C (Kd.int .i64) w A (zs.take L).length (zs.take L) := by
 have hlen : (zs.take L).length = L := by rw [List.length_take]; omega
 refine ⟨rfl, by rw [hlen]; unfold maxLen at hm; omega, fun h => ?_⟩
 rw [hlen] at h
 cases A with
 | none => have := hn rfl; omega
 | some a =>
  refine ⟨a, rfl, fun j p hj => ⟨[.int .i64 p], rfl, rfl, fun i u hi => ?_⟩⟩
  have hi0 : i = 0 := by
   cases i with
   | zero => rfl
   | succ i => simp at hi
  subst hi0
  obtain rfl := Option.some.inj hi
  show w.cell? (a.add (j * 1 + 0)) = _
  rw [List.getElem?_take] at hj
  split at hj
  ·rename_i hjl
   have h2 : zs.getD j 0 = p := by rw [List.getD_eq_getElem?_getD, hj]; rfl
   rw [Nat.mul_one, Nat.add_zero, hc a rfl j (by omega), h2]
  ·cases hj
theorem in_bytes0 {w : World} {A : Option Addr} {L C : Nat} {zs : List Int} (hl : L ≤ C) (hm : C ≤ maxLen) (hz : zs.length = C) (hn : A = none → C = 0) (hc : ∀ a', A = some a' → ∀ c, c < C → w.cell? (a'.add c) = some (.int .u8 (zs.getD c 0))) :
  Kd.C (Kd.int .u8) w A (zs.take L).length (zs.take L) := by
 have hlen : (zs.take L).length = L := by rw [List.length_take]; omega
 refine ⟨rfl, by rw [hlen]; unfold maxLen at hm; omega, fun h => ?_⟩
 rw [hlen] at h
 cases A with
 | none => have := hn rfl; omega
 | some a =>
  refine ⟨a, rfl, fun j p hj => ⟨[.int .u8 p], rfl, rfl, fun i u hi => ?_⟩⟩
  have hi0 : i = 0 := by
   cases i with
   | zero => rfl
   | succ i => simp at hi
  subst hi0
  obtain rfl := Option.some.inj hi
  show w.cell? (a.add (j * 1 + 0)) = _
  rw [List.getElem?_take] at hj
  split at hj
  ·rename_i hjl
   have h2 : zs.getD j 0 = p := by rw [List.getD_eq_getElem?_getD, hj]; rfl
   rw [Nat.mul_one, Nat.add_zero, hc a rfl j (by omega), h2]
  ·cases hj
section
variable {H : Type} {enc : TypeId × Value → H} {P : Program} {w : World} {base : Nat} {held : Bool}
open Go.ChangeShapes Go.WideShapes Go.Deep in
open Go.ChangeShapes Go.WideShapes Go.Deep in
theorem in_ints_cell {t q : TypeId} {fuel : Nat} {cs : List Value} {x : DataW H × List MemPlace} (ht : P.underlying t = some (.slice q)) (hq : P.underlying q = some (.int .i64))
  (cq : P.cellsOf q = 1) (h : DataW.trod enc P w base (fun _ => true) held fuel t cs = some x) :
  ∃ (A : Option Addr) (l : List Int) (cap : Nat), cs = [.slice A l.length cap] ∧ l.length ≤ cap ∧ Kd.C (Kd.int .i64) w A l.length l ∧ (l.length ≤ maxLen ∧ ∀ x ∈ l, (Lit.int .i64 x).wf = true) := by
 rcases open_ints ht hq cq h with ⟨rfl, _⟩ | ⟨a, len, cap, zs, rfl, _, hl, hm, hz, _, hc, hw⟩
 ·exact ⟨none, [], 0, rfl, Nat.le_refl _, Kd.C_nil _ _, by simp⟩
 ·simp only [if_true] at hz
  have hlen : (zs.take len).length = len := by rw [List.length_take]; omega
  refine ⟨some a, zs.take len, cap, by rw [hlen], by omega, in_ints hl hm hz (fun e => by cases e) (fun a' e c hlt => by cases e; exact hc c (by omega)), by omega, fun x hx => hw x (List.mem_of_mem_take hx)⟩
open Go.ChangeShapes Go.WideShapes Go.Deep in
end
section
variable {H : Type} {enc : TypeId × Value → H} {P : Program} {w : World} {base : Nat} {held : Bool}
open Go.ChangeShapes Go.WideShapes Go.Deep in
open Go.ChangeShapes Go.WideShapes Go.Deep in
open Go.ChangeShapes Go.WideShapes Go.Deep in
open Go.ChangeShapes Go.WideShapes Go.Deep in
theorem in_bytes_cell {t q : TypeId} {fuel : Nat} {cs : List Value} {x : DataW H × List MemPlace} (ht : P.underlying t = some (.slice q)) (hq : P.underlying q = some (.int .u8))
  (cq : P.cellsOf q = 1) (h : DataW.trod enc P w base (fun _ => true) held fuel t cs = some x) :
  ∃ (A : Option Addr) (l : List Int) (cap : Nat), cs = [.slice A l.length cap] ∧ l.length ≤ cap ∧ Kd.C (Kd.int .u8) w A l.length l ∧ (l.length ≤ maxLen ∧ ∀ x ∈ l, (Lit.int .u8 x).wf = true) := by
 rcases open_ints ht hq cq h with ⟨rfl, _⟩ | ⟨a, len, cap, zs, rfl, _, hl, hm, hz, _, hc, hw⟩
 ·exact ⟨none, [], 0, rfl, Nat.le_refl _, Kd.C_nil _ _, by simp⟩
 ·simp only [if_true] at hz
  have hlen : (zs.take len).length = len := by rw [List.length_take]; omega
  refine ⟨some a, zs.take len, cap, by rw [hlen], by omega, in_bytes0 hl hm hz (fun e => by cases e) (fun a' e c hlt => by cases e; exact hc c (by omega)), by omega, fun x hx => hw x (List.mem_of_mem_take hx)⟩
open Go.ChangeShapes Go.WideShapes Go.Deep in
theorem in_bytes {r : Reach} {b0 : Nat} {t q : TypeId} {v : Value} {d : DataW H} {p : List MemPlace} (ht : P.underlying t = some (.slice q)) (hq : P.underlying q = some (.int .u8)) (cq : P.cellsOf q = 1) (hv : Value.okWide P w r b0 t v) (h : DataW.Trod enc P w base (fun _ => true) held t v d p) :
  ∃ (A : Option Addr) (l : List Int) (cap : Nat), v = .slice A l.length cap ∧ l.length ≤ cap ∧ Kd.C (Kd.int .u8) w A l.length l ∧ (l.length ≤ maxLen ∧ ∀ y ∈ l, (Lit.int .u8 y).wf = true) := by
 obtain ⟨A0, n0, c0, rfl⟩ := okWide_slice ht hv
 obtain ⟨fuel, hf⟩ := h
 obtain ⟨A, l, cap, hcs, hl, hc, hw⟩ := in_bytes_cell ht hq cq hf
 simp [Value.cells] at hcs
 obtain ⟨rfl, rfl, rfl⟩ := hcs
 exact ⟨_, l, _, rfl, hl, hc, hw⟩
open Go.ChangeShapes Go.WideShapes Go.Deep in
end
def okI (x : Int) : Prop := -9223372036854775808 ≤ x ∧ x ≤ 9223372036854775807
def okIs (l : List Int) : Prop := l.length ≤ 9223372036854775807 ∧ ∀ x ∈ l, okI x
def okBy (l : List Int) : Prop := l.length ≤ 9223372036854775807 ∧ ∀ x ∈ l, 0 ≤ x ∧ x ≤ 255
def okSS (ll : List (List Int)) : Prop := ll.length ≤ 9223372036854775807 ∧ ∀ row ∈ ll, okIs row
theorem okBy_wf {l : List Int} (h : l.length ≤ maxLen ∧ ∀ x ∈ l, (Lit.int .u8 x).wf = true) : okBy l := ⟨h.1, fun x hx => by
 have := h.2 x hx
 simp only [Lit.wf, Bool.and_eq_true] at this
 exact ⟨of_decide_eq_true this.1, of_decide_eq_true this.2⟩⟩
end Go.Proofs.Ytdfabioienofhaa.In
namespace Go.Proofs.Ytdfabioienofhaa.M
set_option maxHeartbeats 8000000
set_option maxRecDepth 100000
open Go.RowKit Go.Proofs.Ytdfabioienofhaa.P Go.Proofs.Ytdfabioienofhaa.In Go.Proofs.YtdfabioienofhaaW.PrintWords Go.Proofs.YtdfabioienofhaaW.PrintLast
set_option linter.unusedVariables false
set_option linter.unusedSimpArgs false
theorem wrap_id {x : Int} (h : -9223372036854775808 ≤ x ∧ x ≤ 9223372036854775807) : wrap64 x = x := by unfold wrap64; omega
theorem wrap_nat {n : Nat} (h : n < 9223372036854775807) : wrap64 ((n : Int) + 1) = ((n + 1 : Nat) : Int) := by unfold wrap64; omega
theorem rd_at {l : List Int} {n : Nat} (h : n < l.length) : rd l (n : Int) = l[n] := by simp [rd, h]
theorem rdL_at {l : List (List Int)} {n : Nat} (h : n < l.length) : rd_L2 l (n : Int) = l[n] := by simp [rd_L2, h]
theorem _root_.Go.Proofs.YtdfabioienofhaaW.PrintWords.Ev.val {α : Type} {g : Nat → Option α} {r r' : α} (h : Ev g r) (e : r = r') : Ev g r' := e ▸ h
theorem _root_.Go.Proofs.YtdfabioienofhaaW.PrintWords.Ev.const {α : Type} {g : Nat → Option α} {r : α} (h : ∀ k, g k = some r) : Ev g r := ⟨0, fun k _ => h k⟩
theorem _root_.Go.Proofs.YtdfabioienofhaaW.PrintWords.Ev.const1 {α : Type} {g : Nat → Option α} {r : α} (h : ∀ k, g (k + 1) = some r) : Ev g r := Ev.step (f := fun _ => some r) h (Ev.const fun _ => rfl)
theorem _root_.Go.Proofs.YtdfabioienofhaaW.PrintWords.Ev.succ {α : Type} {g : Nat → Option α} {r : α} (h : Ev (fun k => g (k + 1)) r) : Ev g r := Ev.step (f := fun k => g (k + 1)) (fun _ => rfl) h
theorem _root_.Go.Proofs.YtdfabioienofhaaW.PrintWords.Ev.bind0 {α β : Type} {g : Option α} {f : Nat → α → Option β} {a : α} {r : β} (h : g = some a) (k : Ev (fun n => f n a) r) : Ev (fun n => g.bind (f n)) r := by
 subst h; exact k
theorem _root_.Go.Proofs.YtdfabioienofhaaW.PrintWords.Ev.pos {α : Type} {g f : Nat → Option α} {r : α} {c : Prop} [Decidable c] (h : c) (k : Ev g r) : Ev (fun n => if c then g n else f n) r := by
 simp only [if_pos h]; exact k
theorem _root_.Go.Proofs.YtdfabioienofhaaW.PrintWords.Ev.neg {α : Type} {g f : Nat → Option α} {r : α} {c : Prop} [Decidable c] (h : ¬ c) (k : Ev f r) : Ev (fun n => if c then g n else f n) r := by
 simp only [if_neg h]; exact k
def small (l : List (List Int)) : Prop := l.length ≤ 1048576 ∧ ∀ row ∈ l, row.length ≤ 1048576
theorem cons_dec {α : Type} [DecidableEq α] {a b : α} {l m : List α} (e : a = b) : decide (l = m) = decide (a :: l = b :: m) := by
 subst e; exact decide_eq_decide.mpr ⟨fun h => by rw [h], fun h => (List.cons.inj h).2⟩
theorem l1In (a lo hi : Int) : yt1.f a lo hi = some (decide (lo ≤ a) && decide (a ≤ hi)) := by
 unfold yt1.f
 by_cases h : a ≥ lo
 ·rw [if_pos h]; have : lo ≤ a := h; simp [this]
 rw [if_neg h]; have : ¬ lo ≤ a := h; simp [this]
theorem l1All_l0 (l : List Int) (lo hi : Int) (hl : l.length ≤ 9223372036854775807) : ∀ (d i : Nat), l.length - i = d → i ≤ l.length → Ev (fun k => yu0.l0 k lo hi l l.length i) ((l.drop i).all fun x => decide (lo ≤ x) && decide (x ≤ hi)) := by
 intro d
 induction d with
 | zero =>
  intro i hd hi
  refine Ev.const1 (fun k => ?_)
  simp only [yu0.l0]
  rw [if_neg (by omega), List.drop_of_length_le (by omega)]
  rfl
 | succ d ih =>
  intro i hd hi'
  have hlt : i < l.length := by omega
  rw [List.drop_eq_getElem_cons hlt, List.all_cons]
  by_cases e : (decide (lo ≤ l[i]) && decide (l[i] ≤ hi)) = true
  ·refine Ev.step (f := fun k => yu0.l0 k lo hi l l.length (i + 1 : Nat)) (fun k => ?_) ((ih (i + 1) (by omega) (by omega)).val (by rw [e]; simp))
   simp only [yu0.l0, l1In]
   rw [if_pos (by omega), if_pos (by omega), if_pos (by omega), rd_at hlt, wrap_nat (by omega)]
   simp only [Option.bind_some]
   rw [if_pos e]
  refine Ev.const1 (fun k => ?_)
  simp only [yu0.l0, l1In]
  rw [if_pos (by omega), if_pos (by omega), if_pos (by omega), rd_at hlt]
  simp only [Option.bind_some]
  rw [if_neg e]
  simp only [Bool.not_eq_true] at e
  rw [e]; rfl
theorem l1All (l : List Int) (lo hi : Int) (hl : l.length ≤ 9223372036854775807) : Ev (fun k => yu0.f k l lo hi) (l.all fun x => decide (lo ≤ x) && decide (x ≤ hi)) := by
 unfold yu0.f
 exact l1All_l0 l lo hi hl l.length 0 (by omega) (by omega)
theorem grGood_l0 (l : List (List Int)) (hl : okSS l) : ∀ (d i : Nat), l.length - i = d → i ≤ l.length → Ev (fun k => yb1.l0 k l.length l l.length i) ((l.drop i).all (goodRow l.length)) := by
 intro d
 induction d with
 | zero =>
  intro i hd hi
  refine Ev.const1 (fun k => ?_)
  simp only [yb1.l0]
  rw [if_neg (by omega), List.drop_of_length_le (by omega)]
  rfl
 | succ d ih =>
  intro i hd hi'
  have hlt : i < l.length := by omega
  have hll := hl.1
  have hrow := (hl.2 _ (List.getElem_mem hlt)).1
  rw [List.drop_eq_getElem_cons hlt, List.all_cons]
  by_cases h5 : l[i].length ≤ 5
  rotate_left
  ·refine Ev.const1 (fun k => ?_)
   simp only [yb1.l0]
   rw [if_pos (by omega), if_pos (by omega), if_pos (by omega), rdL_at hlt, if_pos (by omega)]
   simp [goodRow, h5]
  refine Ev.step (f := fun k => (yu0.f k l[i] 0 ((l.length : Int) - 1)).bind fun t => if t = true then yb1.l0 k l.length l l.length (i + 1 : Nat) else some false) (fun k => ?_) ?_
  ·simp only [yb1.l0]
   rw [if_pos (by omega), if_pos (by omega), if_pos (by omega), rdL_at hlt, if_neg (by omega), wrap_nat (by omega), wrap_id (by omega)]
  ·by_cases e : (l[i].all fun x => decide (0 ≤ x) && decide (x ≤ (l.length : Int) - 1)) = true
   ·exact Ev.bind ((l1All _ 0 _ hrow).val e) (Ev.pos rfl ((ih (i + 1) (by omega) (by omega)).val (by unfold goodRow; rw [e]; simp [h5])))
   exact Ev.bind ((l1All _ 0 _ hrow).val (Bool.eq_false_iff.mpr e)) (Ev.neg (by simp) ((Ev.now _).val (by unfold goodRow; simp only [Bool.not_eq_true] at e; rw [e]; simp)))
theorem grGood (l : List (List Int)) (hl : okSS l) : Ev (fun k => yb1.f k l) (goodG l) := by
 unfold yb1.f
 rw [l1In]
 simp only [Option.bind_some]
 by_cases h : 1 ≤ l.length ∧ l.length ≤ 8
 ·have h1 : (1 : Int) ≤ l.length := by omega
  have h2 : (l.length : Int) ≤ 8 := by omega
  refine Ev.pos (by simp [h1, h2]) ?_
  exact (grGood_l0 l hl l.length 0 (by omega) (by omega)).val (by simp [goodG, h.1, h.2])
 refine Ev.neg (by simp; omega) ((Ev.now _).val ?_)
 unfold goodG
 by_cases h1 : 1 ≤ l.length
 rotate_left
 ·simp [h1]
 have h2 : ¬ l.length ≤ 8 := by omega
 simp [h1, h2]
theorem good_iff {l : List (List Int)} (h : goodG l = true) : (1 ≤ l.length ∧ l.length ≤ 8) ∧ ∀ row ∈ l, row.length ≤ 5 ∧ ∀ q ∈ row, 0 ≤ q ∧ q < (l.length : Int) := by
 simp only [goodG, goodRow, Bool.and_eq_true, decide_eq_true_eq, List.all_eq_true] at h
 refine ⟨⟨h.1, h.2.1⟩, fun row hr => ⟨(h.2.2 row hr).1, fun q hq => ?_⟩⟩
 have := (h.2.2 row hr).2 q hq
 omega
def placeB (l : List (List Int)) (p : Int) : Bool := goodG l && (decide (0 ≤ p) && decide (p ≤ (l.length : Int) - 1))
theorem place_iff {l : List (List Int)} {p : Int} (h : placeB l p = true) : goodG l = true ∧ 0 ≤ p ∧ p < (l.length : Int) := by
 simp only [placeB, Bool.and_eq_true, decide_eq_true_eq] at h
 exact ⟨h.1, h.2.1, by omega⟩
theorem grPlace (l : List (List Int)) (p : Int) (hl : okSS l) : Ev (fun k => yv1.f k l p) (placeB l p) := by
 unfold yv1.f
 have hll := hl.1
 refine Ev.bind (grGood l hl) ?_
 by_cases h : goodG l = true
 rotate_left
 ·exact Ev.neg h ((Ev.now _).val (by simp only [Bool.not_eq_true] at h; simp [placeB, h]))
 refine Ev.pos h ?_
 rw [l1In, wrap_id (by omega)]
 exact Ev.bind0 rfl ((Ev.now _).val (by simp [placeB, h]))
theorem has1 (l : List (List Int)) (p : Int) : ys1.f l [p] = some (placeB l p) := by
 unfold ys1.f placeB; simp
theorem rd_get {l : List Int} {q : Int} (h0 : 0 ≤ q) (h1 : q < (l.length : Int)) : rd l q = l[q.toNat]'(by omega) := by
 unfold rd; rw [List.getD_eq_getElem?_getD, List.getElem?_eq_getElem (by omega)]; rfl
theorem rdL_get {l : List (List Int)} {q : Int} (h0 : 0 ≤ q) (h1 : q < (l.length : Int)) : rd_L2 l q = l[q.toNat]'(by omega) := by
 unfold rd_L2; rw [List.getD_eq_getElem?_getD, List.getElem?_eq_getElem (by omega)]; rfl
theorem rd_set {o : List Int} {q x v : Int} (hq0 : 0 ≤ q) (hq : q < (o.length : Int)) (hx0 : 0 ≤ x) : rd (o.set q.toNat v) x = if x = q then v else rd o x := by
 unfold rd
 rw [List.getD_eq_getElem?_getD, List.getElem?_set, List.getD_eq_getElem?_getD]
 by_cases e : x = q
 ·subst e; rw [if_pos rfl, if_pos (by omega), if_pos rfl]; rfl
 rw [if_neg (by omega), if_neg e]
theorem drop_rd {row : List Int} {i : Nat} (h : i < row.length) : row.drop i = rd row (i : Int) :: row.drop (i + 1) := by
 rw [List.drop_eq_getElem_cons h, rd_at h]
theorem place_of {g : List (List Int)} (hg : goodG g = true) {i : Nat} (hi : i < g.length) : placeB g (i : Int) = true := by
 unfold placeB; rw [hg]; simp; omega
end Go.Proofs.Ytdfabioienofhaa.M
namespace Go.Proofs.Ytdfabioienofhaa.M
set_option maxHeartbeats 8000000
set_option maxRecDepth 100000
set_option linter.unusedVariables false
set_option linter.unusedSimpArgs false
namespace DetKit
set_option maxHeartbeats 8000000
set_option maxRecDepth 100000
def skip (k j : Nat) : Nat := if j < k then j else j + 1
def sm : Nat → (Nat → Int) → Int
 | 0, _ => 0
 | n + 1, f => sm n f + f n
def sg (k : Nat) : Int := if k % 2 = 0 then 1 else -1
def D : Nat → (Nat → Nat → Int) → Int
 | 0, _ => 1
 | n + 1, A => sm (n + 1) (fun k => sg k * A 0 k * D n (fun i j => A (i + 1) (skip k j)))
theorem sm_congr {n : Nat} {f g : Nat → Int} (h : ∀ i, i < n → f i = g i) : sm n f = sm n g := by
 induction n with
 | zero => rfl
 | succ n ih => simp only [sm]; rw [ih (fun i hi => h i (by omega)), h n (by omega)]
theorem sm_zero {n : Nat} {f : Nat → Int} (h : ∀ i, i < n → f i = 0) : sm n f = 0 := by
 induction n with
 | zero => rfl
 | succ n ih => simp only [sm]; rw [ih (fun i hi => h i (by omega)), h n (by omega)]; rfl
theorem sm_add (n : Nat) (f g : Nat → Int) : sm n (fun i => f i + g i) = sm n f + sm n g := by
 induction n with
 | zero => rfl
 | succ n ih => simp only [sm]; rw [ih]; omega
theorem sm_mul (n : Nat) (c : Int) (f : Nat → Int) : sm n (fun i => c * f i) = c * sm n f := by
 induction n with
 | zero => simp [sm]
 | succ n ih => simp only [sm]; rw [ih, Int.mul_add]
theorem sm_neg (n : Nat) (f : Nat → Int) : sm n (fun i => - f i) = - sm n f := by
 induction n with
 | zero => simp [sm]
 | succ n ih => simp only [sm]; rw [ih]; omega
theorem sm_head (n : Nat) (f : Nat → Int) : sm (n + 1) f = f 0 + sm n (fun i => f (i + 1)) := by
 induction n with
 | zero => simp [sm]
 | succ n ih => rw [show sm (n + 1 + 1) f = sm (n + 1) f + f (n + 1) from rfl, ih]; simp only [sm]; omega
theorem sm_swap (m n : Nat) (f : Nat → Nat → Int) : sm m (fun i => sm n (fun j => f i j)) = sm n (fun j => sm m (fun i => f i j)) := by
 induction m with
 | zero => simp only [sm]; exact (sm_zero (fun _ _ => rfl)).symm
 | succ m ih => simp only [sm]; rw [ih, ← sm_add]
theorem sm_one {n r : Nat} {f : Nat → Int} (hr : r < n) (h : ∀ i, i < n → i ≠ r → f i = 0) : sm n f = f r := by
 induction n with
 | zero => omega
 | succ n ih =>
  simp only [sm]
  by_cases e : r = n
  ·subst e; rw [sm_zero (fun i hi => h i (by omega) (by omega))]; omega
  rw [ih (by omega) (fun i hi hn => h i (by omega) hn), h n (by omega) (by omega)]; omega
theorem sm_two {n r : Nat} {f : Nat → Int} (hr : r + 1 < n) (h : ∀ i, i < n → i ≠ r → i ≠ r + 1 → f i = 0) : sm n f = f r + f (r + 1) := by
 induction n with
 | zero => omega
 | succ n ih =>
  simp only [sm]
  by_cases e : r + 1 = n
  ·subst e; rw [sm_one (r := r) (by omega) (fun i hi hn => h i (by omega) hn (by omega))]
  rw [ih (by omega) (fun i hi hn hm => h i (by omega) hn hm), h n (by omega) (by omega) (by omega)]; omega
theorem sg_succ (k : Nat) : sg (k + 1) = - sg k := by unfold sg; split <;> split <;> omega
theorem skip_ne (k j : Nat) : skip k j ≠ k := by unfold skip; split <;> omega
theorem skip_lt {k j n : Nat} (h : j < n) : skip k j < n + 1 := by unfold skip; split <;> omega
theorem skip_zero (j : Nat) : skip 0 j = j + 1 := by simp [skip]
theorem skip_succ (k j : Nat) : skip (k + 1) (j + 1) = skip k j + 1 := by unfold skip; split <;> split <;> omega
theorem D_congr {n : Nat} {A B : Nat → Nat → Int} (h : ∀ i, i < n → ∀ j, j < n → A i j = B i j) : D n A = D n B := by
 induction n generalizing A B with
 | zero => rfl
 | succ n ih =>
  simp only [D]
  refine sm_congr (fun k hk => ?_)
  rw [h 0 (by omega) k hk, ih (fun i hi j hj => h (i + 1) (by omega) _ (skip_lt hj))]
theorem D_col (n : Nat) (A : Nat → Nat → Int) : D (n + 1) A = sm (n + 1) (fun i => sg i * A i 0 * D n (fun a b => A (skip i a) (b + 1))) := by
 induction n generalizing A with
 | zero => simp [D, sm]
 | succ n ih =>
  rw [show D (n + 1 + 1) A = sm (n + 1 + 1) (fun k => sg k * A 0 k * D (n + 1) (fun i j => A (i + 1) (skip k j))) from rfl]
  rw [sm_head (n + 1) (fun k => sg k * A 0 k * D (n + 1) (fun i j => A (i + 1) (skip k j))), sm_head (n + 1) (fun i => sg i * A i 0 * D (n + 1) (fun a b => A (skip i a) (b + 1)))]
  have e0 : D (n + 1) (fun i j => A (i + 1) (skip 0 j)) = D (n + 1) (fun a b => A (skip 0 a) (b + 1)) := D_congr (fun a _ b _ => by rw [skip_zero, skip_zero])
  rw [e0]
  congr 1
  have e1 : ∀ k, sg (k + 1) * A 0 (k + 1) * D (n + 1) (fun i j => A (i + 1) (skip (k + 1) j)) = sm (n + 1) (fun i => - (sg k * sg i * A 0 (k + 1) * A (i + 1) 0 * D n (fun a b => A (skip i a + 1) (skip k b + 1)))) := by
   intro k
   rw [ih, ← sm_mul]
   refine sm_congr (fun i _ => ?_)
   have : D n (fun a b => A (skip i a + 1) (skip (k + 1) (b + 1))) = D n (fun a b => A (skip i a + 1) (skip k b + 1)) := D_congr (fun a _ b _ => by rw [skip_succ])
   rw [this, sg_succ, show skip (k + 1) 0 = 0 from by simp [skip]]
   simp only [Int.neg_mul, Int.mul_neg, Int.mul_assoc, Int.mul_comm, Int.mul_left_comm]
  have e2 : ∀ i, sg (i + 1) * A (i + 1) 0 * D (n + 1) (fun a b => A (skip (i + 1) a) (b + 1)) = sm (n + 1) (fun k => - (sg k * sg i * A 0 (k + 1) * A (i + 1) 0 * D n (fun a b => A (skip i a + 1) (skip k b + 1)))) := by
   intro i
   rw [show D (n + 1) (fun a b => A (skip (i + 1) a) (b + 1)) = sm (n + 1) (fun k => sg k * A (skip (i + 1) 0) (k + 1) * D n (fun a b => A (skip (i + 1) (a + 1)) (skip k b + 1))) from rfl, ← sm_mul]
   refine sm_congr (fun k _ => ?_)
   have : D n (fun a b => A (skip (i + 1) (a + 1)) (skip k b + 1)) = D n (fun a b => A (skip i a + 1) (skip k b + 1)) := D_congr (fun a _ b _ => by rw [skip_succ])
   rw [this, sg_succ, show skip (i + 1) 0 = 0 from by simp [skip]]
   simp only [Int.neg_mul, Int.mul_neg, Int.mul_assoc, Int.mul_comm, Int.mul_left_comm]
  rw [sm_congr (fun k _ => e1 k), sm_congr (fun i _ => e2 i), sm_swap]
theorem D_transpose (n : Nat) (A : Nat → Nat → Int) : D n (fun i j => A j i) = D n A := by
 induction n generalizing A with
 | zero => rfl
 | succ n ih =>
  rw [D_col n A]
  rw [show D (n + 1) (fun i j => A j i) = sm (n + 1) (fun k => sg k * A k 0 * D n (fun i j => A (skip k j) (i + 1))) from rfl]
  refine sm_congr (fun k _ => ?_)
  rw [ih (fun i j => A (skip k i) (j + 1))]
def setRow (A : Nat → Nat → Int) (r : Nat) (u : Nat → Int) : Nat → Nat → Int := fun i j => if i = r then u j else A i j
def setCol (A : Nat → Nat → Int) (c : Nat) (u : Nat → Int) : Nat → Nat → Int := fun i j => if j = c then u i else A i j
theorem D_row_lin (n r : Nat) (hr : r < n) (A : Nat → Nat → Int) (a b : Int) (u v : Nat → Int) :
  D n (setRow A r (fun j => a * u j + b * v j)) = a * D n (setRow A r u) + b * D n (setRow A r v) := by
 induction n generalizing A r u v with
 | zero => omega
 | succ n ih =>
  simp only [D]
  rw [← sm_mul, ← sm_mul, ← sm_add]
  refine sm_congr (fun k hk => ?_)
  cases r with
  | zero =>
   have e : ∀ w : Nat → Int, D n (fun i j => setRow A 0 w (i + 1) (skip k j)) = D n (fun i j => A (i + 1) (skip k j)) := fun w => D_congr (fun i _ j _ => by simp [setRow])
   rw [e, e, e]
   simp only [setRow, if_pos]
   generalize sg k = s
   generalize D n _ = d
   simp only [Int.mul_add, Int.mul_comm, Int.mul_left_comm]
  | succ r =>
   have e : ∀ w : Nat → Int, D n (fun i j => setRow A (r + 1) w (i + 1) (skip k j)) = D n (setRow (fun i j => A (i + 1) (skip k j)) r (fun j => w (skip k j))) := fun w => D_congr (fun i _ j _ => by simp [setRow])
   rw [e, e, e, ih r (by omega)]
   simp only [setRow]
   rw [if_neg (by omega), if_neg (by omega), if_neg (by omega)]
   generalize sg k = s
   generalize D n _ = d
   generalize D n _ = d'
   simp only [Int.mul_add, Int.add_mul, Int.mul_assoc, Int.mul_comm, Int.mul_left_comm]
theorem D_row_zero (n r : Nat) (hr : r < n) (A : Nat → Nat → Int) (h : ∀ j, j < n → A r j = 0) : D n A = 0 := by
 have e := D_row_lin n r hr A 0 0 (fun _ => 0) (fun _ => 0)
 rw [Int.zero_mul, Int.zero_mul] at e
 have e2 : D n (setRow A r (fun j => 0 * 0 + 0 * 0)) = D n A := D_congr (fun i hi j hj => by
  simp only [setRow]; split
  ·subst i; rw [h j hj]; rfl
  ·rfl)
 rw [← e2]; exact e
theorem D_row_sum (n r : Nat) (hr : r < n) (A : Nat → Nat → Int) (m : Nat) (c : Nat → Int) (F : Nat → Nat → Int) :
  D n (setRow A r (fun j => sm m (fun t => c t * F t j))) = sm m (fun t => c t * D n (setRow A r (F t))) := by
 induction m with
 | zero => simp only [sm]; exact D_row_zero n r hr _ (fun j _ => by simp [setRow])
 | succ m ih =>
  simp only [sm]
  have := D_row_lin n r hr A 1 (c m) (fun j => sm m (fun t => c t * F t j)) (F m)
  simp only [Int.one_mul] at this
  rw [this, ih]
theorem setRow_self (A : Nat → Nat → Int) (r : Nat) : setRow A r (A r) = A := by
 funext i j; simp only [setRow]; split
 ·subst i; rfl
 ·rfl
theorem D_adj (n r : Nat) (hr : r + 1 < n) (A : Nat → Nat → Int) (h : ∀ j, j < n → A r j = A (r + 1) j) : D n A = 0 := by
 induction n generalizing r A with
 | zero => omega
 | succ n ih =>
  rw [D_col]
  rw [sm_two (r := r) hr]
  ·rw [sg_succ, ← h 0 (by omega)]
   have : D n (fun a b => A (skip r a) (b + 1)) = D n (fun a b => A (skip (r + 1) a) (b + 1)) := D_congr (fun a _ b hb => by
    unfold skip
    by_cases e : a = r
    ·subst e; rw [if_neg (by omega), if_pos (by omega), h (b + 1) (by omega)]
    ·by_cases l : a < r
     ·rw [if_pos l, if_pos (by omega)]
     ·rw [if_neg l, if_neg (by omega)])
   rw [this, Int.neg_mul, Int.neg_mul]; omega
  ·intro i hi h1 h2
   have : D n (fun a b => A (skip i a) (b + 1)) = 0 := by
    by_cases l : i < r
    ·refine ih (r - 1) (by omega) _ (fun j hj => ?_)
     show A (skip i (r - 1)) (j + 1) = A (skip i (r - 1 + 1)) (j + 1)
     rw [show skip i (r - 1) = r from by unfold skip; split <;> omega, show skip i (r - 1 + 1) = r + 1 from by unfold skip; split <;> omega]
     exact h _ (by omega)
    refine ih r (by omega) _ (fun j hj => ?_)
    show A (skip i r) (j + 1) = A (skip i (r + 1)) (j + 1)
    rw [show skip i r = r from by unfold skip; split <;> omega, show skip i (r + 1) = r + 1 from by unfold skip; split <;> omega]
    exact h _ (by omega)
   rw [this, Int.mul_zero]
def set2 (A : Nat → Nat → Int) (r s : Nat) (u v : Nat → Int) : Nat → Nat → Int := setRow (setRow A r u) s v
theorem D_adj_swap (n r : Nat) (hr : r + 1 < n) (A : Nat → Nat → Int) (u v : Nat → Int) : D n (set2 A r (r + 1) u v) = - D n (set2 A r (r + 1) v u) := by
 have z : ∀ w, D n (set2 A r (r + 1) w w) = 0 := fun w => D_adj n r hr _ (fun j _ => by simp [set2, setRow])
 have c : ∀ w x, set2 A r (r + 1) w x = setRow (setRow A (r + 1) x) r w := fun w x => by
  funext i j; simp only [set2, setRow]
  by_cases e : i = r
  ·subst e; rw [if_neg (by omega), if_pos rfl, if_pos rfl]
  simp [e]
 have l1 : D n (set2 A r (r + 1) (fun j => 1 * u j + 1 * v j) (fun j => 1 * u j + 1 * v j)) = 1 * D n (set2 A r (r + 1) (fun j => 1 * u j + 1 * v j) u) + 1 * D n (set2 A r (r + 1) (fun j => 1 * u j + 1 * v j) v) := D_row_lin n (r + 1) hr _ 1 1 u v
 have l2 : ∀ x, D n (set2 A r (r + 1) (fun j => 1 * u j + 1 * v j) x) = 1 * D n (set2 A r (r + 1) u x) + 1 * D n (set2 A r (r + 1) v x) := fun x => by
  rw [c, c, c]; exact D_row_lin n r (by omega) _ 1 1 u v
 rw [z, l2, l2, z, z] at l1
 omega
theorem D_rows_eq (n : Nat) (A : Nat → Nat → Int) (i d : Nat) (hd : i + 1 + d < n) (h : ∀ c, c < n → A i c = A (i + 1 + d) c) : D n A = 0 := by
 induction d generalizing A with
 | zero => exact D_adj n i hd A h
 | succ d ih =>
  have e : A = set2 A (i + 1 + d) (i + 1 + d + 1) (A (i + 1 + d)) (A (i + 1 + d + 1)) := by
   funext a b; simp only [set2, setRow]
   split
   ·subst a; rfl
   ·split
    ·subst a; rfl
    ·rfl
  rw [e, D_adj_swap n (i + 1 + d) (by omega), ih _ (by omega)]
  ·rfl
  ·intro c hc
   simp only [set2, setRow]
   rw [if_neg (by omega), if_neg (by omega), if_neg (by omega), if_pos trivial, h c hc]; rfl
theorem D_rows_eq' (n : Nat) (A : Nat → Nat → Int) (i j : Nat) (hi : i < n) (hj : j < n) (hij : i ≠ j) (h : ∀ c, c < n → A i c = A j c) : D n A = 0 := by
 rcases Nat.lt_or_gt_of_ne hij with l | l
 ·exact D_rows_eq n A i (j - i - 1) (by omega) (by rw [show i + 1 + (j - i - 1) = j by omega]; exact h)
 ·exact D_rows_eq n A j (i - j - 1) (by omega) (by rw [show j + 1 + (i - j - 1) = i by omega]; exact fun c hc => (h c hc).symm)
def swapRows (A : Nat → Nat → Int) (i j : Nat) : Nat → Nat → Int := fun a b => if a = i then A j b else if a = j then A i b else A a b
theorem D_swap (n : Nat) (A : Nat → Nat → Int) (i j : Nat) (hi : i < n) (hj : j < n) (hij : i ≠ j) : D n (swapRows A i j) = - D n A := by
 have z : ∀ w, D n (set2 A i j w w) = 0 := fun w => D_rows_eq' n _ i j hi hj hij (fun c _ => by simp [set2, setRow])
 have c : ∀ w x, set2 A i j w x = setRow (setRow A j x) i w := fun w x => by
  funext a b; simp only [set2, setRow]
  by_cases e : a = i
  ·subst e; rw [if_neg hij, if_pos rfl, if_pos rfl]
  simp [e]
 have l1 : D n (set2 A i j (fun b => 1 * A i b + 1 * A j b) (fun b => 1 * A i b + 1 * A j b)) = 1 * D n (set2 A i j (fun b => 1 * A i b + 1 * A j b) (A i)) + 1 * D n (set2 A i j (fun b => 1 * A i b + 1 * A j b) (A j)) := D_row_lin n j hj _ 1 1 (A i) (A j)
 have l2 : ∀ x, D n (set2 A i j (fun b => 1 * A i b + 1 * A j b) x) = 1 * D n (set2 A i j (A i) x) + 1 * D n (set2 A i j (A j) x) := fun x => by
  rw [c, c, c]; exact D_row_lin n i hi _ 1 1 (A i) (A j)
 rw [z, l2, l2, z, z] at l1
 have e1 : set2 A i j (A i) (A j) = A := by
  funext a b; simp only [set2, setRow]; split
  ·subst a; rfl
  ·split
   ·subst a; rfl
   ·rfl
 have e2 : set2 A i j (A j) (A i) = swapRows A i j := by
  funext a b; simp only [set2, setRow, swapRows]
  by_cases e : a = i
  ·subst e; rw [if_neg hij, if_pos rfl, if_pos rfl]
  simp [e]
 rw [e1, e2] at l1
 omega
theorem D_col_lin (n c : Nat) (hc : c < n) (A : Nat → Nat → Int) (a b : Int) (u v : Nat → Int) :
  D n (setCol A c (fun i => a * u i + b * v i)) = a * D n (setCol A c u) + b * D n (setCol A c v) := by
 have e : ∀ w, D n (setCol A c w) = D n (setRow (fun i j => A j i) c w) := fun w => by
  rw [← D_transpose]; rfl
 rw [e, e, e]; exact D_row_lin n c hc _ a b u v
theorem D_col_sum (n c : Nat) (hc : c < n) (A : Nat → Nat → Int) (m : Nat) (d : Nat → Int) (F : Nat → Nat → Int) :
  D n (setCol A c (fun i => sm m (fun t => d t * F t i))) = sm m (fun t => d t * D n (setCol A c (F t))) := by
 have e : ∀ w, D n (setCol A c w) = D n (setRow (fun i j => A j i) c w) := fun w => by
  rw [← D_transpose]; rfl
 rw [e, D_row_sum n c hc]
 exact sm_congr (fun t _ => by rw [e])
theorem D_cols_eq (n : Nat) (A : Nat → Nat → Int) (i j : Nat) (hi : i < n) (hj : j < n) (hij : i ≠ j) (h : ∀ r, r < n → A r i = A r j) : D n A = 0 := by
 rw [← D_transpose]; exact D_rows_eq' n _ i j hi hj hij h
theorem D_one (n : Nat) : D n (fun i j => if i = j then 1 else 0) = 1 := by
 induction n with
 | zero => rfl
 | succ n ih =>
  simp only [D]
  rw [sm_one (r := 0) (by omega) (fun k _ hk => by rw [if_neg (by omega)]; simp)]
  rw [D_congr (B := fun i j => if i = j then 1 else 0) (fun i _ j _ => by rw [skip_zero]; simp), ih]; rfl
theorem D_block1 (k : Nat) (M : Nat → Nat → Int) (h : ∀ a, a < k → M a k = 0) : D (k + 1) M = D k M * M k k := by
 induction k generalizing M with
 | zero => simp [D, sm, sg]
 | succ k ih =>
  rw [show D (k + 1 + 1) M = sm (k + 1 + 1) (fun c => sg c * M 0 c * D (k + 1) (fun i j => M (i + 1) (skip c j))) from rfl]
  rw [show sm (k + 1 + 1) (fun c => sg c * M 0 c * D (k + 1) (fun i j => M (i + 1) (skip c j))) = sm (k + 1) (fun c => sg c * M 0 c * D (k + 1) (fun i j => M (i + 1) (skip c j))) + sg (k + 1) * M 0 (k + 1) * D (k + 1) (fun i j => M (i + 1) (skip (k + 1) j)) from rfl]
  rw [h 0 (by omega), Int.mul_zero, Int.zero_mul, Int.add_zero]
  rw [show D (k + 1) M = sm (k + 1) (fun c => sg c * M 0 c * D k (fun i j => M (i + 1) (skip c j))) from rfl, Int.mul_comm, ← sm_mul]
  refine sm_congr (fun c hc => ?_)
  have hs : ∀ b, c ≤ b → skip c b = b + 1 := fun b hb => by unfold skip; split <;> omega
  rw [ih _ (fun a ha => by rw [hs k (by omega)]; exact h (a + 1) (by omega)), hs k (by omega)]
  simp only [Int.mul_assoc, Int.mul_comm, Int.mul_left_comm]
theorem D_block2 (k : Nat) (M : Nat → Nat → Int) (h : ∀ a, a < k → M a k = 0 ∧ M a (k + 1) = 0) :
  D (k + 2) M = D k M * (M k k * M (k + 1) (k + 1) - M k (k + 1) * M (k + 1) k) := by
 induction k generalizing M with
 | zero => simp [D, sm, sg, skip, Int.sub_eq_add_neg, Int.neg_mul]
 | succ k ih =>
  rw [show D (k + 1 + 2) M = sm (k + 1) (fun c => sg c * M 0 c * D (k + 2) (fun i j => M (i + 1) (skip c j))) + sg (k + 1) * M 0 (k + 1) * D (k + 2) (fun i j => M (i + 1) (skip (k + 1) j)) + sg (k + 2) * M 0 (k + 2) * D (k + 2) (fun i j => M (i + 1) (skip (k + 2) j)) from rfl]
  rw [(h 0 (by omega)).1, (h 0 (by omega)).2]
  simp only [Int.mul_zero, Int.zero_mul, Int.add_zero]
  rw [show D (k + 1) M = sm (k + 1) (fun c => sg c * M 0 c * D k (fun i j => M (i + 1) (skip c j))) from rfl, Int.mul_comm (sm _ _), ← sm_mul]
  refine sm_congr (fun c hc => ?_)
  have hs : ∀ b, c ≤ b → skip c b = b + 1 := fun b hb => by unfold skip; split <;> omega
  rw [ih _ (fun a ha => by rw [hs k (by omega), hs (k + 1) (by omega)]; exact h (a + 1) (by omega)), hs k (by omega), hs (k + 1) (by omega)]
  simp only [Int.mul_assoc, Int.mul_comm, Int.mul_left_comm]
theorem sm_unit (n : Nat) (v : Nat → Int) (j : Nat) (hj : j < n) : sm n (fun t => v t * (if t = j then 1 else 0)) = v j := by
 rw [sm_one hj (fun i _ hn => by rw [if_neg hn, Int.mul_zero])]; simp
def B (A : Nat → Nat → Int) (k i j : Nat) : Int := D (k + 1) (fun a b => A (if a < k then a else i) (if b < k then b else j))
theorem B_diag (A : Nat → Nat → Int) (k : Nat) : B A k k k = D (k + 1) A := D_congr (fun a ha b hb => by
 rw [show (if a < k then a else k) = a from by split <;> omega, show (if b < k then b else k) = b from by split <;> omega])
theorem B_low (A : Nat → Nat → Int) (k i j : Nat) (hi : i < k) : B A k i j = 0 :=
 D_rows_eq' (k + 1) _ i k (by omega) (by omega) (by omega) (fun c _ => by simp [hi])
theorem B_solve (A : Nat → Nat → Int) (k j : Nat) : ∃ C : Nat → Int, ∀ i, D k A * A i j = sm k (fun c => C c * A i c) + B A k i j := by
 refine ⟨fun c => - D (k + 1) (setRow (fun a b => A a (if b < k then b else j)) k (fun b => if c = b then 1 else 0)), fun i => ?_⟩
 have e : B A k i j = D (k + 1) (setRow (fun a b => A a (if b < k then b else j)) k (fun b => sm (k + 1) (fun t => A i (if t < k then t else j) * (if t = b then 1 else 0)))) := D_congr (fun a ha b hb => by
  simp only [setRow]
  by_cases l : a = k
  ·subst l; rw [if_pos rfl, sm_unit _ _ _ hb, if_neg (by omega)]
  ·rw [if_neg l, if_pos (by omega)])
 rw [e, D_row_sum (k + 1) k (by omega)]
 have last : D (k + 1) (setRow (fun a b => A a (if b < k then b else j)) k (fun b => if k = b then 1 else 0)) = D k A := by
  rw [← D_transpose, D_block1]
  ·have : D k (fun a b => setRow (fun a b => A a (if b < k then b else j)) k (fun b => if k = b then 1 else 0) b a) = D k A := by
    rw [D_transpose]
    exact D_congr (fun a ha b hb => by simp only [setRow]; rw [if_neg (by omega), if_pos hb])
   rw [this]; simp [setRow]
  ·intro a ha; simp only [setRow]; rw [if_pos trivial, if_neg (by omega)]
 simp only [sm]
 rw [last]
 have : sm k (fun t => A i (if t < k then t else j) * D (k + 1) (setRow (fun a b => A a (if b < k then b else j)) k (fun b => if t = b then 1 else 0))) = - sm k (fun c => - D (k + 1) (setRow (fun a b => A a (if b < k then b else j)) k (fun b => if c = b then 1 else 0)) * A i c) := by
  rw [← sm_neg]
  refine sm_congr (fun t ht => ?_)
  rw [if_pos ht, Int.neg_mul, Int.neg_neg, Int.mul_comm]
 rw [this, if_neg (Nat.lt_irrefl k), Int.mul_comm (A i j)]; omega
theorem B_step (A : Nat → Nat → Int) (k i j : Nat) (hp : D k A ≠ 0) :
  D k A * B A (k + 1) i j = B A k k k * B A k i j - B A k i k * B A k k j := by
 obtain ⟨C1, h1⟩ := B_solve A k k
 obtain ⟨C2, h2⟩ := B_solve A k j
 let ro : Nat → Nat := fun a => if a < k + 1 then a else i
 let W : Nat → Nat → Int := fun a b => A (ro a) (if b < k + 1 then b else j)
 have hW : B A (k + 1) i j = D (k + 2) W := rfl
 let X : Nat → Int := fun a => B A k (ro a) k
 let Y : Nat → Int := fun a => B A k (ro a) j
 have s1 : D k A * D (k + 2) W = D (k + 2) (setCol W k X) := by
  have e0 : D (k + 2) (setCol W k (fun a => D k A * A (ro a) k + 0 * 0)) = D k A * D (k + 2) W := by
   rw [D_col_lin (k + 2) k (by omega) W (D k A) 0 (fun a => A (ro a) k) (fun _ => 0), Int.zero_mul, Int.add_zero]
   congr 1
   exact D_congr (fun a _ b _ => by
    simp only [setCol]; split
    ·subst b; show A (ro a) k = A (ro a) (if k < k + 1 then k else j); rw [if_pos (by omega)]
    ·rfl)
  have e1 : D (k + 2) (setCol W k (fun a => D k A * A (ro a) k + 0 * 0)) = D (k + 2) (setCol W k (fun a => 1 * sm k (fun c => C1 c * A (ro a) c) + 1 * X a)) := D_congr (fun a _ b _ => by
   simp only [setCol]; split
   ·rw [h1 (ro a)]; show _ = 1 * _ + 1 * B A k (ro a) k; omega
   ·rfl)
  rw [← e0, e1, D_col_lin (k + 2) k (by omega), D_col_sum (k + 2) k (by omega)]
  rw [sm_zero (fun c hc => by
   rw [D_cols_eq (k + 2) _ c k (by omega) (by omega) (by omega) (fun r _ => by
    simp only [setCol]; rw [if_neg (by omega), if_pos trivial]; show A (ro r) (if c < k + 1 then c else j) = _; rw [if_pos (by omega)]), Int.mul_zero])]
  omega
 have s2 : D k A * D (k + 2) (setCol W k X) = D (k + 2) (setCol (setCol W k X) (k + 1) Y) := by
  have e0 : D (k + 2) (setCol (setCol W k X) (k + 1) (fun a => D k A * A (ro a) j + 0 * 0)) = D k A * D (k + 2) (setCol W k X) := by
   rw [D_col_lin (k + 2) (k + 1) (by omega) (setCol W k X) (D k A) 0 (fun a => A (ro a) j) (fun _ => 0), Int.zero_mul, Int.add_zero]
   congr 1
   exact D_congr (fun a _ b _ => by
    simp only [setCol]; split
    ·subst b; rw [if_neg (by omega)]; show A (ro a) j = A (ro a) (if k + 1 < k + 1 then k + 1 else j); rw [if_neg (by omega)]
    ·rfl)
  have e1 : D (k + 2) (setCol (setCol W k X) (k + 1) (fun a => D k A * A (ro a) j + 0 * 0)) = D (k + 2) (setCol (setCol W k X) (k + 1) (fun a => 1 * sm k (fun c => C2 c * A (ro a) c) + 1 * Y a)) := D_congr (fun a _ b _ => by
   simp only [setCol]; split
   ·rw [h2 (ro a)]; show _ = 1 * _ + 1 * B A k (ro a) j; omega
   ·rfl)
  rw [← e0, e1, D_col_lin (k + 2) (k + 1) (by omega), D_col_sum (k + 2) (k + 1) (by omega)]
  rw [sm_zero (fun c hc => by
   rw [D_cols_eq (k + 2) _ c (k + 1) (by omega) (by omega) (by omega) (fun r _ => by
    simp only [setCol]; rw [if_neg (by omega), if_neg (by omega), if_pos trivial]; show A (ro r) (if c < k + 1 then c else j) = _; rw [if_pos (by omega)]), Int.mul_zero])]
  omega
 have s3 : D (k + 2) (setCol (setCol W k X) (k + 1) Y) = D k A * (X k * Y (k + 1) - Y k * X (k + 1)) := by
  rw [D_block2]
  ·have : D k (setCol (setCol W k X) (k + 1) Y) = D k A := D_congr (fun a ha b hb => by
    simp only [setCol]; rw [if_neg (by omega), if_neg (by omega)]; show A (if a < k + 1 then a else i) (if b < k + 1 then b else j) = _; rw [if_pos (by omega), if_pos (by omega)])
   rw [this]
   simp [setCol]
  ·intro a ha
   have hr : ro a = a := by show (if a < k + 1 then a else i) = a; rw [if_pos (by omega)]
   have h1 : ¬ k = k + 1 := by omega
   simp only [setCol, if_neg h1, if_true]
   constructor
   ·show B A k (ro a) k = 0; rw [hr]; exact B_low A k a k ha
   ·show B A k (ro a) j = 0; rw [hr]; exact B_low A k a j ha
 have hk : ro k = k := by show (if k < k + 1 then k else i) = k; rw [if_pos (by omega)]
 have hk1 : ro (k + 1) = i := by show (if k + 1 < k + 1 then k + 1 else i) = i; rw [if_neg (by omega)]
 have hX0 : X k = B A k k k := by show B A k (ro k) k = _; rw [hk]
 have hX1 : X (k + 1) = B A k i k := by show B A k (ro (k + 1)) k = _; rw [hk1]
 have hY0 : Y k = B A k k j := by show B A k (ro k) j = _; rw [hk]
 have hY1 : Y (k + 1) = B A k i j := by show B A k (ro (k + 1)) j = _; rw [hk1]
 rw [hX0, hX1, hY0, hY1] at s3
 rw [hW]
 have all : D k A * (D k A * D (k + 2) W) = D k A * (B A k k k * B A k i j - B A k k j * B A k i k) := by rw [s1, s2, s3]
 have := Int.eq_of_mul_eq_mul_left hp all
 rw [this, Int.mul_comm (B A k k j)]
theorem B_none (A : Nat → Nat → Int) (n k : Nat) (hk : k < n) (hp : D k A ≠ 0) (h : ∀ i, k ≤ i → i < n → B A k i k = 0) : D n A = 0 := by
 obtain ⟨C1, h1⟩ := B_solve A k k
 have e0 : D n (setCol A k (fun a => D k A * A a k + 0 * 0)) = D k A * D n A := by
  rw [D_col_lin n k hk A (D k A) 0 (fun a => A a k) (fun _ => 0), Int.zero_mul, Int.add_zero]
  congr 1
  exact D_congr (fun a _ b _ => by
   simp only [setCol]; split
   ·subst b; rfl
   ·rfl)
 have e1 : D n (setCol A k (fun a => D k A * A a k + 0 * 0)) = D n (setCol A k (fun a => sm k (fun c => C1 c * A a c))) := D_congr (fun a ha b _ => by
  simp only [setCol]; split
  ·have : B A k a k = 0 := by
    by_cases l : a < k
    ·exact B_low A k a k l
    exact h a (by omega) ha
   rw [h1 a, this]; omega
  ·rfl)
 have : D k A * D n A = 0 := by
  rw [← e0, e1, D_col_sum n k hk]
  exact sm_zero (fun c hc => by
   rw [D_cols_eq n _ c k (by omega) (by omega) (by omega) (fun r _ => by
    simp only [setCol]; rw [if_neg (by omega), if_pos trivial]), Int.mul_zero])
 rcases Int.mul_eq_zero.mp this with h | h
 ·exact absurd h hp
 ·exact h
def bd : Nat → Int
 | 0 => 1
 | n + 1 => (n + 1) * (10 * bd n)
theorem sm_bound (n : Nat) (f : Nat → Int) (b : Int) (h : ∀ i, i < n → -b ≤ f i ∧ f i ≤ b) : -(n * b) ≤ sm n f ∧ sm n f ≤ n * b := by
 induction n with
 | zero => simp [sm]
 | succ n ih =>
  have h1 := ih (fun i hi => h i (by omega))
  have h2 := h n (by omega)
  simp only [sm]
  rw [show ((n + 1 : Nat) : Int) * b = n * b + b from by rw [Int.natCast_add, Int.add_mul]; simp]
  omega
theorem mul_bound {x y a b : Int} (ha : -a ≤ x ∧ x ≤ a) (hb : -b ≤ y ∧ y ≤ b) : -(a * b) ≤ x * y ∧ x * y ≤ a * b := by
 have h : x.natAbs * y.natAbs ≤ a.natAbs * b.natAbs := Nat.mul_le_mul (by omega) (by omega)
 rw [← Int.natAbs_mul, ← Int.natAbs_mul] at h
 have : 0 ≤ a * b := Int.mul_nonneg (by omega) (by omega)
 omega
theorem term_bound {s x d b : Int} (hs : s = 1 ∨ s = -1) (hx : -10 ≤ x ∧ x ≤ 10) (hd : -b ≤ d ∧ d ≤ b) : -(10 * b) ≤ s * x * d ∧ s * x * d ≤ 10 * b := by
 refine mul_bound (a := 10) ?_ hd
 rcases hs with rfl | rfl <;> omega
theorem sg_or (k : Nat) : sg k = 1 ∨ sg k = -1 := by unfold sg; split <;> simp
theorem D_bound (n : Nat) (A : Nat → Nat → Int) (h : ∀ i j, i < n → j < n → -10 ≤ A i j ∧ A i j ≤ 10) : -(bd n) ≤ D n A ∧ D n A ≤ bd n := by
 induction n generalizing A with
 | zero => simp [D, bd]
 | succ n ih =>
  simp only [D, bd]
  have := sm_bound (n + 1) (fun k => sg k * A 0 k * D n (fun i j => A (i + 1) (skip k j))) (10 * bd n) (fun k hk =>
   term_bound (sg_or k) (h 0 k (by omega) hk) (ih _ (fun i j hi hj => h _ _ (by omega) (skip_lt hj))))
  simpa using this
end DetKit
end Go.Proofs.Ytdfabioienofhaa.M
namespace Go.Proofs.Ytdfabioienofhaa.M
set_option maxHeartbeats 8000000
set_option maxRecDepth 100000
open Go.RowKit Go.Proofs.Ytdfabioienofhaa.P Go.Proofs.Ytdfabioienofhaa.In Go.Proofs.YtdfabioienofhaaW.PrintWords Go.Proofs.YtdfabioienofhaaW.PrintLast
set_option linter.unusedVariables false
set_option linter.unusedSimpArgs false
open DetKit
def mat (m : List (List Int)) : Nat → Nat → Int := fun i j => rd (rd_L2 m (i : Int)) (j : Int)
structure Sq (n : Nat) (m : List (List Int)) : Prop where
 len : m.length = n
 rows : ∀ row ∈ m, row.length = n ∧ ∀ x ∈ row, -10 ≤ x ∧ x ≤ 10
theorem Sq.row {n : Nat} {m : List (List Int)} (h : Sq n m) {i : Nat} (hi : i < n) : (rd_L2 m (i : Int)).length = n := by
 have hl := h.len
 exact (h.rows (rd_L2 m (i : Int)) (by rw [rdL_at (by omega)]; exact List.getElem_mem _)).1
theorem Sq.bnd {n : Nat} {m : List (List Int)} (h : Sq n m) (i j : Nat) (hi : i < n) (hj : j < n) : -10 ≤ mat m i j ∧ mat m i j ≤ 10 := by
 have hl := h.len
 have hr := h.rows (rd_L2 m (i : Int)) (by rw [rdL_at (by omega)]; exact List.getElem_mem _)
 exact hr.2 _ (by unfold mat; rw [rd_at (by omega)]; exact List.getElem_mem _)
theorem bd_le6 {n : Nat} (h : n ≤ 6) : bd n ≤ 720000000 := by
 have : n = 0 ∨ n = 1 ∨ n = 2 ∨ n = 3 ∨ n = 4 ∨ n = 5 ∨ n = 6 := by omega
 rcases this with rfl | rfl | rfl | rfl | rfl | rfl | rfl <;> decide
theorem bd_le7 {n : Nat} (h : n ≤ 7) : bd n ≤ 50400000000 := by
 have : n = 0 ∨ n = 1 ∨ n = 2 ∨ n = 3 ∨ n = 4 ∨ n = 5 ∨ n = 6 ∨ n = 7 := by omega
 rcases this with rfl | rfl | rfl | rfl | rfl | rfl | rfl | rfl <;> decide
open DetKit
def decr : List Int → List Int → List Int
 | [], c => c
 | q :: row, c => decr row (c.set q.toNat (rd c q - 1))
theorem decr_len : ∀ (row c : List Int), (decr row c).length = c.length := by
 intro row
 induction row with
 | nil => intro c; rfl
 | cons q row ih => intro c; simp only [decr]; rw [ih]; simp
def lapRow (g : List (List Int)) (p : Nat) : List Int := decr (rd_L2 g (p : Int)) ((List.replicate g.length (0 : Int)).set p ((rd_L2 g (p : Int)).length : Int))
def lapFrom (g : List (List Int)) (sink : Nat) : Nat → Nat → List (List Int) → List (List Int)
 | 0, _, acc => acc
 | d + 1, i, acc => if i = sink then lapFrom g sink d (i + 1) acc else lapFrom g sink d (i + 1) (acc ++ [(lapRow g i).eraseIdx sink])
def lap (g : List (List Int)) (sink : Nat) : List (List Int) := lapFrom g sink g.length 0 []
def lowB (i : Nat) (c : List Int) : Prop := ∀ x ∈ c, -(i : Int) ≤ x ∧ x ≤ 5
theorem low_step {i : Nat} {c : List Int} (h : lowB i c) {q : Int} (h0 : 0 ≤ q) (h1 : q < (c.length : Int)) : -(i : Int) ≤ rd c q ∧ rd c q ≤ 5 ∧ lowB (i + 1) (c.set q.toNat (rd c q - 1)) := by
 have hq := h (rd c q) (by rw [rd_get h0 h1]; exact List.getElem_mem _)
 refine ⟨hq.1, hq.2, fun x hx => ?_⟩
 rcases List.mem_or_eq_of_mem_set hx with h2 | h2
 ·have := h x h2; omega
 ·subst h2; omega
theorem decr_low : ∀ (row c : List Int) (i : Nat), lowB i c → (∀ q ∈ row, 0 ≤ q ∧ q < (c.length : Int)) → lowB (i + row.length) (decr row c) := by
 intro row
 induction row with
 | nil => intro c i h _; exact h
 | cons q row ih =>
  intro c i h hr
  have hq := hr q (by simp)
  have := ih _ (i + 1) (low_step h hq.1 hq.2).2.2 (fun x hx => by have := hr x (by simp [hx]); simpa using this)
  simp only [decr]
  rw [show i + (q :: row).length = i + 1 + row.length by simp; omega]
  exact this
theorem low_start {n p len : Nat} (h : len ≤ 5) : lowB 0 ((List.replicate n (0 : Int)).set p (len : Int)) := by
 intro x hx
 rcases List.mem_or_eq_of_mem_set hx with h2 | h2
 ·have := List.eq_of_mem_replicate h2; omega
 ·omega
theorem lapRow_len (g : List (List Int)) (p : Nat) : (lapRow g p).length = g.length := by unfold lapRow; rw [decr_len]; simp
theorem lapRow_low {g : List (List Int)} (hg : goodG g = true) {p : Nat} (hp : p < g.length) : lowB 5 (lapRow g p) := by
 have hrow := (good_iff hg).2 (rd_L2 g (p : Int)) (by rw [rdL_at hp]; exact List.getElem_mem _)
 have := decr_low (rd_L2 g (p : Int)) ((List.replicate g.length (0 : Int)).set p ((rd_L2 g (p : Int)).length : Int)) 0 (low_start hrow.1) (fun q hq => by simpa using hrow.2 q hq)
 intro x hx
 have h2 := this x hx
 omega
theorem lapFrom_sq {g : List (List Int)} (hg : goodG g = true) {sink : Nat} (hs : sink < g.length) : ∀ (d i : Nat) (acc : List (List Int)), g.length - i = d → i ≤ g.length → (∀ row ∈ acc, row.length = g.length - 1 ∧ ∀ x ∈ row, -10 ≤ x ∧ x ≤ 10) → acc.length = (if sink < i then i - 1 else i) → (lapFrom g sink d i acc).length = g.length - 1 ∧ ∀ row ∈ lapFrom g sink d i acc, row.length = g.length - 1 ∧ ∀ x ∈ row, -10 ≤ x ∧ x ≤ 10 := by
 intro d
 induction d with
 | zero =>
  intro i acc hd hi ha hl
  rw [if_pos (by omega)] at hl
  exact ⟨by simp only [lapFrom]; omega, ha⟩
 | succ d ih =>
  intro i acc hd hi ha hl
  simp only [lapFrom]
  by_cases h : i = sink
  ·rw [if_pos h]
   refine ih (i + 1) acc (by omega) (by omega) ha ?_
   rw [if_neg (by omega)] at hl
   rw [if_pos (by omega)]; omega
  rw [if_neg h]
  refine ih (i + 1) _ (by omega) (by omega) (fun row hr => ?_) ?_
  ·rcases List.mem_append.1 hr with h2 | h2
   ·exact ha row h2
   ·simp at h2; subst h2
    have hlr := lapRow_len g i
    refine ⟨by rw [List.length_eraseIdx_of_lt (by omega)]; omega, fun x hx => ?_⟩
    have := lapRow_low hg (p := i) (by omega) x (List.mem_of_mem_eraseIdx hx)
    omega
  ·simp only [List.length_append, List.length_singleton, hl]
   by_cases h3 : sink < i
   ·rw [if_pos h3, if_pos (by omega)]; omega
   rw [if_neg h3, if_neg (by omega)]
theorem lap_sq {g : List (List Int)} (hg : goodG g = true) {sink : Nat} (hs : sink < g.length) : Sq (g.length - 1) (lap g sink) := by
 obtain ⟨a, b⟩ := lapFrom_sq hg hs g.length 0 [] (by omega) (by omega) (by simp) (by simp)
 exact ⟨a, b⟩
section
variable {g : List (List Int)} {r : List (List Int)}
theorem lapI_l1 (hg : goodG g = true) (sink p : Nat) (hs : sink < g.length) (hp : p < g.length) (acc : List (List Int)) (hacc : acc.length ≤ 8) (row : List Int) (h5 : row.length ≤ 5) (hr : ∀ q ∈ row, 0 ≤ q ∧ q < (g.length : Int)) :
  ∀ (d i : Nat) (c : List Int), row.length - i = d → i ≤ row.length → c.length = g.length → lowB i c → Ev (fun k => yk0.l0 k sink (acc ++ [(decr (row.drop i) c).eraseIdx sink]) g g.length ((p + 1 : Nat) : Int) g) r → Ev (fun k => yk0.l1 k sink acc c g g.length p row row.length i g) r := by
 have h8 := (good_iff hg).1.2
 intro d
 induction d with
 | zero =>
  intro i c hd hi hc hl h
  rw [List.drop_of_length_le (by omega)] at h
  refine Ev.succ ?_
  simp only [yk0.l1]
  refine Ev.neg (by omega) (Ev.bind0 (a := c.eraseIdx sink) ?_ (Ev.pos (by omega) ?_))
  ·unfold yh2.f
   rw [wrap_nat (by omega), if_pos (by omega), if_pos (by omega), if_pos (by omega), Int.toNat_natCast]
  ·rw [wrap_nat (n := p) (by omega)]
   exact h
 | succ d ih =>
  intro i c hd hi hc hl h
  have hlt : i < row.length := by omega
  have hq := hr (rd row i) (by rw [rd_at hlt]; exact List.getElem_mem _)
  obtain ⟨s1, s2, s3⟩ := low_step hl hq.1 (by rw [hc]; exact hq.2)
  rw [drop_rd hlt] at h
  simp only [decr] at h
  refine Ev.succ ?_
  simp only [yk0.l1]
  refine Ev.pos (by omega) (Ev.pos (by omega) (Ev.pos (by omega) (Ev.pos hq.1 (Ev.pos (by omega) ?_))))
  rw [wrap_id (x := rd c (rd row i) - 1) (by omega), wrap_nat (n := i) (by omega)]
  exact ih (i + 1) _ (by omega) (by omega) (by simp; exact hc) s3 h
theorem lapI_l0 (hg : goodG g = true) (sink : Nat) (hs : sink < g.length) : ∀ (d i : Nat) (acc : List (List Int)), g.length - i = d → i ≤ g.length → acc.length ≤ i → Ev (fun k => yk0.l0 k sink acc g g.length i g) (lapFrom g sink d i acc) := by
 have h8 := (good_iff hg).1.2
 intro d
 induction d with
 | zero =>
  intro i acc hd hi ha
  refine Ev.succ ?_
  simp only [yk0.l0, lapFrom]
  exact Ev.neg (by omega) (Ev.now _)
 | succ d ih =>
  intro i acc hd hi ha
  have hrow := (good_iff hg).2 (rd_L2 g (i : Int)) (by rw [rdL_at (by omega)]; exact List.getElem_mem _)
  refine Ev.succ ?_
  simp only [yk0.l0, lapFrom]
  refine Ev.pos (by omega) (Ev.pos (by omega) (Ev.pos (by omega) ?_))
  by_cases h : i = sink
  ·rw [if_pos h]
   refine Ev.pos (by omega) ?_
   rw [wrap_nat (by omega)]
   exact ih (i + 1) acc (by omega) (by omega) (by omega)
  rw [if_neg h]
  refine Ev.neg (by omega) (Ev.pos (by omega) (Ev.pos (by omega) (Ev.bind0 rfl (Ev.pos (by simp; omega) ?_))))
  rw [Int.toNat_natCast, Int.toNat_natCast]
  refine lapI_l1 hg sink i hs (by omega) acc (by omega) (rd_L2 g (i : Int)) hrow.1 hrow.2 _ 0 _ rfl (by omega) (by simp) (low_start hrow.1) ?_
  exact ih (i + 1) _ (by omega) (by omega) (by simp; omega)
theorem laplace_ev (hg : goodG g = true) {sink : Int} (h0 : 0 ≤ sink) (h1 : sink < (g.length : Int)) : Ev (fun k => yk0.f k g sink) (lap g sink.toNat) := by
 unfold yk0.f lap
 have := lapI_l0 hg sink.toNat (by omega) g.length 0 [] (by omega) (by omega) (by simp)
 rw [Int.toNat_of_nonneg h0] at this
 exact this
end
theorem pigeon : ∀ (n : Nat) (l : List Int), l.Nodup → (∀ x ∈ l, 0 ≤ x ∧ x < (n : Int)) → l.length ≤ n
 | 0, l, _, h => by
  cases l with
  | nil => simp
  | cons x l => have := h x (by simp); omega
 | n + 1, l, hn, h => by
  have h1 := pigeon n (l.erase (n : Int)) (hn.erase _) (fun x hx => by
   have hx' := hn.mem_erase_iff.1 hx
   have h2 := h x hx'.2
   have h3 := hx'.1
   omega)
  by_cases hm : (n : Int) ∈ l
  ·have := List.length_erase_of_mem hm; omega
  rw [List.erase_of_not_mem hm] at h1; omega
def it (f : Int → Int) : Nat → Int → Int
 | 0, p => p
 | i + 1, p => it f i (f p)
theorem it_succ (f : Int → Int) (i : Nat) (p : Int) : it f (i + 1) p = f (it f i p) := by
 induction i generalizing p with
 | zero => rfl
 | succ i ih => rw [it, ih]; rfl
theorem it_add (f : Int → Int) (i j : Nat) (p : Int) : it f (i + j) p = it f j (it f i p) := by
 induction i generalizing p with
 | zero => simp [it]
 | succ i ih => rw [Nat.succ_add, it, ih]; rfl
def orb (f : Int → Int) (p : Int) (m : Nat) : List Int := (List.range m).map fun j => it f j p
theorem orb_len (f : Int → Int) (p : Int) (m : Nat) : (orb f p m).length = m := by simp [orb]
theorem orb_mem {f : Int → Int} {p x : Int} {m : Nat} : x ∈ orb f p m ↔ ∃ j, j < m ∧ it f j p = x := by simp [orb]
theorem orb_get {f : Int → Int} {p : Int} {m j : Nat} (h : j < m) : (orb f p m)[j]'(by rw [orb_len]; exact h) = it f j p := by simp [orb]
theorem orb_inj {f : Int → Int} {p : Int} {m i j : Nat} (hn : (orb f p m).Nodup) (hi : i < m) (hj : j < m) (h : it f i p = it f j p) : i = j := by
 have h1 : (orb f p m)[i]'(by rw [orb_len]; exact hi) = (orb f p m)[j]'(by rw [orb_len]; exact hj) := by rw [orb_get hi, orb_get hj, h]
 exact (List.getElem_inj hn).1 h1
structure Rho (f : Int → Int) (n : Nat) (p : Int) (s per : Nat) : Prop where
 pos : 0 < per
 le : s + per ≤ n
 nodup : (orb f p (s + per)).Nodup
 back : it f per (it f s p) = it f s p
theorem Rho.all {f : Int → Int} {n : Nat} {p : Int} {s per : Nat} (h : Rho f n p s per) (j : Nat) : it f j p ∈ orb f p (s + per) := by
 induction j with
 | zero => exact orb_mem.2 ⟨0, by have := h.pos; omega, rfl⟩
 | succ j ih =>
  obtain ⟨m, hm, he⟩ := orb_mem.1 ih
  rw [it_succ, ← he, ← it_succ f m p]
  by_cases h2 : m + 1 < s + per
  ·exact orb_mem.2 ⟨m + 1, h2, rfl⟩
  have h3 : m + 1 = s + per := by omega
  rw [h3, it_add, h.back]
  exact orb_mem.2 ⟨s, by have := h.pos; omega, rfl⟩
theorem Rho.far {f : Int → Int} {n : Nat} {p : Int} {s per : Nat} (h : Rho f n p s per) (j : Nat) : it f (s + j + per) p = it f (s + j) p := by
 rw [show s + j + per = s + per + j by omega, it_add f (s + per), it_add f s per, h.back, ← it_add]
theorem Rho.out {f : Int → Int} {n : Nat} {p : Int} {s per : Nat} (h : Rho f n p s per) {i : Nat} (hi : i < s) : it f i p ∉ orb f (it f s p) per := by
 intro hm
 obtain ⟨m, hm, he⟩ := orb_mem.1 hm
 rw [← it_add] at he
 have := orb_inj (i := s + m) (j := i) h.nodup (by omega) (by omega) he
 omega
def rotB : List Int → List (List Int) → Bool
 | r :: rs, row :: rows => (decide (0 ≤ r) && decide (r ≤ if (row.length : Int) - 1 < 0 then 0 else (row.length : Int) - 1)) && rotB rs rows
 | _, _ => true
def nx (g : List (List Int)) (rot : List Int) (p : Int) : Int := if ((rd_L2 g p).length : Int) = 0 then -1 else rd (rd_L2 g p) (rd rot p)
theorem rot_at : ∀ (rot : List Int) (g : List (List Int)), rotB rot g = true → ∀ (i : Nat) (h1 : i < rot.length) (h2 : i < g.length), 0 ≤ rot[i] ∧ (rot[i] < (g[i].length : Int) ∨ rot[i] = 0) := by
 intro rot
 induction rot with
 | nil => intro g h i h1; simp at h1
 | cons r rot ih =>
  intro g h i h1 h2
  cases g with
  | nil => simp at h2
  | cons row g =>
   simp only [rotB, Bool.and_eq_true, decide_eq_true_eq] at h
   cases i with
   | zero =>
    simp only [List.getElem_cons_zero]
    have := h.1; unfold mx at this; split at this <;> omega
   | succ i =>
    simp only [List.getElem_cons_succ]
    exact ih g h.2 i (by simpa using h1) (by simpa using h2)
theorem rot_rd {g : List (List Int)} {rot : List Int} (hr : rotB rot g = true) (hl : rot.length = g.length) {p : Int} (h0 : 0 ≤ p) (h1 : p < (g.length : Int)) : 0 ≤ rd rot p ∧ (((rd_L2 g p).length : Int) = 0 ∨ rd rot p < ((rd_L2 g p).length : Int)) := by
 have := rot_at rot g hr p.toNat (by omega) (by omega)
 rw [rd_get h0 (by omega), rdL_get h0 h1]
 omega
theorem nx_lt {g : List (List Int)} (hg : goodG g = true) {rot : List Int} (hr : rotB rot g = true) (hl : rot.length = g.length) {p : Int} (h0 : 0 ≤ p) (h1 : p < (g.length : Int)) : nx g rot p < (g.length : Int) ∧ -1 ≤ nx g rot p := by
 obtain ⟨a, b⟩ := rot_rd hr hl h0 h1
 have hrow := ((good_iff hg).2 (rd_L2 g p) (by rw [rdL_get h0 h1]; exact List.getElem_mem _)).2
 unfold nx
 split
 ·omega
 ·have := hrow (rd (rd_L2 g p) (rd rot p)) (by rw [rd_get a (by omega)]; exact List.getElem_mem _)
  omega
structure Rot (g : List (List Int)) (rot : List Int) : Prop where
 good : goodG g = true
 rb : rotB rot g = true
 len : rot.length = g.length
theorem Rot.it_ok {g : List (List Int)} {rot : List Int} (h : Rot g rot) {p : Int} (h0 : 0 ≤ p) (h1 : p < (g.length : Int)) : ∀ i, (∀ j, j < i → 0 ≤ nx g rot (it (nx g rot) j p)) → 0 ≤ it (nx g rot) i p ∧ it (nx g rot) i p < (g.length : Int) := by
 intro i
 induction i with
 | zero => intro _; exact ⟨h0, h1⟩
 | succ i ih =>
  intro ha
  obtain ⟨a, b⟩ := ih (fun j hj => ha j (by omega))
  rw [it_succ]
  exact ⟨ha i (by omega), (nx_lt h.good h.rb h.len a b).1⟩
theorem Rot.orb_ok {g : List (List Int)} {rot : List Int} (h : Rot g rot) {p : Int} (h0 : 0 ≤ p) (h1 : p < (g.length : Int)) {i : Nat} (ha : ∀ j, j + 1 < i → 0 ≤ nx g rot (it (nx g rot) j p)) : ∀ x ∈ orb (nx g rot) p i, 0 ≤ x ∧ x < (g.length : Int) := by
 intro x hx
 obtain ⟨j, hj, rfl⟩ := orb_mem.1 hx
 exact h.it_ok h0 h1 j (fun m hm => ha m (by omega))
structure Hit (f : Int → Int) (sink p : Int) (m : Nat) : Prop where
 at_ : it f m p = sink
 on : ∀ j, j < m → it f j p ≠ sink ∧ 0 ≤ f (it f j p)
theorem Hit.uniq {f : Int → Int} {sink p : Int} {m m' : Nat} (h : Hit f sink p m) (h' : Hit f sink p m') : m = m' := by
 rcases Nat.lt_trichotomy m m' with h2 | h2 | h2
 ·exact absurd h.at_ (h'.on m h2).1
 ·exact h2
 ·exact absurd h'.at_ (h.on m' h2).1
theorem Hit.nodup {f : Int → Int} {sink p : Int} {m : Nat} (h : Hit f sink p m) : (orb f p (m + 1)).Nodup := by
 unfold orb
 rw [List.nodup_iff_pairwise_ne, List.pairwise_map]
 refine List.Pairwise.imp_of_mem ?_ (List.pairwise_lt_range (n := m + 1))
 intro i j hi hj hlt he
 have hj2 : j < m + 1 := List.mem_range.1 hj
 have : it f (i + (m - j)) p = sink := by
  rw [it_add, he, ← it_add, show j + (m - j) = m by omega]; exact h.at_
 exact (h.on (i + (m - j)) (by omega)).1 this
theorem Hit.lt {g : List (List Int)} {rot : List Int} (hr : Rot g rot) {sink p : Int} (h0 : 0 ≤ p) (h1 : p < (g.length : Int)) {m : Nat} (h : Hit (nx g rot) sink p m) : m < g.length := by
 have := pigeon g.length _ h.nodup (hr.orb_ok h0 h1 (fun j hj => (h.on j (by omega)).2))
 rw [orb_len] at this; omega
open Classical in
noncomputable def dst (f : Int → Int) (sink p : Int) : Int := if h : ∃ m, Hit f sink p m then ((Classical.choose h : Nat) : Int) else -1
theorem dst_hit {f : Int → Int} {sink p : Int} {m : Nat} (h : Hit f sink p m) : dst f sink p = m := by
 have he : ∃ m, Hit f sink p m := ⟨m, h⟩
 unfold dst
 rw [dif_pos he]
 have := h.uniq (Classical.choose_spec he)
 omega
theorem dst_no {f : Int → Int} {sink p : Int} (h : ¬ ∃ m, Hit f sink p m) : dst f sink p = -1 := by unfold dst; rw [dif_neg h]
noncomputable def allFrom (g : List (List Int)) (rot : List Int) (sink : Int) : Nat → Nat → Bool
 | 0, _ => true
 | d + 1, i => if dst (nx g rot) sink i < 0 then false else allFrom g rot sink d (i + 1)
noncomputable def treeB (g : List (List Int)) (rot : List Int) (sink : Int) : Bool := allFrom g rot sink g.length 0
def lexL (g : List (List Int)) (s : Int) : Nat → Nat → List Int → List (List Int)
 | 0, _, r => [r]
 | d + 1, p, r => if (p : Int) = s then lexL g s d (p + 1) r else (List.range (max 1 (rd_L2 g (p : Int)).length)).flatMap fun (k : Nat) => lexL g s d (p + 1) (r.set p (k : Int))
structure Goes (f : Int → Int) (s p q : Int) (m : Nat) : Prop where
 at_ : it f m q = s ∨ p < it f m q
 on : ∀ j, j < m → it f j q ≠ s ∧ it f j q ≤ p ∧ 0 ≤ f (it f j q)
open Classical in
noncomputable def loopsB (g : List (List Int)) (r : List Int) (s p : Int) : Bool := !decide (∃ m, Goes (nx g r) s p p m)
noncomputable def trL (g : List (List Int)) (s : Int) : Nat → Nat → List Int → List (List Int)
 | 0, _, r => [r]
 | d + 1, p, r => if (p : Int) = s then trL g s d (p + 1) r else (List.range (rd_L2 g (p : Int)).length).flatMap fun (k : Nat) => if loopsB g (r.set p (k : Int)) s p then [] else trL g s d (p + 1) (r.set p (k : Int))
theorem nx_congr {g : List (List Int)} {r r2 : List Int} {q : Int} (h : rd r q = rd r2 q) : nx g r q = nx g r2 q := by unfold nx; rw [h]
theorem it_congr {f f2 : Int → Int} {P q : Int} : ∀ (m : Nat), (∀ j, j < m → f (it f j q) = f2 (it f j q)) → it f m q = it f2 m q := by
 intro m
 induction m with
 | zero => intro _; rfl
 | succ m ih =>
  intro h
  rw [it_succ, it_succ, ← ih (fun j hj => h j (by omega)), h m (by omega)]
theorem Goes.congr {f f2 : Int → Int} {s p q : Int} {m : Nat} (h : Goes f s p q m) (he : ∀ x, 0 ≤ x → x ≤ p → f x = f2 x) (h0 : ∀ j, j < m → 0 ≤ it f j q) : Goes f2 s p q m := by
 have e : ∀ j, j ≤ m → it f j q = it f2 j q := fun j hj => it_congr (P := p) j (fun i hi => he _ (h0 i (by omega)) (h.on i (by omega)).2.1)
 refine ⟨by rw [← e m (Nat.le_refl m)]; exact h.at_, fun j hj => ?_⟩
 rw [← e j (by omega), ← he _ (h0 j hj) (h.on j hj).2.1]
 exact h.on j hj
theorem Rot.pos {g : List (List Int)} {rot : List Int} (h : Rot g rot) {q : Int} (h0 : 0 ≤ q) (h1 : q < (g.length : Int)) {m : Nat} (hm : ∀ j, j < m → 0 ≤ nx g rot (it (nx g rot) j q)) : ∀ j, j ≤ m → 0 ≤ it (nx g rot) j q ∧ it (nx g rot) j q < (g.length : Int) := fun j hj => h.it_ok h0 h1 j (fun i hi => hm i (by omega))
theorem rotB_of : ∀ (rot : List Int) (g : List (List Int)), (∀ (i : Nat) (h1 : i < rot.length) (h2 : i < g.length), 0 ≤ rot[i] ∧ (rot[i] < (g[i].length : Int) ∨ rot[i] = 0)) → rotB rot g = true := by
 intro rot
 induction rot with
 | nil => intro g _; unfold rotB; rfl
 | cons r rot ih =>
  intro g h
  cases g with
  | nil => unfold rotB; rfl
  | cons row g =>
   simp only [rotB, Bool.and_eq_true, decide_eq_true_eq]
   refine ⟨?_, ih g (fun i h1 h2 => ?_)⟩
   ·have := h 0 (by simp) (by simp)
    simp only [List.getElem_cons_zero] at this
    split <;> omega
   ·have := h (i + 1) (by simpa using h1) (by simpa using h2)
    simpa using this
theorem Rot.set {g : List (List Int)} {r : List Int} (h : Rot g r) {p : Nat} (hp : p < g.length) {k : Int} (k0 : 0 ≤ k) (k1 : k < ((rd_L2 g (p : Int)).length : Int) ∨ k = 0) : Rot g (r.set p k) := by
 have hl := h.len
 refine ⟨h.good, ?_, by simp [hl]⟩
 refine rotB_of _ _ (fun i h1 h2 => ?_)
 rw [List.getElem_set]
 split
 ·rename_i e
  subst e
  rw [rdL_at hp] at k1
  exact ⟨k0, k1⟩
 ·exact rot_at r g h.rb i (by simpa using h1) h2
theorem rd_set_nat {o : List Int} {p : Nat} (hp : p < o.length) {x v : Int} (hx : 0 ≤ x) : rd (o.set p v) x = if x = (p : Int) then v else rd o x := by
 have := rd_set (o := o) (q := (p : Int)) (x := x) (v := v) (by omega) (by omega) hx
 simpa using this
theorem mem_lexL {g : List (List Int)} (s : Int) : ∀ (d p : Nat) (r r2 : List Int), p + d = g.length → Rot g r → r2 ∈ lexL g s d p r → Rot g r2 ∧ ∀ i : Int, 0 ≤ i → i < (p : Int) → rd r2 i = rd r i := by
 intro d
 induction d with
 | zero =>
  intro p r r2 hp hr hm
  simp only [lexL, List.mem_singleton] at hm
  subst hm
  exact ⟨hr, fun _ _ _ => rfl⟩
 | succ d ih =>
  intro p r r2 hp hr hm
  simp only [lexL] at hm
  by_cases hs : (p : Int) = s
  ·rw [if_pos hs] at hm
   obtain ⟨h1, h2⟩ := ih (p + 1) r r2 (by omega) hr hm
   exact ⟨h1, fun i h0 hi => h2 i h0 (by omega)⟩
  rw [if_neg hs, List.mem_flatMap] at hm
  obtain ⟨k, hk, hm⟩ := hm
  rw [List.mem_range] at hk
  have hrk := hr.set (p := p) (by omega) (k := (k : Int)) (by omega) (by omega)
  obtain ⟨h1, h2⟩ := ih (p + 1) _ r2 (by omega) hrk hm
  refine ⟨h1, fun i h0 hi => ?_⟩
  rw [h2 i h0 (by omega), rd_set_nat (by have := hr.len; omega) h0, if_neg (by omega)]
theorem allFrom_iff {g : List (List Int)} {rot : List Int} {s : Int} : ∀ (d i : Nat), allFrom g rot s d i = true ↔ ∀ j, i ≤ j → j < i + d → ∃ m, Hit (nx g rot) s (j : Int) m := by
 intro d
 induction d with
 | zero => intro i; simp only [allFrom, true_iff]; intro j h1 h2; omega
 | succ d ih =>
  intro i
  simp only [allFrom]
  by_cases h : ∃ m, Hit (nx g rot) s (i : Int) m
  rotate_left
  ·rw [if_pos (by rw [dst_no h]; omega)]
   constructor
   ·intro h; cases h
   ·intro h2; exact absurd (h2 i (Nat.le_refl i) (by omega)) h
  obtain ⟨m, hm⟩ := h
  rw [if_neg (by rw [dst_hit hm]; omega), ih]
  constructor
  ·intro h j h1 h2
   by_cases e : j = i
   ·subst e; exact ⟨m, hm⟩
   exact h j (by omega) (by omega)
  ·intro h j h1 h2; exact h j (by omega) (by omega)
theorem treeB_iff {g : List (List Int)} {rot : List Int} {s : Int} : treeB g rot s = true ↔ ∀ j, j < g.length → ∃ m, Hit (nx g rot) s (j : Int) m := by
 unfold treeB
 rw [allFrom_iff]
 exact ⟨fun h j hj => h j (by omega) (by omega), fun h j _ hj => h j (by omega)⟩
theorem goes_of_hit {f : Int → Int} {s p q : Int} : ∀ (m : Nat), Hit f s q m → ∃ m2, m2 ≤ m ∧ Goes f s p q m2 := by
 intro m h
 have key : ∀ d i, m - i = d → i ≤ m → (∀ j, j < i → it f j q ≠ s ∧ it f j q ≤ p ∧ 0 ≤ f (it f j q)) → ∃ m2, m2 ≤ m ∧ Goes f s p q m2 := by
  intro d
  induction d with
  | zero =>
   intro i hd hi ha
   obtain rfl : i = m := by omega
   exact ⟨i, Nat.le_refl i, .inl h.at_, ha⟩
  | succ d ih =>
   intro i hd hi ha
   by_cases hp : p < it f i q
   ·exact ⟨i, hi, .inr hp, ha⟩
   refine ih (i + 1) (by omega) (by omega) (fun j hj => ?_)
   rcases Nat.lt_or_ge j i with h2 | h2
   ·exact ha j h2
   ·obtain rfl : j = i := by omega
    exact ⟨(h.on j (by omega)).1, by omega, (h.on j (by omega)).2⟩
 exact key m 0 (by omega) (by omega) (fun j hj => by omega)
theorem Goes.append {f : Int → Int} {s p q : Int} {m m2 : Nat} (h : ∀ j, j < m → it f j q ≠ s ∧ it f j q ≤ p ∧ 0 ≤ f (it f j q)) (h2 : Goes f s p (it f m q) m2) : Goes f s p q (m + m2) := by
 refine ⟨by rw [it_add]; exact h2.at_, fun j hj => ?_⟩
 rcases Nat.lt_or_ge j m with h3 | h3
 ·exact h j h3
 ·have := h2.on (j - m) (by omega)
  rw [← it_add, show m + (j - m) = j by omega] at this
  exact this
def Inv (g : List (List Int)) (s : Int) (r : List Int) (p : Nat) : Prop := ∀ q : Int, 0 ≤ q → q < (p : Int) → q ≠ s → ∃ m, Goes (nx g r) s ((p : Int) - 1) q m
theorem filter_flat {α β : Type} (T : β → Bool) (F : α → List β) (xs : List α) : (xs.flatMap F).filter T = xs.flatMap fun x => (F x).filter T := by
 induction xs with
 | nil => rfl
 | cons x xs ih => simp only [List.flatMap_cons, List.filter_append, ih]
theorem flat_congr {α β : Type} {F G : α → List β} : ∀ (xs : List α), (∀ x, x ∈ xs → F x = G x) → xs.flatMap F = xs.flatMap G := by
 intro xs
 induction xs with
 | nil => intro _; rfl
 | cons x xs ih => intro h; simp only [List.flatMap_cons]; rw [h x (by simp), ih (fun y hy => h y (by simp [hy]))]
theorem filter_lexL {g : List (List Int)} {s : Int} (hs0 : 0 ≤ s) (hs1 : s < (g.length : Int)) : ∀ (d p : Nat) (r : List Int), p + d = g.length → Rot g r → Inv g s r p → (lexL g s d p r).filter (fun r => treeB g r s) = trL g s d p r := by
 intro d
 induction d with
 | zero =>
  intro p r hp hr hi
  simp only [lexL, trL]
  rw [List.filter_cons_of_pos]
  ·rfl
  ·rw [treeB_iff]
   intro j hj
   by_cases hjs : (j : Int) = s
   ·exact ⟨0, hjs, fun i hi => by omega⟩
   obtain ⟨m, hm⟩ := hi (j : Int) (by omega) (by omega) hjs
   have hb := hr.pos (q := (j : Int)) (by omega) (by omega) (fun i hi => (hm.on i hi).2.2) m (Nat.le_refl m)
   refine ⟨m, ?_, fun i hi => ⟨(hm.on i hi).1, (hm.on i hi).2.2⟩⟩
   rcases hm.at_ with e | e
   ·exact e
   ·omega
 | succ d ih =>
  intro p r hp hr hi
  simp only [lexL, trL]
  by_cases hs : (p : Int) = s
  ·rw [if_pos hs, if_pos hs]
   refine ih (p + 1) r (by omega) hr (fun q q0 q1 qs => ?_)
   obtain ⟨m, hm⟩ := hi q q0 (by omega) qs
   refine ⟨m, ?_, fun j hj => ⟨(hm.on j hj).1, by have := (hm.on j hj).2.1; omega, (hm.on j hj).2.2⟩⟩
   rcases hm.at_ with e | e
   ·exact .inl e
   ·by_cases e2 : it (nx g r) m q = s
    ·exact .inl e2
    exact .inr (by omega)
  rw [if_neg hs, if_neg hs, filter_flat]
  have hl := hr.len
  by_cases hlen : (rd_L2 g (p : Int)).length = 0
  ·rw [hlen]
   show (List.range 1).flatMap _ = []
   rw [show List.range 1 = [0] from rfl, List.flatMap_cons, List.flatMap_nil, List.append_nil, List.filter_eq_nil_iff]
   intro r2 hm hT
   obtain ⟨m, hh⟩ := treeB_iff.1 hT p (by omega)
   cases m with
   | zero => exact hs hh.at_
   | succ m =>
    have := (hh.on 0 (by omega)).2
    simp only [it] at this
    unfold nx at this
    rw [if_pos (by omega)] at this
    omega
  rw [show max 1 (rd_L2 g (p : Int)).length = (rd_L2 g (p : Int)).length by omega]
  refine flat_congr _ (fun k hk => ?_)
  rw [List.mem_range] at hk
  have hrk := hr.set (p := p) (by omega) (k := (k : Int)) (by omega) (.inl (by omega))
  by_cases hloop : loopsB g (r.set p (k : Int)) s p = true
  ·rw [if_pos hloop, List.filter_eq_nil_iff]
   intro r2 hm hT
   obtain ⟨hr2, hag⟩ := mem_lexL s d (p + 1) _ r2 (by omega) hrk hm
   obtain ⟨m, hh⟩ := treeB_iff.1 hT p (by omega)
   obtain ⟨m2, hm2, hgo⟩ := goes_of_hit (p := (p : Int)) m hh
   have hpos := hr2.pos (q := (p : Int)) (by omega) (by omega) (fun i hi => (hh.on i hi).2)
   have := hgo.congr (f2 := nx g (r.set p (k : Int))) (fun x x0 x1 => nx_congr (hag x x0 (by omega))) (fun j hj => (hpos j (by omega)).1)
   unfold loopsB at hloop
   simp only [Bool.not_eq_true', decide_eq_false_iff_not] at hloop
   exact hloop ⟨m2, this⟩
  rw [if_neg hloop]
  have hgo : ∃ m, Goes (nx g (r.set p (k : Int))) s p p m := by
   unfold loopsB at hloop
   simpa using hloop
  refine ih (p + 1) _ (by omega) hrk (fun q q0 q1 qs => ?_)
  rw [show ((p + 1 : Nat) : Int) - 1 = (p : Int) by omega]
  by_cases hq : q = (p : Int)
  ·rw [hq]; exact hgo
  obtain ⟨m, hm⟩ := hi q q0 (by omega) qs
  have hpos := hr.pos (q := q) q0 (by omega) (fun i hi => (hm.on i hi).2.2)
  have hm2 := hm.congr (f2 := nx g (r.set p (k : Int))) (fun x x0 x1 => nx_congr (by rw [rd_set_nat (by omega) x0, if_neg (by omega)])) (fun j hj => (hpos j (by omega)).1)
  have hon : ∀ j, j < m → it (nx g (r.set p (k : Int))) j q ≠ s ∧ it (nx g (r.set p (k : Int))) j q ≤ p ∧ 0 ≤ nx g (r.set p (k : Int)) (it (nx g (r.set p (k : Int))) j q) := fun j hj => ⟨(hm2.on j hj).1, by have := (hm2.on j hj).2.1; omega, (hm2.on j hj).2.2⟩
  rcases hm2.at_ with e | e
  ·exact ⟨m, .inl e, hon⟩
  ·by_cases e2 : it (nx g (r.set p (k : Int))) m q = (p : Int)
   rotate_left
   ·exact ⟨m, .inr (by omega), hon⟩
   obtain ⟨m3, hg3⟩ := hgo
   exact ⟨m + m3, Goes.append hon (by rw [e2]; exact hg3)⟩
theorem inv0 (g : List (List Int)) (s : Int) (r : List Int) : Inv g s r 0 := fun q h0 h1 => by omega
theorem rot0 {g : List (List Int)} (hg : goodG g = true) : Rot g (List.replicate g.length 0) := by
 refine ⟨hg, rotB_of _ _ (fun i h1 h2 => by simp), by simp⟩
end Go.Proofs.Ytdfabioienofhaa.M
