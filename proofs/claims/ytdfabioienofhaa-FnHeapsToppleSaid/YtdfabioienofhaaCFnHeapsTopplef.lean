/- Texts of this session on the way to the law FnHeapsTopple, part 6: words of the print, walks, plain laws; only what the law's proof uses. -/
import Derived.Test.YtdfabioienofhaaCFnHeapsTopplea
import Derived.Test.YtdfabioienofhaaCFnHeapsToppled
import Derived.Test.YtdfabioienofhaaCFnHeapsTopplec
import Derived.Test.YtdfabioienofhaaCFnHeapsTopplee
import Derived.WalkKit
import Derived.ProofKit
import Derived.OpenShut
import Derived.ShutString
import Derived.ChangeOld
import Derived.Below
import Derived.SizedLaws
import Derived.Deep.Matrix
import Derived.Lib.SmallJoins
namespace Go.Proofs.Ytdfabioienofhaa.P
set_option maxHeartbeats 8000000
set_option maxRecDepth 100000
open Go.RowKit Go.Proofs.YtdfabioienofhaaW.PrintWords Go.Proofs.YtdfabioienofhaaW.PrintLast Go.Proofs.YtdfabioienofhaaW.PrintMore
attribute [local go_sem] zx0 zu0 max_two min_two zt0 zs0 zw0 zv0
set_option linter.unusedVariables false
set_option linter.unusedSimpArgs false
def yy0.f (k : Nat) (l0_0 : List (List Int)) (a1 : Int) (l2 : List Int) : Option (Bool × Bool) := (yq0.f k l0_0 a1 l2).bind fun t466 => (if t466 = true then ((ym0.f k l0_0 a1 l2).bind fun t467 => (some (decide (t467 < 0), true))) else (some (false, false)))
theorem yy0.mono : ∀ a0 a1 a2 k, LeO (yy0.f k a0 a1 a2) (yy0.f (k + 1) a0 a1 a2) := by
 intro a0 a1 a2 k
 unfold yy0.f
 repeat' (with_reducible first | exact yq0.mono _ _ _ _ | exact ym0.mono _ _ _ _ | exact LeO.refl _ | exact LeO.none _ | refine LeO.ite ?_ ?_ | refine LeO.bind ?_ (fun _ => ?_))
theorem yy0.calls (k : Nat) (A0_0 : Option Addr) (c0_0 : Nat) (l0_0 : List (List Int)) (a1 : Int) (A2 : Option Addr) (c2 : Nat) (l2 : List Int) (r1 : Bool) (r2 : Bool) (w : World) (hr0_0 : Kd.C (Kd.slice 3 (Kd.int .i64)) w A0_0 l0_0.length l0_0) (hc0_0 : l0_0.length ≤ c0_0) (hr2 : Kd.C (Kd.int .i64) w A2 l2.length l2) (hc2 : l2.length ≤ c2) (h : yy0.f k l0_0 a1 l2 = some (r1, r2)) :
  Calls Try.prog 17 #[.agg #[.slice A0_0 l0_0.length c0_0], .int .i64 a1, .slice A2 l2.length c2] w fun e w' => e = .returned (.tuple #[.bool r1, .bool r2]) ∧ Below w.heap.size w w' := by
 have hu26 := Try.underlying26
 have HR0_0 := hqZ hr0_0
 have HC0_0 := hqZ hc0_0
 clear hr0_0 hc0_0
 have HR2 := hqZ hr2
 have HC2 := hqZ hc2
 clear hr2 hc2
 have HB := hqZ (Below.refl w.heap.size w)
 have H : ((yq0.f k l0_0 a1 l2).bind fun t466 => (if t466 = true then ((ym0.f k l0_0 a1 l2).bind fun t467 => (some (decide (t467 < 0), true))) else (some (false, false)))) = some (r1, r2) := h
 clear h
 replace H := Option.bind_eq_some_iff.mp H
 obtain ⟨t466, A40, H⟩ := H
 try dsimp only at H
 have A4 := hqZ A40
 clear A40
 by_cases c5 : t466 = true
 rotate_left
 ·replace c5 := Bool.eq_false_iff.mpr c5
  subst c5
  rw [if_neg (show ¬ (false = true) by decide)] at H
  simp only [Option.some.injEq, Prod.mk.injEq] at H
  obtain ⟨rfl, rfl⟩ := H
  go_enter Try.func17, Try.ntmps17
  go_wp2_with (first | ((with_reducible refine zo0 (N := 3) rfl ?_); refine zp0 ?hg (N := 3) ?hd (cs := #[.slice A0_0 l0_0.length c0_0]) (t := 26) ?hr ?_; (case hd | hg => rfl); (case hr => go_simp <;> rfl); intro gb465 hg w12 hbox hb; have BK465 := hqZ (hbox); have GW465 := hqZ ((by rw [hg]; exact (zb0 (HB.1)) : w.heap.size ≤ gb465)); have GE465 := hqZ ((by rw [hg]; exact (zb0 (HB.1)) : w.heap.size ≤ gb465)); replace HB := hqZ (za0 (HB.1) hb); clear hb hbox hg; have hcz13_0 : w12.cell? ⟨gb465, 0, none⟩ = some (.slice A0_0 l0_0.length c0_0) := (zh0 BK465.1 0).trans rfl; have hfz13_0 := zd0 BK465.1 0) | ((with_reducible refine ze0 (f := 30) rfl ?_); refine zq0 (some 11) rfl rfl Try.func30 (by kernel_rfl) rfl #[.agg #[.slice A0_0 l0_0.length c0_0], .int .i64 a1, .slice A2 l2.length c2] rfl (by simp only [hqa, hqb, hqc]; rfl) ?_; (with_reducible refine (yq0.calls k _ _ l0_0 a1 _ _ l2 false _ ?side1 ?side2 ?side3 ?side4 A4.1).mono ?_); (case side1 => exact (Kd.C_below HR0_0.1 HB.1)); (case side2 => exact HC0_0.1); (case side3 => exact (Kd.C_below HR2.1 HB.1)); (case side4 => exact HC2.1); rintro e w14 ⟨rfl, hb⟩; refine ⟨_, rfl, ?_⟩; replace BK465 := hqZ (zc0 (g := gb465) (BK465.1) hb); replace HB := hqZ (za0 (HB.1) hb); clear hb))
  go_ret2
  exact ⟨rfl, HB.1⟩
 subst c5
 rw [if_pos rfl] at H
 replace H := Option.bind_eq_some_iff.mp H
 obtain ⟨t467, A60, H⟩ := H
 try dsimp only at H
 have A6 := hqZ A60
 clear A60
 simp only [Option.some.injEq, Prod.mk.injEq] at H
 obtain ⟨rfl, rfl⟩ := H
 go_enter Try.func17, Try.ntmps17
 go_wp2_with (first | ((with_reducible refine zo0 (N := 3) rfl ?_); refine zp0 ?hg (N := 3) ?hd (cs := #[.slice A0_0 l0_0.length c0_0]) (t := 26) ?hr ?_; (case hd | hg => rfl); (case hr => go_simp <;> rfl); intro gb465 hg w7 hbox hb; have BK465 := hqZ (hbox); have GW465 := hqZ ((by rw [hg]; exact (zb0 (HB.1)) : w.heap.size ≤ gb465)); have GE465 := hqZ ((by rw [hg]; exact (zb0 (HB.1)) : w.heap.size ≤ gb465)); replace HB := hqZ (za0 (HB.1) hb); clear hb hbox hg; have hcz8_0 : w7.cell? ⟨gb465, 0, none⟩ = some (.slice A0_0 l0_0.length c0_0) := (zh0 BK465.1 0).trans rfl; have hfz8_0 := zd0 BK465.1 0) | ((with_reducible refine ze0 (f := 30) rfl ?_); refine zq0 (some 11) rfl rfl Try.func30 (by kernel_rfl) rfl #[.agg #[.slice A0_0 l0_0.length c0_0], .int .i64 a1, .slice A2 l2.length c2] rfl (by simp only [hqa, hqb, hqc]; rfl) ?_; (with_reducible refine (yq0.calls k _ _ l0_0 a1 _ _ l2 true _ ?side1 ?side2 ?side3 ?side4 A4.1).mono ?_); (case side1 => exact (Kd.C_below HR0_0.1 HB.1)); (case side2 => exact HC0_0.1); (case side3 => exact (Kd.C_below HR2.1 HB.1)); (case side4 => exact HC2.1); rintro e w9 ⟨rfl, hb⟩; refine ⟨_, rfl, ?_⟩; replace BK465 := hqZ (zc0 (g := gb465) (BK465.1) hb); replace HB := hqZ (za0 (HB.1) hb); clear hb; have hcz10_0 : w9.cell? ⟨gb465, 0, none⟩ = some (.slice A0_0 l0_0.length c0_0) := (zh0 BK465.1 0).trans rfl; have hfz10_0 := zd0 BK465.1 0) | ((with_reducible refine ze0 (f := 33) rfl ?_); refine zq0 (some 16) rfl rfl Try.func33 (by kernel_rfl) rfl #[.agg #[.slice A0_0 l0_0.length c0_0], .int .i64 a1, .slice A2 l2.length c2] rfl (by simp only [hqa, hqb, hqc]; rfl) ?_; (with_reducible refine (ym0.calls k _ _ l0_0 a1 _ _ l2 t467 _ ?side1 ?side2 ?side3 ?side4 A6.1).mono ?_); (case side1 => exact (Kd.C_below HR0_0.1 HB.1)); (case side2 => exact HC0_0.1); (case side3 => exact (Kd.C_below HR2.1 HB.1)); (case side4 => exact HC2.1); rintro e w11 ⟨rfl, hb⟩; refine ⟨_, rfl, ?_⟩; replace BK465 := hqZ (zc0 (g := gb465) (BK465.1) hb); replace HB := hqZ (za0 (HB.1) hb); clear hb))
 go_ret2
 exact ⟨rfl, HB.1⟩
mutual
def ya0.j0 : Nat → List Int → Int → List Int → List Int → Bool → List Int → Bool → List (List Int) → Option (Bool)
 | 0, _, _, _, _, _, _, _, _ => none
 | k + 1, x1, x6, x7, x8, x9, x12, x105, x477000 => if x105 = true then (some false) else (if x9 = true then ((yw0.f k x477000 x6 x8).bind fun bt495 => ((ys0.f k x477000 x6 x8).bind fun bt497 => (if bt495.2 = true then (if bt495.1 = true then (if bt497.2 = true then ((yc0.f k bt497.1 x8).bind fun t501 => (if t501 = true then (if 0 ≤ x6 then (if x6 < (x12.length : Int) then (ya0.j1 k x1 x6 x7 x8 x12 ((rd x12 x6) != 0) x477000) else (none)) else (none)) else (ya0.j1 k x1 x6 x7 x8 x12 true x477000))) else (ya0.j1 k x1 x6 x7 x8 x12 true x477000)) else (ya0.j1 k x1 x6 x7 x8 x12 true x477000)) else (ya0.j1 k x1 x6 x7 x8 x12 true x477000)))) else (ya0.j4 k x1))
def ya0.j4 : Nat → List Int → Option (Bool)
 | 0, _ => none
 | k + 1, x1 => (yl1.f k x1).bind fun bt518 => ((yp0.f k bt518.1 bt518.2.1 bt518.2.2.1 bt518.2.2.2).bind fun bt527 => ((yg0.f k bt518.1 bt518.2.1 bt518.2.2.1 bt518.2.2.2).bind fun bt531 => (if (bt527.2 != bt531.2) = true then (ya0.j5 k x1 bt518.2.1 bt518.2.2.1 bt527.1 bt527.2 true bt518.1) else ((yc0.f k bt527.1 bt531.1).bind fun t535 => (ya0.j5 k x1 bt518.2.1 bt518.2.2.1 bt527.1 bt527.2 (!t535) bt518.1)))))
def ya0.j5 : Nat → List Int → Int → List Int → List Int → Bool → Bool → List (List Int) → Option (Bool)
 | 0, _, _, _, _, _, _, _ => none
 | k + 1, x1, x26, x27, x29, x30, x224, x527000 => if x224 = true then (some false) else (if x30 = true then ((ys0.f k x527000 x26 x27).bind fun bt536 => ((ys0.f k x527000 x26 x29).bind fun bt540 => (if bt536.2 = true then (if bt540.2 = true then ((yc0.f k bt536.1 bt540.1).bind fun t544 => (ya0.j6 k x1 (!t544))) else (ya0.j6 k x1 false)) else (ya0.j6 k x1 false)))) else ((yc1.f k x1).bind fun bt557 => ((yw0.f k bt557.1 bt557.2.1 bt557.2.2).bind fun bt565 => ((yy0.f k bt557.1 bt557.2.1 bt557.2.2).bind fun bt567 => (if (bt565.2 == bt567.2) = true then (some (bt565.1 == bt567.1)) else (some false))))))
def ya0.j6 : Nat → List Int → Bool → Option (Bool)
 | 0, _, _ => none
 | k + 1, x1, x249 => if x249 = true then (some false) else ((yc1.f k x1).bind fun bt545 => ((yw0.f k bt545.1 bt545.2.1 bt545.2.2).bind fun bt553 => ((yy0.f k bt545.1 bt545.2.1 bt545.2.2).bind fun bt555 => (if (bt553.2 == bt555.2) = true then (some (bt553.1 == bt555.1)) else (some false)))))
def ya0.j1 : Nat → List Int → Int → List Int → List Int → List Int → Bool → List (List Int) → Option (Bool)
 | 0, _, _, _, _, _, _, _ => none
 | k + 1, x1, x6, x7, x8, x12, x143, x477000 => if x143 = true then (some false) else ((some (([] : List Int) : List Int)).bind fun y503 => (if y503.length + x7.length < 17592186044416 then (ya0.l0 k x1 x6 x8 x12 (y503 ++ x7) x477000 (x477000.length : Int) 0) else (none)))
def ya0.l0 : Nat → List Int → Int → List Int → List Int → List Int → List (List Int) → Int → Int → Option (Bool)
 | 0, _, _, _, _, _, _, _, _ => none
 | k + 1, x1, x6, x8, x12, x20, x148, x149, x150 => if x150 < x149 then (if 0 ≤ x150 then (if x150 < (x148.length : Int) then (if x150 < (x20.length : Int) then (if x150 < (x12.length : Int) then (ya0.l1 k x1 x6 x8 x12 (x20.set (x150 : Int).toNat (wrap64 ((rd x20 x150) - (wrap64 ((rd x12 x150) * ((rd_L2 x148 x150).length : Int)))))) x150 x148 x149 x150 (rd_L2 x148 x150) ((rd_L2 x148 x150).length : Int) 0) else (none)) else (none)) else (none)) else (none)) else ((yc0.f k x20 x8).bind fun t509 => (if t509 = true then (ya0.j4 k x1) else (some false)))
def ya0.l1 : Nat → List Int → Int → List Int → List Int → List Int → Int → List (List Int) → Int → Int → List Int → Int → Int → Option (Bool)
 | 0, _, _, _, _, _, _, _, _, _, _, _, _ => none
 | k + 1, x1, x6, x8, x12, x20, x21, x148, x149, x150, x168, x169, x170 => if x170 < x169 then (if 0 ≤ x170 then (if x170 < (x168.length : Int) then (if (rd x168 x170) = x6 then (ya0.l1 k x1 x6 x8 x12 x20 x21 x148 x149 x150 x168 x169 (wrap64 (x170 + 1))) else (if 0 ≤ (rd x168 x170) then (if (rd x168 x170) < (x20.length : Int) then (if 0 ≤ x21 then (if x21 < (x12.length : Int) then (ya0.l1 k x1 x6 x8 x12 (x20.set ((rd x168 x170) : Int).toNat (wrap64 ((rd x20 (rd x168 x170)) + (rd x12 x21)))) x21 x148 x149 x150 x168 x169 (wrap64 (x170 + 1))) else (none)) else (none)) else (none)) else (none))) else (none)) else (none)) else (ya0.l0 k x1 x6 x8 x12 x20 x148 x149 (wrap64 (x150 + 1)))
end
def ya0.f (k : Nat) (l0 : List Int) (l1 : List Int) : Option (Bool) := (yz1.f l0 l1).bind fun t468 => (if t468 = true then (some true) else ((yi1.f k l0).bind fun bt469 => ((ys0.f k bt469.1 bt469.2.1 bt469.2.2).bind fun bt477 => ((yf1.f k bt469.1 bt469.2.1 bt469.2.2).bind fun bt481 => ((ye1.f k bt469.1 bt469.2.1 bt469.2.2).bind fun bt485 => ((yd1.f k bt469.1 bt469.2.1 bt469.2.2).bind fun bt489 => (if (bt477.2 != bt481.2) = true then (ya0.j0 k l1 bt469.2.1 bt469.2.2 bt477.1 bt477.2 bt485.1 true bt469.1) else ((yc0.f k bt477.1 bt481.1).bind fun t493 => (if t493 = true then (if (bt485.2 != bt489.2) = true then (ya0.j0 k l1 bt469.2.1 bt469.2.2 bt477.1 bt477.2 bt485.1 true bt469.1) else ((yc0.f k bt485.1 bt489.1).bind fun t494 => (if t494 = true then (ya0.j0 k l1 bt469.2.1 bt469.2.2 bt477.1 bt477.2 bt485.1 (bt485.2 != bt477.2) bt469.1) else (ya0.j0 k l1 bt469.2.1 bt469.2.2 bt477.1 bt477.2 bt485.1 true bt469.1)))) else (ya0.j0 k l1 bt469.2.1 bt469.2.2 bt477.1 bt477.2 bt485.1 true bt469.1))))))))))
theorem ya0.mono_l : ∀ k, (∀ y0 y1 y2 y3 y4 y5 y6 y7, LeO (ya0.j0 k y0 y1 y2 y3 y4 y5 y6 y7) (ya0.j0 (k + 1) y0 y1 y2 y3 y4 y5 y6 y7)) ∧ (∀ y0, LeO (ya0.j4 k y0) (ya0.j4 (k + 1) y0)) ∧ (∀ y0 y1 y2 y3 y4 y5 y6, LeO (ya0.j5 k y0 y1 y2 y3 y4 y5 y6) (ya0.j5 (k + 1) y0 y1 y2 y3 y4 y5 y6)) ∧ (∀ y0 y1, LeO (ya0.j6 k y0 y1) (ya0.j6 (k + 1) y0 y1)) ∧ (∀ y0 y1 y2 y3 y4 y5 y6, LeO (ya0.j1 k y0 y1 y2 y3 y4 y5 y6) (ya0.j1 (k + 1) y0 y1 y2 y3 y4 y5 y6)) ∧ (∀ y0 y1 y2 y3 y4 y5 y6 y7, LeO (ya0.l0 k y0 y1 y2 y3 y4 y5 y6 y7) (ya0.l0 (k + 1) y0 y1 y2 y3 y4 y5 y6 y7)) ∧ (∀ y0 y1 y2 y3 y4 y5 y6 y7 y8 y9 y10 y11, LeO (ya0.l1 k y0 y1 y2 y3 y4 y5 y6 y7 y8 y9 y10 y11) (ya0.l1 (k + 1) y0 y1 y2 y3 y4 y5 y6 y7 y8 y9 y10 y11))
 | 0 => ⟨fun _ _ _ _ _ _ _ _ r h => by simp [ya0.j0] at h, fun _ r h => by simp [ya0.j4] at h, fun _ _ _ _ _ _ _ r h => by simp [ya0.j5] at h, fun _ _ r h => by simp [ya0.j6] at h, fun _ _ _ _ _ _ _ r h => by simp [ya0.j1] at h, fun _ _ _ _ _ _ _ _ r h => by simp [ya0.l0] at h, fun _ _ _ _ _ _ _ _ _ _ _ _ r h => by simp [ya0.l1] at h⟩
 | k + 1 => by
  obtain ⟨ih0, ih1, ih2, ih3, ih4, ih5, ih6⟩ := ya0.mono_l k
  refine ⟨?_, ?_, ?_, ?_, ?_, ?_, ?_⟩
  ·intro y0 y1 y2 y3 y4 y5 y6 y7
   unfold ya0.j0
   repeat' (with_reducible first | exact ih0 _ _ _ _ _ _ _ _ | exact ih1 _ | exact ih2 _ _ _ _ _ _ _ | exact ih3 _ _ | exact ih4 _ _ _ _ _ _ _ | exact ih5 _ _ _ _ _ _ _ _ | exact ih6 _ _ _ _ _ _ _ _ _ _ _ _ | exact yw0.mono _ _ _ _ | exact ys0.mono _ _ _ _ | exact yp0.mono _ _ _ _ _ | exact ye1.mono _ _ _ _ | exact yc0.mono _ _ _ | exact yc1.mono _ _ | exact yi1.mono _ _ | exact yl1.mono _ _ | exact yy0.mono _ _ _ _ | exact yf1.mono _ _ _ _ | exact yg0.mono _ _ _ _ _ | exact yd1.mono _ _ _ _ | exact LeO.refl _ | exact LeO.none _ | refine LeO.ite ?_ ?_ | refine LeO.bind ?_ (fun _ => ?_))
  ·intro y0
   unfold ya0.j4
   repeat' (with_reducible first | exact ih0 _ _ _ _ _ _ _ _ | exact ih1 _ | exact ih2 _ _ _ _ _ _ _ | exact ih3 _ _ | exact ih4 _ _ _ _ _ _ _ | exact ih5 _ _ _ _ _ _ _ _ | exact ih6 _ _ _ _ _ _ _ _ _ _ _ _ | exact yw0.mono _ _ _ _ | exact ys0.mono _ _ _ _ | exact yp0.mono _ _ _ _ _ | exact ye1.mono _ _ _ _ | exact yc0.mono _ _ _ | exact yc1.mono _ _ | exact yi1.mono _ _ | exact yl1.mono _ _ | exact yy0.mono _ _ _ _ | exact yf1.mono _ _ _ _ | exact yg0.mono _ _ _ _ _ | exact yd1.mono _ _ _ _ | exact LeO.refl _ | exact LeO.none _ | refine LeO.ite ?_ ?_ | refine LeO.bind ?_ (fun _ => ?_))
  ·intro y0 y1 y2 y3 y4 y5 y6
   unfold ya0.j5
   repeat' (with_reducible first | exact ih0 _ _ _ _ _ _ _ _ | exact ih1 _ | exact ih2 _ _ _ _ _ _ _ | exact ih3 _ _ | exact ih4 _ _ _ _ _ _ _ | exact ih5 _ _ _ _ _ _ _ _ | exact ih6 _ _ _ _ _ _ _ _ _ _ _ _ | exact yw0.mono _ _ _ _ | exact ys0.mono _ _ _ _ | exact yp0.mono _ _ _ _ _ | exact ye1.mono _ _ _ _ | exact yc0.mono _ _ _ | exact yc1.mono _ _ | exact yi1.mono _ _ | exact yl1.mono _ _ | exact yy0.mono _ _ _ _ | exact yf1.mono _ _ _ _ | exact yg0.mono _ _ _ _ _ | exact yd1.mono _ _ _ _ | exact LeO.refl _ | exact LeO.none _ | refine LeO.ite ?_ ?_ | refine LeO.bind ?_ (fun _ => ?_))
  ·intro y0 y1
   unfold ya0.j6
   repeat' (with_reducible first | exact ih0 _ _ _ _ _ _ _ _ | exact ih1 _ | exact ih2 _ _ _ _ _ _ _ | exact ih3 _ _ | exact ih4 _ _ _ _ _ _ _ | exact ih5 _ _ _ _ _ _ _ _ | exact ih6 _ _ _ _ _ _ _ _ _ _ _ _ | exact yw0.mono _ _ _ _ | exact ys0.mono _ _ _ _ | exact yp0.mono _ _ _ _ _ | exact ye1.mono _ _ _ _ | exact yc0.mono _ _ _ | exact yc1.mono _ _ | exact yi1.mono _ _ | exact yl1.mono _ _ | exact yy0.mono _ _ _ _ | exact yf1.mono _ _ _ _ | exact yg0.mono _ _ _ _ _ | exact yd1.mono _ _ _ _ | exact LeO.refl _ | exact LeO.none _ | refine LeO.ite ?_ ?_ | refine LeO.bind ?_ (fun _ => ?_))
  ·intro y0 y1 y2 y3 y4 y5 y6
   unfold ya0.j1
   repeat' (with_reducible first | exact ih0 _ _ _ _ _ _ _ _ | exact ih1 _ | exact ih2 _ _ _ _ _ _ _ | exact ih3 _ _ | exact ih4 _ _ _ _ _ _ _ | exact ih5 _ _ _ _ _ _ _ _ | exact ih6 _ _ _ _ _ _ _ _ _ _ _ _ | exact yw0.mono _ _ _ _ | exact ys0.mono _ _ _ _ | exact yp0.mono _ _ _ _ _ | exact ye1.mono _ _ _ _ | exact yc0.mono _ _ _ | exact yc1.mono _ _ | exact yi1.mono _ _ | exact yl1.mono _ _ | exact yy0.mono _ _ _ _ | exact yf1.mono _ _ _ _ | exact yg0.mono _ _ _ _ _ | exact yd1.mono _ _ _ _ | exact LeO.refl _ | exact LeO.none _ | refine LeO.ite ?_ ?_ | refine LeO.bind ?_ (fun _ => ?_))
  ·intro y0 y1 y2 y3 y4 y5 y6 y7
   unfold ya0.l0
   repeat' (with_reducible first | exact ih0 _ _ _ _ _ _ _ _ | exact ih1 _ | exact ih2 _ _ _ _ _ _ _ | exact ih3 _ _ | exact ih4 _ _ _ _ _ _ _ | exact ih5 _ _ _ _ _ _ _ _ | exact ih6 _ _ _ _ _ _ _ _ _ _ _ _ | exact yw0.mono _ _ _ _ | exact ys0.mono _ _ _ _ | exact yp0.mono _ _ _ _ _ | exact ye1.mono _ _ _ _ | exact yc0.mono _ _ _ | exact yc1.mono _ _ | exact yi1.mono _ _ | exact yl1.mono _ _ | exact yy0.mono _ _ _ _ | exact yf1.mono _ _ _ _ | exact yg0.mono _ _ _ _ _ | exact yd1.mono _ _ _ _ | exact LeO.refl _ | exact LeO.none _ | refine LeO.ite ?_ ?_ | refine LeO.bind ?_ (fun _ => ?_))
  ·intro y0 y1 y2 y3 y4 y5 y6 y7 y8 y9 y10 y11
   unfold ya0.l1
   repeat' (with_reducible first | exact ih0 _ _ _ _ _ _ _ _ | exact ih1 _ | exact ih2 _ _ _ _ _ _ _ | exact ih3 _ _ | exact ih4 _ _ _ _ _ _ _ | exact ih5 _ _ _ _ _ _ _ _ | exact ih6 _ _ _ _ _ _ _ _ _ _ _ _ | exact yw0.mono _ _ _ _ | exact ys0.mono _ _ _ _ | exact yp0.mono _ _ _ _ _ | exact ye1.mono _ _ _ _ | exact yc0.mono _ _ _ | exact yc1.mono _ _ | exact yi1.mono _ _ | exact yl1.mono _ _ | exact yy0.mono _ _ _ _ | exact yf1.mono _ _ _ _ | exact yg0.mono _ _ _ _ _ | exact yd1.mono _ _ _ _ | exact LeO.refl _ | exact LeO.none _ | refine LeO.ite ?_ ?_ | refine LeO.bind ?_ (fun _ => ?_))
theorem ya0.mono : ∀ a0 a1 k, LeO (ya0.f k a0 a1) (ya0.f (k + 1) a0 a1) := by
 intro a0 a1 k
 obtain ⟨ih0, ih1, ih2, ih3, ih4, ih5, ih6⟩ := ya0.mono_l k
 unfold ya0.f
 repeat' (with_reducible first | exact ih0 _ _ _ _ _ _ _ _ | exact ih1 _ | exact ih2 _ _ _ _ _ _ _ | exact ih3 _ _ | exact ih4 _ _ _ _ _ _ _ | exact ih5 _ _ _ _ _ _ _ _ | exact ih6 _ _ _ _ _ _ _ _ _ _ _ _ | exact yw0.mono _ _ _ _ | exact ys0.mono _ _ _ _ | exact yp0.mono _ _ _ _ _ | exact ye1.mono _ _ _ _ | exact yc0.mono _ _ _ | exact yc1.mono _ _ | exact yi1.mono _ _ | exact yl1.mono _ _ | exact yy0.mono _ _ _ _ | exact yf1.mono _ _ _ _ | exact yg0.mono _ _ _ _ _ | exact yd1.mono _ _ _ _ | exact LeO.refl _ | exact LeO.none _ | refine LeO.ite ?_ ?_ | refine LeO.bind ?_ (fun _ => ?_))
def ya0.T19 : Bool × List (List Nat × List Nat) := (true, [([], []), ([], []), ([0, 1], [0, 1]), ([2], [2]), ([], []), ([], []), ([4, 5], [4, 5]), ([6], [6]), ([], []), ([8], [8]), ([7, 9], [7, 9]), ([3, 10], [3, 10]), ([0, 1, 0, 1, 2, 3, 4, 5, 6, 7, 8, 9, 10, 11], [0, 1]), ([12, 11, 0, 1, 2, 3, 4, 5, 6, 7, 8, 9, 10, 11], [11, 12])])
def ya0.B19 : List Nat := [0, 0, 3, 7, 0, 0, 48, 112, 0, 256, 1008, 2047, 4095, 8191]
theorem ya0.tab19 : rtab .any (opsOf Try.f3 19) = ya0.T19 := by kernel_rfl
theorem ya0.bits19 : waitsOk ya0.T19.2 ya0.B19 = true := by kernel_rfl
def ya0.T24 : Bool × List (List Nat × List Nat) := (true, [([], []), ([], []), ([0, 1], [0, 1]), ([2], [2]), ([], []), ([], []), ([4, 5], [4, 5]), ([6], [6]), ([3, 7], [3, 7]), ([0, 1, 0, 1, 2, 3, 4, 5, 6, 7, 8], [0, 1]), ([9, 8, 0, 1, 2, 3, 4, 5, 6, 7, 8], [8, 9])])
def ya0.B24 : List Nat := [0, 0, 3, 7, 0, 0, 48, 112, 255, 511, 1023]
theorem ya0.tab24 : rtab .any (opsOf Try.f3 24) = ya0.T24 := by kernel_rfl
theorem ya0.bits24 : waitsOk ya0.T24.2 ya0.B24 = true := by kernel_rfl
theorem ya0.calls (k : Nat) (A0 : Option Addr) (c0 : Nat) (l0 : List Int) (A1 : Option Addr) (c1 : Nat) (l1 : List Int) (r : Bool) (w : World) (hr0 : Kd.C (Kd.int .u8) w A0 l0.length l0) (hc0 : l0.length ≤ c0) (hr1 : Kd.C (Kd.int .u8) w A1 l1.length l1) (hc1 : l1.length ≤ c1) (h : ya0.f k l0 l1 = some r) :
  Calls Try.prog 3 #[.slice A0 l0.length c0, .slice A1 l1.length c1] w fun e w' => e = .returned (.bool r) ∧ Below w.heap.size w w' := by
 have hu26 := Try.underlying26
 have HR0 := hqZ hr0
 have HC0 := hqZ hc0
 clear hr0 hc0
 have HR1 := hqZ hr1
 have HC1 := hqZ hc1
 clear hr1 hc1
 have HB := hqZ (Below.refl w.heap.size w)
 have H : ((yz1.f l0 l1).bind fun t468 => (if t468 = true then (some true) else ((yi1.f k l0).bind fun bt469 => ((ys0.f k bt469.1 bt469.2.1 bt469.2.2).bind fun bt477 => ((yf1.f k bt469.1 bt469.2.1 bt469.2.2).bind fun bt481 => ((ye1.f k bt469.1 bt469.2.1 bt469.2.2).bind fun bt485 => ((yd1.f k bt469.1 bt469.2.1 bt469.2.2).bind fun bt489 => (if (bt477.2 != bt481.2) = true then (ya0.j0 k l1 bt469.2.1 bt469.2.2 bt477.1 bt477.2 bt485.1 true bt469.1) else ((yc0.f k bt477.1 bt481.1).bind fun t493 => (if t493 = true then (if (bt485.2 != bt489.2) = true then (ya0.j0 k l1 bt469.2.1 bt469.2.2 bt477.1 bt477.2 bt485.1 true bt469.1) else ((yc0.f k bt485.1 bt489.1).bind fun t494 => (if t494 = true then (ya0.j0 k l1 bt469.2.1 bt469.2.2 bt477.1 bt477.2 bt485.1 (bt485.2 != bt477.2) bt469.1) else (ya0.j0 k l1 bt469.2.1 bt469.2.2 bt477.1 bt477.2 bt485.1 true bt469.1)))) else (ya0.j0 k l1 bt469.2.1 bt469.2.2 bt477.1 bt477.2 bt485.1 true bt469.1))))))))))) = some r := h
 clear h
 replace H := Option.bind_eq_some_iff.mp H
 obtain ⟨t468, A30, H⟩ := H
 replace H : (if t468 = true then (some true) else ((yi1.f k l0).bind fun bt469 => ((ys0.f k bt469.1 bt469.2.1 bt469.2.2).bind fun bt477 => ((yf1.f k bt469.1 bt469.2.1 bt469.2.2).bind fun bt481 => ((ye1.f k bt469.1 bt469.2.1 bt469.2.2).bind fun bt485 => ((yd1.f k bt469.1 bt469.2.1 bt469.2.2).bind fun bt489 => (if (bt477.2 != bt481.2) = true then (ya0.j0 k l1 bt469.2.1 bt469.2.2 bt477.1 bt477.2 bt485.1 true bt469.1) else ((yc0.f k bt477.1 bt481.1).bind fun t493 => (if t493 = true then (if (bt485.2 != bt489.2) = true then (ya0.j0 k l1 bt469.2.1 bt469.2.2 bt477.1 bt477.2 bt485.1 true bt469.1) else ((yc0.f k bt485.1 bt489.1).bind fun t494 => (if t494 = true then (ya0.j0 k l1 bt469.2.1 bt469.2.2 bt477.1 bt477.2 bt485.1 (bt485.2 != bt477.2) bt469.1) else (ya0.j0 k l1 bt469.2.1 bt469.2.2 bt477.1 bt477.2 bt485.1 true bt469.1)))) else (ya0.j0 k l1 bt469.2.1 bt469.2.2 bt477.1 bt477.2 bt485.1 true bt469.1)))))))))) = some r := H
 have A3 := hqZ A30
 clear A30
 by_cases c4 : t468 = true
 ·as_aux_lemma =>
  subst c4
  have H1 : (some true) = some r := by rw [if_pos rfl] at H; exact H
  clear H
  have H := H1
  clear H1
  obtain rfl := Option.some.inj H
  go_enter Try.func3, Try.ntmps3
  go_wp2_with (first | ((with_reducible refine ze0 (f := 5) rfl ?_); refine zq0 (some 46) rfl rfl Try.func5 (by kernel_rfl) rfl #[.slice A0 l0.length c0, .slice A1 l1.length c1] rfl (by simp only [hqa, hqb, hqc]; rfl) ?_; (with_reducible refine (yz1.calls _ _ l0 _ _ l1 true _ ?side1 ?side2 ?side3 ?side4 A3.1).mono ?_); (case side1 => exact HR0.1); (case side2 => exact HC0.1); (case side3 => exact HR1.1); (case side4 => exact HC1.1); rintro e w' ⟨rfl, ⟨nd, rfl⟩⟩; refine ⟨_, rfl, ?_⟩))
  go_ret
  exact ⟨rfl, hqB HB.1⟩
 as_aux_lemma =>
 replace c4 := Bool.eq_false_iff.mpr c4
 subst c4
 have H1 : ((yi1.f k l0).bind fun bt469 => ((ys0.f k bt469.1 bt469.2.1 bt469.2.2).bind fun bt477 => ((yf1.f k bt469.1 bt469.2.1 bt469.2.2).bind fun bt481 => ((ye1.f k bt469.1 bt469.2.1 bt469.2.2).bind fun bt485 => ((yd1.f k bt469.1 bt469.2.1 bt469.2.2).bind fun bt489 => (if (bt477.2 != bt481.2) = true then (ya0.j0 k l1 bt469.2.1 bt469.2.2 bt477.1 bt477.2 bt485.1 true bt469.1) else ((yc0.f k bt477.1 bt481.1).bind fun t493 => (if t493 = true then (if (bt485.2 != bt489.2) = true then (ya0.j0 k l1 bt469.2.1 bt469.2.2 bt477.1 bt477.2 bt485.1 true bt469.1) else ((yc0.f k bt485.1 bt489.1).bind fun t494 => (if t494 = true then (ya0.j0 k l1 bt469.2.1 bt469.2.2 bt477.1 bt477.2 bt485.1 (bt485.2 != bt477.2) bt469.1) else (ya0.j0 k l1 bt469.2.1 bt469.2.2 bt477.1 bt477.2 bt485.1 true bt469.1)))) else (ya0.j0 k l1 bt469.2.1 bt469.2.2 bt477.1 bt477.2 bt485.1 true bt469.1))))))))) = some r := by rw [if_neg (show ¬ (false = true) by decide)] at H; exact H
 clear H
 have H := H1
 clear H1
 replace H := Option.bind_eq_some_iff.mp H
 obtain ⟨⟨t469, t472, t473⟩, A50, H⟩ := H
 replace H : ((ys0.f k t469 t472 t473).bind fun bt477 => ((yf1.f k t469 t472 t473).bind fun bt481 => ((ye1.f k t469 t472 t473).bind fun bt485 => ((yd1.f k t469 t472 t473).bind fun bt489 => (if (bt477.2 != bt481.2) = true then (ya0.j0 k l1 t472 t473 bt477.1 bt477.2 bt485.1 true t469) else ((yc0.f k bt477.1 bt481.1).bind fun t493 => (if t493 = true then (if (bt485.2 != bt489.2) = true then (ya0.j0 k l1 t472 t473 bt477.1 bt477.2 bt485.1 true t469) else ((yc0.f k bt485.1 bt489.1).bind fun t494 => (if t494 = true then (ya0.j0 k l1 t472 t473 bt477.1 bt477.2 bt485.1 (bt485.2 != bt477.2) t469) else (ya0.j0 k l1 t472 t473 bt477.1 bt477.2 bt485.1 true t469)))) else (ya0.j0 k l1 t472 t473 bt477.1 bt477.2 bt485.1 true t469)))))))) = some r := H
 have A5 := hqZ A50
 clear A50
 replace H := Option.bind_eq_some_iff.mp H
 obtain ⟨⟨t477, t480⟩, A60, H⟩ := H
 replace H : ((yf1.f k t469 t472 t473).bind fun bt481 => ((ye1.f k t469 t472 t473).bind fun bt485 => ((yd1.f k t469 t472 t473).bind fun bt489 => (if (t480 != bt481.2) = true then (ya0.j0 k l1 t472 t473 t477 t480 bt485.1 true t469) else ((yc0.f k t477 bt481.1).bind fun t493 => (if t493 = true then (if (bt485.2 != bt489.2) = true then (ya0.j0 k l1 t472 t473 t477 t480 bt485.1 true t469) else ((yc0.f k bt485.1 bt489.1).bind fun t494 => (if t494 = true then (ya0.j0 k l1 t472 t473 t477 t480 bt485.1 (bt485.2 != t480) t469) else (ya0.j0 k l1 t472 t473 t477 t480 bt485.1 true t469)))) else (ya0.j0 k l1 t472 t473 t477 t480 bt485.1 true t469))))))) = some r := H
 have A6 := hqZ A60
 clear A60
 replace H := Option.bind_eq_some_iff.mp H
 obtain ⟨⟨t481, t484⟩, A70, H⟩ := H
 replace H : ((ye1.f k t469 t472 t473).bind fun bt485 => ((yd1.f k t469 t472 t473).bind fun bt489 => (if (t480 != t484) = true then (ya0.j0 k l1 t472 t473 t477 t480 bt485.1 true t469) else ((yc0.f k t477 t481).bind fun t493 => (if t493 = true then (if (bt485.2 != bt489.2) = true then (ya0.j0 k l1 t472 t473 t477 t480 bt485.1 true t469) else ((yc0.f k bt485.1 bt489.1).bind fun t494 => (if t494 = true then (ya0.j0 k l1 t472 t473 t477 t480 bt485.1 (bt485.2 != t480) t469) else (ya0.j0 k l1 t472 t473 t477 t480 bt485.1 true t469)))) else (ya0.j0 k l1 t472 t473 t477 t480 bt485.1 true t469)))))) = some r := H
 have A7 := hqZ A70
 clear A70
 replace H := Option.bind_eq_some_iff.mp H
 obtain ⟨⟨t485, t488⟩, A80, H⟩ := H
 replace H : ((yd1.f k t469 t472 t473).bind fun bt489 => (if (t480 != t484) = true then (ya0.j0 k l1 t472 t473 t477 t480 t485 true t469) else ((yc0.f k t477 t481).bind fun t493 => (if t493 = true then (if (t488 != bt489.2) = true then (ya0.j0 k l1 t472 t473 t477 t480 t485 true t469) else ((yc0.f k t485 bt489.1).bind fun t494 => (if t494 = true then (ya0.j0 k l1 t472 t473 t477 t480 t485 (t488 != t480) t469) else (ya0.j0 k l1 t472 t473 t477 t480 t485 true t469)))) else (ya0.j0 k l1 t472 t473 t477 t480 t485 true t469))))) = some r := H
 have A8 := hqZ A80
 clear A80
 replace H := Option.bind_eq_some_iff.mp H
 obtain ⟨⟨t489, t492⟩, A90, H⟩ := H
 replace H : (if (t480 != t484) = true then (ya0.j0 k l1 t472 t473 t477 t480 t485 true t469) else ((yc0.f k t477 t481).bind fun t493 => (if t493 = true then (if (t488 != t492) = true then (ya0.j0 k l1 t472 t473 t477 t480 t485 true t469) else ((yc0.f k t485 t489).bind fun t494 => (if t494 = true then (ya0.j0 k l1 t472 t473 t477 t480 t485 (t488 != t480) t469) else (ya0.j0 k l1 t472 t473 t477 t480 t485 true t469)))) else (ya0.j0 k l1 t472 t473 t477 t480 t485 true t469)))) = some r := H
 have A9 := hqZ A90
 clear A90
 have HC10 := hqZ H
 clear H
 go_enter Try.func3, Try.ntmps3
 go_upto_region 8 with (first | ((with_reducible refine ze0 (f := 5) rfl ?_); refine zq0 (some 46) rfl rfl Try.func5 (by kernel_rfl) rfl #[.slice A0 l0.length c0, .slice A1 l1.length c1] rfl (by simp only [hqa, hqb, hqc]; rfl) ?_; (with_reducible refine (yz1.calls _ _ l0 _ _ l1 false _ ?side1 ?side2 ?side3 ?side4 A3.1).mono ?_); (case side1 => exact HR0.1); (case side2 => exact HC0.1); (case side3 => exact HR1.1); (case side4 => exact HC1.1); rintro e w' ⟨rfl, ⟨nd, rfl⟩⟩; refine ⟨_, rfl, ?_⟩) | ((with_reducible refine ze0 (f := 6) rfl ?_); refine zq0 (some 49) rfl rfl Try.func6 (by kernel_rfl) rfl #[.slice A0 l0.length c0] rfl (by simp only [hqa, hqb, hqc]; rfl) ?_; (with_reducible refine (yi1.calls k _ _ l0 t469 t472 t473 _ ?side1 ?side2 A5.1).mono ?_); (case side1 => exact HR0.1); (case side2 => exact HC0.1); rintro e w11 ⟨v470, v474, rfl, ho0, ho1, hb⟩; refine ⟨_, rfl, ?_⟩; have HO471 := hqZ (Kd.N_lower (Kd.N_mono (ok' := fun k_ => some k_ ≠ (v474 : Value).ownBlock) ho0 (fun k_ hk_ => hk_.2)) (zb0 (hqB HB.1))); have HO475 := hqZ (Kd.R_lower (Kd.R_mono (ok' := fun k_ => True) ho1 (fun _ hk_ => trivial)) (zb0 (hqB HB.1))); replace HB := hqZ (za0 (hqB HB.1) hb); clear hb ho0 ho1) | ((with_reducible refine zo0 (N := 5) rfl ?_); refine zp0 ?hg (N := 5) ?hd (cs := #[.slice none 0 0]) (t := 26) ?hr ?_; (case hd | hg => rfl); (case hr => go_simp <;> rfl); intro gb476 hg w12 hbox hb; replace HO471 := hqZ (Kd.N_below (Kd.N_elderB (HO471.1) gb476 (Nat.le_of_eq hg.symm)) hb); replace HO475 := hqZ (Kd.R_below (HO475.1) hb); have BK476 := hqZ (hbox); have GW476 := hqZ ((by rw [hg]; exact (zb0 (HB.1)) : w.heap.size ≤ gb476)); have GE476 := hqZ ((by rw [hg]; exact (zb0 (HB.1)) : w.heap.size ≤ gb476)); replace HB := hqZ (za0 (HB.1) hb); clear hb hbox hg; obtain ⟨Ao13, co13, eo13⟩ := Kd.N_slice HO471.1; subst eo13; have hcz14_0 : w12.cell? ⟨gb476, 0, none⟩ = some (.slice none 0 0) := (zh0 BK476.1 0).trans rfl; have hfz14_0 := zd0 BK476.1 0; obtain ⟨Ao15, co15, eo15⟩ := Kd.R_slice HO475.1; subst eo15) | ((with_reducible refine ze0 (f := 7) rfl ?_); refine zq0 (some 57) rfl rfl Try.func7 (by kernel_rfl) rfl #[.agg #[.slice Ao13 t469.length co13], .int .i64 t472, .slice Ao15 t473.length co15] rfl (by simp only [hqa, hqb, hqc]; rfl) ?_; (with_reducible refine (ys0.calls k _ _ t469 t472 _ _ t473 t477 t480 _ ?side1 ?side2 ?side3 ?side4 A6.1).mono ?_); (case side1 => refine (Kd.N_reads' (e := 27) (base := w.heap.size) (ok := fun k_ => (some k_ ≠ (.slice Ao15 t473.length co15 : Value).ownBlock ∧ k_ ≠ gb476)) (n := t469.length) (c := co13) ?_).2.2; exact ((Kd.N_mono (Kd.N_far (p := ⟨gb476, 0, none⟩) (Kd.N_mono HO471.1 (fun k_ hk => (⟨hk, hk.2⟩ : _ ∧ k_ ≠ gb476))) (fun _ hk => hk.2) (.slice Ao13 t469.length co13)) (fun _ h_ => h_.1)))); (case side2 => exact (Kd.N_reads' HO471.1).2.1); (case side3 => refine (Kd.R_reads' (e := 3) (base := w.heap.size) (ok := fun k_ => True) (n := t473.length) (c := co15) ?_).2.2; exact ((Kd.R_mono (Kd.R_far (p := ⟨gb476, 0, none⟩) (Kd.R_types HO475.1 BK476.1 (by decide)) (fun _ hk => hk.2) (.slice Ao13 t469.length co13)) (fun _ h_ => h_.1)))); (case side4 => exact (Kd.R_reads' HO475.1).2.1); rintro e w16 ⟨v478, rfl, ho0, hb⟩; refine ⟨_, rfl, ?_⟩; replace HO471 := hqZ (Kd.N_elder' ((Kd.N_mono (Kd.N_far (p := ⟨gb476, 0, none⟩) (Kd.N_mono HO471.1 (fun k_ hk => (⟨hk, hk.2⟩ : _ ∧ k_ ≠ gb476))) (fun _ hk => hk.2) (.slice Ao13 t469.length co13)) (fun _ h_ => h_.1))) (Kd.R_base ho0) hb); have HO479 := hqZ (Kd.R_lower (Kd.R_new' ho0 (Kd.R_lt ((Kd.R_mono (Kd.R_far (p := ⟨gb476, 0, none⟩) (Kd.R_types HO475.1 BK476.1 (by decide)) (fun _ hk => hk.2) (.slice Ao13 t469.length co13)) (fun _ h_ => h_.1))))) (zb0 (zf0 HB.1 GE476.1))); replace HO475 := hqZ (Kd.R_elder' ((Kd.R_mono (Kd.R_far (p := ⟨gb476, 0, none⟩) (Kd.R_types HO475.1 BK476.1 (by decide)) (fun _ hk => hk.2) (.slice Ao13 t469.length co13)) (fun _ h_ => h_.1))) (Kd.R_base ho0) hb); replace BK476 := hqZ (zc0 (g := gb476) (o := .cells #[.slice Ao13 t469.length co13] 26 (0, 0)) (by refine blk_put (cs := #[.slice none 0 0]) ?_ 0 _ rfl; exact BK476.1) hb); replace HB := hqZ (za0 (zf0 HB.1 GE476.1) hb); clear hb ho0; have hcz17_0 : w16.cell? ⟨gb476, 0, none⟩ = some (.slice Ao13 t469.length co13) := (zh0 BK476.1 0).trans rfl; have hfz17_0 := zd0 BK476.1 0) | ((with_reducible refine ze0 (f := 8) rfl ?_); refine zq0 (some 64) rfl rfl Try.func8 (by kernel_rfl) rfl #[.agg #[.slice Ao13 t469.length co13], .int .i64 t472, .slice Ao15 t473.length co15] rfl (by simp only [hqa, hqb, hqc]; rfl) ?_; (with_reducible refine (yf1.calls k _ _ t469 t472 _ _ t473 t481 t484 _ ?side1 ?side2 ?side3 ?side4 A7.1).mono ?_); (case side1 => exact (Kd.N_reads' HO471.1).2.2); (case side2 => exact (Kd.N_reads' HO471.1).2.1); (case side3 => exact (Kd.R_reads' HO475.1).2.2); (case side4 => exact (Kd.R_reads' HO475.1).2.1); rintro e w18 ⟨v482, rfl, ho0, hb⟩; refine ⟨_, rfl, ?_⟩; replace HO471 := hqZ (Kd.N_elder' (HO471.1) (Kd.R_base ho0) hb); have HO483 := hqZ (Kd.R_lower (Kd.R_new' (Kd.R_new' ho0 (Kd.R_lt (HO475.1))) (Kd.R_lt (HO479.1))) (zb0 (HB.1))); replace HO475 := hqZ (Kd.R_elder' (HO475.1) (Kd.R_base ho0) hb); replace HO479 := hqZ (Kd.R_elder' (HO479.1) (Kd.R_base ho0) hb); replace BK476 := hqZ (zc0 (g := gb476) (o := .cells #[.slice Ao13 t469.length co13] 26 (0, 0)) (BK476.1) hb); replace HB := hqZ (za0 (HB.1) hb); clear hb ho0; have hcz19_0 : w18.cell? ⟨gb476, 0, none⟩ = some (.slice Ao13 t469.length co13) := (zh0 BK476.1 0).trans rfl; have hfz19_0 := zd0 BK476.1 0) | ((with_reducible refine ze0 (f := 9) rfl ?_); refine zq0 (some 71) rfl rfl Try.func9 (by kernel_rfl) rfl #[.agg #[.slice Ao13 t469.length co13], .int .i64 t472, .slice Ao15 t473.length co15] rfl (by simp only [hqa, hqb, hqc]; rfl) ?_; (with_reducible refine (ye1.calls k _ _ t469 t472 _ _ t473 t485 t488 _ ?side1 ?side2 ?side3 ?side4 A8.1).mono ?_); (case side1 => exact (Kd.N_reads' HO471.1).2.2); (case side2 => exact (Kd.N_reads' HO471.1).2.1); (case side3 => exact (Kd.R_reads' HO475.1).2.2); (case side4 => exact (Kd.R_reads' HO475.1).2.1); rintro e w20 ⟨v486, rfl, ho0, hb⟩; refine ⟨_, rfl, ?_⟩; replace HO471 := hqZ (Kd.N_elder' (HO471.1) (Kd.R_base ho0) hb); have HO487 := hqZ (Kd.R_lower (Kd.R_new' (Kd.R_new' (Kd.R_new' ho0 (Kd.R_lt (HO475.1))) (Kd.R_lt (HO479.1))) (Kd.R_lt (HO483.1))) (zb0 (HB.1))); replace HO475 := hqZ (Kd.R_elder' (HO475.1) (Kd.R_base ho0) hb); replace HO479 := hqZ (Kd.R_elder' (HO479.1) (Kd.R_base ho0) hb); replace HO483 := hqZ (Kd.R_elder' (HO483.1) (Kd.R_base ho0) hb); replace BK476 := hqZ (zc0 (g := gb476) (o := .cells #[.slice Ao13 t469.length co13] 26 (0, 0)) (BK476.1) hb); replace HB := hqZ (za0 (HB.1) hb); clear hb ho0; have hcz21_0 : w20.cell? ⟨gb476, 0, none⟩ = some (.slice Ao13 t469.length co13) := (zh0 BK476.1 0).trans rfl; have hfz21_0 := zd0 BK476.1 0) | ((with_reducible refine ze0 (f := 10) rfl ?_); refine zq0 (some 78) rfl rfl Try.func10 (by kernel_rfl) rfl #[.agg #[.slice Ao13 t469.length co13], .int .i64 t472, .slice Ao15 t473.length co15] rfl (by simp only [hqa, hqb, hqc]; rfl) ?_; (with_reducible refine (yd1.calls k _ _ t469 t472 _ _ t473 t489 t492 _ ?side1 ?side2 ?side3 ?side4 A9.1).mono ?_); (case side1 => exact (Kd.N_reads' HO471.1).2.2); (case side2 => exact (Kd.N_reads' HO471.1).2.1); (case side3 => exact (Kd.R_reads' HO475.1).2.2); (case side4 => exact (Kd.R_reads' HO475.1).2.1); rintro e w22 ⟨v490, rfl, ho0, hb⟩; refine ⟨_, rfl, ?_⟩; replace HO471 := hqZ (Kd.N_elder' (HO471.1) (Kd.R_base ho0) hb); have HO491 := hqZ (Kd.R_lower (Kd.R_new' (Kd.R_new' (Kd.R_new' (Kd.R_new' ho0 (Kd.R_lt (HO475.1))) (Kd.R_lt (HO479.1))) (Kd.R_lt (HO483.1))) (Kd.R_lt (HO487.1))) (zb0 (HB.1))); replace HO475 := hqZ (Kd.R_elder' (HO475.1) (Kd.R_base ho0) hb); replace HO479 := hqZ (Kd.R_elder' (HO479.1) (Kd.R_base ho0) hb); replace HO483 := hqZ (Kd.R_elder' (HO483.1) (Kd.R_base ho0) hb); replace HO487 := hqZ (Kd.R_elder' (HO487.1) (Kd.R_base ho0) hb); replace BK476 := hqZ (zc0 (g := gb476) (o := .cells #[.slice Ao13 t469.length co13] 26 (0, 0)) (BK476.1) hb); replace HB := hqZ (za0 (HB.1) hb); clear hb ho0))
 (try simp only [Act.put, zA, zB, zC])
 go_cut [105] (fun v105 wc => ∃ (kq : Nat) (x105_9 : Bool), v105 = .bool x105_9 ∧ zi0 (ya0.j0 kq l1 t472 t473 t477 t480 t485 x105_9 t469 = some r) ∧ zi0 (kq ≤ k) ∧ zi0 (Kd.R (Kd.int .i64) 3 wc w.heap.size (fun k_ => some k_ ≠ (v478 : Value).ownBlock ∧ some k_ ≠ (v486 : Value).ownBlock) (.slice Ao15 t473.length co15) t473) ∧ zi0 (Kd.R (Kd.int .i64) 3 wc w.heap.size (fun k_ => some k_ ≠ ((.slice Ao15 t473.length co15) : Value).ownBlock ∧ some k_ ≠ (v486 : Value).ownBlock) v478 t477) ∧ zi0 (Kd.R (Kd.int .i64) 3 wc w.heap.size (fun k_ => some k_ ≠ ((.slice Ao15 t473.length co15) : Value).ownBlock ∧ some k_ ≠ (v478 : Value).ownBlock) v486 t485) ∧ zi0 (Kd.N (Kd.slice 3 (Kd.int .i64)) 27 wc w.heap.size (fun k_ => some k_ ≠ ((.slice Ao15 t473.length co15) : Value).ownBlock ∧ some k_ ≠ (v478 : Value).ownBlock ∧ some k_ ≠ (v486 : Value).ownBlock ∧ k_ ≠ gb476) (.slice Ao13 t469.length co13) t469) ∧ zi0 (wc.heap[gb476]? = some (.cells #[(.slice Ao13 t469.length co13)] 26 (0, 0))) ∧ zi0 (Below w.heap.size w wc))
 case first =>
  have H := HC10.1
  clear HC10
  by_cases c23 : (t480 != t484) = true
  ·as_aux_lemma =>
   rw [if_pos c23] at H
   have c23b0 : (t480 != t484) = true := c23
   (try (have c23b1 : decide (t480 = t484) = false := by simpa using c23))
   (try (have c23b2 : (t480 == t484) = false := by simpa using c23))
   (try (have c23b3 : ¬ (t480 = t484) := by simpa using c23))
   clear c23
   (first | rw [c23b0] | (simp only [i64_w, i32_w]; rw [c23b0]) | skip)
   have H' := hqZ H
   clear H
   go_wp2
   go_meet
   case rel =>
    refine ⟨_, (true), ?_, H', ?_, ?_, ?_, ?_, ?_, ?_, ?_⟩
    ·exact (rfl)
    ·exact ⟨by first | omega | exact Nat.le_refl _⟩
    ·exact ⟨Kd.R_mono HO475.1 (fun _ hk => ⟨hk.1.1.1.2, hk.1.2⟩)⟩
    ·exact ⟨Kd.R_mono HO479.1 (fun _ hk => ⟨hk.1.1.1.2, hk.1.2⟩)⟩
    ·exact ⟨Kd.R_mono HO487.1 (fun _ hk => ⟨hk.1.1.1.2, hk.1.1.2⟩)⟩
    ·exact ⟨Kd.N_mono HO471.1 (fun _ hk => ⟨hk.1.1.1.1.1, ⟨hk.1.1.1.2, ⟨hk.1.2, hk.1.1.1.1.2⟩⟩⟩)⟩
    ·exact ⟨BK476.1⟩
    ·exact ⟨HB.1⟩
  as_aux_lemma =>
  rw [if_neg c23] at H
  have c23b0 : (t480 != t484) = false := by simpa using c23
  (try (have c23b1 : decide (t480 = t484) = true := by simpa using c23))
  (try (have c23b2 : (t480 == t484) = true := by simpa using c23))
  clear c23
  (first | rw [c23b0] | (simp only [i64_w, i32_w]; rw [c23b0]) | skip)
  replace H := Option.bind_eq_some_iff.mp H
  obtain ⟨t493, A240, H⟩ := H
  replace H : (if t493 = true then (if (t488 != t492) = true then (ya0.j0 k l1 t472 t473 t477 t480 t485 true t469) else ((yc0.f k t485 t489).bind fun t494 => (if t494 = true then (ya0.j0 k l1 t472 t473 t477 t480 t485 (t488 != t480) t469) else (ya0.j0 k l1 t472 t473 t477 t480 t485 true t469)))) else (ya0.j0 k l1 t472 t473 t477 t480 t485 true t469)) = some r := H
  have A24 := hqZ A240
  clear A240
  by_cases c25 : t493 = true
  rotate_left
  ·as_aux_lemma =>
   replace c25 := Bool.eq_false_iff.mpr c25
   subst c25
   have H1 : (ya0.j0 k l1 t472 t473 t477 t480 t485 true t469) = some r := by rw [if_neg (show ¬ (false = true) by decide)] at H; exact H
   clear H
   have H := H1
   clear H1
   have H' := hqZ H
   clear H
   obtain ⟨Ao39, co39, eo39⟩ := Kd.R_slice HO479.1
   subst eo39
   obtain ⟨Ao40, co40, eo40⟩ := Kd.R_slice HO483.1
   subst eo40
   go_wp2_with (first | (go_at_call 11; (with_reducible refine (yc0.calls k _ _ t477 _ _ t481 false _ ?side1 ?side2 ?side3 ?side4 A24.1).mono ?_); (case side1 => exact (Kd.R_reads' HO479.1).2.2); (case side2 => exact (Kd.R_reads' HO479.1).2.1); (case side3 => exact (Kd.R_reads' HO483.1).2.2); (case side4 => exact (Kd.R_reads' HO483.1).2.1); rintro e w' ⟨rfl, ⟨nd, rfl⟩⟩))
   go_meet
   case rel =>
    refine ⟨_, (true), ?_, H', ?_, ?_, ?_, ?_, ?_, ?_, ?_⟩
    ·exact (rfl)
    ·exact ⟨by first | omega | exact Nat.le_refl _⟩
    ·exact ⟨Kd.R_mono HO475.1 (fun _ hk => ⟨hk.1.1.1.2, hk.1.2⟩)⟩
    ·exact ⟨Kd.R_mono HO479.1 (fun _ hk => ⟨hk.1.1.1.2, hk.1.2⟩)⟩
    ·exact ⟨Kd.R_mono HO487.1 (fun _ hk => ⟨hk.1.1.1.2, hk.1.1.2⟩)⟩
    ·exact ⟨Kd.N_mono HO471.1 (fun _ hk => ⟨hk.1.1.1.1.1, ⟨hk.1.1.1.2, ⟨hk.1.2, hk.1.1.1.1.2⟩⟩⟩)⟩
    ·exact ⟨BK476.1⟩
    ·exact ⟨hqB HB.1⟩
  as_aux_lemma =>
  subst c25
  have H1 : (if (t488 != t492) = true then (ya0.j0 k l1 t472 t473 t477 t480 t485 true t469) else ((yc0.f k t485 t489).bind fun t494 => (if t494 = true then (ya0.j0 k l1 t472 t473 t477 t480 t485 (t488 != t480) t469) else (ya0.j0 k l1 t472 t473 t477 t480 t485 true t469)))) = some r := by rw [if_pos rfl] at H; exact H
  clear H
  have H := H1
  clear H1
  by_cases c26 : (t488 != t492) = true
  ·as_aux_lemma =>
   rw [if_pos c26] at H
   have c26b0 : (t488 != t492) = true := c26
   (try (have c26b1 : decide (t488 = t492) = false := by simpa using c26))
   (try (have c26b2 : (t488 == t492) = false := by simpa using c26))
   (try (have c26b3 : ¬ (t488 = t492) := by simpa using c26))
   clear c26
   have H' := hqZ H
   clear H
   obtain ⟨Ao27, co27, eo27⟩ := Kd.R_slice HO479.1
   subst eo27
   obtain ⟨Ao28, co28, eo28⟩ := Kd.R_slice HO483.1
   subst eo28
   go_wp2_with (first | (go_at_call 11; (with_reducible refine (yc0.calls k _ _ t477 _ _ t481 true _ ?side1 ?side2 ?side3 ?side4 A24.1).mono ?_); (case side1 => exact (Kd.R_reads' HO479.1).2.2); (case side2 => exact (Kd.R_reads' HO479.1).2.1); (case side3 => exact (Kd.R_reads' HO483.1).2.2); (case side4 => exact (Kd.R_reads' HO483.1).2.1); rintro e w' ⟨rfl, ⟨nd, rfl⟩⟩))
   go_meet
   case rel =>
    refine ⟨_, (true), ?_, H', ?_, ?_, ?_, ?_, ?_, ?_, ?_⟩
    ·exact (rfl)
    ·exact ⟨by first | omega | exact Nat.le_refl _⟩
    ·exact ⟨Kd.R_mono HO475.1 (fun _ hk => ⟨hk.1.1.1.2, hk.1.2⟩)⟩
    ·exact ⟨Kd.R_mono HO479.1 (fun _ hk => ⟨hk.1.1.1.2, hk.1.2⟩)⟩
    ·exact ⟨Kd.R_mono HO487.1 (fun _ hk => ⟨hk.1.1.1.2, hk.1.1.2⟩)⟩
    ·exact ⟨Kd.N_mono HO471.1 (fun _ hk => ⟨hk.1.1.1.1.1, ⟨hk.1.1.1.2, ⟨hk.1.2, hk.1.1.1.1.2⟩⟩⟩)⟩
    ·exact ⟨BK476.1⟩
    ·exact ⟨hqB HB.1⟩
  as_aux_lemma =>
  rw [if_neg c26] at H
  have c26b0 : (t488 != t492) = false := by simpa using c26
  (try (have c26b1 : decide (t488 = t492) = true := by simpa using c26))
  (try (have c26b2 : (t488 == t492) = true := by simpa using c26))
  clear c26
  replace H := Option.bind_eq_some_iff.mp H
  obtain ⟨t494, A290, H⟩ := H
  replace H : (if t494 = true then (ya0.j0 k l1 t472 t473 t477 t480 t485 (t488 != t480) t469) else (ya0.j0 k l1 t472 t473 t477 t480 t485 true t469)) = some r := H
  have A29 := hqZ A290
  clear A290
  by_cases c30 : t494 = true
  ·as_aux_lemma =>
   subst c30
   have H1 : (ya0.j0 k l1 t472 t473 t477 t480 t485 (t488 != t480) t469) = some r := by rw [if_pos rfl] at H; exact H
   clear H
   have H := H1
   clear H1
   have H' := hqZ H
   clear H
   obtain ⟨Ao31, co31, eo31⟩ := Kd.R_slice HO479.1
   subst eo31
   obtain ⟨Ao32, co32, eo32⟩ := Kd.R_slice HO483.1
   subst eo32
   go_wp2_with (first | (go_at_call 11; (with_reducible refine (yc0.calls k _ _ t477 _ _ t481 true _ ?side1 ?side2 ?side3 ?side4 A24.1).mono ?_); (case side1 => exact (Kd.R_reads' HO479.1).2.2); (case side2 => exact (Kd.R_reads' HO479.1).2.1); (case side3 => exact (Kd.R_reads' HO483.1).2.2); (case side4 => exact (Kd.R_reads' HO483.1).2.1); rintro e w' ⟨rfl, ⟨nd, rfl⟩⟩; obtain ⟨Ao33, co33, eo33⟩ := Kd.R_slice HO487.1; subst eo33; obtain ⟨Ao34, co34, eo34⟩ := Kd.R_slice HO491.1; subst eo34) | (go_at_call 11; (with_reducible refine (yc0.calls k _ _ t485 _ _ t489 true _ ?side1 ?side2 ?side3 ?side4 A29.1).mono ?_); (case side1 => exact (Kd.R_reads' HO487.1).2.2); (case side2 => exact (Kd.R_reads' HO487.1).2.1); (case side3 => exact (Kd.R_reads' HO491.1).2.2); (case side4 => exact (Kd.R_reads' HO491.1).2.1); rintro e w' ⟨rfl, ⟨nd, rfl⟩⟩))
   go_meet
   case rel =>
    refine ⟨_, ((t488 != t480)), ?_, H', ?_, ?_, ?_, ?_, ?_, ?_, ?_⟩
    ·exact (rfl)
    ·exact ⟨by first | omega | exact Nat.le_refl _⟩
    ·exact ⟨Kd.R_mono HO475.1 (fun _ hk => ⟨hk.1.1.1.2, hk.1.2⟩)⟩
    ·exact ⟨Kd.R_mono HO479.1 (fun _ hk => ⟨hk.1.1.1.2, hk.1.2⟩)⟩
    ·exact ⟨Kd.R_mono HO487.1 (fun _ hk => ⟨hk.1.1.1.2, hk.1.1.2⟩)⟩
    ·exact ⟨Kd.N_mono HO471.1 (fun _ hk => ⟨hk.1.1.1.1.1, ⟨hk.1.1.1.2, ⟨hk.1.2, hk.1.1.1.1.2⟩⟩⟩)⟩
    ·exact ⟨BK476.1⟩
    ·exact ⟨hqB HB.1⟩
  as_aux_lemma =>
  replace c30 := Bool.eq_false_iff.mpr c30
  subst c30
  have H1 : (ya0.j0 k l1 t472 t473 t477 t480 t485 true t469) = some r := by rw [if_neg (show ¬ (false = true) by decide)] at H; exact H
  clear H
  have H := H1
  clear H1
  have H' := hqZ H
  clear H
  obtain ⟨Ao35, co35, eo35⟩ := Kd.R_slice HO479.1
  subst eo35
  obtain ⟨Ao36, co36, eo36⟩ := Kd.R_slice HO483.1
  subst eo36
  go_wp2_with (first | (go_at_call 11; (with_reducible refine (yc0.calls k _ _ t477 _ _ t481 true _ ?side1 ?side2 ?side3 ?side4 A24.1).mono ?_); (case side1 => exact (Kd.R_reads' HO479.1).2.2); (case side2 => exact (Kd.R_reads' HO479.1).2.1); (case side3 => exact (Kd.R_reads' HO483.1).2.2); (case side4 => exact (Kd.R_reads' HO483.1).2.1); rintro e w' ⟨rfl, ⟨nd, rfl⟩⟩; obtain ⟨Ao37, co37, eo37⟩ := Kd.R_slice HO487.1; subst eo37; obtain ⟨Ao38, co38, eo38⟩ := Kd.R_slice HO491.1; subst eo38) | (go_at_call 11; (with_reducible refine (yc0.calls k _ _ t485 _ _ t489 false _ ?side1 ?side2 ?side3 ?side4 A29.1).mono ?_); (case side1 => exact (Kd.R_reads' HO487.1).2.2); (case side2 => exact (Kd.R_reads' HO487.1).2.1); (case side3 => exact (Kd.R_reads' HO491.1).2.2); (case side4 => exact (Kd.R_reads' HO491.1).2.1); rintro e w' ⟨rfl, ⟨nd, rfl⟩⟩))
  go_meet
  case rel =>
   refine ⟨_, (true), ?_, H', ?_, ?_, ?_, ?_, ?_, ?_, ?_⟩
   ·exact (rfl)
   ·exact ⟨by first | omega | exact Nat.le_refl _⟩
   ·exact ⟨Kd.R_mono HO475.1 (fun _ hk => ⟨hk.1.1.1.2, hk.1.2⟩)⟩
   ·exact ⟨Kd.R_mono HO479.1 (fun _ hk => ⟨hk.1.1.1.2, hk.1.2⟩)⟩
   ·exact ⟨Kd.R_mono HO487.1 (fun _ hk => ⟨hk.1.1.1.2, hk.1.1.2⟩)⟩
   ·exact ⟨Kd.N_mono HO471.1 (fun _ hk => ⟨hk.1.1.1.1.1, ⟨hk.1.1.1.2, ⟨hk.1.2, hk.1.1.1.1.2⟩⟩⟩)⟩
   ·exact ⟨BK476.1⟩
   ·exact ⟨hqB HB.1⟩
 case rest =>
  clear HC10
  try clear c1
  try clear c2
  try clear p2
  try clear c3
  try clear c4
  try clear c5
  try clear c6
  try clear c7
  try clear c8
  try clear c9
  try clear c10
  try clear c23
  try clear c23b0
  try clear c23b1
  try clear c23b2
  try clear c25
  try clear c26
  try clear c26b0
  try clear c26b1
  try clear c26b2
  try clear c30
  try clear hcz14_0
  try clear hcz17_0
  try clear hcz19_0
  try clear hcz21_0
  try clear hfz14_0
  try clear hfz17_0
  try clear hfz19_0
  try clear hfz21_0
  obtain ⟨kq, x105_9, rfl, HA, HJ9, HO_7, HO_8, HO_12, HO_477000, BK476, HB⟩ := hcut
  cases kq with
  | zero => exact absurd HA.1 (by simp [ya0.j0])
  | succ kj9 =>
   have H := HA.1
   clear HA
   simp only [ya0.j0] at H
   by_cases c41 : x105_9 = true
   ·as_aux_lemma =>
    subst c41
    have H1 : (some false) = some r := by rw [if_pos rfl] at H; exact H
    clear H
    have H := H1
    clear H1
    obtain rfl := Option.some.inj H
    go_wp2
    go_ret
    exact ⟨rfl, HB.1⟩
   as_aux_lemma =>
   replace c41 := Bool.eq_false_iff.mpr c41
   subst c41
   have H1 : (if t480 = true then ((yw0.f kj9 t469 t472 t477).bind fun bt495 => ((ys0.f kj9 t469 t472 t477).bind fun bt497 => (if bt495.2 = true then (if bt495.1 = true then (if bt497.2 = true then ((yc0.f kj9 bt497.1 t477).bind fun t501 => (if t501 = true then (if 0 ≤ t472 then (if t472 < (t485.length : Int) then (ya0.j1 kj9 l1 t472 t473 t477 t485 ((rd t485 t472) != 0) t469) else (none)) else (none)) else (ya0.j1 kj9 l1 t472 t473 t477 t485 true t469))) else (ya0.j1 kj9 l1 t472 t473 t477 t485 true t469)) else (ya0.j1 kj9 l1 t472 t473 t477 t485 true t469)) else (ya0.j1 kj9 l1 t472 t473 t477 t485 true t469)))) else (ya0.j4 kj9 l1)) = some r := by rw [if_neg (show ¬ (false = true) by decide)] at H; exact H
   clear H
   have H := H1
   clear H1
   have HC42 := hqZ H
   clear H
   go_upto_if 106 with (fail)
   go_cut [] (fun wc => ∃ (kq : Nat), zi0 (ya0.j4 kq l1 = some r) ∧ zi0 (kq ≤ kj9) ∧ zi0 (Kd.N (Kd.slice 3 (Kd.int .i64)) 27 wc w.heap.size (fun k_ => k_ ≠ gb476) (.slice Ao13 t469.length co13) t469) ∧ zi0 (wc.heap[gb476]? = some (.cells #[(.slice Ao13 t469.length co13)] 26 (0, 0))) ∧ zi0 (Below w.heap.size w wc))
   case first =>
    have H := HC42.1
    clear HC42
    by_cases c43 : t480 = true
    rotate_left
    ·as_aux_lemma =>
     replace c43 := Bool.eq_false_iff.mpr c43
     subst c43
     have H1 : (ya0.j4 kj9 l1) = some r := by rw [if_neg (show ¬ (false = true) by decide)] at H; exact H
     clear H
     have H := H1
     clear H1
     have H' := hqZ H
     clear H
     go_wp2
     go_meet
     case rel =>
      refine ⟨_, H', ?_, ?_, ?_, ?_⟩
      ·exact ⟨by have := HJ9.1; first | omega | exact Nat.le_refl _⟩
      ·exact ⟨Kd.N_mono HO_477000.1 (fun _ hk => hk.2.2.2)⟩
      ·exact ⟨BK476.1⟩
      ·exact ⟨HB.1⟩
    as_aux_lemma =>
    subst c43
    have H1 : ((yw0.f kj9 t469 t472 t477).bind fun bt495 => ((ys0.f kj9 t469 t472 t477).bind fun bt497 => (if bt495.2 = true then (if bt495.1 = true then (if bt497.2 = true then ((yc0.f kj9 bt497.1 t477).bind fun t501 => (if t501 = true then (if 0 ≤ t472 then (if t472 < (t485.length : Int) then (ya0.j1 kj9 l1 t472 t473 t477 t485 ((rd t485 t472) != 0) t469) else (none)) else (none)) else (ya0.j1 kj9 l1 t472 t473 t477 t485 true t469))) else (ya0.j1 kj9 l1 t472 t473 t477 t485 true t469)) else (ya0.j1 kj9 l1 t472 t473 t477 t485 true t469)) else (ya0.j1 kj9 l1 t472 t473 t477 t485 true t469)))) = some r := by rw [if_pos rfl] at H; exact H
    clear H
    have H := H1
    clear H1
    replace H := Option.bind_eq_some_iff.mp H
    obtain ⟨⟨t495, t496⟩, A440, H⟩ := H
    replace H : ((ys0.f kj9 t469 t472 t477).bind fun bt497 => (if t496 = true then (if t495 = true then (if bt497.2 = true then ((yc0.f kj9 bt497.1 t477).bind fun t501 => (if t501 = true then (if 0 ≤ t472 then (if t472 < (t485.length : Int) then (ya0.j1 kj9 l1 t472 t473 t477 t485 ((rd t485 t472) != 0) t469) else (none)) else (none)) else (ya0.j1 kj9 l1 t472 t473 t477 t485 true t469))) else (ya0.j1 kj9 l1 t472 t473 t477 t485 true t469)) else (ya0.j1 kj9 l1 t472 t473 t477 t485 true t469)) else (ya0.j1 kj9 l1 t472 t473 t477 t485 true t469))) = some r := H
    have A44 := hqZ A440
    clear A440
    replace H := Option.bind_eq_some_iff.mp H
    obtain ⟨⟨t497, t500⟩, A450, H⟩ := H
    replace H : (if t496 = true then (if t495 = true then (if t500 = true then ((yc0.f kj9 t497 t477).bind fun t501 => (if t501 = true then (if 0 ≤ t472 then (if t472 < (t485.length : Int) then (ya0.j1 kj9 l1 t472 t473 t477 t485 ((rd t485 t472) != 0) t469) else (none)) else (none)) else (ya0.j1 kj9 l1 t472 t473 t477 t485 true t469))) else (ya0.j1 kj9 l1 t472 t473 t477 t485 true t469)) else (ya0.j1 kj9 l1 t472 t473 t477 t485 true t469)) else (ya0.j1 kj9 l1 t472 t473 t477 t485 true t469)) = some r := H
    have A45 := hqZ A450
    clear A450
    have HC46 := hqZ H
    clear H
    have hcz47_0 : wc.cell? ⟨gb476, 0, none⟩ = some (.slice Ao13 t469.length co13) := (zh0 BK476.1 0).trans rfl
    have hfz47_0 := zd0 BK476.1 0
    obtain ⟨Ao48, co48, eo48⟩ := Kd.R_slice HO_8.1
    subst eo48
    go_upto_region 13 with (first | ((with_reducible refine ze0 (f := 12) rfl ?_); refine zq0 (some 111) rfl rfl Try.func12 (by kernel_rfl) rfl #[.agg #[.slice Ao13 t469.length co13], .int .i64 t472, .slice Ao48 t477.length co48] rfl (by simp only [hqa, hqb, hqc]; rfl) ?_; (with_reducible refine (yw0.calls kj9 _ _ t469 t472 _ _ t477 t495 t496 _ ?side1 ?side2 ?side3 ?side4 A44.1).mono ?_); (case side1 => exact (Kd.N_reads' HO_477000.1).2.2); (case side2 => exact (Kd.N_reads' HO_477000.1).2.1); (case side3 => exact (Kd.R_reads' HO_8.1).2.2); (case side4 => exact (Kd.R_reads' HO_8.1).2.1); rintro e w49 ⟨rfl, hb⟩; refine ⟨_, rfl, ?_⟩; replace HO_7 := hqZ (Kd.R_below (HO_7.1) hb); replace HO_8 := hqZ (Kd.R_below (HO_8.1) hb); replace HO_12 := hqZ (Kd.R_below (HO_12.1) hb); replace HO_477000 := hqZ (Kd.N_below (HO_477000.1) hb); replace BK476 := hqZ (zc0 (g := gb476) (o := .cells #[.slice Ao13 t469.length co13] 26 (0, 0)) (BK476.1) hb); replace HB := hqZ (za0 (HB.1) hb); clear hb; have hcz50_0 : w49.cell? ⟨gb476, 0, none⟩ = some (.slice Ao13 t469.length co13) := (zh0 BK476.1 0).trans rfl; have hfz50_0 := zd0 BK476.1 0) | ((with_reducible refine ze0 (f := 7) rfl ?_); refine zq0 (some 118) rfl rfl Try.func7 (by kernel_rfl) rfl #[.agg #[.slice Ao13 t469.length co13], .int .i64 t472, .slice Ao48 t477.length co48] rfl (by simp only [hqa, hqb, hqc]; rfl) ?_; (with_reducible refine (ys0.calls kj9 _ _ t469 t472 _ _ t477 t497 t500 _ ?side1 ?side2 ?side3 ?side4 A45.1).mono ?_); (case side1 => exact (Kd.N_reads' HO_477000.1).2.2); (case side2 => exact (Kd.N_reads' HO_477000.1).2.1); (case side3 => exact (Kd.R_reads' HO_8.1).2.2); (case side4 => exact (Kd.R_reads' HO_8.1).2.1); rintro e w51 ⟨v498, rfl, ho0, hb⟩; refine ⟨_, rfl, ?_⟩; replace HO_477000 := hqZ (Kd.N_elder' (HO_477000.1) (Kd.R_base ho0) hb); have HO499 := hqZ (Kd.R_lower (Kd.R_new' (Kd.R_new' (Kd.R_new' ho0 (Kd.R_lt (HO_7.1))) (Kd.R_lt (HO_8.1))) (Kd.R_lt (HO_12.1))) (zb0 (HB.1))); replace HO_7 := hqZ (Kd.R_elder' (HO_7.1) (Kd.R_base ho0) hb); replace HO_8 := hqZ (Kd.R_elder' (HO_8.1) (Kd.R_base ho0) hb); replace HO_12 := hqZ (Kd.R_elder' (HO_12.1) (Kd.R_base ho0) hb); replace BK476 := hqZ (zc0 (g := gb476) (o := .cells #[.slice Ao13 t469.length co13] 26 (0, 0)) (BK476.1) hb); replace HB := hqZ (za0 (HB.1) hb); clear hb ho0))
    (try simp only [Act.put, zA, zB, zC])
    go_cut [143] (fun v143 wc => ∃ (kq : Nat) (x143_45 : Bool), v143 = .bool x143_45 ∧ zi0 (ya0.j1 kq l1 t472 t473 t477 t485 x143_45 t469 = some r) ∧ zi0 (kq ≤ kj9) ∧ zi0 (Kd.R (Kd.int .i64) 3 wc w.heap.size (fun k_ => some k_ ≠ ((.slice Ao48 t477.length co48) : Value).ownBlock ∧ some k_ ≠ (v486 : Value).ownBlock) (.slice Ao15 t473.length co15) t473) ∧ zi0 (Kd.R (Kd.int .i64) 3 wc w.heap.size (fun k_ => some k_ ≠ ((.slice Ao15 t473.length co15) : Value).ownBlock ∧ some k_ ≠ (v486 : Value).ownBlock) (.slice Ao48 t477.length co48) t477) ∧ zi0 (Kd.R (Kd.int .i64) 3 wc w.heap.size (fun k_ => some k_ ≠ ((.slice Ao15 t473.length co15) : Value).ownBlock ∧ some k_ ≠ ((.slice Ao48 t477.length co48) : Value).ownBlock) v486 t485) ∧ zi0 (Kd.N (Kd.slice 3 (Kd.int .i64)) 27 wc w.heap.size (fun k_ => some k_ ≠ ((.slice Ao15 t473.length co15) : Value).ownBlock ∧ some k_ ≠ ((.slice Ao48 t477.length co48) : Value).ownBlock ∧ some k_ ≠ (v486 : Value).ownBlock ∧ k_ ≠ gb476) (.slice Ao13 t469.length co13) t469) ∧ zi0 (wc.heap[gb476]? = some (.cells #[(.slice Ao13 t469.length co13)] 26 (0, 0))) ∧ zi0 (Below w.heap.size w wc))
    case first =>
     have H := HC46.1
     clear HC46
     by_cases c52 : t496 = true
     rotate_left
     ·as_aux_lemma =>
      replace c52 := Bool.eq_false_iff.mpr c52
      subst c52
      have H1 : (ya0.j1 kj9 l1 t472 t473 t477 t485 true t469) = some r := by rw [if_neg (show ¬ (false = true) by decide)] at H; exact H
      clear H
      have H := H1
      clear H1
      have H' := hqZ H
      clear H
      go_wp2
      go_meet
      case rel =>
       refine ⟨_, (true), ?_, H', ?_, ?_, ?_, ?_, ?_, ?_, ?_⟩
       ·exact (rfl)
       ·exact ⟨by have := HJ9.1; first | omega | exact Nat.le_refl _⟩
       ·exact ⟨Kd.R_mono HO_7.1 (fun _ hk => ⟨hk.1.1, hk.1.2⟩)⟩
       ·exact ⟨Kd.R_mono HO_8.1 (fun _ hk => ⟨hk.1.1, hk.1.2⟩)⟩
       ·exact ⟨Kd.R_mono HO_12.1 (fun _ hk => ⟨hk.1.1, hk.1.2⟩)⟩
       ·exact ⟨Kd.N_mono HO_477000.1 (fun _ hk => ⟨hk.1.1, ⟨hk.1.2.1, ⟨hk.1.2.2.1, hk.1.2.2.2⟩⟩⟩)⟩
       ·exact ⟨BK476.1⟩
       ·exact ⟨HB.1⟩
     as_aux_lemma =>
     subst c52
     have H1 : (if t495 = true then (if t500 = true then ((yc0.f kj9 t497 t477).bind fun t501 => (if t501 = true then (if 0 ≤ t472 then (if t472 < (t485.length : Int) then (ya0.j1 kj9 l1 t472 t473 t477 t485 ((rd t485 t472) != 0) t469) else (none)) else (none)) else (ya0.j1 kj9 l1 t472 t473 t477 t485 true t469))) else (ya0.j1 kj9 l1 t472 t473 t477 t485 true t469)) else (ya0.j1 kj9 l1 t472 t473 t477 t485 true t469)) = some r := by rw [if_pos rfl] at H; exact H
     clear H
     have H := H1
     clear H1
     by_cases c53 : t495 = true
     rotate_left
     ·as_aux_lemma =>
      replace c53 := Bool.eq_false_iff.mpr c53
      subst c53
      have H1 : (ya0.j1 kj9 l1 t472 t473 t477 t485 true t469) = some r := by rw [if_neg (show ¬ (false = true) by decide)] at H; exact H
      clear H
      have H := H1
      clear H1
      have H' := hqZ H
      clear H
      go_wp2
      go_meet
      case rel =>
       refine ⟨_, (true), ?_, H', ?_, ?_, ?_, ?_, ?_, ?_, ?_⟩
       ·exact (rfl)
       ·exact ⟨by have := HJ9.1; first | omega | exact Nat.le_refl _⟩
       ·exact ⟨Kd.R_mono HO_7.1 (fun _ hk => ⟨hk.1.1, hk.1.2⟩)⟩
       ·exact ⟨Kd.R_mono HO_8.1 (fun _ hk => ⟨hk.1.1, hk.1.2⟩)⟩
       ·exact ⟨Kd.R_mono HO_12.1 (fun _ hk => ⟨hk.1.1, hk.1.2⟩)⟩
       ·exact ⟨Kd.N_mono HO_477000.1 (fun _ hk => ⟨hk.1.1, ⟨hk.1.2.1, ⟨hk.1.2.2.1, hk.1.2.2.2⟩⟩⟩)⟩
       ·exact ⟨BK476.1⟩
       ·exact ⟨HB.1⟩
     as_aux_lemma =>
     subst c53
     have H1 : (if t500 = true then ((yc0.f kj9 t497 t477).bind fun t501 => (if t501 = true then (if 0 ≤ t472 then (if t472 < (t485.length : Int) then (ya0.j1 kj9 l1 t472 t473 t477 t485 ((rd t485 t472) != 0) t469) else (none)) else (none)) else (ya0.j1 kj9 l1 t472 t473 t477 t485 true t469))) else (ya0.j1 kj9 l1 t472 t473 t477 t485 true t469)) = some r := by rw [if_pos rfl] at H; exact H
     clear H
     have H := H1
     clear H1
     by_cases c54 : t500 = true
     rotate_left
     ·as_aux_lemma =>
      replace c54 := Bool.eq_false_iff.mpr c54
      subst c54
      have H1 : (ya0.j1 kj9 l1 t472 t473 t477 t485 true t469) = some r := by rw [if_neg (show ¬ (false = true) by decide)] at H; exact H
      clear H
      have H := H1
      clear H1
      have H' := hqZ H
      clear H
      go_wp2
      go_meet
      case rel =>
       refine ⟨_, (true), ?_, H', ?_, ?_, ?_, ?_, ?_, ?_, ?_⟩
       ·exact (rfl)
       ·exact ⟨by have := HJ9.1; first | omega | exact Nat.le_refl _⟩
       ·exact ⟨Kd.R_mono HO_7.1 (fun _ hk => ⟨hk.1.1, hk.1.2⟩)⟩
       ·exact ⟨Kd.R_mono HO_8.1 (fun _ hk => ⟨hk.1.1, hk.1.2⟩)⟩
       ·exact ⟨Kd.R_mono HO_12.1 (fun _ hk => ⟨hk.1.1, hk.1.2⟩)⟩
       ·exact ⟨Kd.N_mono HO_477000.1 (fun _ hk => ⟨hk.1.1, ⟨hk.1.2.1, ⟨hk.1.2.2.1, hk.1.2.2.2⟩⟩⟩)⟩
       ·exact ⟨BK476.1⟩
       ·exact ⟨HB.1⟩
     as_aux_lemma =>
     subst c54
     have H1 : ((yc0.f kj9 t497 t477).bind fun t501 => (if t501 = true then (if 0 ≤ t472 then (if t472 < (t485.length : Int) then (ya0.j1 kj9 l1 t472 t473 t477 t485 ((rd t485 t472) != 0) t469) else (none)) else (none)) else (ya0.j1 kj9 l1 t472 t473 t477 t485 true t469))) = some r := by rw [if_pos rfl] at H; exact H
     clear H
     have H := H1
     clear H1
     replace H := Option.bind_eq_some_iff.mp H
     obtain ⟨t501, A550, H⟩ := H
     replace H : (if t501 = true then (if 0 ≤ t472 then (if t472 < (t485.length : Int) then (ya0.j1 kj9 l1 t472 t473 t477 t485 ((rd t485 t472) != 0) t469) else (none)) else (none)) else (ya0.j1 kj9 l1 t472 t473 t477 t485 true t469)) = some r := H
     have A55 := hqZ A550
     clear A550
     by_cases c56 : t501 = true
     rotate_left
     ·as_aux_lemma =>
      replace c56 := Bool.eq_false_iff.mpr c56
      subst c56
      have H1 : (ya0.j1 kj9 l1 t472 t473 t477 t485 true t469) = some r := by rw [if_neg (show ¬ (false = true) by decide)] at H; exact H
      clear H
      have H := H1
      clear H1
      have H' := hqZ H
      clear H
      obtain ⟨Ao61, co61, eo61⟩ := Kd.R_slice HO499.1
      subst eo61
      go_wp2_with (first | (go_at_call 11; (with_reducible refine (yc0.calls kj9 _ _ t497 _ _ t477 false _ ?side1 ?side2 ?side3 ?side4 A55.1).mono ?_); (case side1 => exact (Kd.R_reads' HO499.1).2.2); (case side2 => exact (Kd.R_reads' HO499.1).2.1); (case side3 => exact (Kd.R_reads' HO_8.1).2.2); (case side4 => exact (Kd.R_reads' HO_8.1).2.1); rintro e w' ⟨rfl, ⟨nd, rfl⟩⟩))
      go_meet
      case rel =>
       refine ⟨_, (true), ?_, H', ?_, ?_, ?_, ?_, ?_, ?_, ?_⟩
       ·exact (rfl)
       ·exact ⟨by have := HJ9.1; first | omega | exact Nat.le_refl _⟩
       ·exact ⟨Kd.R_mono HO_7.1 (fun _ hk => ⟨hk.1.1, hk.1.2⟩)⟩
       ·exact ⟨Kd.R_mono HO_8.1 (fun _ hk => ⟨hk.1.1, hk.1.2⟩)⟩
       ·exact ⟨Kd.R_mono HO_12.1 (fun _ hk => ⟨hk.1.1, hk.1.2⟩)⟩
       ·exact ⟨Kd.N_mono HO_477000.1 (fun _ hk => ⟨hk.1.1, ⟨hk.1.2.1, ⟨hk.1.2.2.1, hk.1.2.2.2⟩⟩⟩)⟩
       ·exact ⟨BK476.1⟩
       ·exact ⟨hqB HB.1⟩
     as_aux_lemma =>
     subst c56
     have H1 : (if 0 ≤ t472 then (if t472 < (t485.length : Int) then (ya0.j1 kj9 l1 t472 t473 t477 t485 ((rd t485 t472) != 0) t469) else (none)) else (none)) = some r := by rw [if_pos rfl] at H; exact H
     clear H
     have H := H1
     clear H1
     by_cases c57 : 0 ≤ t472
     rotate_left
     ·as_aux_lemma =>
      rw [if_neg c57] at H
      exact absurd H (by simp)
     as_aux_lemma =>
     rw [if_pos c57] at H
     have c57b0 : decide (0 ≤ t472) = true := decide_eq_true c57
     clear c57
     (first | rw [c57b0] | (simp only [i64_w, i32_w]; rw [c57b0]) | skip)
     by_cases c58 : t472 < (t485.length : Int)
     rotate_left
     ·as_aux_lemma =>
      rw [if_neg c58] at H
      exact absurd H (by simp)
     as_aux_lemma =>
     rw [if_pos c58] at H
     have c58b0 : decide (t472 < (t485.length : Int)) = true := decide_eq_true c58
     clear c58
     have H' := hqZ H
     clear H
     obtain ⟨Ao59, co59, eo59⟩ := Kd.R_slice HO499.1
     subst eo59
     go_wp2_with (first | (go_at_call 11; (with_reducible refine (yc0.calls kj9 _ _ t497 _ _ t477 true _ ?side1 ?side2 ?side3 ?side4 A55.1).mono ?_); (case side1 => exact (Kd.R_reads' HO499.1).2.2); (case side2 => exact (Kd.R_reads' HO499.1).2.1); (case side3 => exact (Kd.R_reads' HO_8.1).2.2); (case side4 => exact (Kd.R_reads' HO_8.1).2.1); rintro e w' ⟨rfl, ⟨nd, rfl⟩⟩; obtain ⟨Ao60, co60, eo60⟩ := Kd.R_slice HO_12.1; subst eo60; have p502 : 0 ≤ (t472 : Int) := of_decide_eq_true (by assumption); have q502 : t472 < (t485.length : Int) := of_decide_eq_true (by assumption); obtain ⟨ad502, e502, hx502_0⟩ := Kd.at_int (Kd.R_reads' HO_12.1).2.2 t472 p502 q502; cases e502; replace p502 := eq_true p502; replace q502 := eq_true q502))
     go_meet
     case rel =>
      refine ⟨_, (((rd t485 t472) != 0)), ?_, H', ?_, ?_, ?_, ?_, ?_, ?_, ?_⟩
      ·exact (rfl)
      ·exact ⟨by have := HJ9.1; first | omega | exact Nat.le_refl _⟩
      ·exact ⟨Kd.R_mono HO_7.1 (fun _ hk => ⟨hk.1.1, hk.1.2⟩)⟩
      ·exact ⟨Kd.R_mono HO_8.1 (fun _ hk => ⟨hk.1.1, hk.1.2⟩)⟩
      ·exact ⟨Kd.R_mono HO_12.1 (fun _ hk => ⟨hk.1.1, hk.1.2⟩)⟩
      ·exact ⟨Kd.N_mono HO_477000.1 (fun _ hk => ⟨hk.1.1, ⟨hk.1.2.1, ⟨hk.1.2.2.1, hk.1.2.2.2⟩⟩⟩)⟩
      ·exact ⟨BK476.1⟩
      ·exact ⟨hqB HB.1⟩
    case rest =>
     clear HC46
     try clear c1
     try clear c2
     try clear p2
     try clear c3
     try clear c4
     try clear c5
     try clear p5
     try clear q5
     try clear hx5
     try clear c6
     try clear c7
     try clear c8
     try clear c9
     try clear c10
     try clear c12
     try clear c23
     try clear c23b0
     try clear c23b1
     try clear c23b2
     try clear c25
     try clear c26
     try clear c26b0
     try clear c26b1
     try clear c26b2
     try clear c30
     try clear c41
     try clear c43
     try clear p50
     try clear q50
     try clear hx50
     try clear c52
     try clear c53
     try clear c54
     try clear c56
     try clear c57
     try clear c57b0
     try clear c58
     try clear c58b0
     try clear hcz14_0
     try clear hcz17_0
     try clear hcz19_0
     try clear hcz21_0
     try clear hcz47_0
     try clear hcz50_0
     try clear hfz14_0
     try clear hfz17_0
     try clear hfz19_0
     try clear hfz21_0
     try clear hfz47_0
     try clear hfz50_0
     try clear hx502_0
     try clear p2
     try clear p502
     try clear q502
     obtain ⟨kq, x143_45, rfl, HA, HJ45, HO_7, HO_8, HO_12, HO_477000, BK476, HB⟩ := hcut
     cases kq with
     | zero => exact absurd HA.1 (by simp [ya0.j1])
     | succ kj45 =>
      have H := HA.1
      clear HA
      simp only [ya0.j1] at H
      by_cases c62 : x143_45 = true
      ·as_aux_lemma =>
       subst c62
       have H1 : (some false) = some r := by rw [if_pos rfl] at H; exact H
       clear H
       have H := H1
       clear H1
       obtain rfl := Option.some.inj H
       go_wp2
       go_ret
       exact ⟨rfl, HB.1⟩
      as_aux_lemma =>
      replace c62 := Bool.eq_false_iff.mpr c62
      subst c62
      have H1 : ((some (([] : List Int) : List Int)).bind fun y503 => (if y503.length + t473.length < 17592186044416 then (ya0.l0 kj45 l1 t472 t477 t485 (y503 ++ t473) t469 (t469.length : Int) 0) else (none))) = some r := by rw [if_neg (show ¬ (false = true) by decide)] at H; exact H
      clear H
      have H := H1
      clear H1
      obtain ⟨y503, hy503⟩ : ∃ y_ : List Int, y_ = (([] : List Int)) := ⟨_, rfl⟩
      replace H : (if y503.length + t473.length < 17592186044416 then (ya0.l0 kj45 l1 t472 t477 t485 (y503 ++ t473) t469 (t469.length : Int) 0) else (none)) = some r := by first | (rw [hy503]; with_reducible exact H) | (have H2_ := (Option.bind_some _ _).symm.trans H; rw [hy503]; with_reducible exact H2_) | (have H2_ := (Option.bind_some _ _).symm.trans H; with_reducible exact H2_) | with_reducible exact H | (rw [hy503]; exact H) | exact H
      have Ny503 := hqZ hy503
      clear hy503
      by_cases c63 : y503.length + t473.length < 17592186044416
      rotate_left
      ·as_aux_lemma =>
       rw [if_neg c63] at H
       exact absurd H (by simp)
      as_aux_lemma =>
      rw [if_pos c63] at H
      have LMc63 := hqZ c63
      clear c63
      obtain ⟨y506, hy506⟩ : ∃ y_ : List Int, y_ = (y503 ++ t473) := ⟨_, rfl⟩
      replace H : (ya0.l0 kj45 l1 t472 t477 t485 y506 t469 (t469.length : Int) 0) = some r := by first | (rw [hy506]; with_reducible exact H) | (have H2_ := (Option.bind_some _ _).symm.trans H; rw [hy506]; with_reducible exact H2_) | (have H2_ := (Option.bind_some _ _).symm.trans H; with_reducible exact H2_) | with_reducible exact H | (rw [hy506]; exact H) | exact H
      have Ny506 := hqZ hy506
      clear hy506
      have H' := hqZ H
      clear H
      go_wp2_with (first | ((with_reducible refine zo0 (N := 144) rfl ?_); refine Kd.R_lit (Kd.int .i64) _ 3 ?hg (N := 144) ?hd (xs := ([] : List Int)) (inner := []) (ok := fun _ => True) (okp := fun _ => True) ?hr ?hp (fun _ hk => hk) trivial (Below.refl _ _) (Nat.le_refl _) (by simp) ?_; (case hd | hg => rfl); (case hr => go_simp <;> rfl); (case hp => exact (Reps.none _ _)); intro v504 w64 ho65 hb hg_ hnew_; clear hg_ hnew_; (first | rw [← Ny503.1] at ho65 | (simp only [Int.reduceToNat] at ho65; rw [← Ny503.1] at ho65)); replace HO_477000 := hqZ (Kd.N_elder' (HO_477000.1) (Kd.R_base ho65) hb); have HO505 := hqZ (Kd.R_lower (Kd.R_new' (Kd.R_new' (Kd.R_new' ho65 (Kd.R_lt (HO_7.1))) (Kd.R_lt (HO_8.1))) (Kd.R_lt (HO_12.1))) (zb0 (HB.1))); replace HO_7 := hqZ (Kd.R_elder' (HO_7.1) (Kd.R_base ho65) hb); replace HO_8 := hqZ (Kd.R_elder' (HO_8.1) (Kd.R_base ho65) hb); replace HO_12 := hqZ (Kd.R_elder' (HO_12.1) (Kd.R_base ho65) hb); replace BK476 := hqZ (zc0 (g := gb476) (o := .cells #[.slice Ao13 t469.length co13] 26 (0, 0)) (BK476.1) hb); replace HB := hqZ (za0 (HB.1) hb); clear hb ho65) | ((with_reducible refine gate_builtin (b := .append) (xs := #[.tmp 144, .tmp 145]) rfl ?_); at_builtin; refine Kd.R_append_rows (Kd.int .i64) (w0 := w) w.heap.size rfl (.tmp 144) (.tmp 145) 27 3 (.int .i64 0) 8 rfl Try.underlying27 info3 rfl (by decide) (by omega) v504 y503 t473 _ _ _ (fun k_ => some k_ ≠ (.slice Ao15 t473.length co15 : Value).ownBlock ∧ some k_ ≠ (.slice Ao48 t477.length co48 : Value).ownBlock ∧ some k_ ≠ (v486 : Value).ownBlock) (fun _ => False) rfl rfl ?aO ?aR (fun _ _ h => h) (fun _ h => h.elim) ?aF ?aB ?aS ?aL ?_; (case aR => exact (Kd.R_reads' HO_7.1).2.2); (case aB => exact (HB.1)); (case aF => exact (fun k_ hk => ⟨Kd.fresh' (Kd.R_lt (HO_7.1)) k_ hk, Kd.fresh' (Kd.R_lt (HO_8.1)) k_ hk, Kd.fresh' (Kd.R_lt (HO_12.1)) k_ hk⟩)); (case aO => exact (Kd.R_mono HO505.1 (fun _ hk => ⟨hk.1.1.2, ⟨hk.1.2, hk.2⟩⟩))); (case aS => exact (zb0 (HB.1))); (case aL => have := LMc63.1; omega); intro v507 w66 ho hb hg hat; rw [← Ny506.1] at ho; have n0_ := hqZ (Kd.R_after (ok := (fun k_ => some k_ ≠ (.slice Ao48 t477.length co48 : Value).ownBlock ∧ some k_ ≠ (v486 : Value).ownBlock)) (HO_7.1) hg hat); have n1_ := hqZ (Kd.R_after (ok := (fun k_ => some k_ ≠ (.slice Ao15 t473.length co15 : Value).ownBlock ∧ some k_ ≠ (v486 : Value).ownBlock)) (HO_8.1) hg hat); have n2_ := hqZ (Kd.R_after (ok := (fun k_ => some k_ ≠ (.slice Ao15 t473.length co15 : Value).ownBlock ∧ some k_ ≠ (.slice Ao48 t477.length co48 : Value).ownBlock)) (HO_12.1) hg hat); have n3_ := hqZ (Kd.N_afterv (ok := (fun k_ => some k_ ≠ (.slice Ao15 t473.length co15 : Value).ownBlock ∧ some k_ ≠ (.slice Ao48 t477.length co48 : Value).ownBlock ∧ some k_ ≠ (v486 : Value).ownBlock ∧ k_ ≠ gb476)) (HO_477000.1) hg hat); have n4_ := hqZ (zr0 (g := gb476) (o := .cells #[.slice Ao13 t469.length co13] 26 (0, 0)) (BK476.1) hg (Kd.R_ne HO505.1 BK476.1 (by decide))); have n5_ := hqZ (hb); have n6_ := hqZ (ho); clear HO_7; clear HO_8; clear HO_12; clear HO_477000; clear BK476; clear HB; clear HO505; have HO_7 := n0_; have HO_8 := n1_; have HO_12 := n2_; have HO_477000 := n3_; have BK476 := n4_; have HB := n5_; have HO508 := n6_; clear n0_ n1_ n2_ n3_ n4_ n5_ n6_; clear ho hb hg hat; have hcz67_0 : w66.cell? ⟨gb476, 0, none⟩ = some (.slice Ao13 t469.length co13) := (zh0 BK476.1 0).trans rfl; have hfz67_0 := zd0 BK476.1 0))
      go_loopg [150] kj45 (fun kq v150 w' => ∃ (x20_3 : List Int) (x150_3 : Int), v150 = .int .i64 x150_3 ∧ zi0 (ya0.l0 kq l1 t472 t477 t485 x20_3 t469 (t469.length : Int) x150_3 = some r) ∧ zi0 (kq ≤ kj45) ∧ zi0 (Kd.R (Kd.int .i64) 3 w' w.heap.size (fun k_ => some k_ ≠ (v486 : Value).ownBlock ∧ some k_ ≠ (v507 : Value).ownBlock) (.slice Ao48 t477.length co48) t477) ∧ zi0 (Kd.R (Kd.int .i64) 3 w' w.heap.size (fun k_ => some k_ ≠ ((.slice Ao48 t477.length co48) : Value).ownBlock ∧ some k_ ≠ (v507 : Value).ownBlock) v486 t485) ∧ zi0 (Kd.R (Kd.int .i64) 3 w' w.heap.size (fun k_ => some k_ ≠ ((.slice Ao48 t477.length co48) : Value).ownBlock ∧ some k_ ≠ (v486 : Value).ownBlock) v507 x20_3) ∧ zi0 (Kd.N (Kd.slice 3 (Kd.int .i64)) 27 w' w.heap.size (fun k_ => some k_ ≠ ((.slice Ao48 t477.length co48) : Value).ownBlock ∧ some k_ ≠ (v486 : Value).ownBlock ∧ some k_ ≠ (v507 : Value).ownBlock ∧ k_ ≠ gb476) (.slice Ao13 t469.length co13) t469) ∧ zi0 (Kd.N (Kd.slice 3 (Kd.int .i64)) 27 w' w.heap.size (fun k_ => some k_ ≠ ((.slice Ao48 t477.length co48) : Value).ownBlock ∧ some k_ ≠ (v486 : Value).ownBlock ∧ some k_ ≠ (v507 : Value).ownBlock ∧ k_ ≠ gb476) (.slice Ao13 t469.length co13) t469) ∧ zi0 (w'.heap[gb476]? = some (.cells #[(.slice Ao13 t469.length co13)] 26 (0, 0))) ∧ zi0 (Below w.heap.size w w'))
      case atStart =>
       refine ⟨(y506), (0), ?_, H', ⟨Nat.le_refl _⟩, ?_, ?_, ?_, ?_, ?_, ?_, ?_⟩
       ·exact (rfl)
       ·exact ⟨Kd.R_mono HO_8.1 (fun _ hk => ⟨hk.1.2, hk.2⟩)⟩
       ·exact ⟨Kd.R_mono HO_12.1 (fun _ hk => ⟨hk.1.2, hk.2⟩)⟩
       ·exact ⟨Kd.R_mono HO508.1 (fun _ hk => ⟨hk.2.1, hk.2.2⟩)⟩
       ·exact ⟨Kd.N_mono HO_477000.1 (fun _ hk => ⟨hk.1.2.1, ⟨hk.1.2.2.1, ⟨hk.2, hk.1.2.2.2⟩⟩⟩)⟩
       ·exact ⟨Kd.N_mono HO_477000.1 (fun _ hk => ⟨hk.1.2.1, ⟨hk.1.2.2.1, ⟨hk.2, hk.1.2.2.2⟩⟩⟩)⟩
       ·exact ⟨BK476.1⟩
       ·exact ⟨HB.1⟩
      case round =>
       clear H'
       try clear c1
       try clear c2
       try clear p2
       try clear c3
       try clear c4
       try clear c5
       try clear p5
       try clear q5
       try clear hx5
       try clear c6
       try clear c7
       try clear c8
       try clear c9
       try clear c10
       try clear c12
       try clear c23
       try clear c23b0
       try clear c23b1
       try clear c23b2
       try clear c25
       try clear c26
       try clear c26b0
       try clear c26b1
       try clear c26b2
       try clear c30
       try clear c41
       try clear c43
       try clear p50
       try clear q50
       try clear hx50
       try clear c52
       try clear c53
       try clear c54
       try clear c56
       try clear c57
       try clear c57b0
       try clear c58
       try clear c58b0
       try clear c62
       try clear c63
       try clear hcz14_0
       try clear hcz17_0
       try clear hcz19_0
       try clear hcz21_0
       try clear hcz47_0
       try clear hcz50_0
       try clear hcz67_0
       try clear hfz14_0
       try clear hfz17_0
       try clear hfz19_0
       try clear hfz21_0
       try clear hfz47_0
       try clear hfz50_0
       try clear hfz67_0
       try clear hx502_0
       try clear p2
       try clear p5
       try clear p50
       try clear p502
       try clear q5
       try clear q50
       try clear q502
       obtain ⟨x20_3, x150_3, rfl, HA, HK3, HO_8, HO_12, HO_20, HO_148, HO_477000, BK476, HB⟩ := hrel
       obtain _ | k3 := gk
       ·exact absurd HA.1 (by simp [ya0.l0])
       have H := HA.1
       clear HA
       simp only [ya0.l0] at H
       by_cases c68 : x150_3 < (t469.length : Int)
       rotate_left
       ·as_aux_lemma =>
        rw [if_neg c68] at H
        have c68b0 : decide (x150_3 < (t469.length : Int)) = false := decide_eq_false c68
        clear c68
        replace H := Option.bind_eq_some_iff.mp H
        obtain ⟨t509, A890, H⟩ := H
        replace H : (if t509 = true then (ya0.j4 k3 l1) else (some false)) = some r := H
        have A89 := hqZ A890
        clear A890
        by_cases c90 : t509 = true
        rotate_left
        ·as_aux_lemma =>
         replace c90 := Bool.eq_false_iff.mpr c90
         subst c90
         have H1 : (some false) = some r := by rw [if_neg (show ¬ (false = true) by decide)] at H; exact H
         clear H
         have H := H1
         clear H1
         obtain rfl := Option.some.inj H
         obtain ⟨Ao92, co92, eo92⟩ := Kd.R_slice HO_20.1
         subst eo92
         go_wp2_with (first | ((with_reducible refine ze0 (f := 11) rfl ?_); refine zq0 (some 191) rfl rfl Try.func11 (by kernel_rfl) rfl #[.slice Ao92 x20_3.length co92, .slice Ao48 t477.length co48] rfl (by simp only [hqa, hqb, hqc]; rfl) ?_; (with_reducible refine (yc0.calls k3 _ _ x20_3 _ _ t477 false _ ?side1 ?side2 ?side3 ?side4 A89.1).mono ?_); (case side1 => exact (Kd.R_reads' HO_20.1).2.2); (case side2 => exact (Kd.R_reads' HO_20.1).2.1); (case side3 => exact (Kd.R_reads' HO_8.1).2.2); (case side4 => exact (Kd.R_reads' HO_8.1).2.1); rintro e w' ⟨rfl, ⟨nd, rfl⟩⟩; refine ⟨_, rfl, ?_⟩))
         go_ret
         exact ⟨rfl, hqB HB.1⟩
        as_aux_lemma =>
        subst c90
        have H1 : (ya0.j4 k3 l1) = some r := by rw [if_pos rfl] at H; exact H
        clear H
        have H := H1
        clear H1
        have H' := hqZ H
        clear H
        obtain ⟨Ao91, co91, eo91⟩ := Kd.R_slice HO_20.1
        subst eo91
        go_wp2_with (first | ((with_reducible refine ze0 (f := 11) rfl ?_); refine zq0 (some 191) rfl rfl Try.func11 (by kernel_rfl) rfl #[.slice Ao91 x20_3.length co91, .slice Ao48 t477.length co48] rfl (by simp only [hqa, hqb, hqc]; rfl) ?_; (with_reducible refine (yc0.calls k3 _ _ x20_3 _ _ t477 true _ ?side1 ?side2 ?side3 ?side4 A89.1).mono ?_); (case side1 => exact (Kd.R_reads' HO_20.1).2.2); (case side2 => exact (Kd.R_reads' HO_20.1).2.1); (case side3 => exact (Kd.R_reads' HO_8.1).2.2); (case side4 => exact (Kd.R_reads' HO_8.1).2.1); rintro e w' ⟨rfl, ⟨nd, rfl⟩⟩; refine ⟨_, rfl, ?_⟩))
        go_meet
        case rel =>
         refine ⟨_, H', ?_, ?_, ?_, ?_⟩
         ·exact ⟨by have := HJ9.1; have := HJ45.1; have := HK3.1; first | omega | exact Nat.le_refl _⟩
         ·exact ⟨Kd.N_mono HO_477000.1 (fun _ hk => hk.2.2.2)⟩
         ·exact ⟨BK476.1⟩
         ·exact ⟨hqB HB.1⟩
       as_aux_lemma =>
       rw [if_pos c68] at H
       have c68b0 : decide (x150_3 < (t469.length : Int)) = true := decide_eq_true c68
       clear c68
       by_cases c69 : 0 ≤ x150_3
       rotate_left
       ·as_aux_lemma =>
        rw [if_neg c69] at H
        exact absurd H (by simp)
       as_aux_lemma =>
       rw [if_pos c69] at H
       have c69b0 : decide (0 ≤ x150_3) = true := decide_eq_true c69
       clear c69
       by_cases c70 : x150_3 < (t469.length : Int)
       rotate_left
       ·as_aux_lemma =>
        rw [if_neg c70] at H
        exact absurd H (by simp)
       as_aux_lemma =>
       rw [if_pos c70] at H
       have c70b0 : decide (x150_3 < (t469.length : Int)) = true := decide_eq_true c70
       clear c70
       by_cases c71 : x150_3 < (x20_3.length : Int)
       rotate_left
       ·as_aux_lemma =>
        rw [if_neg c71] at H
        exact absurd H (by simp)
       as_aux_lemma =>
       rw [if_pos c71] at H
       have c71b0 : decide (x150_3 < (x20_3.length : Int)) = true := decide_eq_true c71
       clear c71
       by_cases c72 : x150_3 < (t485.length : Int)
       rotate_left
       ·as_aux_lemma =>
        rw [if_neg c72] at H
        exact absurd H (by simp)
       as_aux_lemma =>
       rw [if_pos c72] at H
       have c72b0 : decide (x150_3 < (t485.length : Int)) = true := decide_eq_true c72
       clear c72
       obtain ⟨y513, hy513⟩ : ∃ y_ : List Int, y_ = (x20_3.set (x150_3 : Int).toNat (wrap64 ((rd x20_3 x150_3) - (wrap64 ((rd t485 x150_3) * ((rd_L2 t469 x150_3).length : Int)))))) := ⟨_, rfl⟩
       replace H : (ya0.l1 k3 l1 t472 t477 t485 y513 x150_3 t469 (t469.length : Int) x150_3 (rd_L2 t469 x150_3) ((rd_L2 t469 x150_3).length : Int) 0) = some r := by first | (rw [hy513]; with_reducible exact H) | (have H2_ := (Option.bind_some _ _).symm.trans H; rw [hy513]; with_reducible exact H2_) | (have H2_ := (Option.bind_some _ _).symm.trans H; with_reducible exact H2_) | with_reducible exact H | (rw [hy513]; exact H) | exact H
       have Ny513 := hqZ hy513
       clear hy513
       have H' := hqZ H
       clear H
       have p510 : 0 ≤ (x150_3 : Int) := of_decide_eq_true (by assumption)
       have q510 : x150_3 < (t469.length : Int) := of_decide_eq_true (by assumption)
       obtain ⟨ad510, A510_0, c510_0, e510, hx510_0, hl510_0, hi510_0⟩ := at_L2 (Kd.N_reads' HO_148.1).2.2 x150_3 p510 q510
       cases e510
       obtain ⟨ce510, hce510, hMe510, hcc510⟩ := Kd.N_get HO_148.1 [] x150_3 p510 (by first | exact q510 | exact of_decide_eq_true (by assumption) | (have e_ := (Kd.N_reads' HO_148.1).1; omega))
       obtain ⟨ua510_0, uc510_0, rfl, ul510_0, ge510_0⟩ := Kd.FK_slice_open hMe510
       have hv510_0 := hcc510 0 _ rfl
       rw [Nat.add_zero, show ((Kd.slice 3 (Kd.int .i64))).sz = 1 from rfl, Nat.mul_one] at hv510_0
       replace hv510_0 := Option.some.inj (hv510_0.symm.trans hx510_0)
       injection hv510_0 with hva_ hvn_ hvc_
       rw [hva_] at ge510_0
       rw [hvc_] at ul510_0
       have HL510_0 := hqZ (show Kd.V (Kd.int .i64) 3 _ w.heap.size _ _ (rd_L2 t469 x150_3) from Kd.V_mk ul510_0 ge510_0)
       clear hva_ hvn_ hvc_ ge510_0 ul510_0 hcc510 hce510
       have HR510_0 := hqZ hi510_0
       have HC510_0 := hqZ hl510_0
       clear hi510_0 hl510_0
       replace p510 := eq_true p510
       replace q510 := eq_true q510
       try go_wp2
       have n0_ := hqZ (Kd.R_drew HO_8.1)
       have n1_ := hqZ (Kd.R_drew HO_12.1)
       have n2_ := hqZ (Kd.R_drew HO_20.1)
       have n3_ := hqZ (Kd.N_drew HO_148.1)
       have n4_ := hqZ (Kd.N_drew HO_477000.1)
       have n5_ := hqZ (Kd.V_drew HL510_0.1)
       have n6_ := hqZ (blk_drew BK476.1)
       have n7_ := hqZ (Kd.C_drew HR510_0.1)
       have n8_ := hqZ (zk0 HB.1)
       clear HO_8 HO_12 HO_20 HO_148 HO_477000 HL510_0 BK476 HR510_0 HB
       have HO_8 := n0_
       have HO_12 := n1_
       have HO_20 := n2_
       have HO_148 := n3_
       have HO_477000 := n4_
       have HL510_0 := n5_
       have BK476 := n6_
       have HR510_0 := n7_
       have HB := n8_
       clear n0_ n1_ n2_ n3_ n4_ n5_ n6_ n7_ n8_
       obtain ⟨Ao75, co75, eo75⟩ := Kd.R_slice HO_20.1
       (first | subst eo75 | (injection eo75 with f1_ f2_ f3_; have f4_ := f1_.symm; have f5_ := f3_.symm; clear f1_ f2_ f3_; subst f4_; subst f5_))
       have p511 : 0 ≤ (x150_3 : Int) := of_decide_eq_true (by assumption)
       have q511 : x150_3 < (x20_3.length : Int) := of_decide_eq_true (by assumption)
       obtain ⟨ad511, e511, hx511_0⟩ := Kd.at_int (Kd.R_reads' HO_20.1).2.2 x150_3 p511 q511
       cases e511
       replace p511 := eq_true p511
       replace q511 := eq_true q511
       obtain ⟨Ao76, co76, eo76⟩ := Kd.R_slice HO_12.1
       (first | subst eo76 | (injection eo76 with f1_ f2_ f3_; have f4_ := f1_.symm; have f5_ := f3_.symm; clear f1_ f2_ f3_; subst f4_; subst f5_))
       have p512 : 0 ≤ (x150_3 : Int) := of_decide_eq_true (by assumption)
       have q512 : x150_3 < (t485.length : Int) := of_decide_eq_true (by assumption)
       obtain ⟨ad512, e512, hx512_0⟩ := Kd.at_int (Kd.R_reads' HO_12.1).2.2 x150_3 p512 q512
       cases e512
       replace p512 := eq_true p512
       replace q512 := eq_true q512
       have p73 : 0 ≤ (x150_3 : Int) := of_decide_eq_true (by assumption)
       have q73 : (x150_3 : Int) < ((x20_3.length : Int) : Int) := of_decide_eq_true (by assumption)
       obtain ⟨go73, co73, eo73, gb73, gl73, cl73, HG73⟩ := Kd.R_form HO_20.1 (by omega)
       (first | cases eo73 | (injection eo73 with ea_ en_ ec_; (first | subst ea_ | (injection ea_ with ea_; subst ea_)); subst ec_; clear en_))
       have GB73 := hqZ gb73
       have GG73 := hqZ HG73
       clear gb73 gl73 HG73
       (first | simp only [add_plain] at hx511_0 | skip)
       obtain ⟨hx73_0, hf73_0⟩ := Kd.R_celln 0 HO_20.1 (x150_3 : Int) p73 q73
       replace p73 := eq_true p73
       replace q73 := eq_true q73
       have HP77 := Kd.R_putn HO_20.1 (x150_3 : Int) (wrap64 ((rd x20_3 x150_3) - (wrap64 ((rd t485 x150_3) * ((rd_L2 t469 x150_3).length : Int)))))
       rw [← Ny513.1] at HP77
       have HQ77 := hqZ HP77
       clear HP77
       refine start_ (n := 14) (S := fun w' => w'.cell? ⟨go73, (x150_3).toNat, none⟩ = some (.int .i64 (rd x20_3 x150_3)) ∧ w'.cell? (ad512.add (x150_3).toNat) = some (.int .i64 (rd t485 x150_3))) (ds := [13]) #[false, false, false, false, false, false, false, false, false, false, false, false, false, false] (by kernel_rfl) rfl rfl ⟨hx511_0, hx512_0⟩ (fun hHeld => ?_); refine with_tabW ya0.tab19 ya0.bits19 (fun HT_ HW_ => ?_)
       generalize wr.drew = w74 at HO_8 HO_12 HO_20 HO_148 HO_477000 HL510_0 BK476 HR510_0 HB GG73 HQ77 hf73_0 hx511_0 hx512_0 hx73_0 hHeld ⊢
       refine pure_ (i := 0) (N := some 155) (v := ?_) (a' := ?_) (bf 14 1) rfl rfl (zm0 HT_.1 (by kernel_rfl)) (fun _ _ _ h => h) (Or.inl ⟨by rfl, ?_⟩) ?_ ?_
       rotate_left
       ·intro w'; go_simp; with_reducible rfl
       rotate_left
       ·simp only [Act.put, zA, zB, zC, i64_w, i32_w]; rfl
       refine pure_ (i := 1) (N := some 156) (v := ?_) (a' := ?_) (bf 14 3) rfl rfl (zm0 HT_.1 (by kernel_rfl)) (fun _ _ _ h => h) (Or.inl ⟨by rfl, ?_⟩) ?_ ?_
       rotate_left
       ·intro w'; go_simp; with_reducible rfl
       rotate_left
       ·simp only [Act.put, zA, zB, zC, i64_w, i32_w]; rfl
       refine pure_ (i := 2) (N := some 157) (v := ?_) (a' := ?_) (bf 14 7) rfl rfl (zm0 HT_.1 (by kernel_rfl)) (fun _ _ _ h => h) (Or.inl ⟨by rfl, ?_⟩) ?_ ?_
       rotate_left
       ·intro w'; go_simp; with_reducible rfl
       rotate_left
       ·simp only [Act.put, zA, zB, zC, i64_w, i32_w]; rfl
       refine pure_ (i := 4) (N := some 159) (v := ?_) (a' := ?_) (bf 14 23) rfl rfl (zm0 HT_.1 (by kernel_rfl)) (fun _ _ _ h => h) (Or.inl ⟨by rfl, ?_⟩) ?_ ?_
       rotate_left
       ·intro w'; go_simp; with_reducible rfl
       rotate_left
       ·simp only [Act.put, zA, zB, zC, i64_w, i32_w]; rfl
       refine pure_ (i := 5) (N := some 160) (v := ?_) (a' := ?_) (bf 14 55) rfl rfl (zm0 HT_.1 (by kernel_rfl)) (fun _ _ _ h => h) (Or.inl ⟨by rfl, ?_⟩) ?_ ?_
       rotate_left
       ·intro w'; go_simp; with_reducible rfl
       rotate_left
       ·simp only [Act.put, zA, zB, zC, i64_w, i32_w]; rfl
       refine pure_ (i := 6) (N := some 161) (v := ?_) (a' := ?_) (bf 14 119) rfl rfl (zm0 HT_.1 (by kernel_rfl)) (fun _ _ _ h => h) (Or.inl ⟨by rfl, ?_⟩) ?_ ?_
       rotate_left
       ·intro w'; go_simp; with_reducible rfl
       rotate_left
       ·simp only [Act.put, zA, zB, zC, i64_w, i32_w]; rfl
       refine pure_ (i := 8) (N := some 163) (v := ?_) (a' := ?_) (bf 14 375) rfl rfl (zm0 HT_.1 (by kernel_rfl)) (fun _ _ _ h => h) (Or.inl ⟨by rfl, ?_⟩) ?_ ?_
       rotate_left
       ·intro w'; go_simp; with_reducible rfl
       rotate_left
       ·simp only [Act.put, zA, zB, zC, i64_w, i32_w]; rfl
       refine pure_ (i := 9) (N := some 164) (v := ?_) (a' := ?_) (bf 14 887) rfl rfl (zm0 HT_.1 (by kernel_rfl)) (fun _ _ _ h => h) (Or.inl ⟨by rfl, ?_⟩) ?_ ?_
       rotate_left
       ·intro w'; go_simp; with_reducible rfl
       rotate_left
       ·simp only [Act.put, zA, zB, zC, i64_w, i32_w]; rfl
       refine take_ (i := 3) (N := some 158) (v := ?_) (a' := ?_) (bf 14 895) rfl rfl (take_ofW HT_.1 HW_.1 (by kernel_rfl)) (fun _ _ _ h => h) (Or.inl ⟨by rfl, ?_⟩) hHeld ?_ ?_
       rotate_left
       ·rintro w' ⟨s0, s1⟩; go_simp; with_reducible rfl
       rotate_left
       ·simp only [Act.put, zA, zB, zC, i64_w, i32_w]; rfl
       refine take_ (i := 7) (N := some 162) (v := ?_) (a' := ?_) (bf 14 1023) rfl rfl (take_ofW HT_.1 HW_.1 (by kernel_rfl)) (fun _ _ _ h => h) (Or.inl ⟨by rfl, ?_⟩) hHeld ?_ ?_
       rotate_left
       ·rintro w' ⟨s0, s1⟩; go_simp; with_reducible rfl
       rotate_left
       ·simp only [Act.put, zA, zB, zC, i64_w, i32_w]; rfl
       refine pure_ (i := 10) (N := some 165) (v := ?_) (a' := ?_) (bf 14 2047) rfl rfl (zm0 HT_.1 (by kernel_rfl)) (fun _ _ _ h => h) (Or.inl ⟨by rfl, ?_⟩) ?_ ?_
       rotate_left
       ·intro w'; go_simp; with_reducible rfl
       rotate_left
       ·simp only [Act.put, zA, zB, zC, i64_w, i32_w]; rfl
       refine pure_ (i := 11) (N := some 166) (v := ?_) (a' := ?_) (bf 14 4095) rfl rfl (zm0 HT_.1 (by kernel_rfl)) (fun _ _ _ h => h) (Or.inl ⟨by rfl, ?_⟩) ?_ ?_
       rotate_left
       ·intro w'; go_simp; with_reducible rfl
       rotate_left
       ·simp only [Act.put, zA, zB, zC, i64_w, i32_w]; rfl
       refine pure_ (i := 12) (N := some 167) (v := ?_) (a' := ?_) (bf 14 8191) rfl rfl (zm0 HT_.1 (by kernel_rfl)) (fun _ _ _ h => h) (Or.inl ⟨by rfl, ?_⟩) ?_ ?_
       rotate_left
       ·intro w'; go_simp; with_reducible rfl
       rotate_left
       ·simp only [Act.put, zA, zB, zC, i64_w, i32_w]; rfl
       refine last_ (i := 13) (N := none) (bf 14 16383) rfl rfl (one_of HT_.1 (by kernel_rfl)) (by decide) (fun K hK => ?_)
       refine skip_ (w1 := ?_) (by rfl) rfl ?_ ?_
       rotate_left
       ·go_simp
        rfl
       refine hK.out _ _ ?_
       clear hK K
       refine done_ (done_of HT_.1 (by kernel_rfl)) ?_
       try go_wp2
       go_loopg [170] k3 (fun kq v170 w' => ∃ (x20_4 : List Int) (x170_4 : Int), v170 = .int .i64 x170_4 ∧ zi0 (ya0.l1 kq l1 t472 t477 t485 x20_4 x150_3 t469 (t469.length : Int) x150_3 (rd_L2 t469 x150_3) ((rd_L2 t469 x150_3).length : Int) x170_4 = some r) ∧ zi0 (kq ≤ k3) ∧ zi0 (Kd.R (Kd.int .i64) 3 w' w.heap.size (fun k_ => some k_ ≠ ((.slice (some ad512) t485.length co76) : Value).ownBlock ∧ some k_ ≠ ((.slice (some ⟨go73, 0, none⟩) x20_3.length co75) : Value).ownBlock) (.slice Ao48 t477.length co48) t477) ∧ zi0 (Kd.R (Kd.int .i64) 3 w' w.heap.size (fun k_ => some k_ ≠ ((.slice Ao48 t477.length co48) : Value).ownBlock ∧ some k_ ≠ ((.slice (some ⟨go73, 0, none⟩) x20_3.length co75) : Value).ownBlock) (.slice (some ad512) t485.length co76) t485) ∧ zi0 (Kd.R (Kd.int .i64) 3 w' w.heap.size (fun k_ => some k_ ≠ ((.slice Ao48 t477.length co48) : Value).ownBlock ∧ some k_ ≠ ((.slice (some ad512) t485.length co76) : Value).ownBlock) (.slice (some ⟨go73, 0, none⟩) x20_3.length co75) x20_4) ∧ zi0 (Kd.N (Kd.slice 3 (Kd.int .i64)) 27 w' w.heap.size (fun k_ => some k_ ≠ ((.slice Ao48 t477.length co48) : Value).ownBlock ∧ some k_ ≠ ((.slice (some ad512) t485.length co76) : Value).ownBlock ∧ some k_ ≠ ((.slice (some ⟨go73, 0, none⟩) x20_3.length co75) : Value).ownBlock ∧ k_ ≠ gb476) (.slice (some ad510) t469.length co13) t469) ∧ zi0 (Kd.N (Kd.slice 3 (Kd.int .i64)) 27 w' w.heap.size (fun k_ => some k_ ≠ ((.slice Ao48 t477.length co48) : Value).ownBlock ∧ some k_ ≠ ((.slice (some ad512) t485.length co76) : Value).ownBlock ∧ some k_ ≠ ((.slice (some ⟨go73, 0, none⟩) x20_3.length co75) : Value).ownBlock ∧ k_ ≠ gb476) (.slice (some ad510) t469.length co13) t469) ∧ zi0 (w'.heap[gb476]? = some (.cells #[(.slice (some ad510) t469.length co13)] 26 (0, 0))) ∧ zi0 (Kd.V (Kd.int .i64) 3 w' w.heap.size (fun k_ => some k_ ≠ ((.slice Ao48 t477.length co48) : Value).ownBlock ∧ some k_ ≠ ((.slice (some ad512) t485.length co76) : Value).ownBlock ∧ some k_ ≠ ((.slice (some ⟨go73, 0, none⟩) x20_3.length co75) : Value).ownBlock ∧ some k_ ≠ ((.slice (some ad510) t469.length co13) : Value).ownBlock ∧ k_ ≠ gb476) (.slice A510_0 (rd_L2 t469 x150_3).length c510_0) (rd_L2 t469 x150_3)) ∧ zi0 (Kd.C (Kd.int .i64) w' A510_0 (rd_L2 t469 x150_3).length (rd_L2 t469 x150_3)) ∧ zi0 (Below w.heap.size w w'))
       case atStart =>
        refine ⟨(y513), (0), ?_, H', ⟨Nat.le_refl _⟩, ?_, ?_, ?_, ?_, ?_, ?_, ?_, ?_, ?_⟩
        ·exact (rfl)
        ·exact ⟨Kd.R_mono (Kd.R_far (p := ⟨go73, (x150_3 : Int).toNat, none⟩) (Kd.R_mono HO_8.1 (fun k_ hk => (⟨hk, fun e_ => hk.2 (by rw [e_]; rfl)⟩ : _ ∧ k_ ≠ go73))) (fun _ hk => hk.2) (.int .i64 (wrap64 ((rd x20_3 x150_3) - (wrap64 ((rd t485 x150_3) * ((rd_L2 t469 x150_3).length : Int))))))) (fun _ hk => ⟨hk.1.1, hk.1.2⟩)⟩
        ·exact ⟨Kd.R_mono (Kd.R_far (p := ⟨go73, (x150_3 : Int).toNat, none⟩) (Kd.R_mono HO_12.1 (fun k_ hk => (⟨hk, fun e_ => hk.2 (by rw [e_]; rfl)⟩ : _ ∧ k_ ≠ go73))) (fun _ hk => hk.2) (.int .i64 (wrap64 ((rd x20_3 x150_3) - (wrap64 ((rd t485 x150_3) * ((rd_L2 t469 x150_3).length : Int))))))) (fun _ hk => ⟨hk.1.1, hk.1.2⟩)⟩
        ·exact ⟨HQ77.1⟩
        ·exact ⟨Kd.N_mono (Kd.N_far (p := ⟨go73, (x150_3 : Int).toNat, none⟩) (Kd.N_mono HO_148.1 (fun k_ hk => (⟨hk, fun e_ => hk.2.2.1 (by rw [e_]; rfl)⟩ : _ ∧ k_ ≠ go73))) (fun _ hk => hk.2) (.int .i64 (wrap64 ((rd x20_3 x150_3) - (wrap64 ((rd t485 x150_3) * ((rd_L2 t469 x150_3).length : Int))))))) (fun _ hk => ⟨hk.1.1, ⟨hk.1.2.1, ⟨hk.1.2.2.1, hk.1.2.2.2⟩⟩⟩)⟩
        ·exact ⟨Kd.N_mono (Kd.N_far (p := ⟨go73, (x150_3 : Int).toNat, none⟩) (Kd.N_mono HO_477000.1 (fun k_ hk => (⟨hk, fun e_ => hk.2.2.1 (by rw [e_]; rfl)⟩ : _ ∧ k_ ≠ go73))) (fun _ hk => hk.2) (.int .i64 (wrap64 ((rd x20_3 x150_3) - (wrap64 ((rd t485 x150_3) * ((rd_L2 t469 x150_3).length : Int))))))) (fun _ hk => ⟨hk.1.1, ⟨hk.1.2.1, ⟨hk.1.2.2.1, hk.1.2.2.2⟩⟩⟩)⟩
        ·exact ⟨by refine blk_far ?_ (by have h_ := Kd.R_ne HO_20.1 BK476.1 (by decide); intro e_; exact h_ (by rw [e_]; rfl)) _; exact BK476.1⟩
        ·exact ⟨Kd.V_mono (Kd.V_far (p := ⟨go73, (x150_3 : Int).toNat, none⟩) (Kd.V_mono HL510_0.1 (fun k_ hk => (⟨hk, fun e_ => hk.1.2.2.1 (by rw [e_]; rfl)⟩ : _ ∧ k_ ≠ go73))) (fun _ hk => hk.2) (.int .i64 (wrap64 ((rd x20_3 x150_3) - (wrap64 ((rd t485 x150_3) * ((rd_L2 t469 x150_3).length : Int))))))) (fun _ hk => ⟨hk.1.1.1, ⟨hk.1.1.2.1, ⟨hk.1.1.2.2.1, ⟨hk.1.2, hk.1.1.2.2.2⟩⟩⟩⟩)⟩
        ·exact ⟨(Kd.V_reads' ((Kd.V_mono (Kd.V_far (p := ⟨go73, (x150_3 : Int).toNat, none⟩) (Kd.V_mono HL510_0.1 (fun k_ hk => (⟨hk, fun e_ => hk.1.2.2.1 (by rw [e_]; rfl)⟩ : _ ∧ k_ ≠ go73))) (fun _ hk => hk.2) (.int .i64 (wrap64 ((rd x20_3 x150_3) - (wrap64 ((rd t485 x150_3) * ((rd_L2 t469 x150_3).length : Int))))))) (fun _ h_ => h_.1)))).2.2⟩
        ·exact ⟨zf0 HB.1 GB73.1⟩
       case round =>
        clear H'
        try clear c1
        try clear c2
        try clear p2
        try clear c3
        try clear c4
        try clear c5
        try clear p5
        try clear q5
        try clear hx5
        try clear c6
        try clear p6
        try clear c7
        try clear p7
        try clear q7
        try clear hx7
        try clear hf7
        try clear c8
        try clear c9
        try clear c10
        try clear c12
        try clear c23
        try clear c23b0
        try clear c23b1
        try clear c23b2
        try clear c25
        try clear c26
        try clear c26b0
        try clear c26b1
        try clear c26b2
        try clear c30
        try clear c41
        try clear c43
        try clear p50
        try clear q50
        try clear hx50
        try clear c51
        try clear p51
        try clear q51
        try clear hx51
        try clear c52
        try clear c53
        try clear c54
        try clear c56
        try clear c57
        try clear c57b0
        try clear c58
        try clear c58b0
        try clear c62
        try clear c63
        try clear p64
        try clear c68
        try clear c68b0
        try clear c69
        try clear c69b0
        try clear c70
        try clear c70b0
        try clear c71
        try clear c71b0
        try clear c72
        try clear c72b0
        try clear p73
        try clear q73
        try clear hx73
        try clear hf73
        try clear hcz14_0
        try clear hcz17_0
        try clear hcz19_0
        try clear hcz21_0
        try clear hcz47_0
        try clear hcz50_0
        try clear hcz67_0
        try clear hfz14_0
        try clear hfz17_0
        try clear hfz19_0
        try clear hfz21_0
        try clear hfz47_0
        try clear hfz50_0
        try clear hfz67_0
        try clear hx502_0
        try clear hx510_0
        try clear hx511_0
        try clear hx512_0
        try clear hx73_0
        try clear p2
        try clear p5
        try clear p50
        try clear p502
        try clear p510
        try clear p511
        try clear p512
        try clear p73
        try clear q5
        try clear q50
        try clear q502
        try clear q510
        try clear q511
        try clear q512
        try clear q73
        obtain ⟨x20_4, x170_4, rfl, HA, HK4, HO_8, HO_12, HO_20, HO_148, HO_477000, BK476, HL510_0, HR510_0, HB⟩ := hrel
        have hl20_4 := (Kd.R_reads' HO_20.1).1
        rw [hl20_4] at HO_20
        (try simp only [hl20_4])
        (try simp only [hl20_4] at BK476)
        (try simp only [hl20_4] at HO_8)
        (try simp only [hl20_4] at HO_12)
        (try simp only [hl20_4] at HO_148)
        (try simp only [hl20_4] at HO_477000)
        obtain _ | k4 := gk
        ·exact absurd HA.1 (by simp [ya0.l1])
        have H := HA.1
        clear HA
        simp only [ya0.l1] at H
        by_cases c78 : x170_4 < ((rd_L2 t469 x150_3).length : Int)
        rotate_left
        ·as_aux_lemma =>
         rw [if_neg c78] at H
         have c78b0 : decide (x170_4 < ((rd_L2 t469 x150_3).length : Int)) = false := decide_eq_false c78
         (try (have c78b0h := c78b0; simp only [hl20_4] at c78b0h))
         clear c78
         have H' := hqZ H
         clear H
         go_wp2
         (try simp only [← hl20_4])
         go_roundg k4
         case measure => have := HJ9.1; have := HJ45.1; have := HK3.1; have := HK4.1; omega
         case rel =>
          refine ⟨(x20_4), (wrap64 (x150_3 + 1)), ?_, H', ?_, ?_, ?_, ?_, ?_, ?_, ?_, ?_⟩
          ·exact (rfl)
          ·exact ⟨by have := HJ9.1; have := HJ45.1; have := HK3.1; have := HK4.1; omega⟩
          ·exact ⟨by (try simp only [hl20_4]); exact HO_8.1⟩
          ·exact ⟨by (try simp only [hl20_4]); exact HO_12.1⟩
          ·exact ⟨by (try simp only [hl20_4]); exact HO_20.1⟩
          ·exact ⟨by (try simp only [hl20_4]); exact HO_148.1⟩
          ·exact ⟨by (try simp only [hl20_4]); exact HO_477000.1⟩
          ·exact ⟨by (try simp only [hl20_4]); exact BK476.1⟩
          ·exact ⟨HB.1⟩
        as_aux_lemma =>
        rw [if_pos c78] at H
        have c78b0 : decide (x170_4 < ((rd_L2 t469 x150_3).length : Int)) = true := decide_eq_true c78
        (try (have c78b0h := c78b0; simp only [hl20_4] at c78b0h))
        clear c78
        by_cases c79 : 0 ≤ x170_4
        rotate_left
        ·as_aux_lemma =>
         rw [if_neg c79] at H
         exact absurd H (by simp)
        as_aux_lemma =>
        rw [if_pos c79] at H
        have c79b0 : decide (0 ≤ x170_4) = true := decide_eq_true c79
        (try (have c79b0h := c79b0; simp only [hl20_4] at c79b0h))
        clear c79
        by_cases c80 : x170_4 < ((rd_L2 t469 x150_3).length : Int)
        rotate_left
        ·as_aux_lemma =>
         rw [if_neg c80] at H
         exact absurd H (by simp)
        as_aux_lemma =>
        rw [if_pos c80] at H
        have c80b0 : decide (x170_4 < ((rd_L2 t469 x150_3).length : Int)) = true := decide_eq_true c80
        (try (have c80b0h := c80b0; simp only [hl20_4] at c80b0h))
        clear c80
        by_cases c81 : (rd (rd_L2 t469 x150_3) x170_4) = t472
        ·as_aux_lemma =>
         rw [if_pos c81] at H
         have c81b0 : ((rd (rd_L2 t469 x150_3) x170_4) == t472) = true := beq_iff_eq.mpr c81
         (try (have c81b0h := c81b0; simp only [hl20_4] at c81b0h))
         have c81b1 : ((rd (rd_L2 t469 x150_3) x170_4) != t472) = false := bne_eq_false_iff_eq.mpr c81
         (try (have c81b1h := c81b1; simp only [hl20_4] at c81b1h))
         clear c81
         have H' := hqZ H
         clear H
         have p514 : 0 ≤ (x170_4 : Int) := of_decide_eq_true (by assumption)
         have q514 : x170_4 < ((rd_L2 t469 x150_3).length : Int) := of_decide_eq_true (by assumption)
         obtain ⟨ad514, e514, hx514_0⟩ := Kd.at_int (by repeat (first | (with_reducible exact HR510_0.1) | (with_reducible refine Kd.C_alloc ?_ _) | (with_reducible refine Kd.C_drewN ?_ _) | (with_reducible refine Kd.C_drew ?_) | exact HR510_0.1)) x170_4 p514 q514
         cases e514
         replace p514 := eq_true p514
         replace q514 := eq_true q514
         go_wp2
         (try simp only [← hl20_4])
         go_roundg k4
         case measure => have := HJ9.1; have := HJ45.1; have := HK3.1; have := HK4.1; omega
         case rel =>
          refine ⟨(x20_4), (wrap64 (x170_4 + 1)), ?_, H', ?_, ?_, ?_, ?_, ?_, ?_, ?_, ?_, ?_, ?_⟩
          ·exact (rfl)
          ·exact ⟨by have := HJ9.1; have := HJ45.1; have := HK3.1; have := HK4.1; omega⟩
          ·exact ⟨by (try simp only [hl20_4]); exact HO_8.1⟩
          ·exact ⟨by (try simp only [hl20_4]); exact HO_12.1⟩
          ·exact ⟨by (try simp only [hl20_4]); exact HO_20.1⟩
          ·exact ⟨by (try simp only [hl20_4]); exact HO_148.1⟩
          ·exact ⟨by (try simp only [hl20_4]); exact HO_477000.1⟩
          ·exact ⟨by (try simp only [hl20_4]); exact BK476.1⟩
          ·exact ⟨by (try simp only [hl20_4]); exact HL510_0.1⟩
          ·exact ⟨by repeat (first | (with_reducible exact HR510_0.1) | (with_reducible refine Kd.C_alloc ?_ _) | (with_reducible refine Kd.C_drewN ?_ _) | (with_reducible refine Kd.C_drew ?_) | exact HR510_0.1)⟩
          ·exact ⟨HB.1⟩
        as_aux_lemma =>
        rw [if_neg c81] at H
        have c81b0 : ((rd (rd_L2 t469 x150_3) x170_4) == t472) = false := beq_eq_false_iff_ne.mpr c81
        (try (have c81b0h := c81b0; simp only [hl20_4] at c81b0h))
        have c81b1 : ((rd (rd_L2 t469 x150_3) x170_4) != t472) = true := bne_iff_ne.mpr c81
        (try (have c81b1h := c81b1; simp only [hl20_4] at c81b1h))
        by_cases c82 : 0 ≤ (rd (rd_L2 t469 x150_3) x170_4)
        rotate_left
        ·as_aux_lemma =>
         rw [if_neg c82] at H
         exact absurd H (by simp)
        as_aux_lemma =>
        rw [if_pos c82] at H
        have c82b0 : decide (0 ≤ (rd (rd_L2 t469 x150_3) x170_4)) = true := decide_eq_true c82
        (try (have c82b0h := c82b0; simp only [hl20_4] at c82b0h))
        clear c82
        by_cases c83 : (rd (rd_L2 t469 x150_3) x170_4) < (x20_4.length : Int)
        rotate_left
        ·as_aux_lemma =>
         rw [if_neg c83] at H
         exact absurd H (by simp)
        as_aux_lemma =>
        rw [if_pos c83] at H
        have c83b0 : decide ((rd (rd_L2 t469 x150_3) x170_4) < (x20_4.length : Int)) = true := decide_eq_true c83
        (try (have c83b0h := c83b0; simp only [hl20_4] at c83b0h))
        clear c83
        by_cases c84 : 0 ≤ x150_3
        rotate_left
        ·as_aux_lemma =>
         rw [if_neg c84] at H
         exact absurd H (by simp)
        as_aux_lemma =>
        rw [if_pos c84] at H
        have c84b0 : decide (0 ≤ x150_3) = true := decide_eq_true c84
        (try (have c84b0h := c84b0; simp only [hl20_4] at c84b0h))
        clear c84
        by_cases c85 : x150_3 < (t485.length : Int)
        rotate_left
        ·as_aux_lemma =>
         rw [if_neg c85] at H
         exact absurd H (by simp)
        as_aux_lemma =>
        rw [if_pos c85] at H
        have c85b0 : decide (x150_3 < (t485.length : Int)) = true := decide_eq_true c85
        (try (have c85b0h := c85b0; simp only [hl20_4] at c85b0h))
        clear c85
        obtain ⟨y517, hy517⟩ : ∃ y_ : List Int, y_ = (x20_4.set ((rd (rd_L2 t469 x150_3) x170_4) : Int).toNat (wrap64 ((rd x20_4 (rd (rd_L2 t469 x150_3) x170_4)) + (rd t485 x150_3)))) := ⟨_, rfl⟩
        replace H : (ya0.l1 k4 l1 t472 t477 t485 y517 x150_3 t469 (t469.length : Int) x150_3 (rd_L2 t469 x150_3) ((rd_L2 t469 x150_3).length : Int) (wrap64 (x170_4 + 1))) = some r := by first | (rw [hy517]; with_reducible exact H) | (have H2_ := (Option.bind_some _ _).symm.trans H; rw [hy517]; with_reducible exact H2_) | (have H2_ := (Option.bind_some _ _).symm.trans H; with_reducible exact H2_) | with_reducible exact H | (rw [hy517]; exact H) | exact H
        have Ny517 := hqZ hy517
        clear hy517
        have H' := hqZ H
        clear H
        have p514 : 0 ≤ (x170_4 : Int) := of_decide_eq_true (by assumption)
        have q514 : x170_4 < ((rd_L2 t469 x150_3).length : Int) := of_decide_eq_true (by assumption)
        obtain ⟨ad514, e514, hx514_0⟩ := Kd.at_int (by repeat (first | (with_reducible exact HR510_0.1) | (with_reducible refine Kd.C_alloc ?_ _) | (with_reducible refine Kd.C_drewN ?_ _) | (with_reducible refine Kd.C_drew ?_) | exact HR510_0.1)) x170_4 p514 q514
        cases e514
        replace p514 := eq_true p514
        replace q514 := eq_true q514
        try go_wp2
        have n0_ := hqZ (Kd.R_drew HO_8.1)
        have n1_ := hqZ (Kd.R_drew HO_12.1)
        have n2_ := hqZ (Kd.R_drew HO_20.1)
        have n3_ := hqZ (Kd.N_drew HO_148.1)
        have n4_ := hqZ (Kd.N_drew HO_477000.1)
        have n5_ := hqZ (Kd.V_drew HL510_0.1)
        have n6_ := hqZ (blk_drew BK476.1)
        have n7_ := hqZ (Kd.C_drew HR510_0.1)
        have n8_ := hqZ (zk0 HB.1)
        clear HO_8 HO_12 HO_20 HO_148 HO_477000 HL510_0 BK476 HR510_0 HB
        have HO_8 := n0_
        have HO_12 := n1_
        have HO_20 := n2_
        have HO_148 := n3_
        have HO_477000 := n4_
        have HL510_0 := n5_
        have BK476 := n6_
        have HR510_0 := n7_
        have HB := n8_
        clear n0_ n1_ n2_ n3_ n4_ n5_ n6_ n7_ n8_
        have p515 : 0 ≤ ((rd (rd_L2 t469 x150_3) x170_4) : Int) := of_decide_eq_true (by assumption)
        have q515 : (rd (rd_L2 t469 x150_3) x170_4) < (x20_4.length : Int) := of_decide_eq_true (by assumption)
        obtain ⟨ad515, e515, hx515_0⟩ := Kd.at_int (Kd.R_reads' HO_20.1).2.2 (rd (rd_L2 t469 x150_3) x170_4) p515 q515
        obtain rfl : (⟨go73, 0, none⟩ : Addr) = ad515 := (by injection e515)
        (first | simp only [add_plain] at hx515_0 | simp only [add_at] at hx515_0 | simp only [Addr.add, Nat.zero_add] at hx515_0 | skip)
        replace p515 := eq_true p515
        replace q515 := eq_true q515
        have p516 : 0 ≤ (x150_3 : Int) := of_decide_eq_true (by assumption)
        have q516 : x150_3 < (t485.length : Int) := of_decide_eq_true (by assumption)
        obtain ⟨ad516, e516, hx516_0⟩ := Kd.at_int (Kd.R_reads' HO_12.1).2.2 x150_3 p516 q516
        obtain rfl : ad512 = ad516 := (by injection e516)
        replace p516 := eq_true p516
        replace q516 := eq_true q516
        have p86 : 0 ≤ ((rd (rd_L2 t469 x150_3) x170_4) : Int) := of_decide_eq_true (by assumption)
        have q86 : ((rd (rd_L2 t469 x150_3) x170_4) : Int) < ((x20_4.length : Int) : Int) := of_decide_eq_true (by assumption)
        obtain ⟨hx86_0, hf86_0⟩ := Kd.R_celln 0 HO_20.1 ((rd (rd_L2 t469 x150_3) x170_4) : Int) p86 q86
        replace p86 := eq_true p86
        replace q86 := eq_true q86
        have HP88 := Kd.R_putn HO_20.1 ((rd (rd_L2 t469 x150_3) x170_4) : Int) (wrap64 ((rd x20_4 (rd (rd_L2 t469 x150_3) x170_4)) + (rd t485 x150_3)))
        rw [← Ny517.1] at HP88
        have HQ88 := hqZ HP88
        clear HP88
        refine start_ (n := 11) (S := fun w' => w'.cell? ⟨go73, ((rd (rd_L2 t469 x150_3) x170_4)).toNat, none⟩ = some (.int .i64 (rd x20_4 (rd (rd_L2 t469 x150_3) x170_4))) ∧ w'.cell? (ad512.add (x150_3).toNat) = some (.int .i64 (rd t485 x150_3))) (ds := [10]) #[false, false, false, false, false, false, false, false, false, false, false] (by kernel_rfl) rfl rfl ⟨hx515_0, hx516_0⟩ (fun hHeld => ?_); refine with_tabW ya0.tab24 ya0.bits24 (fun HT_ HW_ => ?_)
        generalize wr.drew = w87 at HO_8 HO_12 HO_20 HO_148 HO_477000 HL510_0 BK476 HR510_0 HB HQ88 hf86_0 hx515_0 hx516_0 hx86_0 hHeld ⊢
        refine pure_ (i := 0) (N := some 177) (v := ?_) (a' := ?_) (bf 11 1) rfl rfl (zm0 HT_.1 (by kernel_rfl)) (fun _ _ _ h => h) (Or.inl ⟨by rfl, ?_⟩) ?_ ?_
        rotate_left
        ·intro w'; go_simp; with_reducible rfl
        rotate_left
        ·simp only [Act.put, zA, zB, zC, i64_w, i32_w]; rfl
        refine pure_ (i := 1) (N := some 178) (v := ?_) (a' := ?_) (bf 11 3) rfl rfl (zm0 HT_.1 (by kernel_rfl)) (fun _ _ _ h => h) (Or.inl ⟨by rfl, ?_⟩) ?_ ?_
        rotate_left
        ·intro w'; go_simp; with_reducible rfl
        rotate_left
        ·simp only [Act.put, zA, zB, zC, i64_w, i32_w]; rfl
        refine pure_ (i := 2) (N := some 179) (v := ?_) (a' := ?_) (bf 11 7) rfl rfl (zm0 HT_.1 (by kernel_rfl)) (fun _ _ _ h => h) (Or.inl ⟨by rfl, ?_⟩) ?_ ?_
        rotate_left
        ·intro w'; go_simp; with_reducible rfl
        rotate_left
        ·simp only [Act.put, zA, zB, zC, i64_w, i32_w]; rfl
        refine pure_ (i := 4) (N := some 181) (v := ?_) (a' := ?_) (bf 11 23) rfl rfl (zm0 HT_.1 (by kernel_rfl)) (fun _ _ _ h => h) (Or.inl ⟨by rfl, ?_⟩) ?_ ?_
        rotate_left
        ·intro w'; go_simp; with_reducible rfl
        rotate_left
        ·simp only [Act.put, zA, zB, zC, i64_w, i32_w]; rfl
        refine pure_ (i := 5) (N := some 182) (v := ?_) (a' := ?_) (bf 11 55) rfl rfl (zm0 HT_.1 (by kernel_rfl)) (fun _ _ _ h => h) (Or.inl ⟨by rfl, ?_⟩) ?_ ?_
        rotate_left
        ·intro w'; go_simp; with_reducible rfl
        rotate_left
        ·simp only [Act.put, zA, zB, zC, i64_w, i32_w]; rfl
        refine pure_ (i := 6) (N := some 183) (v := ?_) (a' := ?_) (bf 11 119) rfl rfl (zm0 HT_.1 (by kernel_rfl)) (fun _ _ _ h => h) (Or.inl ⟨by rfl, ?_⟩) ?_ ?_
        rotate_left
        ·intro w'; go_simp; with_reducible rfl
        rotate_left
        ·simp only [Act.put, zA, zB, zC, i64_w, i32_w]; rfl
        refine take_ (i := 3) (N := some 180) (v := ?_) (a' := ?_) (bf 11 127) rfl rfl (take_ofW HT_.1 HW_.1 (by kernel_rfl)) (fun _ _ _ h => h) (Or.inl ⟨by rfl, ?_⟩) hHeld ?_ ?_
        rotate_left
        ·rintro w' ⟨s0, s1⟩; go_simp; with_reducible rfl
        rotate_left
        ·simp only [Act.put, zA, zB, zC, i64_w, i32_w]; rfl
        refine take_ (i := 7) (N := some 184) (v := ?_) (a' := ?_) (bf 11 255) rfl rfl (take_ofW HT_.1 HW_.1 (by kernel_rfl)) (fun _ _ _ h => h) (Or.inl ⟨by rfl, ?_⟩) hHeld ?_ ?_
        rotate_left
        ·rintro w' ⟨s0, s1⟩; go_simp; with_reducible rfl
        rotate_left
        ·simp only [Act.put, zA, zB, zC, i64_w, i32_w]; rfl
        refine pure_ (i := 8) (N := some 185) (v := ?_) (a' := ?_) (bf 11 511) rfl rfl (zm0 HT_.1 (by kernel_rfl)) (fun _ _ _ h => h) (Or.inl ⟨by rfl, ?_⟩) ?_ ?_
        rotate_left
        ·intro w'; go_simp; with_reducible rfl
        rotate_left
        ·simp only [Act.put, zA, zB, zC, i64_w, i32_w]; rfl
        refine pure_ (i := 9) (N := some 186) (v := ?_) (a' := ?_) (bf 11 1023) rfl rfl (zm0 HT_.1 (by kernel_rfl)) (fun _ _ _ h => h) (Or.inl ⟨by rfl, ?_⟩) ?_ ?_
        rotate_left
        ·intro w'; go_simp; with_reducible rfl
        rotate_left
        ·simp only [Act.put, zA, zB, zC, i64_w, i32_w]; rfl
        refine last_ (i := 10) (N := none) (bf 11 2047) rfl rfl (one_of HT_.1 (by kernel_rfl)) (by decide) (fun K hK => ?_)
        refine skip_ (w1 := ?_) (by rfl) rfl ?_ ?_
        rotate_left
        ·go_simp
         rfl
        refine hK.out _ _ ?_
        clear hK K
        refine done_ (done_of HT_.1 (by kernel_rfl)) ?_
        try go_wp2
        (try simp only [← hl20_4])
        go_roundg k4
        case measure => have := HJ9.1; have := HJ45.1; have := HK3.1; have := HK4.1; omega
        case rel =>
         refine ⟨(y517), (wrap64 (x170_4 + 1)), ?_, H', ?_, ?_, ?_, ?_, ?_, ?_, ?_, ?_, ?_, ?_⟩
         ·exact (rfl)
         ·exact ⟨by have := HJ9.1; have := HJ45.1; have := HK3.1; have := HK4.1; omega⟩
         ·exact ⟨by (try simp only [hl20_4]); exact Kd.R_mono (Kd.R_far (p := ⟨go73, ((rd (rd_L2 t469 x150_3) x170_4) : Int).toNat, none⟩) (Kd.R_mono HO_8.1 (fun k_ hk => (⟨hk, fun e_ => hk.2 (by rw [e_]; rfl)⟩ : _ ∧ k_ ≠ go73))) (fun _ hk => hk.2) (.int .i64 (wrap64 ((rd x20_4 (rd (rd_L2 t469 x150_3) x170_4)) + (rd t485 x150_3))))) (fun _ hk => ⟨hk.1.1, hk.1.2⟩)⟩
         ·exact ⟨by (try simp only [hl20_4]); exact Kd.R_mono (Kd.R_far (p := ⟨go73, ((rd (rd_L2 t469 x150_3) x170_4) : Int).toNat, none⟩) (Kd.R_mono HO_12.1 (fun k_ hk => (⟨hk, fun e_ => hk.2 (by rw [e_]; rfl)⟩ : _ ∧ k_ ≠ go73))) (fun _ hk => hk.2) (.int .i64 (wrap64 ((rd x20_4 (rd (rd_L2 t469 x150_3) x170_4)) + (rd t485 x150_3))))) (fun _ hk => ⟨hk.1.1, hk.1.2⟩)⟩
         ·exact ⟨by (try simp only [hl20_4]); exact HQ88.1⟩
         ·exact ⟨by (try simp only [hl20_4]); exact Kd.N_mono (Kd.N_far (p := ⟨go73, ((rd (rd_L2 t469 x150_3) x170_4) : Int).toNat, none⟩) (Kd.N_mono HO_148.1 (fun k_ hk => (⟨hk, fun e_ => hk.2.2.1 (by rw [e_]; rfl)⟩ : _ ∧ k_ ≠ go73))) (fun _ hk => hk.2) (.int .i64 (wrap64 ((rd x20_4 (rd (rd_L2 t469 x150_3) x170_4)) + (rd t485 x150_3))))) (fun _ hk => ⟨hk.1.1, ⟨hk.1.2.1, ⟨hk.1.2.2.1, hk.1.2.2.2⟩⟩⟩)⟩
         ·exact ⟨by (try simp only [hl20_4]); exact Kd.N_mono (Kd.N_far (p := ⟨go73, ((rd (rd_L2 t469 x150_3) x170_4) : Int).toNat, none⟩) (Kd.N_mono HO_477000.1 (fun k_ hk => (⟨hk, fun e_ => hk.2.2.1 (by rw [e_]; rfl)⟩ : _ ∧ k_ ≠ go73))) (fun _ hk => hk.2) (.int .i64 (wrap64 ((rd x20_4 (rd (rd_L2 t469 x150_3) x170_4)) + (rd t485 x150_3))))) (fun _ hk => ⟨hk.1.1, ⟨hk.1.2.1, ⟨hk.1.2.2.1, hk.1.2.2.2⟩⟩⟩)⟩
         ·exact ⟨by (try simp only [hl20_4]); refine blk_far ?_ (by have h_ := Kd.R_ne HO_20.1 BK476.1 (by decide); intro e_; exact h_ (by rw [e_]; rfl)) _; exact BK476.1⟩
         ·exact ⟨by (try simp only [hl20_4]); exact Kd.V_mono (Kd.V_far (p := ⟨go73, ((rd (rd_L2 t469 x150_3) x170_4) : Int).toNat, none⟩) (Kd.V_mono HL510_0.1 (fun k_ hk => (⟨hk, fun e_ => hk.2.2.1 (by rw [e_]; rfl)⟩ : _ ∧ k_ ≠ go73))) (fun _ hk => hk.2) (.int .i64 (wrap64 ((rd x20_4 (rd (rd_L2 t469 x150_3) x170_4)) + (rd t485 x150_3))))) (fun _ hk => ⟨hk.1.1, ⟨hk.1.2.1, ⟨hk.1.2.2.1, ⟨hk.1.2.2.2.1, hk.1.2.2.2.2⟩⟩⟩⟩)⟩
         ·exact ⟨(Kd.V_reads' ((Kd.V_mono (Kd.V_far (p := ⟨go73, ((rd (rd_L2 t469 x150_3) x170_4) : Int).toNat, none⟩) (Kd.V_mono HL510_0.1 (fun k_ hk => (⟨hk, fun e_ => hk.2.2.1 (by rw [e_]; rfl)⟩ : _ ∧ k_ ≠ go73))) (fun _ hk => hk.2) (.int .i64 (wrap64 ((rd x20_4 (rd (rd_L2 t469 x150_3) x170_4)) + (rd t485 x150_3))))) (fun _ h_ => h_.1)))).2.2⟩
         ·exact ⟨zf0 HB.1 GB73.1⟩
   case rest =>
    clear HC42
    try clear c1
    try clear c2
    try clear p2
    try clear c3
    try clear c4
    try clear c5
    try clear p5
    try clear q5
    try clear hx5
    try clear c6
    try clear p6
    try clear c7
    try clear p7
    try clear q7
    try clear hx7
    try clear hf7
    try clear c8
    try clear p8
    try clear q8
    try clear hx8
    try clear hf8
    try clear c9
    try clear c10
    try clear c11
    try clear c12
    try clear c23
    try clear c23b0
    try clear c23b1
    try clear c23b2
    try clear c25
    try clear c26
    try clear c26b0
    try clear c26b1
    try clear c26b2
    try clear c30
    try clear c41
    try clear c43
    try clear p50
    try clear q50
    try clear hx50
    try clear c51
    try clear p51
    try clear q51
    try clear hx51
    try clear c52
    try clear c53
    try clear c54
    try clear c56
    try clear c57
    try clear c57b0
    try clear c58
    try clear c58b0
    try clear c62
    try clear c63
    try clear p64
    try clear c68
    try clear c68b0
    try clear c69
    try clear c69b0
    try clear c70
    try clear c70b0
    try clear c71
    try clear c71b0
    try clear c72
    try clear c72b0
    try clear p73
    try clear q73
    try clear hx73
    try clear hf73
    try clear c78
    try clear c78b0
    try clear c79
    try clear c79b0
    try clear c80
    try clear c80b0
    try clear c81
    try clear c81b0
    try clear c81b1
    try clear c82
    try clear c82b0
    try clear c83
    try clear c83b0
    try clear c84
    try clear c84b0
    try clear c85
    try clear c85b0
    try clear p86
    try clear q86
    try clear hx86
    try clear hf86
    try clear c90
    try clear hcz14_0
    try clear hcz17_0
    try clear hcz19_0
    try clear hcz21_0
    try clear hcz47_0
    try clear hcz50_0
    try clear hcz67_0
    try clear hfz14_0
    try clear hfz17_0
    try clear hfz19_0
    try clear hfz21_0
    try clear hfz47_0
    try clear hfz50_0
    try clear hfz67_0
    try clear hx502_0
    try clear hx510_0
    try clear hx511_0
    try clear hx512_0
    try clear hx514_0
    try clear hx515_0
    try clear hx516_0
    try clear hx73_0
    try clear hx86_0
    try clear p2
    try clear p5
    try clear p50
    try clear p502
    try clear p51
    try clear p510
    try clear p511
    try clear p512
    try clear p514
    try clear p515
    try clear p516
    try clear p6
    try clear p64
    try clear p7
    try clear p73
    try clear p86
    try clear q5
    try clear q50
    try clear q502
    try clear q51
    try clear q510
    try clear q511
    try clear q512
    try clear q514
    try clear q515
    try clear q516
    try clear q7
    try clear q73
    try clear q86
    obtain ⟨kq, HA, HJ41, HO_477000, BK476, HB⟩ := hcut
    cases kq with
    | zero => exact absurd HA.1 (by simp [ya0.j4])
    | succ kj41 =>
     have H := HA.1
     clear HA
     simp only [ya0.j4] at H
     replace H := Option.bind_eq_some_iff.mp H
     obtain ⟨⟨t518, t521, t522, t525⟩, A930, H⟩ := H
     replace H : ((yp0.f kj41 t518 t521 t522 t525).bind fun bt527 => ((yg0.f kj41 t518 t521 t522 t525).bind fun bt531 => (if (bt527.2 != bt531.2) = true then (ya0.j5 kj41 l1 t521 t522 bt527.1 bt527.2 true t518) else ((yc0.f kj41 bt527.1 bt531.1).bind fun t535 => (ya0.j5 kj41 l1 t521 t522 bt527.1 bt527.2 (!t535) t518))))) = some r := H
     have A93 := hqZ A930
     clear A930
     replace H := Option.bind_eq_some_iff.mp H
     obtain ⟨⟨t527, t530⟩, A940, H⟩ := H
     replace H : ((yg0.f kj41 t518 t521 t522 t525).bind fun bt531 => (if (t530 != bt531.2) = true then (ya0.j5 kj41 l1 t521 t522 t527 t530 true t518) else ((yc0.f kj41 t527 bt531.1).bind fun t535 => (ya0.j5 kj41 l1 t521 t522 t527 t530 (!t535) t518)))) = some r := H
     have A94 := hqZ A940
     clear A940
     replace H := Option.bind_eq_some_iff.mp H
     obtain ⟨⟨t531, t534⟩, A950, H⟩ := H
     replace H : (if (t530 != t534) = true then (ya0.j5 kj41 l1 t521 t522 t527 t530 true t518) else ((yc0.f kj41 t527 t531).bind fun t535 => (ya0.j5 kj41 l1 t521 t522 t527 t530 (!t535) t518))) = some r := H
     have A95 := hqZ A950
     clear A950
     have HC96 := hqZ H
     clear H
     go_upto_region 32 with (first | ((with_reducible refine ze0 (f := 13) rfl ?_); refine zq0 (some 195) rfl rfl Try.func13 (by kernel_rfl) rfl #[.slice A1 l1.length c1] rfl (by simp only [hqa, hqb, hqc]; rfl) ?_; (with_reducible refine (yl1.calls kj41 _ _ l1 t518 t521 t522 t525 _ ?side1 ?side2 A93.1).mono ?_); (case side1 => exact (Kd.C_below HR1.1 HB.1)); (case side2 => exact HC1.1); rintro e w97 ⟨v519, v523, rfl, ho0, ho1, hb⟩; refine ⟨_, rfl, ?_⟩; have HO520 := hqZ (Kd.N_lower (Kd.N_mono (ok' := fun k_ => some k_ ≠ (v523 : Value).ownBlock ∧ some k_ ≠ (.slice Ao13 t469.length co13 : Value).ownBlock ∧ k_ ≠ gb476) ho0 (fun k_ hk_ => ⟨hk_.2, (Kd.fresh' (Kd.N_lt (HO_477000.1)) k_ hk_.1), (Kd.freshB (g := gb476) (o := .cells #[.slice Ao13 t469.length co13] 26 (0, 0)) (BK476.1) k_ hk_.1)⟩)) (zb0 (HB.1))); replace HO_477000 := hqZ (Kd.N_mono (Kd.N_told (Kd.N_told (Kd.N_old (HO_477000.1) hb) (Kd.N_base ho0)) (Kd.R_base ho1)) (fun _ h_ => h_.1)); have HO524 := hqZ (Kd.R_lower (Kd.R_mono (ok' := fun k_ => True) ho1 (fun _ hk_ => trivial)) (zb0 (HB.1))); replace BK476 := hqZ (zc0 (g := gb476) (o := .cells #[.slice Ao13 t469.length co13] 26 (0, 0)) (BK476.1) hb); replace HB := hqZ (za0 (HB.1) hb); clear hb ho0 ho1) | ((with_reducible refine zo0 (N := 25) rfl ?_); refine zp0 ?hg (N := 25) ?hd (cs := #[.slice none 0 0]) (t := 26) ?hr ?_; (case hd | hg => rfl); (case hr => go_simp <;> rfl); intro gb526 hg w98 hbox hb; replace HO_477000 := hqZ (Kd.N_below (Kd.N_elderB (HO_477000.1) gb526 (Nat.le_of_eq hg.symm)) hb); replace HO520 := hqZ (Kd.N_below (Kd.N_elderB (HO520.1) gb526 (Nat.le_of_eq hg.symm)) hb); replace HO524 := hqZ (Kd.R_below (HO524.1) hb); have BK526 := hqZ (hbox); have GW526 := hqZ ((by rw [hg]; exact (zb0 (HB.1)) : w.heap.size ≤ gb526)); have GE526 := hqZ ((by rw [hg]; exact (zb0 (HB.1)) : w.heap.size ≤ gb526)); replace HB := hqZ (za0 (HB.1) hb); have NB476_526 := hqZ ((by rw [hg]; exact Nat.ne_of_lt (blk_lt (g := gb476) (o := .cells #[.slice Ao13 t469.length co13] 26 (0, 0)) (BK476.1)) : gb476 ≠ gb526)); have NB526_476 := hqZ ((by rw [hg]; exact Nat.ne_of_gt (blk_lt (g := gb476) (o := .cells #[.slice Ao13 t469.length co13] 26 (0, 0)) (BK476.1)) : gb526 ≠ gb476)); replace BK476 := hqZ (zc0 (g := gb476) (o := .cells #[.slice Ao13 t469.length co13] 26 (0, 0)) (BK476.1) hb); clear hb hbox hg; obtain ⟨Ao99, co99, eo99⟩ := Kd.N_slice HO520.1; subst eo99; have hnb100 := NB526_476.1; have hnc100 := NB476_526.1; have hcz101_0 : w98.cell? ⟨gb526, 0, none⟩ = some (.slice none 0 0) := (zh0 BK526.1 0).trans rfl; have hfz101_0 := zd0 BK526.1 0; obtain ⟨Ao102, co102, eo102⟩ := Kd.R_slice HO524.1; subst eo102) | ((with_reducible refine ze0 (f := 14) rfl ?_); refine zq0 (some 205) rfl rfl Try.func14 (by kernel_rfl) rfl #[.agg #[.slice Ao99 t518.length co99], .int .i64 t521, .slice Ao102 t522.length co102, .int .i64 t525] rfl (by simp only [hqa, hqb, hqc]; rfl) ?_; (with_reducible refine (yp0.calls kj41 _ _ t518 t521 _ _ t522 t525 t527 t530 _ ?side1 ?side2 ?side3 ?side4 A94.1).mono ?_); (case side1 => refine (Kd.N_reads' (e := 27) (base := w.heap.size) (ok := fun k_ => ((some k_ ≠ (.slice Ao102 t522.length co102 : Value).ownBlock ∧ (some k_ ≠ (.slice Ao13 t469.length co13 : Value).ownBlock ∧ k_ ≠ gb476)) ∧ k_ ≠ gb526)) (n := t518.length) (c := co99) ?_).2.2; exact ((Kd.N_mono (Kd.N_far (p := ⟨gb526, 0, none⟩) (Kd.N_mono HO520.1 (fun k_ hk => (⟨hk, hk.2⟩ : _ ∧ k_ ≠ gb526))) (fun _ hk => hk.2) (.slice Ao99 t518.length co99)) (fun _ h_ => h_.1)))); (case side2 => exact (Kd.N_reads' HO520.1).2.1); (case side3 => refine (Kd.R_reads' (e := 3) (base := w.heap.size) (ok := fun k_ => True) (n := t522.length) (c := co102) ?_).2.2; exact ((Kd.R_mono (Kd.R_far (p := ⟨gb526, 0, none⟩) (Kd.R_types HO524.1 BK526.1 (by decide)) (fun _ hk => hk.2) (.slice Ao99 t518.length co99)) (fun _ h_ => h_.1)))); (case side4 => exact (Kd.R_reads' HO524.1).2.1); rintro e w103 ⟨v528, rfl, ho0, hb⟩; refine ⟨_, rfl, ?_⟩; replace HO_477000 := hqZ (Kd.N_elder' ((Kd.N_mono (Kd.N_far (p := ⟨gb526, 0, none⟩) (Kd.N_mono HO_477000.1 (fun k_ hk => (⟨hk, hk.2⟩ : _ ∧ k_ ≠ gb526))) (fun _ hk => hk.2) (.slice Ao99 t518.length co99)) (fun _ h_ => h_.1))) (Kd.R_base ho0) hb); replace HO520 := hqZ (Kd.N_elder' ((Kd.N_mono (Kd.N_far (p := ⟨gb526, 0, none⟩) (Kd.N_mono HO520.1 (fun k_ hk => (⟨hk, hk.2⟩ : _ ∧ k_ ≠ gb526))) (fun _ hk => hk.2) (.slice Ao99 t518.length co99)) (fun _ h_ => h_.1))) (Kd.R_base ho0) hb); have HO529 := hqZ (Kd.R_lower (Kd.R_new' ho0 (Kd.R_lt ((Kd.R_mono (Kd.R_far (p := ⟨gb526, 0, none⟩) (Kd.R_types HO524.1 BK526.1 (by decide)) (fun _ hk => hk.2) (.slice Ao99 t518.length co99)) (fun _ h_ => h_.1))))) (zb0 (zf0 HB.1 GE526.1))); replace HO524 := hqZ (Kd.R_elder' ((Kd.R_mono (Kd.R_far (p := ⟨gb526, 0, none⟩) (Kd.R_types HO524.1 BK526.1 (by decide)) (fun _ hk => hk.2) (.slice Ao99 t518.length co99)) (fun _ h_ => h_.1))) (Kd.R_base ho0) hb); replace BK476 := hqZ (zc0 (g := gb476) (o := .cells #[.slice Ao13 t469.length co13] 26 (0, 0)) (by refine blk_far ?_ NB476_526.1 _; exact BK476.1) hb); replace BK526 := hqZ (zc0 (g := gb526) (o := .cells #[.slice Ao99 t518.length co99] 26 (0, 0)) (by refine blk_put (cs := #[.slice none 0 0]) ?_ 0 _ rfl; exact BK526.1) hb); replace HB := hqZ (za0 (zf0 HB.1 GE526.1) hb); clear hb ho0; have hcz104_0 : w103.cell? ⟨gb526, 0, none⟩ = some (.slice Ao99 t518.length co99) := (zh0 BK526.1 0).trans rfl; have hfz104_0 := zd0 BK526.1 0) | ((with_reducible refine ze0 (f := 15) rfl ?_); refine zq0 (some 213) rfl rfl Try.func15 (by kernel_rfl) rfl #[.agg #[.slice Ao99 t518.length co99], .int .i64 t521, .slice Ao102 t522.length co102, .int .i64 t525] rfl (by simp only [hqa, hqb, hqc]; rfl) ?_; (with_reducible refine (yg0.calls kj41 _ _ t518 t521 _ _ t522 t525 t531 t534 _ ?side1 ?side2 ?side3 ?side4 A95.1).mono ?_); (case side1 => exact (Kd.N_reads' HO520.1).2.2); (case side2 => exact (Kd.N_reads' HO520.1).2.1); (case side3 => exact (Kd.R_reads' HO524.1).2.2); (case side4 => exact (Kd.R_reads' HO524.1).2.1); rintro e w105 ⟨v532, rfl, ho0, hb⟩; refine ⟨_, rfl, ?_⟩; replace HO_477000 := hqZ (Kd.N_elder' (HO_477000.1) (Kd.R_base ho0) hb); replace HO520 := hqZ (Kd.N_elder' (HO520.1) (Kd.R_base ho0) hb); have HO533 := hqZ (Kd.R_lower (Kd.R_new' (Kd.R_new' ho0 (Kd.R_lt (HO524.1))) (Kd.R_lt (HO529.1))) (zb0 (HB.1))); replace HO524 := hqZ (Kd.R_elder' (HO524.1) (Kd.R_base ho0) hb); replace HO529 := hqZ (Kd.R_elder' (HO529.1) (Kd.R_base ho0) hb); replace BK476 := hqZ (zc0 (g := gb476) (o := .cells #[.slice Ao13 t469.length co13] 26 (0, 0)) (BK476.1) hb); replace BK526 := hqZ (zc0 (g := gb526) (o := .cells #[.slice Ao99 t518.length co99] 26 (0, 0)) (BK526.1) hb); replace HB := hqZ (za0 (HB.1) hb); clear hb ho0))
     (try simp only [Act.put, zA, zB, zC])
     go_cut [224] (fun v224 wc => ∃ (kq : Nat) (x224_95 : Bool), v224 = .bool x224_95 ∧ zi0 (ya0.j5 kq l1 t521 t522 t527 t530 x224_95 t518 = some r) ∧ zi0 (kq ≤ kj41) ∧ zi0 (Kd.R (Kd.int .i64) 3 wc w.heap.size (fun k_ => some k_ ≠ (v528 : Value).ownBlock) (.slice Ao102 t522.length co102) t522) ∧ zi0 (Kd.R (Kd.int .i64) 3 wc w.heap.size (fun k_ => some k_ ≠ ((.slice Ao102 t522.length co102) : Value).ownBlock) v528 t527) ∧ zi0 (Kd.N (Kd.slice 3 (Kd.int .i64)) 27 wc w.heap.size (fun k_ => some k_ ≠ ((.slice Ao102 t522.length co102) : Value).ownBlock ∧ some k_ ≠ (v528 : Value).ownBlock ∧ some k_ ≠ ((.slice Ao99 t518.length co99) : Value).ownBlock ∧ k_ ≠ gb476 ∧ k_ ≠ gb526) (.slice Ao13 t469.length co13) t469) ∧ zi0 (Kd.N (Kd.slice 3 (Kd.int .i64)) 27 wc w.heap.size (fun k_ => some k_ ≠ ((.slice Ao102 t522.length co102) : Value).ownBlock ∧ some k_ ≠ (v528 : Value).ownBlock ∧ some k_ ≠ ((.slice Ao13 t469.length co13) : Value).ownBlock ∧ k_ ≠ gb476 ∧ k_ ≠ gb526) (.slice Ao99 t518.length co99) t518) ∧ zi0 (wc.heap[gb476]? = some (.cells #[(.slice Ao13 t469.length co13)] 26 (0, 0))) ∧ zi0 (wc.heap[gb526]? = some (.cells #[(.slice Ao99 t518.length co99)] 26 (0, 0))) ∧ zi0 (Below w.heap.size w wc))
     case first =>
      have H := HC96.1
      clear HC96
      by_cases c106 : (t530 != t534) = true
      ·as_aux_lemma =>
       rw [if_pos c106] at H
       have c106b0 : (t530 != t534) = true := c106
       (try (have c106b1 : decide (t530 = t534) = false := by simpa using c106))
       (try (have c106b2 : (t530 == t534) = false := by simpa using c106))
       (try (have c106b3 : ¬ (t530 = t534) := by simpa using c106))
       clear c106
       (first | rw [c106b0] | (simp only [i64_w, i32_w]; rw [c106b0]) | skip)
       have H' := hqZ H
       clear H
       go_wp2
       go_meet
       case rel =>
        refine ⟨_, (true), ?_, H', ?_, ?_, ?_, ?_, ?_, ?_, ?_, ?_⟩
        ·exact (rfl)
        ·exact ⟨by have := HJ9.1; have := HJ41.1; first | omega | exact Nat.le_refl _⟩
        ·exact ⟨Kd.R_mono HO524.1 (fun _ hk => hk.1.2)⟩
        ·exact ⟨Kd.R_mono HO529.1 (fun _ hk => hk.1.2)⟩
        ·exact ⟨Kd.N_mono HO_477000.1 (fun _ hk => ⟨hk.1.1.1.2, ⟨hk.1.2, ⟨hk.1.1.1.1.2, ⟨hk.1.1.1.1.1, hk.1.1.2⟩⟩⟩⟩)⟩
        ·exact ⟨Kd.N_mono HO520.1 (fun _ hk => ⟨hk.1.1.1.1, ⟨hk.1.2, ⟨hk.1.1.1.2.1, ⟨hk.1.1.1.2.2, hk.1.1.2⟩⟩⟩⟩)⟩
        ·exact ⟨BK476.1⟩
        ·exact ⟨BK526.1⟩
        ·exact ⟨HB.1⟩
      as_aux_lemma =>
      rw [if_neg c106] at H
      have c106b0 : (t530 != t534) = false := by simpa using c106
      (try (have c106b1 : decide (t530 = t534) = true := by simpa using c106))
      (try (have c106b2 : (t530 == t534) = true := by simpa using c106))
      clear c106
      (first | rw [c106b0] | (simp only [i64_w, i32_w]; rw [c106b0]) | skip)
      replace H := Option.bind_eq_some_iff.mp H
      obtain ⟨t535, A1070, H⟩ := H
      replace H : (ya0.j5 kj41 l1 t521 t522 t527 t530 (!t535) t518) = some r := H
      have A107 := hqZ A1070
      clear A1070
      have H' := hqZ H
      clear H
      obtain ⟨Ao108, co108, eo108⟩ := Kd.R_slice HO529.1
      subst eo108
      obtain ⟨Ao109, co109, eo109⟩ := Kd.R_slice HO533.1
      subst eo109
      go_wp2_with (first | (go_at_call 11; (with_reducible refine (yc0.calls kj41 _ _ t527 _ _ t531 t535 _ ?side1 ?side2 ?side3 ?side4 A107.1).mono ?_); (case side1 => exact (Kd.R_reads' HO529.1).2.2); (case side2 => exact (Kd.R_reads' HO529.1).2.1); (case side3 => exact (Kd.R_reads' HO533.1).2.2); (case side4 => exact (Kd.R_reads' HO533.1).2.1); rintro e w' ⟨rfl, ⟨nd, rfl⟩⟩))
      go_meet
      case rel =>
       refine ⟨_, (!t535), ?_, H', ?_, ?_, ?_, ?_, ?_, ?_, ?_, ?_⟩
       ·exact (rfl)
       ·exact ⟨by have := HJ9.1; have := HJ41.1; first | omega | exact Nat.le_refl _⟩
       ·exact ⟨Kd.R_mono HO524.1 (fun _ hk => hk.1.2)⟩
       ·exact ⟨Kd.R_mono HO529.1 (fun _ hk => hk.1.2)⟩
       ·exact ⟨Kd.N_mono HO_477000.1 (fun _ hk => ⟨hk.1.1.1.2, ⟨hk.1.2, ⟨hk.1.1.1.1.2, ⟨hk.1.1.1.1.1, hk.1.1.2⟩⟩⟩⟩)⟩
       ·exact ⟨Kd.N_mono HO520.1 (fun _ hk => ⟨hk.1.1.1.1, ⟨hk.1.2, ⟨hk.1.1.1.2.1, ⟨hk.1.1.1.2.2, hk.1.1.2⟩⟩⟩⟩)⟩
       ·exact ⟨BK476.1⟩
       ·exact ⟨BK526.1⟩
       ·exact ⟨hqB HB.1⟩
     case rest =>
      clear HC96
      try clear c1
      try clear c2
      try clear p2
      try clear c3
      try clear c4
      try clear c5
      try clear p5
      try clear q5
      try clear hx5
      try clear c6
      try clear p6
      try clear c7
      try clear p7
      try clear q7
      try clear hx7
      try clear hf7
      try clear c8
      try clear p8
      try clear q8
      try clear hx8
      try clear hf8
      try clear c9
      try clear c10
      try clear c11
      try clear c12
      try clear c13
      try clear c14
      try clear c15
      try clear c23
      try clear c23b0
      try clear c23b1
      try clear c23b2
      try clear c25
      try clear c26
      try clear c26b0
      try clear c26b1
      try clear c26b2
      try clear c30
      try clear c41
      try clear c43
      try clear p50
      try clear q50
      try clear hx50
      try clear c51
      try clear p51
      try clear q51
      try clear hx51
      try clear c52
      try clear c53
      try clear c54
      try clear c56
      try clear c57
      try clear c57b0
      try clear c58
      try clear c58b0
      try clear c62
      try clear c63
      try clear p64
      try clear c68
      try clear c68b0
      try clear c69
      try clear c69b0
      try clear c70
      try clear c70b0
      try clear c71
      try clear c71b0
      try clear c72
      try clear c72b0
      try clear p73
      try clear q73
      try clear hx73
      try clear hf73
      try clear c78
      try clear c78b0
      try clear c79
      try clear c79b0
      try clear c80
      try clear c80b0
      try clear c81
      try clear c81b0
      try clear c81b1
      try clear c82
      try clear c82b0
      try clear c83
      try clear c83b0
      try clear c84
      try clear c84b0
      try clear c85
      try clear c85b0
      try clear p86
      try clear q86
      try clear hx86
      try clear hf86
      try clear c90
      try clear c100
      try clear c106
      try clear c106b0
      try clear c106b1
      try clear c106b2
      try clear hcz101_0
      try clear hcz104_0
      try clear hcz14_0
      try clear hcz17_0
      try clear hcz19_0
      try clear hcz21_0
      try clear hcz47_0
      try clear hcz50_0
      try clear hcz67_0
      try clear hfz101_0
      try clear hfz104_0
      try clear hfz14_0
      try clear hfz17_0
      try clear hfz19_0
      try clear hfz21_0
      try clear hfz47_0
      try clear hfz50_0
      try clear hfz67_0
      try clear hx502_0
      try clear hx510_0
      try clear hx511_0
      try clear hx512_0
      try clear hx514_0
      try clear hx515_0
      try clear hx516_0
      try clear hx73_0
      try clear hx86_0
      try clear p2
      try clear p5
      try clear p50
      try clear p502
      try clear p51
      try clear p510
      try clear p511
      try clear p512
      try clear p514
      try clear p515
      try clear p516
      try clear p6
      try clear p64
      try clear p7
      try clear p73
      try clear p8
      try clear p86
      try clear q5
      try clear q50
      try clear q502
      try clear q51
      try clear q510
      try clear q511
      try clear q512
      try clear q514
      try clear q515
      try clear q516
      try clear q7
      try clear q73
      try clear q8
      try clear q86
      obtain ⟨kq, x224_95, rfl, HA, HJ95, HO_27, HO_29, HO_477000, HO_527000, BK476, BK526, HB⟩ := hcut
      cases kq with
      | zero => exact absurd HA.1 (by simp [ya0.j5])
      | succ kj95 =>
       have H := HA.1
       clear HA
       simp only [ya0.j5] at H
       by_cases c110 : x224_95 = true
       ·as_aux_lemma =>
        subst c110
        have H1 : (some false) = some r := by rw [if_pos rfl] at H; exact H
        clear H
        have H := H1
        clear H1
        obtain rfl := Option.some.inj H
        go_wp2
        go_ret
        exact ⟨rfl, HB.1⟩
       as_aux_lemma =>
       replace c110 := Bool.eq_false_iff.mpr c110
       subst c110
       have H1 : (if t530 = true then ((ys0.f kj95 t518 t521 t522).bind fun bt536 => ((ys0.f kj95 t518 t521 t527).bind fun bt540 => (if bt536.2 = true then (if bt540.2 = true then ((yc0.f kj95 bt536.1 bt540.1).bind fun t544 => (ya0.j6 kj95 l1 (!t544))) else (ya0.j6 kj95 l1 false)) else (ya0.j6 kj95 l1 false)))) else ((yc1.f kj95 l1).bind fun bt557 => ((yw0.f kj95 bt557.1 bt557.2.1 bt557.2.2).bind fun bt565 => ((yy0.f kj95 bt557.1 bt557.2.1 bt557.2.2).bind fun bt567 => (if (bt565.2 == bt567.2) = true then (some (bt565.1 == bt567.1)) else (some false)))))) = some r := by rw [if_neg (show ¬ (false = true) by decide)] at H; exact H
       clear H
       have H := H1
       clear H1
       by_cases c111 : t530 = true
       rotate_left
       ·as_aux_lemma =>
        replace c111 := Bool.eq_false_iff.mpr c111
        subst c111
        have H1 : ((yc1.f kj95 l1).bind fun bt557 => ((yw0.f kj95 bt557.1 bt557.2.1 bt557.2.2).bind fun bt565 => ((yy0.f kj95 bt557.1 bt557.2.1 bt557.2.2).bind fun bt567 => (if (bt565.2 == bt567.2) = true then (some (bt565.1 == bt567.1)) else (some false))))) = some r := by rw [if_neg (show ¬ (false = true) by decide)] at H; exact H
        clear H
        have H := H1
        clear H1
        replace H := Option.bind_eq_some_iff.mp H
        obtain ⟨⟨t557, t560, t561⟩, A1510, H⟩ := H
        replace H : ((yw0.f kj95 t557 t560 t561).bind fun bt565 => ((yy0.f kj95 t557 t560 t561).bind fun bt567 => (if (bt565.2 == bt567.2) = true then (some (bt565.1 == bt567.1)) else (some false)))) = some r := H
        have A151 := hqZ A1510
        clear A1510
        replace H := Option.bind_eq_some_iff.mp H
        obtain ⟨⟨t565, t566⟩, A1520, H⟩ := H
        replace H : ((yy0.f kj95 t557 t560 t561).bind fun bt567 => (if (t566 == bt567.2) = true then (some (t565 == bt567.1)) else (some false))) = some r := H
        have A152 := hqZ A1520
        clear A1520
        replace H := Option.bind_eq_some_iff.mp H
        obtain ⟨⟨t567, t568⟩, A1530, H⟩ := H
        replace H : (if (t566 == t568) = true then (some (t565 == t567)) else (some false)) = some r := H
        have A153 := hqZ A1530
        clear A1530
        by_cases c154 : (t566 == t568) = true
        ·as_aux_lemma =>
         rw [if_pos c154] at H
         have c154b0 : (t566 == t568) = true := c154
         (try (have c154b1 : decide (t566 = t568) = true := by simpa using c154))
         (try (have c154b2 : (t566 == t568) = true := by simpa using c154))
         clear c154
         obtain rfl := Option.some.inj H
         go_wp2_with (first | ((with_reducible refine ze0 (f := 16) rfl ?_); refine zq0 (some 252) rfl rfl Try.func16 (by kernel_rfl) rfl #[.slice A1 l1.length c1] rfl (by simp only [hqa, hqb, hqc]; rfl) ?_; (with_reducible refine (yc1.calls kj95 _ _ l1 t557 t560 t561 _ ?side1 ?side2 A151.1).mono ?_); (case side1 => exact (Kd.C_below HR1.1 HB.1)); (case side2 => exact HC1.1); rintro e w155 ⟨v558, v562, rfl, ho0, ho1, hb⟩; refine ⟨_, rfl, ?_⟩; have HO559 := hqZ (Kd.N_lower (Kd.N_mono (ok' := fun k_ => some k_ ≠ (v562 : Value).ownBlock ∧ some k_ ≠ (.slice Ao102 t522.length co102 : Value).ownBlock ∧ some k_ ≠ (v528 : Value).ownBlock ∧ some k_ ≠ (.slice Ao13 t469.length co13 : Value).ownBlock ∧ some k_ ≠ (.slice Ao99 t518.length co99 : Value).ownBlock ∧ k_ ≠ gb476 ∧ k_ ≠ gb526) ho0 (fun k_ hk_ => ⟨hk_.2, (Kd.fresh' (Kd.R_lt (HO_27.1)) k_ hk_.1), (Kd.fresh' (Kd.R_lt (HO_29.1)) k_ hk_.1), (Kd.fresh' (Kd.N_lt (HO_477000.1)) k_ hk_.1), (Kd.fresh' (Kd.N_lt (HO_527000.1)) k_ hk_.1), (Kd.freshB (g := gb476) (o := .cells #[.slice Ao13 t469.length co13] 26 (0, 0)) (BK476.1) k_ hk_.1), (Kd.freshB (g := gb526) (o := .cells #[.slice Ao99 t518.length co99] 26 (0, 0)) (BK526.1) k_ hk_.1)⟩)) (zb0 (HB.1))); replace HO_477000 := hqZ (Kd.N_mono (Kd.N_told (Kd.N_told (Kd.N_old (HO_477000.1) hb) (Kd.N_base ho0)) (Kd.R_base ho1)) (fun _ h_ => h_.1)); replace HO_527000 := hqZ (Kd.N_mono (Kd.N_told (Kd.N_told (Kd.N_old (HO_527000.1) hb) (Kd.N_base ho0)) (Kd.R_base ho1)) (fun _ h_ => h_.1)); have HO563 := hqZ (Kd.R_lower (Kd.R_new' (Kd.R_new' (Kd.R_mono (ok' := fun k_ => True) ho1 (fun _ hk_ => trivial)) (Kd.R_lt (HO_27.1))) (Kd.R_lt (HO_29.1))) (zb0 (HB.1))); replace HO_27 := hqZ (Kd.R_elder' (HO_27.1) (Kd.R_base ho1) hb); replace HO_29 := hqZ (Kd.R_elder' (HO_29.1) (Kd.R_base ho1) hb); replace BK476 := hqZ (zc0 (g := gb476) (o := .cells #[.slice Ao13 t469.length co13] 26 (0, 0)) (BK476.1) hb); replace BK526 := hqZ (zc0 (g := gb526) (o := .cells #[.slice Ao99 t518.length co99] 26 (0, 0)) (BK526.1) hb); replace HB := hqZ (za0 (HB.1) hb); clear hb ho0 ho1) | ((with_reducible refine zo0 (N := 37) rfl ?_); refine zp0 ?hg (N := 37) ?hd (cs := #[.slice none 0 0]) (t := 26) ?hr ?_; (case hd | hg => rfl); (case hr => go_simp <;> rfl); intro gb564 hg w156 hbox hb; replace HO_27 := hqZ (Kd.R_below (HO_27.1) hb); replace HO_29 := hqZ (Kd.R_below (HO_29.1) hb); replace HO_477000 := hqZ (Kd.N_below (Kd.N_elderB (HO_477000.1) gb564 (Nat.le_of_eq hg.symm)) hb); replace HO_527000 := hqZ (Kd.N_below (Kd.N_elderB (HO_527000.1) gb564 (Nat.le_of_eq hg.symm)) hb); replace HO559 := hqZ (Kd.N_below (Kd.N_elderB (HO559.1) gb564 (Nat.le_of_eq hg.symm)) hb); replace HO563 := hqZ (Kd.R_below (HO563.1) hb); have BK564 := hqZ (hbox); have GW564 := hqZ ((by rw [hg]; exact (zb0 (HB.1)) : w.heap.size ≤ gb564)); have GE564 := hqZ ((by rw [hg]; exact (zb0 (HB.1)) : w.heap.size ≤ gb564)); replace HB := hqZ (za0 (HB.1) hb); have NB476_564 := hqZ ((by rw [hg]; exact Nat.ne_of_lt (blk_lt (g := gb476) (o := .cells #[.slice Ao13 t469.length co13] 26 (0, 0)) (BK476.1)) : gb476 ≠ gb564)); have NB564_476 := hqZ ((by rw [hg]; exact Nat.ne_of_gt (blk_lt (g := gb476) (o := .cells #[.slice Ao13 t469.length co13] 26 (0, 0)) (BK476.1)) : gb564 ≠ gb476)); replace BK476 := hqZ (zc0 (g := gb476) (o := .cells #[.slice Ao13 t469.length co13] 26 (0, 0)) (BK476.1) hb); have NB526_564 := hqZ ((by rw [hg]; exact Nat.ne_of_lt (blk_lt (g := gb526) (o := .cells #[.slice Ao99 t518.length co99] 26 (0, 0)) (BK526.1)) : gb526 ≠ gb564)); have NB564_526 := hqZ ((by rw [hg]; exact Nat.ne_of_gt (blk_lt (g := gb526) (o := .cells #[.slice Ao99 t518.length co99] 26 (0, 0)) (BK526.1)) : gb564 ≠ gb526)); replace BK526 := hqZ (zc0 (g := gb526) (o := .cells #[.slice Ao99 t518.length co99] 26 (0, 0)) (BK526.1) hb); clear hb hbox hg; obtain ⟨Ao157, co157, eo157⟩ := Kd.N_slice HO559.1; subst eo157; have hnb158 := NB564_476.1; have hnc158 := NB476_564.1; have hnb159 := NB564_526.1; have hnc159 := NB526_564.1; have hcz160_0 : w156.cell? ⟨gb564, 0, none⟩ = some (.slice none 0 0) := (zh0 BK564.1 0).trans rfl; have hfz160_0 := zd0 BK564.1 0; obtain ⟨Ao161, co161, eo161⟩ := Kd.R_slice HO563.1; subst eo161) | ((with_reducible refine ze0 (f := 12) rfl ?_); refine zq0 (some 260) rfl rfl Try.func12 (by kernel_rfl) rfl #[.agg #[.slice Ao157 t557.length co157], .int .i64 t560, .slice Ao161 t561.length co161] rfl (by simp only [hqa, hqb, hqc]; rfl) ?_; (with_reducible refine (yw0.calls kj95 _ _ t557 t560 _ _ t561 t565 t566 _ ?side1 ?side2 ?side3 ?side4 A152.1).mono ?_); (case side1 => refine (Kd.N_reads' (e := 27) (base := w.heap.size) (ok := fun k_ => ((some k_ ≠ (.slice Ao161 t561.length co161 : Value).ownBlock ∧ (some k_ ≠ (.slice Ao102 t522.length co102 : Value).ownBlock ∧ (some k_ ≠ (v528 : Value).ownBlock ∧ (some k_ ≠ (.slice Ao13 t469.length co13 : Value).ownBlock ∧ (some k_ ≠ (.slice Ao99 t518.length co99 : Value).ownBlock ∧ (k_ ≠ gb476 ∧ k_ ≠ gb526)))))) ∧ k_ ≠ gb564)) (n := t557.length) (c := co157) ?_).2.2; exact ((Kd.N_mono (Kd.N_far (p := ⟨gb564, 0, none⟩) (Kd.N_mono HO559.1 (fun k_ hk => (⟨hk, hk.2⟩ : _ ∧ k_ ≠ gb564))) (fun _ hk => hk.2) (.slice Ao157 t557.length co157)) (fun _ h_ => h_.1)))); (case side2 => exact (Kd.N_reads' HO559.1).2.1); (case side3 => refine (Kd.R_reads' (e := 3) (base := w.heap.size) (ok := fun k_ => ((True ∧ some k_ ≠ (.slice Ao102 t522.length co102 : Value).ownBlock) ∧ some k_ ≠ (v528 : Value).ownBlock)) (n := t561.length) (c := co161) ?_).2.2; exact ((Kd.R_mono (Kd.R_far (p := ⟨gb564, 0, none⟩) (Kd.R_types HO563.1 BK564.1 (by decide)) (fun _ hk => hk.2) (.slice Ao157 t557.length co157)) (fun _ h_ => h_.1)))); (case side4 => exact (Kd.R_reads' HO563.1).2.1); rintro e w162 ⟨rfl, hb⟩; refine ⟨_, rfl, ?_⟩; replace HO_27 := hqZ (Kd.R_below ((Kd.R_mono (Kd.R_far (p := ⟨gb564, 0, none⟩) (Kd.R_types HO_27.1 BK564.1 (by decide)) (fun _ hk => hk.2) (.slice Ao157 t557.length co157)) (fun _ h_ => h_.1))) hb); replace HO_29 := hqZ (Kd.R_below ((Kd.R_mono (Kd.R_far (p := ⟨gb564, 0, none⟩) (Kd.R_types HO_29.1 BK564.1 (by decide)) (fun _ hk => hk.2) (.slice Ao157 t557.length co157)) (fun _ h_ => h_.1))) hb); replace HO_477000 := hqZ (Kd.N_below ((Kd.N_mono (Kd.N_far (p := ⟨gb564, 0, none⟩) (Kd.N_mono HO_477000.1 (fun k_ hk => (⟨hk, hk.2⟩ : _ ∧ k_ ≠ gb564))) (fun _ hk => hk.2) (.slice Ao157 t557.length co157)) (fun _ h_ => h_.1))) hb); replace HO_527000 := hqZ (Kd.N_below ((Kd.N_mono (Kd.N_far (p := ⟨gb564, 0, none⟩) (Kd.N_mono HO_527000.1 (fun k_ hk => (⟨hk, hk.2⟩ : _ ∧ k_ ≠ gb564))) (fun _ hk => hk.2) (.slice Ao157 t557.length co157)) (fun _ h_ => h_.1))) hb); replace HO559 := hqZ (Kd.N_below ((Kd.N_mono (Kd.N_far (p := ⟨gb564, 0, none⟩) (Kd.N_mono HO559.1 (fun k_ hk => (⟨hk, hk.2⟩ : _ ∧ k_ ≠ gb564))) (fun _ hk => hk.2) (.slice Ao157 t557.length co157)) (fun _ h_ => h_.1))) hb); replace HO563 := hqZ (Kd.R_below ((Kd.R_mono (Kd.R_far (p := ⟨gb564, 0, none⟩) (Kd.R_types HO563.1 BK564.1 (by decide)) (fun _ hk => hk.2) (.slice Ao157 t557.length co157)) (fun _ h_ => h_.1))) hb); replace BK476 := hqZ (zc0 (g := gb476) (o := .cells #[.slice Ao13 t469.length co13] 26 (0, 0)) (by refine blk_far ?_ NB476_564.1 _; exact BK476.1) hb); replace BK526 := hqZ (zc0 (g := gb526) (o := .cells #[.slice Ao99 t518.length co99] 26 (0, 0)) (by refine blk_far ?_ NB526_564.1 _; exact BK526.1) hb); replace BK564 := hqZ (zc0 (g := gb564) (o := .cells #[.slice Ao157 t557.length co157] 26 (0, 0)) (by refine blk_put (cs := #[.slice none 0 0]) ?_ 0 _ rfl; exact BK564.1) hb); replace HB := hqZ (za0 (zf0 HB.1 GE564.1) hb); clear hb; have hcz163_0 : w162.cell? ⟨gb564, 0, none⟩ = some (.slice Ao157 t557.length co157) := (zh0 BK564.1 0).trans rfl; have hfz163_0 := zd0 BK564.1 0) | ((with_reducible refine ze0 (f := 17) rfl ?_); refine zq0 (some 267) rfl rfl Try.func17 (by kernel_rfl) rfl #[.agg #[.slice Ao157 t557.length co157], .int .i64 t560, .slice Ao161 t561.length co161] rfl (by simp only [hqa, hqb, hqc]; rfl) ?_; (with_reducible refine (yy0.calls kj95 _ _ t557 t560 _ _ t561 t567 t568 _ ?side1 ?side2 ?side3 ?side4 A153.1).mono ?_); (case side1 => exact (Kd.N_reads' HO559.1).2.2); (case side2 => exact (Kd.N_reads' HO559.1).2.1); (case side3 => exact (Kd.R_reads' HO563.1).2.2); (case side4 => exact (Kd.R_reads' HO563.1).2.1); rintro e w164 ⟨rfl, hb⟩; refine ⟨_, rfl, ?_⟩; replace HO_27 := hqZ (Kd.R_below (HO_27.1) hb); replace HO_29 := hqZ (Kd.R_below (HO_29.1) hb); replace HO_477000 := hqZ (Kd.N_below (HO_477000.1) hb); replace HO_527000 := hqZ (Kd.N_below (HO_527000.1) hb); replace HO559 := hqZ (Kd.N_below (HO559.1) hb); replace HO563 := hqZ (Kd.R_below (HO563.1) hb); replace BK476 := hqZ (zc0 (g := gb476) (o := .cells #[.slice Ao13 t469.length co13] 26 (0, 0)) (BK476.1) hb); replace BK526 := hqZ (zc0 (g := gb526) (o := .cells #[.slice Ao99 t518.length co99] 26 (0, 0)) (BK526.1) hb); replace BK564 := hqZ (zc0 (g := gb564) (o := .cells #[.slice Ao157 t557.length co157] 26 (0, 0)) (BK564.1) hb); replace HB := hqZ (za0 (HB.1) hb); clear hb))
         go_ret
         exact ⟨rfl, HB.1⟩
        as_aux_lemma =>
        rw [if_neg c154] at H
        have c154b0 : (t566 == t568) = false := by simpa using c154
        (try (have c154b1 : decide (t566 = t568) = false := by simpa using c154))
        (try (have c154b2 : (t566 == t568) = false := by simpa using c154))
        (try (have c154b3 : ¬ (t566 = t568) := by simpa using c154))
        clear c154
        obtain rfl := Option.some.inj H
        go_wp2_with (first | ((with_reducible refine ze0 (f := 16) rfl ?_); refine zq0 (some 252) rfl rfl Try.func16 (by kernel_rfl) rfl #[.slice A1 l1.length c1] rfl (by simp only [hqa, hqb, hqc]; rfl) ?_; (with_reducible refine (yc1.calls kj95 _ _ l1 t557 t560 t561 _ ?side1 ?side2 A151.1).mono ?_); (case side1 => exact (Kd.C_below HR1.1 HB.1)); (case side2 => exact HC1.1); rintro e w165 ⟨v558, v562, rfl, ho0, ho1, hb⟩; refine ⟨_, rfl, ?_⟩; have HO559 := hqZ (Kd.N_lower (Kd.N_mono (ok' := fun k_ => some k_ ≠ (v562 : Value).ownBlock ∧ some k_ ≠ (.slice Ao102 t522.length co102 : Value).ownBlock ∧ some k_ ≠ (v528 : Value).ownBlock ∧ some k_ ≠ (.slice Ao13 t469.length co13 : Value).ownBlock ∧ some k_ ≠ (.slice Ao99 t518.length co99 : Value).ownBlock ∧ k_ ≠ gb476 ∧ k_ ≠ gb526) ho0 (fun k_ hk_ => ⟨hk_.2, (Kd.fresh' (Kd.R_lt (HO_27.1)) k_ hk_.1), (Kd.fresh' (Kd.R_lt (HO_29.1)) k_ hk_.1), (Kd.fresh' (Kd.N_lt (HO_477000.1)) k_ hk_.1), (Kd.fresh' (Kd.N_lt (HO_527000.1)) k_ hk_.1), (Kd.freshB (g := gb476) (o := .cells #[.slice Ao13 t469.length co13] 26 (0, 0)) (BK476.1) k_ hk_.1), (Kd.freshB (g := gb526) (o := .cells #[.slice Ao99 t518.length co99] 26 (0, 0)) (BK526.1) k_ hk_.1)⟩)) (zb0 (HB.1))); replace HO_477000 := hqZ (Kd.N_mono (Kd.N_told (Kd.N_told (Kd.N_old (HO_477000.1) hb) (Kd.N_base ho0)) (Kd.R_base ho1)) (fun _ h_ => h_.1)); replace HO_527000 := hqZ (Kd.N_mono (Kd.N_told (Kd.N_told (Kd.N_old (HO_527000.1) hb) (Kd.N_base ho0)) (Kd.R_base ho1)) (fun _ h_ => h_.1)); have HO563 := hqZ (Kd.R_lower (Kd.R_new' (Kd.R_new' (Kd.R_mono (ok' := fun k_ => True) ho1 (fun _ hk_ => trivial)) (Kd.R_lt (HO_27.1))) (Kd.R_lt (HO_29.1))) (zb0 (HB.1))); replace HO_27 := hqZ (Kd.R_elder' (HO_27.1) (Kd.R_base ho1) hb); replace HO_29 := hqZ (Kd.R_elder' (HO_29.1) (Kd.R_base ho1) hb); replace BK476 := hqZ (zc0 (g := gb476) (o := .cells #[.slice Ao13 t469.length co13] 26 (0, 0)) (BK476.1) hb); replace BK526 := hqZ (zc0 (g := gb526) (o := .cells #[.slice Ao99 t518.length co99] 26 (0, 0)) (BK526.1) hb); replace HB := hqZ (za0 (HB.1) hb); clear hb ho0 ho1) | ((with_reducible refine zo0 (N := 37) rfl ?_); refine zp0 ?hg (N := 37) ?hd (cs := #[.slice none 0 0]) (t := 26) ?hr ?_; (case hd | hg => rfl); (case hr => go_simp <;> rfl); intro gb564 hg w166 hbox hb; replace HO_27 := hqZ (Kd.R_below (HO_27.1) hb); replace HO_29 := hqZ (Kd.R_below (HO_29.1) hb); replace HO_477000 := hqZ (Kd.N_below (Kd.N_elderB (HO_477000.1) gb564 (Nat.le_of_eq hg.symm)) hb); replace HO_527000 := hqZ (Kd.N_below (Kd.N_elderB (HO_527000.1) gb564 (Nat.le_of_eq hg.symm)) hb); replace HO559 := hqZ (Kd.N_below (Kd.N_elderB (HO559.1) gb564 (Nat.le_of_eq hg.symm)) hb); replace HO563 := hqZ (Kd.R_below (HO563.1) hb); have BK564 := hqZ (hbox); have GW564 := hqZ ((by rw [hg]; exact (zb0 (HB.1)) : w.heap.size ≤ gb564)); have GE564 := hqZ ((by rw [hg]; exact (zb0 (HB.1)) : w.heap.size ≤ gb564)); replace HB := hqZ (za0 (HB.1) hb); have NB476_564 := hqZ ((by rw [hg]; exact Nat.ne_of_lt (blk_lt (g := gb476) (o := .cells #[.slice Ao13 t469.length co13] 26 (0, 0)) (BK476.1)) : gb476 ≠ gb564)); have NB564_476 := hqZ ((by rw [hg]; exact Nat.ne_of_gt (blk_lt (g := gb476) (o := .cells #[.slice Ao13 t469.length co13] 26 (0, 0)) (BK476.1)) : gb564 ≠ gb476)); replace BK476 := hqZ (zc0 (g := gb476) (o := .cells #[.slice Ao13 t469.length co13] 26 (0, 0)) (BK476.1) hb); have NB526_564 := hqZ ((by rw [hg]; exact Nat.ne_of_lt (blk_lt (g := gb526) (o := .cells #[.slice Ao99 t518.length co99] 26 (0, 0)) (BK526.1)) : gb526 ≠ gb564)); have NB564_526 := hqZ ((by rw [hg]; exact Nat.ne_of_gt (blk_lt (g := gb526) (o := .cells #[.slice Ao99 t518.length co99] 26 (0, 0)) (BK526.1)) : gb564 ≠ gb526)); replace BK526 := hqZ (zc0 (g := gb526) (o := .cells #[.slice Ao99 t518.length co99] 26 (0, 0)) (BK526.1) hb); clear hb hbox hg; obtain ⟨Ao167, co167, eo167⟩ := Kd.N_slice HO559.1; subst eo167; have hnb168 := NB564_476.1; have hnc168 := NB476_564.1; have hnb169 := NB564_526.1; have hnc169 := NB526_564.1; have hcz170_0 : w166.cell? ⟨gb564, 0, none⟩ = some (.slice none 0 0) := (zh0 BK564.1 0).trans rfl; have hfz170_0 := zd0 BK564.1 0; obtain ⟨Ao171, co171, eo171⟩ := Kd.R_slice HO563.1; subst eo171) | ((with_reducible refine ze0 (f := 12) rfl ?_); refine zq0 (some 260) rfl rfl Try.func12 (by kernel_rfl) rfl #[.agg #[.slice Ao167 t557.length co167], .int .i64 t560, .slice Ao171 t561.length co171] rfl (by simp only [hqa, hqb, hqc]; rfl) ?_; (with_reducible refine (yw0.calls kj95 _ _ t557 t560 _ _ t561 t565 t566 _ ?side1 ?side2 ?side3 ?side4 A152.1).mono ?_); (case side1 => refine (Kd.N_reads' (e := 27) (base := w.heap.size) (ok := fun k_ => ((some k_ ≠ (.slice Ao171 t561.length co171 : Value).ownBlock ∧ (some k_ ≠ (.slice Ao102 t522.length co102 : Value).ownBlock ∧ (some k_ ≠ (v528 : Value).ownBlock ∧ (some k_ ≠ (.slice Ao13 t469.length co13 : Value).ownBlock ∧ (some k_ ≠ (.slice Ao99 t518.length co99 : Value).ownBlock ∧ (k_ ≠ gb476 ∧ k_ ≠ gb526)))))) ∧ k_ ≠ gb564)) (n := t557.length) (c := co167) ?_).2.2; exact ((Kd.N_mono (Kd.N_far (p := ⟨gb564, 0, none⟩) (Kd.N_mono HO559.1 (fun k_ hk => (⟨hk, hk.2⟩ : _ ∧ k_ ≠ gb564))) (fun _ hk => hk.2) (.slice Ao167 t557.length co167)) (fun _ h_ => h_.1)))); (case side2 => exact (Kd.N_reads' HO559.1).2.1); (case side3 => refine (Kd.R_reads' (e := 3) (base := w.heap.size) (ok := fun k_ => ((True ∧ some k_ ≠ (.slice Ao102 t522.length co102 : Value).ownBlock) ∧ some k_ ≠ (v528 : Value).ownBlock)) (n := t561.length) (c := co171) ?_).2.2; exact ((Kd.R_mono (Kd.R_far (p := ⟨gb564, 0, none⟩) (Kd.R_types HO563.1 BK564.1 (by decide)) (fun _ hk => hk.2) (.slice Ao167 t557.length co167)) (fun _ h_ => h_.1)))); (case side4 => exact (Kd.R_reads' HO563.1).2.1); rintro e w172 ⟨rfl, hb⟩; refine ⟨_, rfl, ?_⟩; replace HO_27 := hqZ (Kd.R_below ((Kd.R_mono (Kd.R_far (p := ⟨gb564, 0, none⟩) (Kd.R_types HO_27.1 BK564.1 (by decide)) (fun _ hk => hk.2) (.slice Ao167 t557.length co167)) (fun _ h_ => h_.1))) hb); replace HO_29 := hqZ (Kd.R_below ((Kd.R_mono (Kd.R_far (p := ⟨gb564, 0, none⟩) (Kd.R_types HO_29.1 BK564.1 (by decide)) (fun _ hk => hk.2) (.slice Ao167 t557.length co167)) (fun _ h_ => h_.1))) hb); replace HO_477000 := hqZ (Kd.N_below ((Kd.N_mono (Kd.N_far (p := ⟨gb564, 0, none⟩) (Kd.N_mono HO_477000.1 (fun k_ hk => (⟨hk, hk.2⟩ : _ ∧ k_ ≠ gb564))) (fun _ hk => hk.2) (.slice Ao167 t557.length co167)) (fun _ h_ => h_.1))) hb); replace HO_527000 := hqZ (Kd.N_below ((Kd.N_mono (Kd.N_far (p := ⟨gb564, 0, none⟩) (Kd.N_mono HO_527000.1 (fun k_ hk => (⟨hk, hk.2⟩ : _ ∧ k_ ≠ gb564))) (fun _ hk => hk.2) (.slice Ao167 t557.length co167)) (fun _ h_ => h_.1))) hb); replace HO559 := hqZ (Kd.N_below ((Kd.N_mono (Kd.N_far (p := ⟨gb564, 0, none⟩) (Kd.N_mono HO559.1 (fun k_ hk => (⟨hk, hk.2⟩ : _ ∧ k_ ≠ gb564))) (fun _ hk => hk.2) (.slice Ao167 t557.length co167)) (fun _ h_ => h_.1))) hb); replace HO563 := hqZ (Kd.R_below ((Kd.R_mono (Kd.R_far (p := ⟨gb564, 0, none⟩) (Kd.R_types HO563.1 BK564.1 (by decide)) (fun _ hk => hk.2) (.slice Ao167 t557.length co167)) (fun _ h_ => h_.1))) hb); replace BK476 := hqZ (zc0 (g := gb476) (o := .cells #[.slice Ao13 t469.length co13] 26 (0, 0)) (by refine blk_far ?_ NB476_564.1 _; exact BK476.1) hb); replace BK526 := hqZ (zc0 (g := gb526) (o := .cells #[.slice Ao99 t518.length co99] 26 (0, 0)) (by refine blk_far ?_ NB526_564.1 _; exact BK526.1) hb); replace BK564 := hqZ (zc0 (g := gb564) (o := .cells #[.slice Ao167 t557.length co167] 26 (0, 0)) (by refine blk_put (cs := #[.slice none 0 0]) ?_ 0 _ rfl; exact BK564.1) hb); replace HB := hqZ (za0 (zf0 HB.1 GE564.1) hb); clear hb; have hcz173_0 : w172.cell? ⟨gb564, 0, none⟩ = some (.slice Ao167 t557.length co167) := (zh0 BK564.1 0).trans rfl; have hfz173_0 := zd0 BK564.1 0) | ((with_reducible refine ze0 (f := 17) rfl ?_); refine zq0 (some 267) rfl rfl Try.func17 (by kernel_rfl) rfl #[.agg #[.slice Ao167 t557.length co167], .int .i64 t560, .slice Ao171 t561.length co171] rfl (by simp only [hqa, hqb, hqc]; rfl) ?_; (with_reducible refine (yy0.calls kj95 _ _ t557 t560 _ _ t561 t567 t568 _ ?side1 ?side2 ?side3 ?side4 A153.1).mono ?_); (case side1 => exact (Kd.N_reads' HO559.1).2.2); (case side2 => exact (Kd.N_reads' HO559.1).2.1); (case side3 => exact (Kd.R_reads' HO563.1).2.2); (case side4 => exact (Kd.R_reads' HO563.1).2.1); rintro e w174 ⟨rfl, hb⟩; refine ⟨_, rfl, ?_⟩; replace HO_27 := hqZ (Kd.R_below (HO_27.1) hb); replace HO_29 := hqZ (Kd.R_below (HO_29.1) hb); replace HO_477000 := hqZ (Kd.N_below (HO_477000.1) hb); replace HO_527000 := hqZ (Kd.N_below (HO_527000.1) hb); replace HO559 := hqZ (Kd.N_below (HO559.1) hb); replace HO563 := hqZ (Kd.R_below (HO563.1) hb); replace BK476 := hqZ (zc0 (g := gb476) (o := .cells #[.slice Ao13 t469.length co13] 26 (0, 0)) (BK476.1) hb); replace BK526 := hqZ (zc0 (g := gb526) (o := .cells #[.slice Ao99 t518.length co99] 26 (0, 0)) (BK526.1) hb); replace BK564 := hqZ (zc0 (g := gb564) (o := .cells #[.slice Ao167 t557.length co167] 26 (0, 0)) (BK564.1) hb); replace HB := hqZ (za0 (HB.1) hb); clear hb))
        go_ret
        exact ⟨rfl, HB.1⟩
       as_aux_lemma =>
       subst c111
       have H1 : ((ys0.f kj95 t518 t521 t522).bind fun bt536 => ((ys0.f kj95 t518 t521 t527).bind fun bt540 => (if bt536.2 = true then (if bt540.2 = true then ((yc0.f kj95 bt536.1 bt540.1).bind fun t544 => (ya0.j6 kj95 l1 (!t544))) else (ya0.j6 kj95 l1 false)) else (ya0.j6 kj95 l1 false)))) = some r := by rw [if_pos rfl] at H; exact H
       clear H
       have H := H1
       clear H1
       replace H := Option.bind_eq_some_iff.mp H
       obtain ⟨⟨t536, t539⟩, A1120, H⟩ := H
       replace H : ((ys0.f kj95 t518 t521 t527).bind fun bt540 => (if t539 = true then (if bt540.2 = true then ((yc0.f kj95 t536 bt540.1).bind fun t544 => (ya0.j6 kj95 l1 (!t544))) else (ya0.j6 kj95 l1 false)) else (ya0.j6 kj95 l1 false))) = some r := H
       have A112 := hqZ A1120
       clear A1120
       replace H := Option.bind_eq_some_iff.mp H
       obtain ⟨⟨t540, t543⟩, A1130, H⟩ := H
       replace H : (if t539 = true then (if t543 = true then ((yc0.f kj95 t536 t540).bind fun t544 => (ya0.j6 kj95 l1 (!t544))) else (ya0.j6 kj95 l1 false)) else (ya0.j6 kj95 l1 false)) = some r := H
       have A113 := hqZ A1130
       clear A1130
       have HC114 := hqZ H
       clear H
       have hnb115 := NB526_476.1
       have hnc115 := NB476_526.1
       have hcz116_0 : wc.cell? ⟨gb526, 0, none⟩ = some (.slice Ao99 t518.length co99) := (zh0 BK526.1 0).trans rfl
       have hfz116_0 := zd0 BK526.1 0
       go_upto_region 37 with (first | ((with_reducible refine ze0 (f := 7) rfl ?_); refine zq0 (some 230) rfl rfl Try.func7 (by kernel_rfl) rfl #[.agg #[.slice Ao99 t518.length co99], .int .i64 t521, .slice Ao102 t522.length co102] rfl (by simp only [hqa, hqb, hqc]; rfl) ?_; (with_reducible refine (ys0.calls kj95 _ _ t518 t521 _ _ t522 t536 t539 _ ?side1 ?side2 ?side3 ?side4 A112.1).mono ?_); (case side1 => exact (Kd.N_reads' HO_527000.1).2.2); (case side2 => exact (Kd.N_reads' HO_527000.1).2.1); (case side3 => exact (Kd.R_reads' HO_27.1).2.2); (case side4 => exact (Kd.R_reads' HO_27.1).2.1); rintro e w117 ⟨v537, rfl, ho0, hb⟩; refine ⟨_, rfl, ?_⟩; replace HO_477000 := hqZ (Kd.N_elder' (HO_477000.1) (Kd.R_base ho0) hb); replace HO_527000 := hqZ (Kd.N_elder' (HO_527000.1) (Kd.R_base ho0) hb); have HO538 := hqZ (Kd.R_lower (Kd.R_new' (Kd.R_new' ho0 (Kd.R_lt (HO_27.1))) (Kd.R_lt (HO_29.1))) (zb0 (HB.1))); replace HO_27 := hqZ (Kd.R_elder' (HO_27.1) (Kd.R_base ho0) hb); replace HO_29 := hqZ (Kd.R_elder' (HO_29.1) (Kd.R_base ho0) hb); replace BK476 := hqZ (zc0 (g := gb476) (o := .cells #[.slice Ao13 t469.length co13] 26 (0, 0)) (BK476.1) hb); replace BK526 := hqZ (zc0 (g := gb526) (o := .cells #[.slice Ao99 t518.length co99] 26 (0, 0)) (BK526.1) hb); replace HB := hqZ (za0 (HB.1) hb); clear hb ho0; have hcz118_0 : w117.cell? ⟨gb526, 0, none⟩ = some (.slice Ao99 t518.length co99) := (zh0 BK526.1 0).trans rfl; have hfz118_0 := zd0 BK526.1 0; obtain ⟨Ao119, co119, eo119⟩ := Kd.R_slice HO_29.1; subst eo119) | ((with_reducible refine ze0 (f := 7) rfl ?_); refine zq0 (some 237) rfl rfl Try.func7 (by kernel_rfl) rfl #[.agg #[.slice Ao99 t518.length co99], .int .i64 t521, .slice Ao119 t527.length co119] rfl (by simp only [hqa, hqb, hqc]; rfl) ?_; (with_reducible refine (ys0.calls kj95 _ _ t518 t521 _ _ t527 t540 t543 _ ?side1 ?side2 ?side3 ?side4 A113.1).mono ?_); (case side1 => exact (Kd.N_reads' HO_527000.1).2.2); (case side2 => exact (Kd.N_reads' HO_527000.1).2.1); (case side3 => exact (Kd.R_reads' HO_29.1).2.2); (case side4 => exact (Kd.R_reads' HO_29.1).2.1); rintro e w120 ⟨v541, rfl, ho0, hb⟩; refine ⟨_, rfl, ?_⟩; replace HO_477000 := hqZ (Kd.N_elder' (HO_477000.1) (Kd.R_base ho0) hb); replace HO_527000 := hqZ (Kd.N_elder' (HO_527000.1) (Kd.R_base ho0) hb); have HO542 := hqZ (Kd.R_lower (Kd.R_new' (Kd.R_new' (Kd.R_new' ho0 (Kd.R_lt (HO_27.1))) (Kd.R_lt (HO_29.1))) (Kd.R_lt (HO538.1))) (zb0 (HB.1))); replace HO_27 := hqZ (Kd.R_elder' (HO_27.1) (Kd.R_base ho0) hb); replace HO_29 := hqZ (Kd.R_elder' (HO_29.1) (Kd.R_base ho0) hb); replace HO538 := hqZ (Kd.R_elder' (HO538.1) (Kd.R_base ho0) hb); replace BK476 := hqZ (zc0 (g := gb476) (o := .cells #[.slice Ao13 t469.length co13] 26 (0, 0)) (BK476.1) hb); replace BK526 := hqZ (zc0 (g := gb526) (o := .cells #[.slice Ao99 t518.length co99] 26 (0, 0)) (BK526.1) hb); replace HB := hqZ (za0 (HB.1) hb); clear hb ho0))
       (try simp only [Act.put, zA, zB, zC])
       go_cut [249] (fun v249 wc => ∃ (kq : Nat) (x249_113 : Bool), v249 = .bool x249_113 ∧ zi0 (ya0.j6 kq l1 x249_113 = some r) ∧ zi0 (kq ≤ kj95) ∧ zi0 (Kd.N (Kd.slice 3 (Kd.int .i64)) 27 wc w.heap.size (fun k_ => some k_ ≠ ((.slice Ao99 t518.length co99) : Value).ownBlock ∧ k_ ≠ gb476 ∧ k_ ≠ gb526) (.slice Ao13 t469.length co13) t469) ∧ zi0 (Kd.N (Kd.slice 3 (Kd.int .i64)) 27 wc w.heap.size (fun k_ => some k_ ≠ ((.slice Ao13 t469.length co13) : Value).ownBlock ∧ k_ ≠ gb476 ∧ k_ ≠ gb526) (.slice Ao99 t518.length co99) t518) ∧ zi0 (wc.heap[gb476]? = some (.cells #[(.slice Ao13 t469.length co13)] 26 (0, 0))) ∧ zi0 (wc.heap[gb526]? = some (.cells #[(.slice Ao99 t518.length co99)] 26 (0, 0))) ∧ zi0 (Below w.heap.size w wc))
       case first =>
        have H := HC114.1
        clear HC114
        by_cases c121 : t539 = true
        rotate_left
        ·as_aux_lemma =>
         replace c121 := Bool.eq_false_iff.mpr c121
         subst c121
         have H1 : (ya0.j6 kj95 l1 false) = some r := by rw [if_neg (show ¬ (false = true) by decide)] at H; exact H
         clear H
         have H := H1
         clear H1
         have H' := hqZ H
         clear H
         go_wp2
         go_meet
         case rel =>
          refine ⟨_, (false), ?_, H', ?_, ?_, ?_, ?_, ?_, ?_⟩
          ·exact (rfl)
          ·exact ⟨by have := HJ9.1; have := HJ41.1; have := HJ95.1; first | omega | exact Nat.le_refl _⟩
          ·exact ⟨Kd.N_mono HO_477000.1 (fun _ hk => ⟨hk.1.1.2.2.1, ⟨hk.1.1.2.2.2.1, hk.1.1.2.2.2.2⟩⟩)⟩
          ·exact ⟨Kd.N_mono HO_527000.1 (fun _ hk => ⟨hk.1.1.2.2.1, ⟨hk.1.1.2.2.2.1, hk.1.1.2.2.2.2⟩⟩)⟩
          ·exact ⟨BK476.1⟩
          ·exact ⟨BK526.1⟩
          ·exact ⟨HB.1⟩
        as_aux_lemma =>
        subst c121
        have H1 : (if t543 = true then ((yc0.f kj95 t536 t540).bind fun t544 => (ya0.j6 kj95 l1 (!t544))) else (ya0.j6 kj95 l1 false)) = some r := by rw [if_pos rfl] at H; exact H
        clear H
        have H := H1
        clear H1
        by_cases c122 : t543 = true
        rotate_left
        ·as_aux_lemma =>
         replace c122 := Bool.eq_false_iff.mpr c122
         subst c122
         have H1 : (ya0.j6 kj95 l1 false) = some r := by rw [if_neg (show ¬ (false = true) by decide)] at H; exact H
         clear H
         have H := H1
         clear H1
         have H' := hqZ H
         clear H
         go_wp2
         go_meet
         case rel =>
          refine ⟨_, (false), ?_, H', ?_, ?_, ?_, ?_, ?_, ?_⟩
          ·exact (rfl)
          ·exact ⟨by have := HJ9.1; have := HJ41.1; have := HJ95.1; first | omega | exact Nat.le_refl _⟩
          ·exact ⟨Kd.N_mono HO_477000.1 (fun _ hk => ⟨hk.1.1.2.2.1, ⟨hk.1.1.2.2.2.1, hk.1.1.2.2.2.2⟩⟩)⟩
          ·exact ⟨Kd.N_mono HO_527000.1 (fun _ hk => ⟨hk.1.1.2.2.1, ⟨hk.1.1.2.2.2.1, hk.1.1.2.2.2.2⟩⟩)⟩
          ·exact ⟨BK476.1⟩
          ·exact ⟨BK526.1⟩
          ·exact ⟨HB.1⟩
        as_aux_lemma =>
        subst c122
        have H1 : ((yc0.f kj95 t536 t540).bind fun t544 => (ya0.j6 kj95 l1 (!t544))) = some r := by rw [if_pos rfl] at H; exact H
        clear H
        have H := H1
        clear H1
        replace H := Option.bind_eq_some_iff.mp H
        obtain ⟨t544, A1230, H⟩ := H
        replace H : (ya0.j6 kj95 l1 (!t544)) = some r := H
        have A123 := hqZ A1230
        clear A1230
        have H' := hqZ H
        clear H
        obtain ⟨Ao124, co124, eo124⟩ := Kd.R_slice HO538.1
        subst eo124
        obtain ⟨Ao125, co125, eo125⟩ := Kd.R_slice HO542.1
        subst eo125
        go_wp2_with (first | (go_at_call 11; (with_reducible refine (yc0.calls kj95 _ _ t536 _ _ t540 t544 _ ?side1 ?side2 ?side3 ?side4 A123.1).mono ?_); (case side1 => exact (Kd.R_reads' HO538.1).2.2); (case side2 => exact (Kd.R_reads' HO538.1).2.1); (case side3 => exact (Kd.R_reads' HO542.1).2.2); (case side4 => exact (Kd.R_reads' HO542.1).2.1); rintro e w' ⟨rfl, ⟨nd, rfl⟩⟩))
        go_meet
        case rel =>
         refine ⟨_, (!t544), ?_, H', ?_, ?_, ?_, ?_, ?_, ?_⟩
         ·exact (rfl)
         ·exact ⟨by have := HJ9.1; have := HJ41.1; have := HJ95.1; first | omega | exact Nat.le_refl _⟩
         ·exact ⟨Kd.N_mono HO_477000.1 (fun _ hk => ⟨hk.1.1.2.2.1, ⟨hk.1.1.2.2.2.1, hk.1.1.2.2.2.2⟩⟩)⟩
         ·exact ⟨Kd.N_mono HO_527000.1 (fun _ hk => ⟨hk.1.1.2.2.1, ⟨hk.1.1.2.2.2.1, hk.1.1.2.2.2.2⟩⟩)⟩
         ·exact ⟨BK476.1⟩
         ·exact ⟨BK526.1⟩
         ·exact ⟨hqB HB.1⟩
       case rest =>
        clear HC114
        try clear c1
        try clear c2
        try clear p2
        try clear c3
        try clear c4
        try clear c5
        try clear p5
        try clear q5
        try clear hx5
        try clear c6
        try clear p6
        try clear c7
        try clear p7
        try clear q7
        try clear hx7
        try clear hf7
        try clear c8
        try clear p8
        try clear q8
        try clear hx8
        try clear hf8
        try clear c9
        try clear c10
        try clear c11
        try clear c12
        try clear c13
        try clear c14
        try clear c15
        try clear c23
        try clear c23b0
        try clear c23b1
        try clear c23b2
        try clear c25
        try clear c26
        try clear c26b0
        try clear c26b1
        try clear c26b2
        try clear c30
        try clear c41
        try clear c43
        try clear p50
        try clear q50
        try clear hx50
        try clear c51
        try clear p51
        try clear q51
        try clear hx51
        try clear c52
        try clear c53
        try clear c54
        try clear c56
        try clear c57
        try clear c57b0
        try clear c58
        try clear c58b0
        try clear c62
        try clear c63
        try clear p64
        try clear c68
        try clear c68b0
        try clear c69
        try clear c69b0
        try clear c70
        try clear c70b0
        try clear c71
        try clear c71b0
        try clear c72
        try clear c72b0
        try clear p73
        try clear q73
        try clear hx73
        try clear hf73
        try clear c78
        try clear c78b0
        try clear c79
        try clear c79b0
        try clear c80
        try clear c80b0
        try clear c81
        try clear c81b0
        try clear c81b1
        try clear c82
        try clear c82b0
        try clear c83
        try clear c83b0
        try clear c84
        try clear c84b0
        try clear c85
        try clear c85b0
        try clear p86
        try clear q86
        try clear hx86
        try clear hf86
        try clear c90
        try clear c100
        try clear c106
        try clear c106b0
        try clear c106b1
        try clear c106b2
        try clear c110
        try clear c111
        try clear c115
        try clear c121
        try clear c122
        try clear hcz101_0
        try clear hcz104_0
        try clear hcz116_0
        try clear hcz118_0
        try clear hcz14_0
        try clear hcz17_0
        try clear hcz19_0
        try clear hcz21_0
        try clear hcz47_0
        try clear hcz50_0
        try clear hcz67_0
        try clear hfz101_0
        try clear hfz104_0
        try clear hfz116_0
        try clear hfz118_0
        try clear hfz14_0
        try clear hfz17_0
        try clear hfz19_0
        try clear hfz21_0
        try clear hfz47_0
        try clear hfz50_0
        try clear hfz67_0
        try clear hx502_0
        try clear hx510_0
        try clear hx511_0
        try clear hx512_0
        try clear hx514_0
        try clear hx515_0
        try clear hx516_0
        try clear hx73_0
        try clear hx86_0
        try clear p2
        try clear p5
        try clear p50
        try clear p502
        try clear p51
        try clear p510
        try clear p511
        try clear p512
        try clear p514
        try clear p515
        try clear p516
        try clear p6
        try clear p64
        try clear p7
        try clear p73
        try clear p8
        try clear p86
        try clear q5
        try clear q50
        try clear q502
        try clear q51
        try clear q510
        try clear q511
        try clear q512
        try clear q514
        try clear q515
        try clear q516
        try clear q7
        try clear q73
        try clear q8
        try clear q86
        obtain ⟨kq, x249_113, rfl, HA, HJ113, HO_477000, HO_527000, BK476, BK526, HB⟩ := hcut
        cases kq with
        | zero => exact absurd HA.1 (by simp [ya0.j6])
        | succ kj113 =>
         have H := HA.1
         clear HA
         simp only [ya0.j6] at H
         by_cases c126 : x249_113 = true
         ·as_aux_lemma =>
          subst c126
          have H1 : (some false) = some r := by rw [if_pos rfl] at H; exact H
          clear H
          have H := H1
          clear H1
          obtain rfl := Option.some.inj H
          go_wp2
          go_ret
          exact ⟨rfl, HB.1⟩
         as_aux_lemma =>
         replace c126 := Bool.eq_false_iff.mpr c126
         subst c126
         have H1 : ((yc1.f kj113 l1).bind fun bt545 => ((yw0.f kj113 bt545.1 bt545.2.1 bt545.2.2).bind fun bt553 => ((yy0.f kj113 bt545.1 bt545.2.1 bt545.2.2).bind fun bt555 => (if (bt553.2 == bt555.2) = true then (some (bt553.1 == bt555.1)) else (some false))))) = some r := by rw [if_neg (show ¬ (false = true) by decide)] at H; exact H
         clear H
         have H := H1
         clear H1
         replace H := Option.bind_eq_some_iff.mp H
         obtain ⟨⟨t545, t548, t549⟩, A1270, H⟩ := H
         replace H : ((yw0.f kj113 t545 t548 t549).bind fun bt553 => ((yy0.f kj113 t545 t548 t549).bind fun bt555 => (if (bt553.2 == bt555.2) = true then (some (bt553.1 == bt555.1)) else (some false)))) = some r := H
         have A127 := hqZ A1270
         clear A1270
         replace H := Option.bind_eq_some_iff.mp H
         obtain ⟨⟨t553, t554⟩, A1280, H⟩ := H
         replace H : ((yy0.f kj113 t545 t548 t549).bind fun bt555 => (if (t554 == bt555.2) = true then (some (t553 == bt555.1)) else (some false))) = some r := H
         have A128 := hqZ A1280
         clear A1280
         replace H := Option.bind_eq_some_iff.mp H
         obtain ⟨⟨t555, t556⟩, A1290, H⟩ := H
         replace H : (if (t554 == t556) = true then (some (t553 == t555)) else (some false)) = some r := H
         have A129 := hqZ A1290
         clear A1290
         by_cases c130 : (t554 == t556) = true
         ·as_aux_lemma =>
          rw [if_pos c130] at H
          have c130b0 : (t554 == t556) = true := c130
          (try (have c130b1 : decide (t554 = t556) = true := by simpa using c130))
          (try (have c130b2 : (t554 == t556) = true := by simpa using c130))
          clear c130
          obtain rfl := Option.some.inj H
          go_wp2_with (first | ((with_reducible refine ze0 (f := 16) rfl ?_); refine zq0 (some 252) rfl rfl Try.func16 (by kernel_rfl) rfl #[.slice A1 l1.length c1] rfl (by simp only [hqa, hqb, hqc]; rfl) ?_; (with_reducible refine (yc1.calls kj113 _ _ l1 t545 t548 t549 _ ?side1 ?side2 A127.1).mono ?_); (case side1 => exact (Kd.C_below HR1.1 HB.1)); (case side2 => exact HC1.1); rintro e w131 ⟨v546, v550, rfl, ho0, ho1, hb⟩; refine ⟨_, rfl, ?_⟩; have HO547 := hqZ (Kd.N_lower (Kd.N_mono (ok' := fun k_ => some k_ ≠ (v550 : Value).ownBlock ∧ some k_ ≠ (.slice Ao13 t469.length co13 : Value).ownBlock ∧ some k_ ≠ (.slice Ao99 t518.length co99 : Value).ownBlock ∧ k_ ≠ gb476 ∧ k_ ≠ gb526) ho0 (fun k_ hk_ => ⟨hk_.2, (Kd.fresh' (Kd.N_lt (HO_477000.1)) k_ hk_.1), (Kd.fresh' (Kd.N_lt (HO_527000.1)) k_ hk_.1), (Kd.freshB (g := gb476) (o := .cells #[.slice Ao13 t469.length co13] 26 (0, 0)) (BK476.1) k_ hk_.1), (Kd.freshB (g := gb526) (o := .cells #[.slice Ao99 t518.length co99] 26 (0, 0)) (BK526.1) k_ hk_.1)⟩)) (zb0 (HB.1))); replace HO_477000 := hqZ (Kd.N_mono (Kd.N_told (Kd.N_told (Kd.N_old (HO_477000.1) hb) (Kd.N_base ho0)) (Kd.R_base ho1)) (fun _ h_ => h_.1)); replace HO_527000 := hqZ (Kd.N_mono (Kd.N_told (Kd.N_told (Kd.N_old (HO_527000.1) hb) (Kd.N_base ho0)) (Kd.R_base ho1)) (fun _ h_ => h_.1)); have HO551 := hqZ (Kd.R_lower (Kd.R_mono (ok' := fun k_ => True) ho1 (fun _ hk_ => trivial)) (zb0 (HB.1))); replace BK476 := hqZ (zc0 (g := gb476) (o := .cells #[.slice Ao13 t469.length co13] 26 (0, 0)) (BK476.1) hb); replace BK526 := hqZ (zc0 (g := gb526) (o := .cells #[.slice Ao99 t518.length co99] 26 (0, 0)) (BK526.1) hb); replace HB := hqZ (za0 (HB.1) hb); clear hb ho0 ho1) | ((with_reducible refine zo0 (N := 37) rfl ?_); refine zp0 ?hg (N := 37) ?hd (cs := #[.slice none 0 0]) (t := 26) ?hr ?_; (case hd | hg => rfl); (case hr => go_simp <;> rfl); intro gb552 hg w132 hbox hb; replace HO_477000 := hqZ (Kd.N_below (Kd.N_elderB (HO_477000.1) gb552 (Nat.le_of_eq hg.symm)) hb); replace HO_527000 := hqZ (Kd.N_below (Kd.N_elderB (HO_527000.1) gb552 (Nat.le_of_eq hg.symm)) hb); replace HO547 := hqZ (Kd.N_below (Kd.N_elderB (HO547.1) gb552 (Nat.le_of_eq hg.symm)) hb); replace HO551 := hqZ (Kd.R_below (HO551.1) hb); have BK552 := hqZ (hbox); have GW552 := hqZ ((by rw [hg]; exact (zb0 (HB.1)) : w.heap.size ≤ gb552)); have GE552 := hqZ ((by rw [hg]; exact (zb0 (HB.1)) : w.heap.size ≤ gb552)); replace HB := hqZ (za0 (HB.1) hb); have NB476_552 := hqZ ((by rw [hg]; exact Nat.ne_of_lt (blk_lt (g := gb476) (o := .cells #[.slice Ao13 t469.length co13] 26 (0, 0)) (BK476.1)) : gb476 ≠ gb552)); have NB552_476 := hqZ ((by rw [hg]; exact Nat.ne_of_gt (blk_lt (g := gb476) (o := .cells #[.slice Ao13 t469.length co13] 26 (0, 0)) (BK476.1)) : gb552 ≠ gb476)); replace BK476 := hqZ (zc0 (g := gb476) (o := .cells #[.slice Ao13 t469.length co13] 26 (0, 0)) (BK476.1) hb); have NB526_552 := hqZ ((by rw [hg]; exact Nat.ne_of_lt (blk_lt (g := gb526) (o := .cells #[.slice Ao99 t518.length co99] 26 (0, 0)) (BK526.1)) : gb526 ≠ gb552)); have NB552_526 := hqZ ((by rw [hg]; exact Nat.ne_of_gt (blk_lt (g := gb526) (o := .cells #[.slice Ao99 t518.length co99] 26 (0, 0)) (BK526.1)) : gb552 ≠ gb526)); replace BK526 := hqZ (zc0 (g := gb526) (o := .cells #[.slice Ao99 t518.length co99] 26 (0, 0)) (BK526.1) hb); clear hb hbox hg; obtain ⟨Ao133, co133, eo133⟩ := Kd.N_slice HO547.1; subst eo133; have hnb134 := NB552_476.1; have hnc134 := NB476_552.1; have hnb135 := NB552_526.1; have hnc135 := NB526_552.1; have hcz136_0 : w132.cell? ⟨gb552, 0, none⟩ = some (.slice none 0 0) := (zh0 BK552.1 0).trans rfl; have hfz136_0 := zd0 BK552.1 0; obtain ⟨Ao137, co137, eo137⟩ := Kd.R_slice HO551.1; subst eo137) | ((with_reducible refine ze0 (f := 12) rfl ?_); refine zq0 (some 260) rfl rfl Try.func12 (by kernel_rfl) rfl #[.agg #[.slice Ao133 t545.length co133], .int .i64 t548, .slice Ao137 t549.length co137] rfl (by simp only [hqa, hqb, hqc]; rfl) ?_; (with_reducible refine (yw0.calls kj113 _ _ t545 t548 _ _ t549 t553 t554 _ ?side1 ?side2 ?side3 ?side4 A128.1).mono ?_); (case side1 => refine (Kd.N_reads' (e := 27) (base := w.heap.size) (ok := fun k_ => ((some k_ ≠ (.slice Ao137 t549.length co137 : Value).ownBlock ∧ (some k_ ≠ (.slice Ao13 t469.length co13 : Value).ownBlock ∧ (some k_ ≠ (.slice Ao99 t518.length co99 : Value).ownBlock ∧ (k_ ≠ gb476 ∧ k_ ≠ gb526)))) ∧ k_ ≠ gb552)) (n := t545.length) (c := co133) ?_).2.2; exact ((Kd.N_mono (Kd.N_far (p := ⟨gb552, 0, none⟩) (Kd.N_mono HO547.1 (fun k_ hk => (⟨hk, hk.2⟩ : _ ∧ k_ ≠ gb552))) (fun _ hk => hk.2) (.slice Ao133 t545.length co133)) (fun _ h_ => h_.1)))); (case side2 => exact (Kd.N_reads' HO547.1).2.1); (case side3 => refine (Kd.R_reads' (e := 3) (base := w.heap.size) (ok := fun k_ => True) (n := t549.length) (c := co137) ?_).2.2; exact ((Kd.R_mono (Kd.R_far (p := ⟨gb552, 0, none⟩) (Kd.R_types HO551.1 BK552.1 (by decide)) (fun _ hk => hk.2) (.slice Ao133 t545.length co133)) (fun _ h_ => h_.1)))); (case side4 => exact (Kd.R_reads' HO551.1).2.1); rintro e w138 ⟨rfl, hb⟩; refine ⟨_, rfl, ?_⟩; replace HO_477000 := hqZ (Kd.N_below ((Kd.N_mono (Kd.N_far (p := ⟨gb552, 0, none⟩) (Kd.N_mono HO_477000.1 (fun k_ hk => (⟨hk, hk.2⟩ : _ ∧ k_ ≠ gb552))) (fun _ hk => hk.2) (.slice Ao133 t545.length co133)) (fun _ h_ => h_.1))) hb); replace HO_527000 := hqZ (Kd.N_below ((Kd.N_mono (Kd.N_far (p := ⟨gb552, 0, none⟩) (Kd.N_mono HO_527000.1 (fun k_ hk => (⟨hk, hk.2⟩ : _ ∧ k_ ≠ gb552))) (fun _ hk => hk.2) (.slice Ao133 t545.length co133)) (fun _ h_ => h_.1))) hb); replace HO547 := hqZ (Kd.N_below ((Kd.N_mono (Kd.N_far (p := ⟨gb552, 0, none⟩) (Kd.N_mono HO547.1 (fun k_ hk => (⟨hk, hk.2⟩ : _ ∧ k_ ≠ gb552))) (fun _ hk => hk.2) (.slice Ao133 t545.length co133)) (fun _ h_ => h_.1))) hb); replace HO551 := hqZ (Kd.R_below ((Kd.R_mono (Kd.R_far (p := ⟨gb552, 0, none⟩) (Kd.R_types HO551.1 BK552.1 (by decide)) (fun _ hk => hk.2) (.slice Ao133 t545.length co133)) (fun _ h_ => h_.1))) hb); replace BK476 := hqZ (zc0 (g := gb476) (o := .cells #[.slice Ao13 t469.length co13] 26 (0, 0)) (by refine blk_far ?_ NB476_552.1 _; exact BK476.1) hb); replace BK526 := hqZ (zc0 (g := gb526) (o := .cells #[.slice Ao99 t518.length co99] 26 (0, 0)) (by refine blk_far ?_ NB526_552.1 _; exact BK526.1) hb); replace BK552 := hqZ (zc0 (g := gb552) (o := .cells #[.slice Ao133 t545.length co133] 26 (0, 0)) (by refine blk_put (cs := #[.slice none 0 0]) ?_ 0 _ rfl; exact BK552.1) hb); replace HB := hqZ (za0 (zf0 HB.1 GE552.1) hb); clear hb; have hcz139_0 : w138.cell? ⟨gb552, 0, none⟩ = some (.slice Ao133 t545.length co133) := (zh0 BK552.1 0).trans rfl; have hfz139_0 := zd0 BK552.1 0) | ((with_reducible refine ze0 (f := 17) rfl ?_); refine zq0 (some 267) rfl rfl Try.func17 (by kernel_rfl) rfl #[.agg #[.slice Ao133 t545.length co133], .int .i64 t548, .slice Ao137 t549.length co137] rfl (by simp only [hqa, hqb, hqc]; rfl) ?_; (with_reducible refine (yy0.calls kj113 _ _ t545 t548 _ _ t549 t555 t556 _ ?side1 ?side2 ?side3 ?side4 A129.1).mono ?_); (case side1 => exact (Kd.N_reads' HO547.1).2.2); (case side2 => exact (Kd.N_reads' HO547.1).2.1); (case side3 => exact (Kd.R_reads' HO551.1).2.2); (case side4 => exact (Kd.R_reads' HO551.1).2.1); rintro e w140 ⟨rfl, hb⟩; refine ⟨_, rfl, ?_⟩; replace HO_477000 := hqZ (Kd.N_below (HO_477000.1) hb); replace HO_527000 := hqZ (Kd.N_below (HO_527000.1) hb); replace HO547 := hqZ (Kd.N_below (HO547.1) hb); replace HO551 := hqZ (Kd.R_below (HO551.1) hb); replace BK476 := hqZ (zc0 (g := gb476) (o := .cells #[.slice Ao13 t469.length co13] 26 (0, 0)) (BK476.1) hb); replace BK526 := hqZ (zc0 (g := gb526) (o := .cells #[.slice Ao99 t518.length co99] 26 (0, 0)) (BK526.1) hb); replace BK552 := hqZ (zc0 (g := gb552) (o := .cells #[.slice Ao133 t545.length co133] 26 (0, 0)) (BK552.1) hb); replace HB := hqZ (za0 (HB.1) hb); clear hb))
          go_ret
          exact ⟨rfl, HB.1⟩
         as_aux_lemma =>
         rw [if_neg c130] at H
         have c130b0 : (t554 == t556) = false := by simpa using c130
         (try (have c130b1 : decide (t554 = t556) = false := by simpa using c130))
         (try (have c130b2 : (t554 == t556) = false := by simpa using c130))
         (try (have c130b3 : ¬ (t554 = t556) := by simpa using c130))
         clear c130
         obtain rfl := Option.some.inj H
         go_wp2_with (first | ((with_reducible refine ze0 (f := 16) rfl ?_); refine zq0 (some 252) rfl rfl Try.func16 (by kernel_rfl) rfl #[.slice A1 l1.length c1] rfl (by simp only [hqa, hqb, hqc]; rfl) ?_; (with_reducible refine (yc1.calls kj113 _ _ l1 t545 t548 t549 _ ?side1 ?side2 A127.1).mono ?_); (case side1 => exact (Kd.C_below HR1.1 HB.1)); (case side2 => exact HC1.1); rintro e w141 ⟨v546, v550, rfl, ho0, ho1, hb⟩; refine ⟨_, rfl, ?_⟩; have HO547 := hqZ (Kd.N_lower (Kd.N_mono (ok' := fun k_ => some k_ ≠ (v550 : Value).ownBlock ∧ some k_ ≠ (.slice Ao13 t469.length co13 : Value).ownBlock ∧ some k_ ≠ (.slice Ao99 t518.length co99 : Value).ownBlock ∧ k_ ≠ gb476 ∧ k_ ≠ gb526) ho0 (fun k_ hk_ => ⟨hk_.2, (Kd.fresh' (Kd.N_lt (HO_477000.1)) k_ hk_.1), (Kd.fresh' (Kd.N_lt (HO_527000.1)) k_ hk_.1), (Kd.freshB (g := gb476) (o := .cells #[.slice Ao13 t469.length co13] 26 (0, 0)) (BK476.1) k_ hk_.1), (Kd.freshB (g := gb526) (o := .cells #[.slice Ao99 t518.length co99] 26 (0, 0)) (BK526.1) k_ hk_.1)⟩)) (zb0 (HB.1))); replace HO_477000 := hqZ (Kd.N_mono (Kd.N_told (Kd.N_told (Kd.N_old (HO_477000.1) hb) (Kd.N_base ho0)) (Kd.R_base ho1)) (fun _ h_ => h_.1)); replace HO_527000 := hqZ (Kd.N_mono (Kd.N_told (Kd.N_told (Kd.N_old (HO_527000.1) hb) (Kd.N_base ho0)) (Kd.R_base ho1)) (fun _ h_ => h_.1)); have HO551 := hqZ (Kd.R_lower (Kd.R_mono (ok' := fun k_ => True) ho1 (fun _ hk_ => trivial)) (zb0 (HB.1))); replace BK476 := hqZ (zc0 (g := gb476) (o := .cells #[.slice Ao13 t469.length co13] 26 (0, 0)) (BK476.1) hb); replace BK526 := hqZ (zc0 (g := gb526) (o := .cells #[.slice Ao99 t518.length co99] 26 (0, 0)) (BK526.1) hb); replace HB := hqZ (za0 (HB.1) hb); clear hb ho0 ho1) | ((with_reducible refine zo0 (N := 37) rfl ?_); refine zp0 ?hg (N := 37) ?hd (cs := #[.slice none 0 0]) (t := 26) ?hr ?_; (case hd | hg => rfl); (case hr => go_simp <;> rfl); intro gb552 hg w142 hbox hb; replace HO_477000 := hqZ (Kd.N_below (Kd.N_elderB (HO_477000.1) gb552 (Nat.le_of_eq hg.symm)) hb); replace HO_527000 := hqZ (Kd.N_below (Kd.N_elderB (HO_527000.1) gb552 (Nat.le_of_eq hg.symm)) hb); replace HO547 := hqZ (Kd.N_below (Kd.N_elderB (HO547.1) gb552 (Nat.le_of_eq hg.symm)) hb); replace HO551 := hqZ (Kd.R_below (HO551.1) hb); have BK552 := hqZ (hbox); have GW552 := hqZ ((by rw [hg]; exact (zb0 (HB.1)) : w.heap.size ≤ gb552)); have GE552 := hqZ ((by rw [hg]; exact (zb0 (HB.1)) : w.heap.size ≤ gb552)); replace HB := hqZ (za0 (HB.1) hb); have NB476_552 := hqZ ((by rw [hg]; exact Nat.ne_of_lt (blk_lt (g := gb476) (o := .cells #[.slice Ao13 t469.length co13] 26 (0, 0)) (BK476.1)) : gb476 ≠ gb552)); have NB552_476 := hqZ ((by rw [hg]; exact Nat.ne_of_gt (blk_lt (g := gb476) (o := .cells #[.slice Ao13 t469.length co13] 26 (0, 0)) (BK476.1)) : gb552 ≠ gb476)); replace BK476 := hqZ (zc0 (g := gb476) (o := .cells #[.slice Ao13 t469.length co13] 26 (0, 0)) (BK476.1) hb); have NB526_552 := hqZ ((by rw [hg]; exact Nat.ne_of_lt (blk_lt (g := gb526) (o := .cells #[.slice Ao99 t518.length co99] 26 (0, 0)) (BK526.1)) : gb526 ≠ gb552)); have NB552_526 := hqZ ((by rw [hg]; exact Nat.ne_of_gt (blk_lt (g := gb526) (o := .cells #[.slice Ao99 t518.length co99] 26 (0, 0)) (BK526.1)) : gb552 ≠ gb526)); replace BK526 := hqZ (zc0 (g := gb526) (o := .cells #[.slice Ao99 t518.length co99] 26 (0, 0)) (BK526.1) hb); clear hb hbox hg; obtain ⟨Ao143, co143, eo143⟩ := Kd.N_slice HO547.1; subst eo143; have hnb144 := NB552_476.1; have hnc144 := NB476_552.1; have hnb145 := NB552_526.1; have hnc145 := NB526_552.1; have hcz146_0 : w142.cell? ⟨gb552, 0, none⟩ = some (.slice none 0 0) := (zh0 BK552.1 0).trans rfl; have hfz146_0 := zd0 BK552.1 0; obtain ⟨Ao147, co147, eo147⟩ := Kd.R_slice HO551.1; subst eo147) | ((with_reducible refine ze0 (f := 12) rfl ?_); refine zq0 (some 260) rfl rfl Try.func12 (by kernel_rfl) rfl #[.agg #[.slice Ao143 t545.length co143], .int .i64 t548, .slice Ao147 t549.length co147] rfl (by simp only [hqa, hqb, hqc]; rfl) ?_; (with_reducible refine (yw0.calls kj113 _ _ t545 t548 _ _ t549 t553 t554 _ ?side1 ?side2 ?side3 ?side4 A128.1).mono ?_); (case side1 => refine (Kd.N_reads' (e := 27) (base := w.heap.size) (ok := fun k_ => ((some k_ ≠ (.slice Ao147 t549.length co147 : Value).ownBlock ∧ (some k_ ≠ (.slice Ao13 t469.length co13 : Value).ownBlock ∧ (some k_ ≠ (.slice Ao99 t518.length co99 : Value).ownBlock ∧ (k_ ≠ gb476 ∧ k_ ≠ gb526)))) ∧ k_ ≠ gb552)) (n := t545.length) (c := co143) ?_).2.2; exact ((Kd.N_mono (Kd.N_far (p := ⟨gb552, 0, none⟩) (Kd.N_mono HO547.1 (fun k_ hk => (⟨hk, hk.2⟩ : _ ∧ k_ ≠ gb552))) (fun _ hk => hk.2) (.slice Ao143 t545.length co143)) (fun _ h_ => h_.1)))); (case side2 => exact (Kd.N_reads' HO547.1).2.1); (case side3 => refine (Kd.R_reads' (e := 3) (base := w.heap.size) (ok := fun k_ => True) (n := t549.length) (c := co147) ?_).2.2; exact ((Kd.R_mono (Kd.R_far (p := ⟨gb552, 0, none⟩) (Kd.R_types HO551.1 BK552.1 (by decide)) (fun _ hk => hk.2) (.slice Ao143 t545.length co143)) (fun _ h_ => h_.1)))); (case side4 => exact (Kd.R_reads' HO551.1).2.1); rintro e w148 ⟨rfl, hb⟩; refine ⟨_, rfl, ?_⟩; replace HO_477000 := hqZ (Kd.N_below ((Kd.N_mono (Kd.N_far (p := ⟨gb552, 0, none⟩) (Kd.N_mono HO_477000.1 (fun k_ hk => (⟨hk, hk.2⟩ : _ ∧ k_ ≠ gb552))) (fun _ hk => hk.2) (.slice Ao143 t545.length co143)) (fun _ h_ => h_.1))) hb); replace HO_527000 := hqZ (Kd.N_below ((Kd.N_mono (Kd.N_far (p := ⟨gb552, 0, none⟩) (Kd.N_mono HO_527000.1 (fun k_ hk => (⟨hk, hk.2⟩ : _ ∧ k_ ≠ gb552))) (fun _ hk => hk.2) (.slice Ao143 t545.length co143)) (fun _ h_ => h_.1))) hb); replace HO547 := hqZ (Kd.N_below ((Kd.N_mono (Kd.N_far (p := ⟨gb552, 0, none⟩) (Kd.N_mono HO547.1 (fun k_ hk => (⟨hk, hk.2⟩ : _ ∧ k_ ≠ gb552))) (fun _ hk => hk.2) (.slice Ao143 t545.length co143)) (fun _ h_ => h_.1))) hb); replace HO551 := hqZ (Kd.R_below ((Kd.R_mono (Kd.R_far (p := ⟨gb552, 0, none⟩) (Kd.R_types HO551.1 BK552.1 (by decide)) (fun _ hk => hk.2) (.slice Ao143 t545.length co143)) (fun _ h_ => h_.1))) hb); replace BK476 := hqZ (zc0 (g := gb476) (o := .cells #[.slice Ao13 t469.length co13] 26 (0, 0)) (by refine blk_far ?_ NB476_552.1 _; exact BK476.1) hb); replace BK526 := hqZ (zc0 (g := gb526) (o := .cells #[.slice Ao99 t518.length co99] 26 (0, 0)) (by refine blk_far ?_ NB526_552.1 _; exact BK526.1) hb); replace BK552 := hqZ (zc0 (g := gb552) (o := .cells #[.slice Ao143 t545.length co143] 26 (0, 0)) (by refine blk_put (cs := #[.slice none 0 0]) ?_ 0 _ rfl; exact BK552.1) hb); replace HB := hqZ (za0 (zf0 HB.1 GE552.1) hb); clear hb; have hcz149_0 : w148.cell? ⟨gb552, 0, none⟩ = some (.slice Ao143 t545.length co143) := (zh0 BK552.1 0).trans rfl; have hfz149_0 := zd0 BK552.1 0) | ((with_reducible refine ze0 (f := 17) rfl ?_); refine zq0 (some 267) rfl rfl Try.func17 (by kernel_rfl) rfl #[.agg #[.slice Ao143 t545.length co143], .int .i64 t548, .slice Ao147 t549.length co147] rfl (by simp only [hqa, hqb, hqc]; rfl) ?_; (with_reducible refine (yy0.calls kj113 _ _ t545 t548 _ _ t549 t555 t556 _ ?side1 ?side2 ?side3 ?side4 A129.1).mono ?_); (case side1 => exact (Kd.N_reads' HO547.1).2.2); (case side2 => exact (Kd.N_reads' HO547.1).2.1); (case side3 => exact (Kd.R_reads' HO551.1).2.2); (case side4 => exact (Kd.R_reads' HO551.1).2.1); rintro e w150 ⟨rfl, hb⟩; refine ⟨_, rfl, ?_⟩; replace HO_477000 := hqZ (Kd.N_below (HO_477000.1) hb); replace HO_527000 := hqZ (Kd.N_below (HO_527000.1) hb); replace HO547 := hqZ (Kd.N_below (HO547.1) hb); replace HO551 := hqZ (Kd.R_below (HO551.1) hb); replace BK476 := hqZ (zc0 (g := gb476) (o := .cells #[.slice Ao13 t469.length co13] 26 (0, 0)) (BK476.1) hb); replace BK526 := hqZ (zc0 (g := gb526) (o := .cells #[.slice Ao99 t518.length co99] 26 (0, 0)) (BK526.1) hb); replace BK552 := hqZ (zc0 (g := gb552) (o := .cells #[.slice Ao143 t545.length co143] 26 (0, 0)) (BK552.1) hb); replace HB := hqZ (za0 (HB.1) hb); clear hb))
         go_ret
         exact ⟨rfl, HB.1⟩
end Go.Proofs.Ytdfabioienofhaa.P
namespace Go.Proofs.Ytdfabioienofhaa.In
set_option maxHeartbeats 8000000
set_option maxRecDepth 100000
open Go.RowKit Go.Proofs.YtdfabioienofhaaW.PrintWords Go.Proofs.YtdfabioienofhaaW.PrintLast Go.Proofs.YtdfabioienofhaaW.PrintMore
set_option linter.unusedVariables false
theorem in_ints {w : World} {A : Option Addr} {L C : Nat} {zs : List Int} (hl : L ≤ C) (hm : C ≤ maxLen) (hz : zs.length = C) (hn : A = none → C = 0) (hc : ∀ a', A = some a' → ∀ c, c < C → w.cell? (a'.add c) = some (.int .i64 (zs.getD c 0))) :
  Kd.C (Kd.int .i64) w A (zs.take L).length (zs.take L) := by
 have hlen : (zs.take L).length = L := by rw [List.length_take]; omega
 refine ⟨rfl, by rw [hlen]; unfold maxLen at hm; omega, fun h => ?_⟩
 rw [hlen] at h
 cases A with
 | none => have := hn rfl; omega
 | some a =>
  refine ⟨a, rfl, fun j p hj => ⟨[.int .i64 p], rfl, rfl, fun i u hi => ?_⟩⟩
  have hi0 : i = 0 := by
   cases i with
   | zero => rfl
   | succ i => simp at hi
  subst hi0
  obtain rfl := Option.some.inj hi
  show w.cell? (a.add (j * 1 + 0)) = _
  rw [List.getElem?_take] at hj
  split at hj
  ·rename_i hjl
   have h2 : zs.getD j 0 = p := by rw [List.getD_eq_getElem?_getD, hj]; rfl
   rw [Nat.mul_one, Nat.add_zero, hc a rfl j (by omega), h2]
  ·cases hj
theorem in_bytes0 {w : World} {A : Option Addr} {L C : Nat} {zs : List Int} (hl : L ≤ C) (hm : C ≤ maxLen) (hz : zs.length = C) (hn : A = none → C = 0) (hc : ∀ a', A = some a' → ∀ c, c < C → w.cell? (a'.add c) = some (.int .u8 (zs.getD c 0))) :
  Kd.C (Kd.int .u8) w A (zs.take L).length (zs.take L) := by
 have hlen : (zs.take L).length = L := by rw [List.length_take]; omega
 refine ⟨rfl, by rw [hlen]; unfold maxLen at hm; omega, fun h => ?_⟩
 rw [hlen] at h
 cases A with
 | none => have := hn rfl; omega
 | some a =>
  refine ⟨a, rfl, fun j p hj => ⟨[.int .u8 p], rfl, rfl, fun i u hi => ?_⟩⟩
  have hi0 : i = 0 := by
   cases i with
   | zero => rfl
   | succ i => simp at hi
  subst hi0
  obtain rfl := Option.some.inj hi
  show w.cell? (a.add (j * 1 + 0)) = _
  rw [List.getElem?_take] at hj
  split at hj
  ·rename_i hjl
   have h2 : zs.getD j 0 = p := by rw [List.getD_eq_getElem?_getD, hj]; rfl
   rw [Nat.mul_one, Nat.add_zero, hc a rfl j (by omega), h2]
  ·cases hj
section
variable {H : Type} {enc : TypeId × Value → H} {P : Program} {w : World} {base : Nat} {held : Bool}
open Go.ChangeShapes Go.WideShapes Go.Deep in
open Go.ChangeShapes Go.WideShapes Go.Deep in
theorem in_ints_cell {t q : TypeId} {fuel : Nat} {cs : List Value} {x : DataW H × List MemPlace} (ht : P.underlying t = some (.slice q)) (hq : P.underlying q = some (.int .i64))
  (cq : P.cellsOf q = 1) (h : DataW.trod enc P w base (fun _ => true) held fuel t cs = some x) :
  ∃ (A : Option Addr) (l : List Int) (cap : Nat), cs = [.slice A l.length cap] ∧ l.length ≤ cap ∧ Kd.C (Kd.int .i64) w A l.length l ∧ (l.length ≤ maxLen ∧ ∀ x ∈ l, (Lit.int .i64 x).wf = true) := by
 rcases open_ints ht hq cq h with ⟨rfl, _⟩ | ⟨a, len, cap, zs, rfl, _, hl, hm, hz, _, hc, hw⟩
 ·exact ⟨none, [], 0, rfl, Nat.le_refl _, Kd.C_nil _ _, by simp⟩
 ·simp only [if_true] at hz
  have hlen : (zs.take len).length = len := by rw [List.length_take]; omega
  refine ⟨some a, zs.take len, cap, by rw [hlen], by omega, in_ints hl hm hz (fun e => by cases e) (fun a' e c hlt => by cases e; exact hc c (by omega)), by omega, fun x hx => hw x (List.mem_of_mem_take hx)⟩
open Go.ChangeShapes Go.WideShapes Go.Deep in
end
section
variable {H : Type} {enc : TypeId × Value → H} {P : Program} {w : World} {base : Nat} {held : Bool}
open Go.ChangeShapes Go.WideShapes Go.Deep in
open Go.ChangeShapes Go.WideShapes Go.Deep in
open Go.ChangeShapes Go.WideShapes Go.Deep in
open Go.ChangeShapes Go.WideShapes Go.Deep in
theorem in_bytes_cell {t q : TypeId} {fuel : Nat} {cs : List Value} {x : DataW H × List MemPlace} (ht : P.underlying t = some (.slice q)) (hq : P.underlying q = some (.int .u8))
  (cq : P.cellsOf q = 1) (h : DataW.trod enc P w base (fun _ => true) held fuel t cs = some x) :
  ∃ (A : Option Addr) (l : List Int) (cap : Nat), cs = [.slice A l.length cap] ∧ l.length ≤ cap ∧ Kd.C (Kd.int .u8) w A l.length l ∧ (l.length ≤ maxLen ∧ ∀ x ∈ l, (Lit.int .u8 x).wf = true) := by
 rcases open_ints ht hq cq h with ⟨rfl, _⟩ | ⟨a, len, cap, zs, rfl, _, hl, hm, hz, _, hc, hw⟩
 ·exact ⟨none, [], 0, rfl, Nat.le_refl _, Kd.C_nil _ _, by simp⟩
 ·simp only [if_true] at hz
  have hlen : (zs.take len).length = len := by rw [List.length_take]; omega
  refine ⟨some a, zs.take len, cap, by rw [hlen], by omega, in_bytes0 hl hm hz (fun e => by cases e) (fun a' e c hlt => by cases e; exact hc c (by omega)), by omega, fun x hx => hw x (List.mem_of_mem_take hx)⟩
open Go.ChangeShapes Go.WideShapes Go.Deep in
theorem in_bytes {r : Reach} {b0 : Nat} {t q : TypeId} {v : Value} {d : DataW H} {p : List MemPlace} (ht : P.underlying t = some (.slice q)) (hq : P.underlying q = some (.int .u8)) (cq : P.cellsOf q = 1) (hv : Value.okWide P w r b0 t v) (h : DataW.Trod enc P w base (fun _ => true) held t v d p) :
  ∃ (A : Option Addr) (l : List Int) (cap : Nat), v = .slice A l.length cap ∧ l.length ≤ cap ∧ Kd.C (Kd.int .u8) w A l.length l ∧ (l.length ≤ maxLen ∧ ∀ y ∈ l, (Lit.int .u8 y).wf = true) := by
 obtain ⟨A0, n0, c0, rfl⟩ := okWide_slice ht hv
 obtain ⟨fuel, hf⟩ := h
 obtain ⟨A, l, cap, hcs, hl, hc, hw⟩ := in_bytes_cell ht hq cq hf
 simp [Value.cells] at hcs
 obtain ⟨rfl, rfl, rfl⟩ := hcs
 exact ⟨_, l, _, rfl, hl, hc, hw⟩
open Go.ChangeShapes Go.WideShapes Go.Deep in
end
def okI (x : Int) : Prop := -9223372036854775808 ≤ x ∧ x ≤ 9223372036854775807
def okIs (l : List Int) : Prop := l.length ≤ 9223372036854775807 ∧ ∀ x ∈ l, okI x
def okBy (l : List Int) : Prop := l.length ≤ 9223372036854775807 ∧ ∀ x ∈ l, 0 ≤ x ∧ x ≤ 255
def okSS (ll : List (List Int)) : Prop := ll.length ≤ 9223372036854775807 ∧ ∀ row ∈ ll, okIs row
theorem okBy_wf {l : List Int} (h : l.length ≤ maxLen ∧ ∀ x ∈ l, (Lit.int .u8 x).wf = true) : okBy l := ⟨h.1, fun x hx => by
 have := h.2 x hx
 simp only [Lit.wf, Bool.and_eq_true] at this
 exact ⟨of_decide_eq_true this.1, of_decide_eq_true this.2⟩⟩
end Go.Proofs.Ytdfabioienofhaa.In
namespace Go.Proofs.Ytdfabioienofhaa.M
set_option maxHeartbeats 8000000
set_option maxRecDepth 100000
open Go.RowKit Go.Proofs.Ytdfabioienofhaa.P Go.Proofs.Ytdfabioienofhaa.In Go.Proofs.YtdfabioienofhaaW.PrintWords Go.Proofs.YtdfabioienofhaaW.PrintLast
set_option linter.unusedVariables false
set_option linter.unusedSimpArgs false
theorem wrap_id {x : Int} (h : -9223372036854775808 ≤ x ∧ x ≤ 9223372036854775807) : wrap64 x = x := by unfold wrap64; omega
theorem wrap_nat {n : Nat} (h : n < 9223372036854775807) : wrap64 ((n : Int) + 1) = ((n + 1 : Nat) : Int) := by unfold wrap64; omega
theorem rd_at {l : List Int} {n : Nat} (h : n < l.length) : rd l (n : Int) = l[n] := by simp [rd, h]
theorem rdL_at {l : List (List Int)} {n : Nat} (h : n < l.length) : rd_L2 l (n : Int) = l[n] := by simp [rd_L2, h]
theorem _root_.Go.Proofs.YtdfabioienofhaaW.PrintWords.Ev.val {α : Type} {g : Nat → Option α} {r r' : α} (h : Ev g r) (e : r = r') : Ev g r' := e ▸ h
theorem _root_.Go.Proofs.YtdfabioienofhaaW.PrintWords.Ev.const {α : Type} {g : Nat → Option α} {r : α} (h : ∀ k, g k = some r) : Ev g r := ⟨0, fun k _ => h k⟩
theorem _root_.Go.Proofs.YtdfabioienofhaaW.PrintWords.Ev.const1 {α : Type} {g : Nat → Option α} {r : α} (h : ∀ k, g (k + 1) = some r) : Ev g r := Ev.step (f := fun _ => some r) h (Ev.const fun _ => rfl)
theorem _root_.Go.Proofs.YtdfabioienofhaaW.PrintWords.Ev.succ {α : Type} {g : Nat → Option α} {r : α} (h : Ev (fun k => g (k + 1)) r) : Ev g r := Ev.step (f := fun k => g (k + 1)) (fun _ => rfl) h
theorem _root_.Go.Proofs.YtdfabioienofhaaW.PrintWords.Ev.bind0 {α β : Type} {g : Option α} {f : Nat → α → Option β} {a : α} {r : β} (h : g = some a) (k : Ev (fun n => f n a) r) : Ev (fun n => g.bind (f n)) r := by
 subst h; exact k
theorem _root_.Go.Proofs.YtdfabioienofhaaW.PrintWords.Ev.pos {α : Type} {g f : Nat → Option α} {r : α} {c : Prop} [Decidable c] (h : c) (k : Ev g r) : Ev (fun n => if c then g n else f n) r := by
 simp only [if_pos h]; exact k
theorem _root_.Go.Proofs.YtdfabioienofhaaW.PrintWords.Ev.neg {α : Type} {g f : Nat → Option α} {r : α} {c : Prop} [Decidable c] (h : ¬ c) (k : Ev f r) : Ev (fun n => if c then g n else f n) r := by
 simp only [if_neg h]; exact k
theorem cons_dec {α : Type} [DecidableEq α] {a b : α} {l m : List α} (e : a = b) : decide (l = m) = decide (a :: l = b :: m) := by
 subst e; exact decide_eq_decide.mpr ⟨fun h => by rw [h], fun h => (List.cons.inj h).2⟩
theorem l1In (a lo hi : Int) : yr1.f a lo hi = some (decide (lo ≤ a) && decide (a ≤ hi)) := by
 unfold yr1.f
 by_cases h : a ≥ lo
 ·rw [if_pos h]; have : lo ≤ a := h; simp [this]
 rw [if_neg h]; have : ¬ lo ≤ a := h; simp [this]
theorem l1All_l0 (l : List Int) (lo hi : Int) (hl : l.length ≤ 9223372036854775807) : ∀ (d i : Nat), l.length - i = d → i ≤ l.length → Ev (fun k => yo0.l0 k lo hi l l.length i) ((l.drop i).all fun x => decide (lo ≤ x) && decide (x ≤ hi)) := by
 intro d
 induction d with
 | zero =>
  intro i hd hi
  refine Ev.const1 (fun k => ?_)
  simp only [yo0.l0]
  rw [if_neg (by omega), List.drop_of_length_le (by omega)]
  rfl
 | succ d ih =>
  intro i hd hi'
  have hlt : i < l.length := by omega
  rw [List.drop_eq_getElem_cons hlt, List.all_cons]
  by_cases e : (decide (lo ≤ l[i]) && decide (l[i] ≤ hi)) = true
  ·refine Ev.step (f := fun k => yo0.l0 k lo hi l l.length (i + 1 : Nat)) (fun k => ?_) ((ih (i + 1) (by omega) (by omega)).val (by rw [e]; simp))
   simp only [yo0.l0, l1In]
   rw [if_pos (by omega), if_pos (by omega), if_pos (by omega), rd_at hlt, wrap_nat (by omega)]
   simp only [Option.bind_some]
   rw [if_pos e]
  refine Ev.const1 (fun k => ?_)
  simp only [yo0.l0, l1In]
  rw [if_pos (by omega), if_pos (by omega), if_pos (by omega), rd_at hlt]
  simp only [Option.bind_some]
  rw [if_neg e]
  simp only [Bool.not_eq_true] at e
  rw [e]; rfl
theorem l1All (l : List Int) (lo hi : Int) (hl : l.length ≤ 9223372036854775807) : Ev (fun k => yo0.f k l lo hi) (l.all fun x => decide (lo ≤ x) && decide (x ≤ hi)) := by
 unfold yo0.f
 exact l1All_l0 l lo hi hl l.length 0 (by omega) (by omega)
theorem grGood_l0 (l : List (List Int)) (hl : okSS l) : ∀ (d i : Nat), l.length - i = d → i ≤ l.length → Ev (fun k => yv0.l0 k l.length l l.length i) ((l.drop i).all (goodRow l.length)) := by
 intro d
 induction d with
 | zero =>
  intro i hd hi
  refine Ev.const1 (fun k => ?_)
  simp only [yv0.l0]
  rw [if_neg (by omega), List.drop_of_length_le (by omega)]
  rfl
 | succ d ih =>
  intro i hd hi'
  have hlt : i < l.length := by omega
  have hll := hl.1
  have hrow := (hl.2 _ (List.getElem_mem hlt)).1
  rw [List.drop_eq_getElem_cons hlt, List.all_cons]
  by_cases h5 : l[i].length ≤ 5
  rotate_left
  ·refine Ev.const1 (fun k => ?_)
   simp only [yv0.l0]
   rw [if_pos (by omega), if_pos (by omega), if_pos (by omega), rdL_at hlt, if_pos (by omega)]
   simp [goodRow, h5]
  refine Ev.step (f := fun k => (yo0.f k l[i] 0 ((l.length : Int) - 1)).bind fun t => if t = true then yv0.l0 k l.length l l.length (i + 1 : Nat) else some false) (fun k => ?_) ?_
  ·simp only [yv0.l0]
   rw [if_pos (by omega), if_pos (by omega), if_pos (by omega), rdL_at hlt, if_neg (by omega), wrap_nat (by omega), wrap_id (by omega)]
  ·by_cases e : (l[i].all fun x => decide (0 ≤ x) && decide (x ≤ (l.length : Int) - 1)) = true
   ·exact Ev.bind ((l1All _ 0 _ hrow).val e) (Ev.pos rfl ((ih (i + 1) (by omega) (by omega)).val (by unfold goodRow; rw [e]; simp [h5])))
   exact Ev.bind ((l1All _ 0 _ hrow).val (Bool.eq_false_iff.mpr e)) (Ev.neg (by simp) ((Ev.now _).val (by unfold goodRow; simp only [Bool.not_eq_true] at e; rw [e]; simp)))
theorem grGood (l : List (List Int)) (hl : okSS l) : Ev (fun k => yv0.f k l) (goodG l) := by
 unfold yv0.f
 rw [l1In]
 simp only [Option.bind_some]
 by_cases h : 1 ≤ l.length ∧ l.length ≤ 8
 ·have h1 : (1 : Int) ≤ l.length := by omega
  have h2 : (l.length : Int) ≤ 8 := by omega
  refine Ev.pos (by simp [h1, h2]) ?_
  exact (grGood_l0 l hl l.length 0 (by omega) (by omega)).val (by simp [goodG, h.1, h.2])
 refine Ev.neg (by simp; omega) ((Ev.now _).val ?_)
 unfold goodG
 by_cases h1 : 1 ≤ l.length
 rotate_left
 ·simp [h1]
 have h2 : ¬ l.length ≤ 8 := by omega
 simp [h1, h2]
theorem good_iff {l : List (List Int)} (h : goodG l = true) : (1 ≤ l.length ∧ l.length ≤ 8) ∧ ∀ row ∈ l, row.length ≤ 5 ∧ ∀ q ∈ row, 0 ≤ q ∧ q < (l.length : Int) := by
 simp only [goodG, goodRow, Bool.and_eq_true, decide_eq_true_eq, List.all_eq_true] at h
 refine ⟨⟨h.1, h.2.1⟩, fun row hr => ⟨(h.2.2 row hr).1, fun q hq => ?_⟩⟩
 have := (h.2.2 row hr).2 q hq
 omega
def placeB (l : List (List Int)) (p : Int) : Bool := goodG l && (decide (0 ≤ p) && decide (p ≤ (l.length : Int) - 1))
theorem place_iff {l : List (List Int)} {p : Int} (h : placeB l p = true) : goodG l = true ∧ 0 ≤ p ∧ p < (l.length : Int) := by
 simp only [placeB, Bool.and_eq_true, decide_eq_true_eq] at h
 exact ⟨h.1, h.2.1, by omega⟩
theorem grPlace (l : List (List Int)) (p : Int) (hl : okSS l) : Ev (fun k => yj1.f k l p) (placeB l p) := by
 unfold yj1.f
 have hll := hl.1
 refine Ev.bind (grGood l hl) ?_
 by_cases h : goodG l = true
 rotate_left
 ·exact Ev.neg h ((Ev.now _).val (by simp only [Bool.not_eq_true] at h; simp [placeB, h]))
 refine Ev.pos h ?_
 rw [l1In, wrap_id (by omega)]
 exact Ev.bind0 rfl ((Ev.now _).val (by simp [placeB, h]))
theorem has1 (l : List (List Int)) (p : Int) : yo1.f l [p] = some (placeB l p) := by
 unfold yo1.f placeB; simp
theorem rd_get {l : List Int} {q : Int} (h0 : 0 ≤ q) (h1 : q < (l.length : Int)) : rd l q = l[q.toNat]'(by omega) := by
 unfold rd; rw [List.getD_eq_getElem?_getD, List.getElem?_eq_getElem (by omega)]; rfl
theorem rdL_get {l : List (List Int)} {q : Int} (h0 : 0 ≤ q) (h1 : q < (l.length : Int)) : rd_L2 l q = l[q.toNat]'(by omega) := by
 unfold rd_L2; rw [List.getD_eq_getElem?_getD, List.getElem?_eq_getElem (by omega)]; rfl
theorem rd_set {o : List Int} {q x v : Int} (hq0 : 0 ≤ q) (hq : q < (o.length : Int)) (hx0 : 0 ≤ x) : rd (o.set q.toNat v) x = if x = q then v else rd o x := by
 unfold rd
 rw [List.getD_eq_getElem?_getD, List.getElem?_set, List.getD_eq_getElem?_getD]
 by_cases e : x = q
 ·subst e; rw [if_pos rfl, if_pos (by omega), if_pos rfl]; rfl
 rw [if_neg (by omega), if_neg e]
theorem drop_rd {row : List Int} {i : Nat} (h : i < row.length) : row.drop i = rd row (i : Int) :: row.drop (i + 1) := by
 rw [List.drop_eq_getElem_cons h, rd_at h]
theorem place_of {g : List (List Int)} (hg : goodG g = true) {i : Nat} (hi : i < g.length) : placeB g (i : Int) = true := by
 unfold placeB; rw [hg]; simp; omega
end Go.Proofs.Ytdfabioienofhaa.M
namespace Go.Proofs.Ytdfabioienofhaa.M
set_option maxHeartbeats 8000000
set_option maxRecDepth 100000
set_option linter.unusedVariables false
set_option linter.unusedSimpArgs false
namespace DetKit
set_option maxHeartbeats 8000000
set_option maxRecDepth 100000
def skip (k j : Nat) : Nat := if j < k then j else j + 1
def sm : Nat → (Nat → Int) → Int
 | 0, _ => 0
 | n + 1, f => sm n f + f n
def sg (k : Nat) : Int := if k % 2 = 0 then 1 else -1
def D : Nat → (Nat → Nat → Int) → Int
 | 0, _ => 1
 | n + 1, A => sm (n + 1) (fun k => sg k * A 0 k * D n (fun i j => A (i + 1) (skip k j)))
theorem sm_congr {n : Nat} {f g : Nat → Int} (h : ∀ i, i < n → f i = g i) : sm n f = sm n g := by
 induction n with
 | zero => rfl
 | succ n ih => simp only [sm]; rw [ih (fun i hi => h i (by omega)), h n (by omega)]
theorem sm_zero {n : Nat} {f : Nat → Int} (h : ∀ i, i < n → f i = 0) : sm n f = 0 := by
 induction n with
 | zero => rfl
 | succ n ih => simp only [sm]; rw [ih (fun i hi => h i (by omega)), h n (by omega)]; rfl
theorem sm_add (n : Nat) (f g : Nat → Int) : sm n (fun i => f i + g i) = sm n f + sm n g := by
 induction n with
 | zero => rfl
 | succ n ih => simp only [sm]; rw [ih]; omega
theorem sm_mul (n : Nat) (c : Int) (f : Nat → Int) : sm n (fun i => c * f i) = c * sm n f := by
 induction n with
 | zero => simp [sm]
 | succ n ih => simp only [sm]; rw [ih, Int.mul_add]
theorem sm_neg (n : Nat) (f : Nat → Int) : sm n (fun i => - f i) = - sm n f := by
 induction n with
 | zero => simp [sm]
 | succ n ih => simp only [sm]; rw [ih]; omega
theorem sm_head (n : Nat) (f : Nat → Int) : sm (n + 1) f = f 0 + sm n (fun i => f (i + 1)) := by
 induction n with
 | zero => simp [sm]
 | succ n ih => rw [show sm (n + 1 + 1) f = sm (n + 1) f + f (n + 1) from rfl, ih]; simp only [sm]; omega
theorem sm_swap (m n : Nat) (f : Nat → Nat → Int) : sm m (fun i => sm n (fun j => f i j)) = sm n (fun j => sm m (fun i => f i j)) := by
 induction m with
 | zero => simp only [sm]; exact (sm_zero (fun _ _ => rfl)).symm
 | succ m ih => simp only [sm]; rw [ih, ← sm_add]
theorem sm_one {n r : Nat} {f : Nat → Int} (hr : r < n) (h : ∀ i, i < n → i ≠ r → f i = 0) : sm n f = f r := by
 induction n with
 | zero => omega
 | succ n ih =>
  simp only [sm]
  by_cases e : r = n
  ·subst e; rw [sm_zero (fun i hi => h i (by omega) (by omega))]; omega
  rw [ih (by omega) (fun i hi hn => h i (by omega) hn), h n (by omega) (by omega)]; omega
theorem skip_ne (k j : Nat) : skip k j ≠ k := by unfold skip; split <;> omega
theorem skip_lt {k j n : Nat} (h : j < n) : skip k j < n + 1 := by unfold skip; split <;> omega
theorem sm_unit (n : Nat) (v : Nat → Int) (j : Nat) (hj : j < n) : sm n (fun t => v t * (if t = j then 1 else 0)) = v j := by
 rw [sm_one hj (fun i _ hn => by rw [if_neg hn, Int.mul_zero])]; simp
def B (A : Nat → Nat → Int) (k i j : Nat) : Int := D (k + 1) (fun a b => A (if a < k then a else i) (if b < k then b else j))
end DetKit
end Go.Proofs.Ytdfabioienofhaa.M
namespace Go.Proofs.Ytdfabioienofhaa.M
set_option maxHeartbeats 8000000
set_option maxRecDepth 100000
open Go.RowKit Go.Proofs.Ytdfabioienofhaa.P Go.Proofs.Ytdfabioienofhaa.In Go.Proofs.YtdfabioienofhaaW.PrintWords Go.Proofs.YtdfabioienofhaaW.PrintLast
set_option linter.unusedVariables false
set_option linter.unusedSimpArgs false
open DetKit
structure Sq (n : Nat) (m : List (List Int)) : Prop where
 len : m.length = n
 rows : ∀ row ∈ m, row.length = n ∧ ∀ x ∈ row, -10 ≤ x ∧ x ≤ 10
theorem Sq.row {n : Nat} {m : List (List Int)} (h : Sq n m) {i : Nat} (hi : i < n) : (rd_L2 m (i : Int)).length = n := by
 have hl := h.len
 exact (h.rows (rd_L2 m (i : Int)) (by rw [rdL_at (by omega)]; exact List.getElem_mem _)).1
end Go.Proofs.Ytdfabioienofhaa.M
namespace Go.Proofs.Ytdfabioienofhaa.P
set_option maxHeartbeats 8000000
set_option maxRecDepth 100000
open Go.RowKit Go.Proofs.YtdfabioienofhaaW.PrintWords Go.Proofs.YtdfabioienofhaaW.PrintLast Go.Proofs.YtdfabioienofhaaW.PrintMore
attribute [local go_sem] zx0 zu0 max_two min_two zt0 zs0 zw0 zv0
set_option linter.unusedVariables false
set_option linter.unusedSimpArgs false
def yf2.f (l0 : List Int) (a1 a2 : Int) : Option (List Int) := if 0 ≤ a1 then (if a1 < (l0.length : Int) then (if a2 = a1 + 1 then (some (l0.eraseIdx a1.toNat)) else (none)) else (none)) else (none)
mutual
def yh1.l0 : Nat → Int → List (List Int) → List (List Int) → Int → Int → List (List Int) → Option ((List (List Int)))
 | 0, _, _, _, _, _, _ => none
 | k + 1, x1, x5, x13, x14, x15, x615000 => if x15 < x14 then (if 0 ≤ x15 then (if x15 < (x13.length : Int) then (if x15 = x1 then (yh1.l0 k x1 x5 x13 x14 (wrap64 (x15 + 1)) x615000) else (if 0 ≤ (x615000.length : Int) then (if ((x615000.length : Int) : Int).toNat ≤ 35184372088832 then ((some (List.replicate ((x615000.length : Int) : Int).toNat 0 : List Int)).bind fun y619 => (if x15 < (y619.length : Int) then (yh1.l1 k x1 x5 (y619.set (x15 : Int).toNat ((rd_L2 x13 x15).length : Int)) x13 x14 x15 (rd_L2 x13 x15) ((rd_L2 x13 x15).length : Int) 0 x615000) else (none))) else (none)) else (none))) else (none)) else (none)) else (some x5)
def yh1.l1 : Nat → Int → List (List Int) → List Int → List (List Int) → Int → Int → List Int → Int → Int → List (List Int) → Option ((List (List Int)))
 | 0, _, _, _, _, _, _, _, _, _, _ => none
 | k + 1, x1, x5, x8, x13, x14, x15, x32, x33, x34, x615000 => if x34 < x33 then (if 0 ≤ x34 then (if x34 < (x32.length : Int) then (if 0 ≤ (rd x32 x34) then (if (rd x32 x34) < (x8.length : Int) then (yh1.l1 k x1 x5 (x8.set ((rd x32 x34) : Int).toNat (wrap64 ((rd x8 (rd x32 x34)) - 1))) x13 x14 x15 x32 x33 (wrap64 (x34 + 1)) x615000) else (none)) else (none)) else (none)) else (none)) else ((yf2.f x8 x1 (wrap64 (x1 + 1))).bind fun t626 => (if x5.length < 5864062014805 then (yh1.l0 k x1 (x5 ++ [t626]) x13 x14 (wrap64 (x15 + 1)) x615000) else (none)))
end
def yh1.f (k : Nat) (l0_0 : List (List Int)) (a1 : Int) : Option ((List (List Int))) := yh1.l0 k a1 (([] : List (List Int))) l0_0 (l0_0.length : Int) 0 l0_0
theorem yh1.mono_l : ∀ k, (∀ y0 y1 y2 y3 y4 y5, LeO (yh1.l0 k y0 y1 y2 y3 y4 y5) (yh1.l0 (k + 1) y0 y1 y2 y3 y4 y5)) ∧ (∀ y0 y1 y2 y3 y4 y5 y6 y7 y8 y9, LeO (yh1.l1 k y0 y1 y2 y3 y4 y5 y6 y7 y8 y9) (yh1.l1 (k + 1) y0 y1 y2 y3 y4 y5 y6 y7 y8 y9))
 | 0 => ⟨fun _ _ _ _ _ _ r h => by simp [yh1.l0] at h, fun _ _ _ _ _ _ _ _ _ _ r h => by simp [yh1.l1] at h⟩
 | k + 1 => by
  obtain ⟨ih0, ih1⟩ := yh1.mono_l k
  refine ⟨?_, ?_⟩
  ·intro y0 y1 y2 y3 y4 y5
   unfold yh1.l0
   repeat' (with_reducible first | exact ih0 _ _ _ _ _ _ | exact ih1 _ _ _ _ _ _ _ _ _ _ | exact LeO.refl _ | exact LeO.none _ | refine LeO.ite ?_ ?_ | refine LeO.bind ?_ (fun _ => ?_))
  ·intro y0 y1 y2 y3 y4 y5 y6 y7 y8 y9
   unfold yh1.l1
   repeat' (with_reducible first | exact ih0 _ _ _ _ _ _ | exact ih1 _ _ _ _ _ _ _ _ _ _ | exact LeO.refl _ | exact LeO.none _ | refine LeO.ite ?_ ?_ | refine LeO.bind ?_ (fun _ => ?_))
theorem yh1.mono : ∀ a0 a1 k, LeO (yh1.f k a0 a1) (yh1.f (k + 1) a0 a1) := by
 intro a0 a1 k
 obtain ⟨ih0, ih1⟩ := yh1.mono_l k
 unfold yh1.f
 repeat' (with_reducible first | exact ih0 _ _ _ _ _ _ | exact ih1 _ _ _ _ _ _ _ _ _ _ | exact LeO.refl _ | exact LeO.none _ | refine LeO.ite ?_ ?_ | refine LeO.bind ?_ (fun _ => ?_))
end Go.Proofs.Ytdfabioienofhaa.P
namespace Go.Proofs.Ytdfabioienofhaa.M
set_option maxHeartbeats 8000000
set_option maxRecDepth 100000
open Go.RowKit Go.Proofs.Ytdfabioienofhaa.P Go.Proofs.Ytdfabioienofhaa.In Go.Proofs.YtdfabioienofhaaW.PrintWords Go.Proofs.YtdfabioienofhaaW.PrintLast
set_option linter.unusedVariables false
set_option linter.unusedSimpArgs false
open DetKit
section
variable {g : List (List Int)} {r : List (List Int)}
end
theorem pigeon : ∀ (n : Nat) (l : List Int), l.Nodup → (∀ x ∈ l, 0 ≤ x ∧ x < (n : Int)) → l.length ≤ n
 | 0, l, _, h => by
  cases l with
  | nil => simp
  | cons x l => have := h x (by simp); omega
 | n + 1, l, hn, h => by
  have h1 := pigeon n (l.erase (n : Int)) (hn.erase _) (fun x hx => by
   have hx' := hn.mem_erase_iff.1 hx
   have h2 := h x hx'.2
   have h3 := hx'.1
   omega)
  by_cases hm : (n : Int) ∈ l
  ·have := List.length_erase_of_mem hm; omega
  rw [List.erase_of_not_mem hm] at h1; omega
def it (f : Int → Int) : Nat → Int → Int
 | 0, p => p
 | i + 1, p => it f i (f p)
theorem it_succ (f : Int → Int) (i : Nat) (p : Int) : it f (i + 1) p = f (it f i p) := by
 induction i generalizing p with
 | zero => rfl
 | succ i ih => rw [it, ih]; rfl
theorem it_add (f : Int → Int) (i j : Nat) (p : Int) : it f (i + j) p = it f j (it f i p) := by
 induction i generalizing p with
 | zero => simp [it]
 | succ i ih => rw [Nat.succ_add, it, ih]; rfl
def orb (f : Int → Int) (p : Int) (m : Nat) : List Int := (List.range m).map fun j => it f j p
theorem orb_len (f : Int → Int) (p : Int) (m : Nat) : (orb f p m).length = m := by simp [orb]
theorem orb_mem {f : Int → Int} {p x : Int} {m : Nat} : x ∈ orb f p m ↔ ∃ j, j < m ∧ it f j p = x := by simp [orb]
theorem orb_get {f : Int → Int} {p : Int} {m j : Nat} (h : j < m) : (orb f p m)[j]'(by rw [orb_len]; exact h) = it f j p := by simp [orb]
theorem orb_inj {f : Int → Int} {p : Int} {m i j : Nat} (hn : (orb f p m).Nodup) (hi : i < m) (hj : j < m) (h : it f i p = it f j p) : i = j := by
 have h1 : (orb f p m)[i]'(by rw [orb_len]; exact hi) = (orb f p m)[j]'(by rw [orb_len]; exact hj) := by rw [orb_get hi, orb_get hj, h]
 exact (List.getElem_inj hn).1 h1
structure Rho (f : Int → Int) (n : Nat) (p : Int) (s per : Nat) : Prop where
 pos : 0 < per
 le : s + per ≤ n
 nodup : (orb f p (s + per)).Nodup
 back : it f per (it f s p) = it f s p
theorem Rho.all {f : Int → Int} {n : Nat} {p : Int} {s per : Nat} (h : Rho f n p s per) (j : Nat) : it f j p ∈ orb f p (s + per) := by
 induction j with
 | zero => exact orb_mem.2 ⟨0, by have := h.pos; omega, rfl⟩
 | succ j ih =>
  obtain ⟨m, hm, he⟩ := orb_mem.1 ih
  rw [it_succ, ← he, ← it_succ f m p]
  by_cases h2 : m + 1 < s + per
  ·exact orb_mem.2 ⟨m + 1, h2, rfl⟩
  have h3 : m + 1 = s + per := by omega
  rw [h3, it_add, h.back]
  exact orb_mem.2 ⟨s, by have := h.pos; omega, rfl⟩
theorem Rho.far {f : Int → Int} {n : Nat} {p : Int} {s per : Nat} (h : Rho f n p s per) (j : Nat) : it f (s + j + per) p = it f (s + j) p := by
 rw [show s + j + per = s + per + j by omega, it_add f (s + per), it_add f s per, h.back, ← it_add]
theorem Rho.out {f : Int → Int} {n : Nat} {p : Int} {s per : Nat} (h : Rho f n p s per) {i : Nat} (hi : i < s) : it f i p ∉ orb f (it f s p) per := by
 intro hm
 obtain ⟨m, hm, he⟩ := orb_mem.1 hm
 rw [← it_add] at he
 have := orb_inj (i := s + m) (j := i) h.nodup (by omega) (by omega) he
 omega
def rotB : List Int → List (List Int) → Bool
 | r :: rs, row :: rows => (decide (0 ≤ r) && decide (r ≤ if (row.length : Int) - 1 < 0 then 0 else (row.length : Int) - 1)) && rotB rs rows
 | _, _ => true
def nx (g : List (List Int)) (rot : List Int) (p : Int) : Int := if ((rd_L2 g p).length : Int) = 0 then -1 else rd (rd_L2 g p) (rd rot p)
theorem rot_at : ∀ (rot : List Int) (g : List (List Int)), rotB rot g = true → ∀ (i : Nat) (h1 : i < rot.length) (h2 : i < g.length), 0 ≤ rot[i] ∧ (rot[i] < (g[i].length : Int) ∨ rot[i] = 0) := by
 intro rot
 induction rot with
 | nil => intro g h i h1; simp at h1
 | cons r rot ih =>
  intro g h i h1 h2
  cases g with
  | nil => simp at h2
  | cons row g =>
   simp only [rotB, Bool.and_eq_true, decide_eq_true_eq] at h
   cases i with
   | zero =>
    simp only [List.getElem_cons_zero]
    have := h.1; unfold mx at this; split at this <;> omega
   | succ i =>
    simp only [List.getElem_cons_succ]
    exact ih g h.2 i (by simpa using h1) (by simpa using h2)
theorem rot_rd {g : List (List Int)} {rot : List Int} (hr : rotB rot g = true) (hl : rot.length = g.length) {p : Int} (h0 : 0 ≤ p) (h1 : p < (g.length : Int)) : 0 ≤ rd rot p ∧ (((rd_L2 g p).length : Int) = 0 ∨ rd rot p < ((rd_L2 g p).length : Int)) := by
 have := rot_at rot g hr p.toNat (by omega) (by omega)
 rw [rd_get h0 (by omega), rdL_get h0 h1]
 omega
theorem nx_lt {g : List (List Int)} (hg : goodG g = true) {rot : List Int} (hr : rotB rot g = true) (hl : rot.length = g.length) {p : Int} (h0 : 0 ≤ p) (h1 : p < (g.length : Int)) : nx g rot p < (g.length : Int) ∧ -1 ≤ nx g rot p := by
 obtain ⟨a, b⟩ := rot_rd hr hl h0 h1
 have hrow := ((good_iff hg).2 (rd_L2 g p) (by rw [rdL_get h0 h1]; exact List.getElem_mem _)).2
 unfold nx
 split
 ·omega
 ·have := hrow (rd (rd_L2 g p) (rd rot p)) (by rw [rd_get a (by omega)]; exact List.getElem_mem _)
  omega
structure Rot (g : List (List Int)) (rot : List Int) : Prop where
 good : goodG g = true
 rb : rotB rot g = true
 len : rot.length = g.length
theorem Rot.it_ok {g : List (List Int)} {rot : List Int} (h : Rot g rot) {p : Int} (h0 : 0 ≤ p) (h1 : p < (g.length : Int)) : ∀ i, (∀ j, j < i → 0 ≤ nx g rot (it (nx g rot) j p)) → 0 ≤ it (nx g rot) i p ∧ it (nx g rot) i p < (g.length : Int) := by
 intro i
 induction i with
 | zero => intro _; exact ⟨h0, h1⟩
 | succ i ih =>
  intro ha
  obtain ⟨a, b⟩ := ih (fun j hj => ha j (by omega))
  rw [it_succ]
  exact ⟨ha i (by omega), (nx_lt h.good h.rb h.len a b).1⟩
structure Hit (f : Int → Int) (sink p : Int) (m : Nat) : Prop where
 at_ : it f m p = sink
 on : ∀ j, j < m → it f j p ≠ sink ∧ 0 ≤ f (it f j p)
theorem Hit.nodup {f : Int → Int} {sink p : Int} {m : Nat} (h : Hit f sink p m) : (orb f p (m + 1)).Nodup := by
 unfold orb
 rw [List.nodup_iff_pairwise_ne, List.pairwise_map]
 refine List.Pairwise.imp_of_mem ?_ (List.pairwise_lt_range (n := m + 1))
 intro i j hi hj hlt he
 have hj2 : j < m + 1 := List.mem_range.1 hj
 have : it f (i + (m - j)) p = sink := by
  rw [it_add, he, ← it_add, show j + (m - j) = m by omega]; exact h.at_
 exact (h.on (i + (m - j)) (by omega)).1 this
structure Goes (f : Int → Int) (s p q : Int) (m : Nat) : Prop where
 at_ : it f m q = s ∨ p < it f m q
 on : ∀ j, j < m → it f j q ≠ s ∧ it f j q ≤ p ∧ 0 ≤ f (it f j q)
theorem Rot.pos {g : List (List Int)} {rot : List Int} (h : Rot g rot) {q : Int} (h0 : 0 ≤ q) (h1 : q < (g.length : Int)) {m : Nat} (hm : ∀ j, j < m → 0 ≤ nx g rot (it (nx g rot) j q)) : ∀ j, j ≤ m → 0 ≤ it (nx g rot) j q ∧ it (nx g rot) j q < (g.length : Int) := fun j hj => h.it_ok h0 h1 j (fun i hi => hm i (by omega))
theorem rotB_of : ∀ (rot : List Int) (g : List (List Int)), (∀ (i : Nat) (h1 : i < rot.length) (h2 : i < g.length), 0 ≤ rot[i] ∧ (rot[i] < (g[i].length : Int) ∨ rot[i] = 0)) → rotB rot g = true := by
 intro rot
 induction rot with
 | nil => intro g _; unfold rotB; rfl
 | cons r rot ih =>
  intro g h
  cases g with
  | nil => unfold rotB; rfl
  | cons row g =>
   simp only [rotB, Bool.and_eq_true, decide_eq_true_eq]
   refine ⟨?_, ih g (fun i h1 h2 => ?_)⟩
   ·have := h 0 (by simp) (by simp)
    simp only [List.getElem_cons_zero] at this
    split <;> omega
   ·have := h (i + 1) (by simpa using h1) (by simpa using h2)
    simpa using this
theorem Rot.set {g : List (List Int)} {r : List Int} (h : Rot g r) {p : Nat} (hp : p < g.length) {k : Int} (k0 : 0 ≤ k) (k1 : k < ((rd_L2 g (p : Int)).length : Int) ∨ k = 0) : Rot g (r.set p k) := by
 have hl := h.len
 refine ⟨h.good, ?_, by simp [hl]⟩
 refine rotB_of _ _ (fun i h1 h2 => ?_)
 rw [List.getElem_set]
 split
 ·rename_i e
  subst e
  rw [rdL_at hp] at k1
  exact ⟨k0, k1⟩
 ·exact rot_at r g h.rb i (by simpa using h1) h2
theorem Goes.append {f : Int → Int} {s p q : Int} {m m2 : Nat} (h : ∀ j, j < m → it f j q ≠ s ∧ it f j q ≤ p ∧ 0 ≤ f (it f j q)) (h2 : Goes f s p (it f m q) m2) : Goes f s p q (m + m2) := by
 refine ⟨by rw [it_add]; exact h2.at_, fun j hj => ?_⟩
 rcases Nat.lt_or_ge j m with h3 | h3
 ·exact h j h3
 ·have := h2.on (j - m) (by omega)
  rw [← it_add, show m + (j - m) = j by omega] at this
  exact this
open DetKit
def usk (s p : Nat) : Nat := if p < s then p else p - 1
theorem skip_usk {s p : Nat} (h : p ≠ s) : skip s (usk s p) = p := by unfold skip usk; (repeat' split) <;> omega
theorem usk_skip (s i : Nat) : usk s (skip s i) = i := by unfold skip usk; (repeat' split) <;> omega
theorem skip_eq {s i j : Nat} : skip s i = skip s j ↔ i = j := ⟨fun h => by rw [← usk_skip s i, h, usk_skip], fun h => by rw [h]⟩
theorem usk_lt {s p n : Nat} (hp : p < n) (hs : s < n) (h : p ≠ s) : usk s p < n - 1 := by unfold usk; split <;> omega
theorem skip_lt' {s i n : Nat} (h : i < n - 1) : skip s i < n := by have := skip_lt (k := s) h; omega
def Lp (g : List (List Int)) (p q : Nat) : Int := sm (rd_L2 g (p : Int)).length (fun k => 1 * ((if p = q then 1 else 0) - (if rd (rd_L2 g (p : Int)) (k : Int) = (q : Int) then 1 else 0)))
theorem rd_cons_succ (x : Int) (row : List Int) (k : Nat) : rd (x :: row) ((k + 1 : Nat) : Int) = rd row (k : Int) := by
 by_cases h : k < row.length
 ·rw [rd_at (by simpa using h), rd_at h, List.getElem_cons_succ]
 simp [rd, h]
theorem sm_const (n : Nat) (c : Int) : sm n (fun _ => c) = (n : Int) * c := by
 induction n with
 | zero => simp [sm]
 | succ n ih => simp only [sm]; rw [ih, show ((n + 1 : Nat) : Int) = (n : Int) + 1 by omega, Int.add_mul]; omega
theorem Hit.head {f : Int → Int} {s p : Int} {m : Nat} (h : Hit f s (f p) m) (hp : p ≠ s) (h0 : 0 ≤ f p) : Hit f s p (m + 1) := by
 refine ⟨h.at_, fun j hj => ?_⟩
 cases j with
 | zero => exact ⟨hp, h0⟩
 | succ j => exact h.on j (by omega)
open DetKit
def Lat (n : Nat) (A : Nat → Nat → Int) (x : Nat → Int) : Prop := ∃ v : Nat → Int, ∀ j, j < n → x j = sm n (fun i => v i * A i j)
theorem Lat.congr {n : Nat} {A : Nat → Nat → Int} {x y : Nat → Int} (h : Lat n A x) (e : ∀ j, j < n → y j = x j) : Lat n A y := by
 obtain ⟨v, hv⟩ := h
 exact ⟨v, fun j hj => (e j hj).trans (hv j hj)⟩
theorem Lat.zero (n : Nat) (A : Nat → Nat → Int) : Lat n A (fun _ => 0) := ⟨fun _ => 0, fun j _ => (sm_zero (fun i _ => Int.zero_mul _)).symm⟩
theorem Lat.add {n : Nat} {A : Nat → Nat → Int} {x y : Nat → Int} (h : Lat n A x) (h2 : Lat n A y) : Lat n A (fun j => x j + y j) := by
 obtain ⟨v, hv⟩ := h
 obtain ⟨u, hu⟩ := h2
 refine ⟨fun i => v i + u i, fun j hj => ?_⟩
 show x j + y j = _
 rw [hv j hj, hu j hj, ← sm_add]
 exact sm_congr (fun i _ => (Int.add_mul _ _ _).symm)
theorem Lat.mul {n : Nat} {A : Nat → Nat → Int} {x : Nat → Int} (c : Int) (h : Lat n A x) : Lat n A (fun j => c * x j) := by
 obtain ⟨v, hv⟩ := h
 refine ⟨fun i => c * v i, fun j hj => ?_⟩
 show c * x j = _
 rw [hv j hj, ← sm_mul]
 exact sm_congr (fun i _ => (Int.mul_assoc _ _ _).symm)
theorem Lat.sub {n : Nat} {A : Nat → Nat → Int} {x y : Nat → Int} (h : Lat n A x) (h2 : Lat n A y) : Lat n A (fun j => x j - y j) :=
 (h.add (h2.mul (-1))).congr (fun j _ => by omega)
theorem Lat.sum {n : Nat} {A : Nat → Nat → Int} (f : Nat → Nat → Int) : ∀ m, (∀ i, i < m → Lat n A (f i)) → Lat n A (fun j => sm m (fun i => f i j)) := by
 intro m
 induction m with
 | zero => intro _; exact (Lat.zero n A).congr (fun j _ => rfl)
 | succ m ih => intro h; exact ((ih (fun i hi => h i (by omega))).add (h m (by omega))).congr (fun j _ => rfl)
theorem Lat.row {n : Nat} (A : Nat → Nat → Int) {i : Nat} (hi : i < n) : Lat n A (A i) := by
 refine ⟨fun t => if t = i then 1 else 0, fun j hj => ?_⟩
 rw [← sm_unit n (fun t => A t j) i hi]
 exact sm_congr (fun t _ => Int.mul_comm _ _)
theorem Lat.of_rows {n : Nat} {A B : Nat → Nat → Int} (h : ∀ i, i < n → Lat n A (B i)) {x : Nat → Int} (hx : Lat n B x) : Lat n A x := by
 obtain ⟨v, hv⟩ := hx
 exact (Lat.sum (fun i j => v i * B i j) n (fun i hi => (h i hi).mul (v i))).congr hv
structure LReps (n : Nat) (A : Nat → Nat → Int) (l : List (Nat → Int)) : Prop where
 apart : l.Pairwise (fun (x y : Nat → Int) => ¬ Lat n A (fun j => x j - y j))
 all : ∀ x : Nat → Int, ∃ y ∈ l, Lat n A (fun j => x j - y j)
def Cls (n : Nat) (A : Nat → Nat → Int) : Prop := ∃ l, LReps n A l ∧ l.length = (D n A).natAbs ∧ ∃ m : Int, 0 < m ∧ ∀ x : Nat → Int, Lat n A (fun j => m * x j)
theorem Cls.same {n : Nat} {A B : Nat → Nat → Int} (h1 : ∀ i, i < n → Lat n A (B i)) (h2 : ∀ i, i < n → Lat n B (A i)) (hd : (D n A).natAbs = (D n B).natAbs) (h : Cls n A) : Cls n B := by
 obtain ⟨l, hl, hn, m, hm, hx⟩ := h
 refine ⟨l, ⟨hl.apart.imp (fun hab hc => hab (hc.of_rows h1)), fun x => ?_⟩, hn.trans hd, m, hm, fun x => (hx x).of_rows h2⟩
 obtain ⟨y, hy, hl⟩ := hl.all x
 exact ⟨y, hy, hl.of_rows h2⟩
end Go.Proofs.Ytdfabioienofhaa.M
