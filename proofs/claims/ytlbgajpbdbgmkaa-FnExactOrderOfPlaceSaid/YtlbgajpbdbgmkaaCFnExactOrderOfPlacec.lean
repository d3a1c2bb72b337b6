/- Texts of this session on the way to the law FnExactOrderOfPlace, part 3: words of the print, walks, plain laws; only what the law's proof uses. -/
import Derived.Test.YtlbgajpbdbgmkaaCFnExactOrderOfPlacea
import Derived.Test.YtlbgajpbdbgmkaaCFnExactOrderOfPlaceb
namespace Go.Proofs.Ytlbgajpbdbgmkaa.P
open Go.RowKit Go.Proofs.YtlbgajpbdbgmkaaW.PrintWords Go.Proofs.YtlbgajpbdbgmkaaW.PrintLast Go.Proofs.YtlbgajpbdbgmkaaW.PrintMore
attribute [local go_sem] zw0 zv0 zb1 za1 zq0 zp0 zx0 zu0
set_option linter.unusedVariables false
set_option linter.unusedSimpArgs false
mutual
def impl_determinant.l0 : Nat → Int → Int → Int → List (List Int) → List (List Int) → Int → Int → Option (Int)
 | 0, _, _, _, _, _, _, _ => none
 | k + 1, x3, x4, x5, x6, x16, x17, x18 => if x18 < x17 then (if 0 ≤ x18 then (if x18 < (x16.length : Int) then ((slices_Clone_int_int.f (rd_L1 x16 x18)).bind fun t160 => (if x6.length < 5864062014805 then (impl_determinant.l0 k x3 x4 x5 (x6 ++ [t160]) x16 x17 (wrap64 (x18 + 1))) else (none))) else (none)) else (none)) else (impl_determinant.l1 k x3 x4 x5 x6 x3 0)
def impl_determinant.l1 : Nat → Int → Int → Int → List (List Int) → Int → Int → Option (Int)
 | 0, _, _, _, _, _, _ => none
 | k + 1, x3, x4, x5, x6, x28, x29 => if x29 < x28 then (impl_determinant.l2 k x3 x4 x5 x6 x29 x29 x28 x29) else (some (wrap64 (x4 * x5)))
def impl_determinant.j3 : Nat → Int → Int → Int → List (List Int) → Int → Int → Int → Int → Option (Int)
 | 0, _, _, _, _, _, _, _, _ => none
 | k + 1, x3, x4, x5, x6, x9, x10, x28, x29 => if x10 = x3 then (some 0) else (if x10 = x9 then (impl_determinant.j4 k x3 x4 x5 x6 x9 x28 x29) else ((fake_swap.f x6 x10 x9).bind fun t168 => (impl_determinant.j4 k x3 (wrap64 (-x4)) x5 t168 x9 x28 x29)))
def impl_determinant.j4 : Nat → Int → Int → Int → List (List Int) → Int → Int → Int → Option (Int)
 | 0, _, _, _, _, _, _, _ => none
 | k + 1, x3, x4, x5, x6, x9, x28, x29 => impl_determinant.l3 k x3 x4 x5 x6 x9 (wrap64 (x9 + 1)) x28 x29
def impl_determinant.l3 : Nat → Int → Int → Int → List (List Int) → Int → Int → Int → Int → Option (Int)
 | 0, _, _, _, _, _, _, _, _ => none
 | k + 1, x3, x4, x5, x6, x9, x11, x28, x29 => if x11 < x3 then (impl_determinant.l4 k x3 x4 x5 x6 x9 x11 (wrap64 (x9 + 1)) x28 x29) else (if 0 ≤ x9 then (if x9 < (x6.length : Int) then (if x9 < ((rd_L1 x6 x9).length : Int) then (impl_determinant.l1 k x3 x4 (rd (rd_L1 x6 x9) x9) x6 x28 (wrap64 (x29 + 1))) else (none)) else (none)) else (none))
def impl_determinant.l4 : Nat → Int → Int → Int → List (List Int) → Int → Int → Int → Int → Int → Option (Int)
 | 0, _, _, _, _, _, _, _, _, _ => none
 | k + 1, x3, x4, x5, x6, x9, x11, x12, x28, x29 => if x12 < x3 then (if 0 ≤ x11 then (if x11 < (x6.length : Int) then (if 0 ≤ x12 then (if x12 < ((rd_L1 x6 x11).length : Int) then (if 0 ≤ x9 then (if x9 < (x6.length : Int) then (if x9 < ((rd_L1 x6 x9).length : Int) then (if x9 < ((rd_L1 x6 x11).length : Int) then (if x12 < ((rd_L1 x6 x9).length : Int) then (if x5 = 0 then (none) else (impl_determinant.l4 k x3 x4 x5 (x6.set (x11 : Int).toNat ((rd_L1 x6 x11).set (x12 : Int).toNat (wrap64 (Int.tdiv (wrap64 ((wrap64 ((rd (rd_L1 x6 x11) x12) * (rd (rd_L1 x6 x9) x9))) - (wrap64 ((rd (rd_L1 x6 x11) x9) * (rd (rd_L1 x6 x9) x12))))) x5)))) x9 x11 (wrap64 (x12 + 1)) x28 x29)) else (none)) else (none)) else (none)) else (none)) else (none)) else (none)) else (none)) else (none)) else (none)) else (impl_determinant.l3 k x3 x4 x5 x6 x9 (wrap64 (x11 + 1)) x28 x29)
def impl_determinant.l2 : Nat → Int → Int → Int → List (List Int) → Int → Int → Int → Int → Option (Int)
 | 0, _, _, _, _, _, _, _, _ => none
 | k + 1, x3, x4, x5, x6, x9, x10, x28, x29 => if x10 < x3 then (if 0 ≤ x10 then (if x10 < (x6.length : Int) then (if 0 ≤ x9 then (if x9 < ((rd_L1 x6 x10).length : Int) then (if (rd (rd_L1 x6 x10) x9) = 0 then (impl_determinant.l2 k x3 x4 x5 x6 x9 (wrap64 (x10 + 1)) x28 x29) else (impl_determinant.j3 k x3 x4 x5 x6 x9 x10 x28 x29)) else (none)) else (none)) else (none)) else (none)) else (impl_determinant.j3 k x3 x4 x5 x6 x9 x10 x28 x29)
end
def impl_determinant.f (k : Nat) (l0 : List (List Int)) : Option (Int) := impl_determinant.l0 k (l0.length : Int) 1 1 (([] : List (List Int))) l0 (l0.length : Int) 0
theorem impl_determinant.mono_l : ∀ k, (∀ y0 y1 y2 y3 y4 y5 y6, LeO (impl_determinant.l0 k y0 y1 y2 y3 y4 y5 y6) (impl_determinant.l0 (k + 1) y0 y1 y2 y3 y4 y5 y6)) ∧ (∀ y0 y1 y2 y3 y4 y5, LeO (impl_determinant.l1 k y0 y1 y2 y3 y4 y5) (impl_determinant.l1 (k + 1) y0 y1 y2 y3 y4 y5)) ∧ (∀ y0 y1 y2 y3 y4 y5 y6 y7, LeO (impl_determinant.j3 k y0 y1 y2 y3 y4 y5 y6 y7) (impl_determinant.j3 (k + 1) y0 y1 y2 y3 y4 y5 y6 y7)) ∧ (∀ y0 y1 y2 y3 y4 y5 y6, LeO (impl_determinant.j4 k y0 y1 y2 y3 y4 y5 y6) (impl_determinant.j4 (k + 1) y0 y1 y2 y3 y4 y5 y6)) ∧ (∀ y0 y1 y2 y3 y4 y5 y6 y7, LeO (impl_determinant.l3 k y0 y1 y2 y3 y4 y5 y6 y7) (impl_determinant.l3 (k + 1) y0 y1 y2 y3 y4 y5 y6 y7)) ∧ (∀ y0 y1 y2 y3 y4 y5 y6 y7 y8, LeO (impl_determinant.l4 k y0 y1 y2 y3 y4 y5 y6 y7 y8) (impl_determinant.l4 (k + 1) y0 y1 y2 y3 y4 y5 y6 y7 y8)) ∧ (∀ y0 y1 y2 y3 y4 y5 y6 y7, LeO (impl_determinant.l2 k y0 y1 y2 y3 y4 y5 y6 y7) (impl_determinant.l2 (k + 1) y0 y1 y2 y3 y4 y5 y6 y7))
 | 0 => ⟨fun _ _ _ _ _ _ _ r h => by simp [impl_determinant.l0] at h, fun _ _ _ _ _ _ r h => by simp [impl_determinant.l1] at h, fun _ _ _ _ _ _ _ _ r h => by simp [impl_determinant.j3] at h, fun _ _ _ _ _ _ _ r h => by simp [impl_determinant.j4] at h, fun _ _ _ _ _ _ _ _ r h => by simp [impl_determinant.l3] at h, fun _ _ _ _ _ _ _ _ _ r h => by simp [impl_determinant.l4] at h, fun _ _ _ _ _ _ _ _ r h => by simp [impl_determinant.l2] at h⟩
 | k + 1 => by
  obtain ⟨ih0, ih1, ih2, ih3, ih4, ih5, ih6⟩ := impl_determinant.mono_l k
  refine ⟨?_, ?_, ?_, ?_, ?_, ?_, ?_⟩
  ·intro y0 y1 y2 y3 y4 y5 y6
   unfold impl_determinant.l0
   repeat' first
   | (with_reducible exact ih0 _ _ _ _ _ _ _)
   | (with_reducible exact ih1 _ _ _ _ _ _)
   | (with_reducible exact ih2 _ _ _ _ _ _ _ _)
   | (with_reducible exact ih3 _ _ _ _ _ _ _)
   | (with_reducible exact ih4 _ _ _ _ _ _ _ _)
   | (with_reducible exact ih5 _ _ _ _ _ _ _ _ _)
   | (with_reducible exact ih6 _ _ _ _ _ _ _ _)
   | (with_reducible exact LeO.refl _)
   | (with_reducible exact LeO.none _)
   | (with_reducible refine LeO.ite ?_ ?_)
   | (with_reducible refine LeO.bind ?_ (fun _ => ?_))
   | exact ih0 _ _ _ _ _ _ _
   | exact ih1 _ _ _ _ _ _
   | exact ih2 _ _ _ _ _ _ _ _
   | exact ih3 _ _ _ _ _ _ _
   | exact ih4 _ _ _ _ _ _ _ _
   | exact ih5 _ _ _ _ _ _ _ _ _
   | exact ih6 _ _ _ _ _ _ _ _
   | exact LeO.none _
   | refine LeO.ite ?_ ?_
   | refine LeO.bind ?_ (fun _ => ?_)
  ·intro y0 y1 y2 y3 y4 y5
   unfold impl_determinant.l1
   repeat' first
   | (with_reducible exact ih0 _ _ _ _ _ _ _)
   | (with_reducible exact ih1 _ _ _ _ _ _)
   | (with_reducible exact ih2 _ _ _ _ _ _ _ _)
   | (with_reducible exact ih3 _ _ _ _ _ _ _)
   | (with_reducible exact ih4 _ _ _ _ _ _ _ _)
   | (with_reducible exact ih5 _ _ _ _ _ _ _ _ _)
   | (with_reducible exact ih6 _ _ _ _ _ _ _ _)
   | (with_reducible exact LeO.refl _)
   | (with_reducible exact LeO.none _)
   | (with_reducible refine LeO.ite ?_ ?_)
   | (with_reducible refine LeO.bind ?_ (fun _ => ?_))
   | exact ih0 _ _ _ _ _ _ _
   | exact ih1 _ _ _ _ _ _
   | exact ih2 _ _ _ _ _ _ _ _
   | exact ih3 _ _ _ _ _ _ _
   | exact ih4 _ _ _ _ _ _ _ _
   | exact ih5 _ _ _ _ _ _ _ _ _
   | exact ih6 _ _ _ _ _ _ _ _
   | exact LeO.none _
   | refine LeO.ite ?_ ?_
   | refine LeO.bind ?_ (fun _ => ?_)
  ·intro y0 y1 y2 y3 y4 y5 y6 y7
   unfold impl_determinant.j3
   repeat' first
   | (with_reducible exact ih0 _ _ _ _ _ _ _)
   | (with_reducible exact ih1 _ _ _ _ _ _)
   | (with_reducible exact ih2 _ _ _ _ _ _ _ _)
   | (with_reducible exact ih3 _ _ _ _ _ _ _)
   | (with_reducible exact ih4 _ _ _ _ _ _ _ _)
   | (with_reducible exact ih5 _ _ _ _ _ _ _ _ _)
   | (with_reducible exact ih6 _ _ _ _ _ _ _ _)
   | (with_reducible exact LeO.refl _)
   | (with_reducible exact LeO.none _)
   | (with_reducible refine LeO.ite ?_ ?_)
   | (with_reducible refine LeO.bind ?_ (fun _ => ?_))
   | exact ih0 _ _ _ _ _ _ _
   | exact ih1 _ _ _ _ _ _
   | exact ih2 _ _ _ _ _ _ _ _
   | exact ih3 _ _ _ _ _ _ _
   | exact ih4 _ _ _ _ _ _ _ _
   | exact ih5 _ _ _ _ _ _ _ _ _
   | exact ih6 _ _ _ _ _ _ _ _
   | exact LeO.none _
   | refine LeO.ite ?_ ?_
   | refine LeO.bind ?_ (fun _ => ?_)
  ·intro y0 y1 y2 y3 y4 y5 y6
   unfold impl_determinant.j4
   repeat' first
   | (with_reducible exact ih0 _ _ _ _ _ _ _)
   | (with_reducible exact ih1 _ _ _ _ _ _)
   | (with_reducible exact ih2 _ _ _ _ _ _ _ _)
   | (with_reducible exact ih3 _ _ _ _ _ _ _)
   | (with_reducible exact ih4 _ _ _ _ _ _ _ _)
   | (with_reducible exact ih5 _ _ _ _ _ _ _ _ _)
   | (with_reducible exact ih6 _ _ _ _ _ _ _ _)
   | (with_reducible exact LeO.refl _)
   | (with_reducible exact LeO.none _)
   | (with_reducible refine LeO.ite ?_ ?_)
   | (with_reducible refine LeO.bind ?_ (fun _ => ?_))
   | exact ih0 _ _ _ _ _ _ _
   | exact ih1 _ _ _ _ _ _
   | exact ih2 _ _ _ _ _ _ _ _
   | exact ih3 _ _ _ _ _ _ _
   | exact ih4 _ _ _ _ _ _ _ _
   | exact ih5 _ _ _ _ _ _ _ _ _
   | exact ih6 _ _ _ _ _ _ _ _
   | exact LeO.none _
   | refine LeO.ite ?_ ?_
   | refine LeO.bind ?_ (fun _ => ?_)
  ·intro y0 y1 y2 y3 y4 y5 y6 y7
   unfold impl_determinant.l3
   repeat' first
   | (with_reducible exact ih0 _ _ _ _ _ _ _)
   | (with_reducible exact ih1 _ _ _ _ _ _)
   | (with_reducible exact ih2 _ _ _ _ _ _ _ _)
   | (with_reducible exact ih3 _ _ _ _ _ _ _)
   | (with_reducible exact ih4 _ _ _ _ _ _ _ _)
   | (with_reducible exact ih5 _ _ _ _ _ _ _ _ _)
   | (with_reducible exact ih6 _ _ _ _ _ _ _ _)
   | (with_reducible exact LeO.refl _)
   | (with_reducible exact LeO.none _)
   | (with_reducible refine LeO.ite ?_ ?_)
   | (with_reducible refine LeO.bind ?_ (fun _ => ?_))
   | exact ih0 _ _ _ _ _ _ _
   | exact ih1 _ _ _ _ _ _
   | exact ih2 _ _ _ _ _ _ _ _
   | exact ih3 _ _ _ _ _ _ _
   | exact ih4 _ _ _ _ _ _ _ _
   | exact ih5 _ _ _ _ _ _ _ _ _
   | exact ih6 _ _ _ _ _ _ _ _
   | exact LeO.none _
   | refine LeO.ite ?_ ?_
   | refine LeO.bind ?_ (fun _ => ?_)
  ·intro y0 y1 y2 y3 y4 y5 y6 y7 y8
   unfold impl_determinant.l4
   repeat' first
   | (with_reducible exact ih0 _ _ _ _ _ _ _)
   | (with_reducible exact ih1 _ _ _ _ _ _)
   | (with_reducible exact ih2 _ _ _ _ _ _ _ _)
   | (with_reducible exact ih3 _ _ _ _ _ _ _)
   | (with_reducible exact ih4 _ _ _ _ _ _ _ _)
   | (with_reducible exact ih5 _ _ _ _ _ _ _ _ _)
   | (with_reducible exact ih6 _ _ _ _ _ _ _ _)
   | (with_reducible exact LeO.refl _)
   | (with_reducible exact LeO.none _)
   | (with_reducible refine LeO.ite ?_ ?_)
   | (with_reducible refine LeO.bind ?_ (fun _ => ?_))
   | exact ih0 _ _ _ _ _ _ _
   | exact ih1 _ _ _ _ _ _
   | exact ih2 _ _ _ _ _ _ _ _
   | exact ih3 _ _ _ _ _ _ _
   | exact ih4 _ _ _ _ _ _ _ _
   | exact ih5 _ _ _ _ _ _ _ _ _
   | exact ih6 _ _ _ _ _ _ _ _
   | exact LeO.none _
   | refine LeO.ite ?_ ?_
   | refine LeO.bind ?_ (fun _ => ?_)
  ·intro y0 y1 y2 y3 y4 y5 y6 y7
   unfold impl_determinant.l2
   repeat' first
   | (with_reducible exact ih0 _ _ _ _ _ _ _)
   | (with_reducible exact ih1 _ _ _ _ _ _)
   | (with_reducible exact ih2 _ _ _ _ _ _ _ _)
   | (with_reducible exact ih3 _ _ _ _ _ _ _)
   | (with_reducible exact ih4 _ _ _ _ _ _ _ _)
   | (with_reducible exact ih5 _ _ _ _ _ _ _ _ _)
   | (with_reducible exact ih6 _ _ _ _ _ _ _ _)
   | (with_reducible exact LeO.refl _)
   | (with_reducible exact LeO.none _)
   | (with_reducible refine LeO.ite ?_ ?_)
   | (with_reducible refine LeO.bind ?_ (fun _ => ?_))
   | exact ih0 _ _ _ _ _ _ _
   | exact ih1 _ _ _ _ _ _
   | exact ih2 _ _ _ _ _ _ _ _
   | exact ih3 _ _ _ _ _ _ _
   | exact ih4 _ _ _ _ _ _ _ _
   | exact ih5 _ _ _ _ _ _ _ _ _
   | exact ih6 _ _ _ _ _ _ _ _
   | exact LeO.none _
   | refine LeO.ite ?_ ?_
   | refine LeO.bind ?_ (fun _ => ?_)
theorem impl_determinant.mono : ∀ a0 k, LeO (impl_determinant.f k a0) (impl_determinant.f (k + 1) a0) := by
 intro a0 k
 obtain ⟨ih0, ih1, ih2, ih3, ih4, ih5, ih6⟩ := impl_determinant.mono_l k
 unfold impl_determinant.f
 repeat' first
   | (with_reducible exact ih0 _ _ _ _ _ _ _)
   | (with_reducible exact ih1 _ _ _ _ _ _)
   | (with_reducible exact ih2 _ _ _ _ _ _ _ _)
   | (with_reducible exact ih3 _ _ _ _ _ _ _)
   | (with_reducible exact ih4 _ _ _ _ _ _ _ _)
   | (with_reducible exact ih5 _ _ _ _ _ _ _ _ _)
   | (with_reducible exact ih6 _ _ _ _ _ _ _ _)
   | (with_reducible exact LeO.refl _)
   | (with_reducible exact LeO.none _)
   | (with_reducible refine LeO.ite ?_ ?_)
   | (with_reducible refine LeO.bind ?_ (fun _ => ?_))
   | exact ih0 _ _ _ _ _ _ _
   | exact ih1 _ _ _ _ _ _
   | exact ih2 _ _ _ _ _ _ _ _
   | exact ih3 _ _ _ _ _ _ _
   | exact ih4 _ _ _ _ _ _ _ _
   | exact ih5 _ _ _ _ _ _ _ _ _
   | exact ih6 _ _ _ _ _ _ _ _
   | exact LeO.none _
   | refine LeO.ite ?_ ?_
   | refine LeO.bind ?_ (fun _ => ?_)
def impl_determinant.T25 : Bool × List (List Nat × List Nat) := (true, [([], []), ([], []), ([0, 1], [0, 1]), ([2], [2]), ([], []), ([], []), ([], []), ([5, 6], [5, 6]), ([7], [7]), ([], []), ([8, 9], [8, 9]), ([10], [10]), ([], []), ([], []), ([12, 13], [12, 13]), ([14], [14]), ([], []), ([15, 16], [15, 16]), ([17], [17]), ([11, 18], [11, 18]), ([], []), ([], []), ([20, 21], [20, 21]), ([22], [22]), ([], []), ([23, 24], [23, 24]), ([25], [25]), ([], []), ([], []), ([27, 28], [27, 28]), ([29], [29]), ([], []), ([30, 31], [30, 31]), ([32], [32]), ([26, 33], [26, 33]), ([19, 34], [19, 34]), ([], []), ([35, 36], [35, 36]), ([3, 4, 0, 1, 2, 3, 4, 5, 6, 7, 8, 9, 10, 11, 12, 13, 14, 15, 16, 17, 18, 19, 20, 21, 22, 23, 24, 25, 26, 27, 28, 29, 30, 31, 32, 33, 34, 35, 36, 37], [3, 4]), ([38, 37, 0, 1, 2, 3, 4, 5, 6, 7, 8, 9, 10, 11, 12, 13, 14, 15, 16, 17, 18, 19, 20, 21, 22, 23, 24, 25, 26, 27, 28, 29, 30, 31, 32, 33, 34, 35, 36, 37], [37, 38])])
def impl_determinant.B25 : List Nat := [0, 0, 3, 7, 0, 0, 0, 96, 224, 0, 992, 2016, 0, 0, 12288, 28672, 0, 126976, 258048, 524256, 0, 0, 3145728, 7340032, 0, 32505856, 66060288, 0, 0, 402653184, 939524096, 0, 4160749568, 8455716864, 17178820608, 34359738336, 0, 137438953440, 274877906943, 549755813887]
theorem impl_determinant.tab25 : rtab .any (opsOf Try.f62 25) = impl_determinant.T25 := by kernel_rfl
theorem impl_determinant.bits25 : waitsOk impl_determinant.T25.2 impl_determinant.B25 = true := by kernel_rfl
set_option maxHeartbeats 8000000 in
set_option maxRecDepth 100000 in
theorem impl_determinant.calls (k : Nat) (A0 : Option Addr) (c0 : Nat) (l0 : List (List Int)) (r : Int) (w : World) (hr0 : Kd.C (Kd.slice 3 (Kd.int .i64)) w A0 l0.length l0) (hc0 : l0.length ≤ c0) (h : impl_determinant.f k l0 = some r) :
  Calls Try.prog 62 #[.slice A0 l0.length c0] w fun e w' => e = .returned (.int .i64 r) ∧ Below w.heap.size w w' := by
 have HR0 := za0.mk hr0
 have HC0 := za0.mk hc0
 clear hr0 hc0
 have HB := za0.mk (Below.refl w.heap.size w)
 have H : (impl_determinant.l0 k (l0.length : Int) 1 1 (([] : List (List Int))) l0 (l0.length : Int) 0) = some r := h
 clear h
 obtain ⟨y156, hy156⟩ : ∃ y_ : List (List Int), y_ = (([] : List (List Int))) := ⟨_, rfl⟩
 replace H : (impl_determinant.l0 k (l0.length : Int) 1 1 y156 l0 (l0.length : Int) 0) = some r := by first | (rw [hy156]; with_reducible exact H) | (have H2_ := (Option.bind_some _ _).symm.trans H; rw [hy156]; with_reducible exact H2_) | (have H2_ := (Option.bind_some _ _).symm.trans H; with_reducible exact H2_) | with_reducible exact H | (rw [hy156]; exact H) | exact H
 have Ny156 := za0.mk hy156
 clear hy156
 have H' := za0.mk H
 clear H
 go_enter Try.func62, Try.ntmps62
 go_wp2_with (first | ((with_reducible refine zn0 (N := 15) rfl ?_); refine Kd.S_lit (Kd.slice 3 (Kd.int .i64)) _ 25 ?hg (N := 15) ?hd (xs := ([] : List (List Int))) (inner := []) (ok := fun _ => True) (okp := fun _ => True) ?hr ?hp (fun _ hk => hk) trivial (Below.refl _ _) (Nat.le_refl _) (by simp) ?_; (case hd => rfl); (case hg => rfl); (case hr => first | (go_simp; done) | (go_simp; rfl)); (case hp => exact (Reps.none _ _)); intro v157 w2 ho3 hb hg_ hnew_; clear hg_ hnew_; (first | rw [← Ny156.out] at ho3 | (simp only [Int.reduceToNat] at ho3; rw [← Ny156.out] at ho3)); have n0_ := za0.mk (Kd.S_lower ho3 (zg0 (by repeat (first | (with_reducible first | exact HB.out | apply zc0 | apply zb0 | apply zd0) | exact HB.out)))); have n1_ := za0.mk (zj0 (by repeat (first | (with_reducible first | exact HB.out | apply zc0 | apply zb0 | apply zd0) | exact HB.out)) hb); clear HB; have HO158 := n0_; have HB := n1_; clear n0_ n1_; clear hb ho3))
 go_loopg [6, 18] k (fun kq v6 v18 w' => ∃ (x6_1 : List (List Int)) (x18_1 : Int), v18 = .int .i64 x18_1 ∧ za0 (impl_determinant.l0 kq (l0.length : Int) 1 1 x6_1 l0 (l0.length : Int) x18_1 = some r) ∧ za0 (kq ≤ k) ∧ za0 (Kd.S (Kd.slice 3 (Kd.int .i64)) 25 w' w.heap.size (fun _ => True) v6 x6_1) ∧ za0 (Below w.heap.size w w'))
 case atStart => exact ⟨(y156), (0), (by first | rfl | (simp; done) | (simp [*]; done)), H', ⟨Nat.le_refl _⟩, ⟨by (with_reducible repeat (first | apply Kd.S_alloc | apply Kd.S_drewN | apply Kd.S_drew)); exact HO158.out⟩, ⟨by repeat (first | (with_reducible first | exact HB.out | apply zc0 | apply zb0 | apply zd0) | exact HB.out)⟩⟩
 case round =>
  clear H'
  try clear p2
  obtain ⟨x6_1, x18_1, rfl, HA, HK1, HO_6, HB⟩ := hrel
  cases gk with
  | zero => exact absurd HA.out (by simp [impl_determinant.l0])
  | succ k1 =>
   have H := HA.out
   clear HA
   simp only [impl_determinant.l0] at H
   by_cases c4 : x18_1 < (l0.length : Int)
   ·rw [if_pos c4] at H
    have c4b0 : decide (x18_1 < (l0.length : Int)) = true := decide_eq_true c4
    clear c4
    by_cases c5 : 0 ≤ x18_1
    ·rw [if_pos c5] at H
     have c5b0 : decide (0 ≤ x18_1) = true := decide_eq_true c5
     clear c5
     by_cases c6 : x18_1 < (l0.length : Int)
     ·rw [if_pos c6] at H
      have c6b0 : decide (x18_1 < (l0.length : Int)) = true := decide_eq_true c6
      clear c6
      replace H := Option.bind_eq_some_iff.mp H
      obtain ⟨t160, A70, H⟩ := H
      replace H : (if x6_1.length < 5864062014805 then (impl_determinant.l0 k1 (l0.length : Int) 1 1 (x6_1 ++ [t160]) l0 (l0.length : Int) (wrap64 (x18_1 + 1))) else (none)) = some r := H
      have A7 := za0.mk A70
      clear A70
      by_cases c8 : x6_1.length < 5864062014805
      ·rw [if_pos c8] at H
       have LMc8 := za0.mk c8
       clear c8
       obtain ⟨y163, hy163⟩ : ∃ y_ : List (List Int), y_ = (x6_1 ++ [t160]) := ⟨_, rfl⟩
       replace H : (impl_determinant.l0 k1 (l0.length : Int) 1 1 y163 l0 (l0.length : Int) (wrap64 (x18_1 + 1))) = some r := by first | (rw [hy163]; with_reducible exact H) | (have H2_ := (Option.bind_some _ _).symm.trans H; rw [hy163]; with_reducible exact H2_) | (have H2_ := (Option.bind_some _ _).symm.trans H; with_reducible exact H2_) | with_reducible exact H | (rw [hy163]; exact H) | exact H
       have Ny163 := za0.mk hy163
       clear hy163
       have H' := za0.mk H
       clear H
       have p159 : 0 ≤ (x18_1 : Int) := of_decide_eq_true (by first | (with_reducible assumption) | assumption)
       have q159 : x18_1 < (l0.length : Int) := of_decide_eq_true (by first | (with_reducible assumption) | assumption)
       obtain ⟨ad159, A159_0, c159_0, e159, hx159_0, hl159_0, hi159_0⟩ := at_L1 HR0.out x18_1 p159 q159
       cases e159
       replace hx159_0 := (HB.out.cell (World.block_lt_of_cell? w _ hx159_0)).trans hx159_0
       have HR159_0 := za0.mk hi159_0
       have HC159_0 := za0.mk hl159_0
       clear hi159_0 hl159_0
       replace p159 := eq_true p159
       replace q159 := eq_true q159
       go_wp2_with (first | ((with_reducible refine zs0 (f := 35) rfl ?_); refine goesL_ (some 24) rfl rfl Try.func35 (by kernel_rfl) rfl #[.slice A159_0 (rd_L1 l0 x18_1).length c159_0] rfl (by (try simp only [List.map_toArray, List.map_cons, List.map_nil]); first | done | rfl | (simp only [List.length_drop, List.length_take]; rfl)) ?_; (with_reducible refine (slices_Clone_int_int.calls _ _ (rd_L1 l0 x18_1) t160 _ ?side1 ?side2 A7.out).mono ?_); (case side1 => repeat (first | exact (Kd.C_below HR159_0.out HB.out) | (with_reducible refine Kd.C_alloc ?_ _) | (with_reducible refine Kd.C_drewN ?_ _) | (with_reducible refine Kd.C_drew ?_))); (case side2 => exact HC159_0.out); rintro e w9 ⟨v161, rfl, ho0, hb⟩; refine ⟨_, rfl, ?_⟩; have n0_ := za0.mk (Kd.S_elder' (by (with_reducible repeat (first | apply Kd.S_alloc | apply Kd.S_drewN | apply Kd.S_drew)); exact HO_6.out) (Kd.R_base ho0) hb); have n1_ := za0.mk (Kd.R_lower ho0 (zg0 (by repeat (first | (with_reducible first | exact HB.out | apply zc0 | apply zb0 | apply zd0) | exact HB.out)))); have n2_ := za0.mk (zj0 (by repeat (first | (with_reducible first | exact HB.out | apply zc0 | apply zb0 | apply zd0) | exact HB.out)) hb); clear HO_6; clear HB; have HO_6 := n0_; have HO162 := n1_; have HB := n2_; clear n0_ n1_ n2_; (try clear hb); (try clear hb2); (try clear hk); (try clear hi); (try clear ho0); obtain ⟨Ao11, co11, eo11⟩ := Kd.R_slice HO162.out; subst eo11) | ((with_reducible refine gate_builtin (b := .append) (xs := #[.tmp 22, .tmp 25]) rfl ?_); at_builtin; refine Kd.S_append (Kd.slice 3 (Kd.int .i64)) (w0 := w) w.heap.size rfl (.tmp 22) (.tmp 25) 22 25 (.slice none 0 0) 24 rfl Try.underlying22 info25 rfl (by decide) (by omega) u6 x6_1 t160 [.slice Ao11 t160.length co11] (fun _ => True) (fun k_ => some k_ = (.slice Ao11 t160.length co11 : Value).ownBlock) rfl rfl ?aP (fun k_ hk_ => ((Kd.R_mono (ok' := fun k_ => ((fun _ => True)) k_ ∧ some k_ ≠ (u6 : Value).ownBlock) (Kd.R_apart' (HO162.out) (Kd.S_typed HO_6.out) (by decide)) (fun k_ hk => ⟨trivial, hk.2⟩))).1 k_ hk_.symm) ?aF ?aO ?aB ?aS ?aL ?_; (case aP => exact Kd.M_row (Kd.R_mono (Kd.R_tight rfl (Kd.R_mono (ok' := fun k_ => ((fun _ => True)) k_ ∧ some k_ ≠ (u6 : Value).ownBlock) (Kd.R_apart' (HO162.out) (Kd.S_typed HO_6.out) (by decide)) (fun k_ hk => ⟨trivial, hk.2⟩))) (fun _ h_ => h_))); (case aB => exact (by repeat (first | (with_reducible first | exact HB.out | apply zc0 | apply zb0 | apply zd0) | exact HB.out))); (case aF => exact (fun _ _ => trivial)); (case aO => exact (by (with_reducible repeat (first | apply Kd.S_alloc | apply Kd.S_drewN | apply Kd.S_drew)); exact Kd.S_mono HO_6.out (fun k_ hk => ⟨trivial, fun e_ => hk.2 e_⟩))); (case aS => exact (zg0 (by repeat (first | (with_reducible first | exact HB.out | apply zc0 | apply zb0 | apply zd0) | exact HB.out)))); (case aL => have := LMc8.out; omega); intro v164 w10 ho hb hg hat; rw [← Ny163.out] at ho; have n0_ := za0.mk (hb); have n1_ := za0.mk (ho); clear HB; clear HO_6; clear HO162; have HB := n0_; have HO165 := n1_; clear n0_ n1_; clear ho hb hg hat))
       go_roundg k1
       case measure => have := HK1.out; omega
       case rel => exact ⟨(y163), (wrap64 (x18_1 + 1)), (by first | rfl | (simp; done) | (simp [*]; done)), H', ⟨by have := HK1.out; omega⟩, ⟨by (with_reducible repeat (first | apply Kd.S_alloc | apply Kd.S_drewN | apply Kd.S_drew)); exact HO165.out⟩, ⟨by repeat (first | (with_reducible first | exact HB.out | apply zc0 | apply zb0 | apply zd0) | exact HB.out)⟩⟩
      ·rw [if_neg c8] at H
       exact absurd H (by simp)
     ·rw [if_neg c6] at H
      exact absurd H (by simp)
    ·rw [if_neg c5] at H
     exact absurd H (by simp)
   ·rw [if_neg c4] at H
    have c4b0 : decide (x18_1 < (l0.length : Int)) = false := decide_eq_false c4
    clear c4
    have H' := za0.mk H
    clear H
    go_wp2
    go_loopg [4, 5, 29] k1 (fun kq v4 v5 v29 w' => ∃ (x4_2 : Int) (x5_2 : Int) (x6_2 : List (List Int)) (x29_2 : Int), v4 = .int .i64 x4_2 ∧ v5 = .int .i64 x5_2 ∧ v29 = .int .i64 x29_2 ∧ za0 (impl_determinant.l1 kq (l0.length : Int) x4_2 x5_2 x6_2 (l0.length : Int) x29_2 = some r) ∧ za0 (kq ≤ k1) ∧ za0 (Kd.S (Kd.slice 3 (Kd.int .i64)) 25 w' w.heap.size (fun _ => True) u6 x6_2) ∧ za0 (Below w.heap.size w w'))
    case atStart => exact ⟨(1), (1), (x6_1), (0), (by first | rfl | (simp; done) | (simp [*]; done)), (by first | rfl | (simp; done) | (simp [*]; done)), (by first | rfl | (simp; done) | (simp [*]; done)), H', ⟨Nat.le_refl _⟩, ⟨by (with_reducible repeat (first | apply Kd.S_alloc | apply Kd.S_drewN | apply Kd.S_drew)); exact HO_6.out⟩, ⟨by repeat (first | (with_reducible first | exact HB.out | apply zc0 | apply zb0 | apply zd0) | exact HB.out)⟩⟩
    case round =>
     clear H'
     try clear c1
     try clear p1
     try clear q1
     try clear hx1
     try clear p2
     try clear c3
     try clear c4
     try clear c4b0
     try clear c5
     try clear c5b0
     try clear c6
     try clear c6b0
     try clear p6
     try clear c8
     try clear hx159_0
     try clear p159
     try clear p2
     try clear q159
     obtain ⟨x4_2, x5_2, x6_2, x29_2, rfl, rfl, rfl, HA, HK2, HO_6, HB⟩ := hrel
     cases gk with
     | zero => exact absurd HA.out (by simp [impl_determinant.l1])
     | succ k2 =>
      have H := HA.out
      clear HA
      simp only [impl_determinant.l1] at H
      by_cases c12 : x29_2 < (l0.length : Int)
      ·rw [if_pos c12] at H
       have c12b0 : decide (x29_2 < (l0.length : Int)) = true := decide_eq_true c12
       clear c12
       have HC13 := za0.mk H
       clear H
       go_upto_block 4 with (fail)
       go_cut [10] (fun v10 wc => ∃ (kq : Nat) (x10_12 : Int), v10 = .int .i64 x10_12 ∧ za0 (impl_determinant.j3 kq (l0.length : Int) x4_2 x5_2 x6_2 x29_2 x10_12 (l0.length : Int) x29_2 = some r) ∧ za0 (kq ≤ k2) ∧ za0 (Kd.S (Kd.slice 3 (Kd.int .i64)) 25 wc w.heap.size (fun _ => True) u6 x6_2) ∧ za0 (Below w.heap.size w wc))
       case first =>
        have H := HC13.out
        clear HC13
        have H' := za0.mk H
        clear H
        go_wp2
        go_loopg [10] k2 (fun kq v10 w' => ∃ (x10_3 : Int), v10 = .int .i64 x10_3 ∧ za0 (impl_determinant.l2 kq (l0.length : Int) x4_2 x5_2 x6_2 x29_2 x10_3 (l0.length : Int) x29_2 = some r) ∧ za0 (kq ≤ k2) ∧ za0 (Kd.S (Kd.slice 3 (Kd.int .i64)) 25 w' w.heap.size (fun _ => True) u6 x6_2) ∧ za0 (Below w.heap.size w w'))
        case atStart => exact ⟨(x29_2), (by first | rfl | (simp; done) | (simp [*]; done)), H', ⟨Nat.le_refl _⟩, ⟨by (with_reducible repeat (first | apply Kd.S_alloc | apply Kd.S_drewN | apply Kd.S_drew)); exact HO_6.out⟩, ⟨by repeat (first | (with_reducible first | exact HB.out | apply zc0 | apply zb0 | apply zd0) | exact HB.out)⟩⟩
        case round =>
         clear H'
         try clear c1
         try clear p1
         try clear q1
         try clear hx1
         try clear p2
         try clear c3
         try clear c4
         try clear c4b0
         try clear c5
         try clear c5b0
         try clear c6
         try clear c6b0
         try clear p6
         try clear c8
         try clear c12
         try clear c12b0
         try clear hx159_0
         try clear p1
         try clear p159
         try clear p2
         try clear p6
         try clear q1
         try clear q159
         obtain ⟨x10_3, rfl, HA, HK3, HO_6, HB⟩ := hrel
         cases gk with
         | zero => exact absurd HA.out (by simp [impl_determinant.l2])
         | succ k3 =>
          have H := HA.out
          clear HA
          simp only [impl_determinant.l2] at H
          by_cases c14 : x10_3 < (l0.length : Int)
          ·rw [if_pos c14] at H
           have c14b0 : decide (x10_3 < (l0.length : Int)) = true := decide_eq_true c14
           clear c14
           (first | rw [c14b0] | (simp only [i64_w, i32_w]; rw [c14b0]) | skip)
           by_cases c15 : 0 ≤ x10_3
           ·rw [if_pos c15] at H
            have c15b0 : decide (0 ≤ x10_3) = true := decide_eq_true c15
            clear c15
            by_cases c16 : x10_3 < (x6_2.length : Int)
            ·rw [if_pos c16] at H
             have c16b0 : decide (x10_3 < (x6_2.length : Int)) = true := decide_eq_true c16
             clear c16
             by_cases c17 : 0 ≤ x29_2
             ·rw [if_pos c17] at H
              have c17b0 : decide (0 ≤ x29_2) = true := decide_eq_true c17
              clear c17
              by_cases c18 : x29_2 < ((rd_L1 x6_2 x10_3).length : Int)
              ·rw [if_pos c18] at H
               have c18b0 : decide (x29_2 < ((rd_L1 x6_2 x10_3).length : Int)) = true := decide_eq_true c18
               clear c18
               by_cases c19 : (rd (rd_L1 x6_2 x10_3) x29_2) = 0
               ·rw [if_pos c19] at H
                have c19b0 : ((rd (rd_L1 x6_2 x10_3) x29_2) == 0) = true := beq_iff_eq.mpr c19
                have c19b1 : ((rd (rd_L1 x6_2 x10_3) x29_2) != 0) = false := bne_eq_false_iff_eq.mpr c19
                clear c19
                have H' := za0.mk H
                clear H
                obtain ⟨Ao20, co20, eo20⟩ := Kd.S_slice HO_6.out
                subst eo20
                have p166 : 0 ≤ (x10_3 : Int) := of_decide_eq_true (by first | (with_reducible assumption) | assumption)
                have q166 : x10_3 < (x6_2.length : Int) := of_decide_eq_true (by first | (with_reducible assumption) | assumption)
                obtain ⟨ad166, A166_0, c166_0, e166, hx166_0, hl166_0, hi166_0⟩ := at_L1 (Kd.S_reads' HO_6.out).2.2 x10_3 p166 q166
                cases e166
                obtain ⟨ce166, hce166, hMe166, hcc166⟩ := Kd.S_get HO_6.out [] x10_3 p166 (by first | exact q166 | exact of_decide_eq_true (by first | (with_reducible assumption) | assumption) | (have e_ := (Kd.S_reads' HO_6.out).1; omega))
                obtain ⟨ve166_0, rfl, ge166_0⟩ := hMe166
                have hv166_0 := hcc166 0 _ rfl
                rw [Nat.add_zero, show ((Kd.slice 3 (Kd.int .i64))).sz = 1 from rfl, Nat.mul_one] at hv166_0
                replace hv166_0 := Option.some.inj (hv166_0.symm.trans hx166_0)
                rw [hv166_0] at ge166_0
                have HL166_0 := za0.mk (show Kd.R (Kd.int .i64) 3 _ _ _ _ (rd_L1 x6_2 x10_3) from ge166_0)
                clear hv166_0 ge166_0
                have HX166_0 := za0.mk hx166_0
                clear hcc166 hce166
                have HR166_0 := za0.mk hi166_0
                have HC166_0 := za0.mk hl166_0
                clear hi166_0 hl166_0
                replace p166 := eq_true p166
                replace q166 := eq_true q166
                have p167 : 0 ≤ (x29_2 : Int) := of_decide_eq_true (by first | (with_reducible assumption) | assumption)
                have q167 : x29_2 < ((rd_L1 x6_2 x10_3).length : Int) := of_decide_eq_true (by first | (with_reducible assumption) | assumption)
                obtain ⟨ad167, e167, hx167_0⟩ := Kd.at_int (by repeat (first | (with_reducible exact HR166_0.out) | (with_reducible refine Kd.C_alloc ?_ _) | (with_reducible refine Kd.C_drewN ?_ _) | (with_reducible refine Kd.C_drew ?_) | exact HR166_0.out)) x29_2 p167 q167
                cases e167
                replace p167 := eq_true p167
                replace q167 := eq_true q167
                go_wp2
                go_roundg k3
                case measure => have := HK1.out; have := HK2.out; have := HK3.out; omega
                case rel => exact ⟨(wrap64 (x10_3 + 1)), (by first | rfl | (simp; done) | (simp [*]; done)), H', ⟨by have := HK1.out; have := HK2.out; have := HK3.out; omega⟩, ⟨by (with_reducible repeat (first | apply Kd.S_alloc | apply Kd.S_drewN | apply Kd.S_drew)); exact HO_6.out⟩, ⟨by repeat (first | (with_reducible first | exact HB.out | apply zc0 | apply zb0 | apply zd0) | exact HB.out)⟩⟩
               ·rw [if_neg c19] at H
                have c19b0 : ((rd (rd_L1 x6_2 x10_3) x29_2) == 0) = false := beq_eq_false_iff_ne.mpr c19
                have c19b1 : ((rd (rd_L1 x6_2 x10_3) x29_2) != 0) = true := bne_iff_ne.mpr c19
                have H' := za0.mk H
                clear H
                obtain ⟨Ao21, co21, eo21⟩ := Kd.S_slice HO_6.out
                subst eo21
                have p166 : 0 ≤ (x10_3 : Int) := of_decide_eq_true (by first | (with_reducible assumption) | assumption)
                have q166 : x10_3 < (x6_2.length : Int) := of_decide_eq_true (by first | (with_reducible assumption) | assumption)
                obtain ⟨ad166, A166_0, c166_0, e166, hx166_0, hl166_0, hi166_0⟩ := at_L1 (Kd.S_reads' HO_6.out).2.2 x10_3 p166 q166
                cases e166
                obtain ⟨ce166, hce166, hMe166, hcc166⟩ := Kd.S_get HO_6.out [] x10_3 p166 (by first | exact q166 | exact of_decide_eq_true (by first | (with_reducible assumption) | assumption) | (have e_ := (Kd.S_reads' HO_6.out).1; omega))
                obtain ⟨ve166_0, rfl, ge166_0⟩ := hMe166
                have hv166_0 := hcc166 0 _ rfl
                rw [Nat.add_zero, show ((Kd.slice 3 (Kd.int .i64))).sz = 1 from rfl, Nat.mul_one] at hv166_0
                replace hv166_0 := Option.some.inj (hv166_0.symm.trans hx166_0)
                rw [hv166_0] at ge166_0
                have HL166_0 := za0.mk (show Kd.R (Kd.int .i64) 3 _ _ _ _ (rd_L1 x6_2 x10_3) from ge166_0)
                clear hv166_0 ge166_0
                have HX166_0 := za0.mk hx166_0
                clear hcc166 hce166
                have HR166_0 := za0.mk hi166_0
                have HC166_0 := za0.mk hl166_0
                clear hi166_0 hl166_0
                replace p166 := eq_true p166
                replace q166 := eq_true q166
                have p167 : 0 ≤ (x29_2 : Int) := of_decide_eq_true (by first | (with_reducible assumption) | assumption)
                have q167 : x29_2 < ((rd_L1 x6_2 x10_3).length : Int) := of_decide_eq_true (by first | (with_reducible assumption) | assumption)
                obtain ⟨ad167, e167, hx167_0⟩ := Kd.at_int (by repeat (first | (with_reducible exact HR166_0.out) | (with_reducible refine Kd.C_alloc ?_ _) | (with_reducible refine Kd.C_drewN ?_ _) | (with_reducible refine Kd.C_drew ?_) | exact HR166_0.out)) x29_2 p167 q167
                cases e167
                replace p167 := eq_true p167
                replace q167 := eq_true q167
                go_wp2
                go_meet
                case rel => exact ⟨_, (x10_3), (by first | rfl | (simp; done) | (simp [*]; done)), H', ⟨by have := HK1.out; have := HK2.out; have := HK3.out; first | omega | exact Nat.le_refl _⟩, ⟨by (with_reducible repeat (first | apply Kd.S_alloc | apply Kd.S_drewN | apply Kd.S_drew)); exact HO_6.out⟩, ⟨by repeat (first | (with_reducible first | exact HB.out | apply zc0 | apply zb0 | apply zd0) | exact HB.out)⟩⟩
              ·rw [if_neg c18] at H
               exact absurd H (by simp)
             ·rw [if_neg c17] at H
              exact absurd H (by simp)
            ·rw [if_neg c16] at H
             exact absurd H (by simp)
           ·rw [if_neg c15] at H
            exact absurd H (by simp)
          ·rw [if_neg c14] at H
           have c14b0 : decide (x10_3 < (l0.length : Int)) = false := decide_eq_false c14
           clear c14
           (first | rw [c14b0] | (simp only [i64_w, i32_w]; rw [c14b0]) | skip)
           have H' := za0.mk H
           clear H
           go_wp2
           go_meet
           case rel => exact ⟨_, (x10_3), (by first | rfl | (simp; done) | (simp [*]; done)), H', ⟨by have := HK1.out; have := HK2.out; have := HK3.out; first | omega | exact Nat.le_refl _⟩, ⟨by (with_reducible repeat (first | apply Kd.S_alloc | apply Kd.S_drewN | apply Kd.S_drew)); exact HO_6.out⟩, ⟨by repeat (first | (with_reducible first | exact HB.out | apply zc0 | apply zb0 | apply zd0) | exact HB.out)⟩⟩
       case rest =>
        clear HC13
        try clear c1
        try clear p1
        try clear q1
        try clear hx1
        try clear p2
        try clear c3
        try clear c4
        try clear c4b0
        try clear c5
        try clear c5b0
        try clear c6
        try clear c6b0
        try clear p6
        try clear c8
        try clear c12
        try clear c12b0
        try clear c14
        try clear c14b0
        try clear c15
        try clear c15b0
        try clear p15
        try clear q15
        try clear hx15
        try clear c16
        try clear c16b0
        try clear p16
        try clear q16
        try clear hx16
        try clear c17
        try clear c17b0
        try clear c18
        try clear c18b0
        try clear c19
        try clear c19b0
        try clear c19b1
        try clear hx159_0
        try clear hx166_0
        try clear hx167_0
        try clear p1
        try clear p159
        try clear p166
        try clear p167
        try clear p2
        try clear p6
        try clear q1
        try clear q159
        try clear q166
        try clear q167
        obtain ⟨kq, x10_12, rfl, HA, HJ12, HO_6, HB⟩ := hcut
        cases kq with
        | zero => exact absurd HA.out (by simp [impl_determinant.j3])
        | succ kj12 =>
         have H := HA.out
         clear HA
         simp only [impl_determinant.j3] at H
         by_cases c22 : x10_12 = (l0.length : Int)
         ·rw [if_pos c22] at H
          have c22b0 : (x10_12 == (l0.length : Int)) = true := beq_iff_eq.mpr c22
          have c22b1 : (x10_12 != (l0.length : Int)) = false := bne_eq_false_iff_eq.mpr c22
          clear c22
          obtain rfl := Option.some.inj H
          go_wp2
          go_ret
          exact ⟨by first | rfl | (simp [errW_none, errW_some] <;> rfl) | (simp [*, errW_none, errW_some] <;> rfl), by repeat (first | (with_reducible first | exact HB.out | apply zc0 | apply zb0 | apply zd0) | exact HB.out)⟩
         ·rw [if_neg c22] at H
          have c22b0 : (x10_12 == (l0.length : Int)) = false := beq_eq_false_iff_ne.mpr c22
          have c22b1 : (x10_12 != (l0.length : Int)) = true := bne_iff_ne.mpr c22
          have HC23 := za0.mk H
          clear H
          go_upto_if 53 with (fail)
          go_cut [4] (fun v4 wc => ∃ (kq : Nat) (x4_22 : Int) (x6_22 : List (List Int)), v4 = .int .i64 x4_22 ∧ za0 (impl_determinant.j4 kq (l0.length : Int) x4_22 x5_2 x6_22 x29_2 (l0.length : Int) x29_2 = some r) ∧ za0 (kq ≤ kj12) ∧ za0 (Kd.S (Kd.slice 3 (Kd.int .i64)) 25 wc w.heap.size (fun _ => True) u6 x6_22) ∧ za0 (Below w.heap.size w wc))
          case first =>
           have H := HC23.out
           clear HC23
           by_cases c24 : x10_12 = x29_2
           ·rw [if_pos c24] at H
            have c24b0 : (x10_12 == x29_2) = true := beq_iff_eq.mpr c24
            have c24b1 : (x10_12 != x29_2) = false := bne_eq_false_iff_eq.mpr c24
            clear c24
            (first | rw [c24b0] | (simp only [i64_w, i32_w]; rw [c24b0]) | skip)
            have H' := za0.mk H
            clear H
            go_wp2
            go_meet
            case rel => exact ⟨_, (x4_2), (x6_2), (by first | rfl | (simp; done) | (simp [*]; done)), H', ⟨by have := HK1.out; have := HK2.out; have := HJ12.out; first | omega | exact Nat.le_refl _⟩, ⟨by (with_reducible repeat (first | apply Kd.S_alloc | apply Kd.S_drewN | apply Kd.S_drew)); exact HO_6.out⟩, ⟨by repeat (first | (with_reducible first | exact HB.out | apply zc0 | apply zb0 | apply zd0) | exact HB.out)⟩⟩
           ·rw [if_neg c24] at H
            have c24b0 : (x10_12 == x29_2) = false := beq_eq_false_iff_ne.mpr c24
            have c24b1 : (x10_12 != x29_2) = true := bne_iff_ne.mpr c24
            (first | rw [c24b0] | (simp only [i64_w, i32_w]; rw [c24b0]) | skip)
            replace H := Option.bind_eq_some_iff.mp H
            obtain ⟨t168, A250, H⟩ := H
            replace H : (impl_determinant.j4 kj12 (l0.length : Int) (wrap64 (-x4_2)) x5_2 t168 x29_2 (l0.length : Int) x29_2) = some r := H
            have A25 := za0.mk A250
            clear A250
            have H' := za0.mk H
            clear H
            obtain ⟨b1, b2, b3, b4, hsw⟩ := fake_swap_some A25.out
            obtain ⟨go26, co26, eo26, gb26, _, cl26, HG26⟩ := Kd.S_form HO_6.out (by omega)
            subst eo26
            have hne_ : x10_12.toNat ≠ x29_2.toNat := by omega
            have HNE := za0.mk hne_
            clear hne_
            have HGB := za0.mk gb26
            clear gb26 HG26
            try go_wp2
            obtain ⟨ad1, A1, c1_, e1, hx1, _, _⟩ := at_L1 (Kd.S_reads' HO_6.out).2.2 x29_2 b3 b4
            cases e1
            rw [add_plain] at hx1
            obtain ⟨ad2, A2, c2_, e2, hx2, _, _⟩ := at_L1 (Kd.S_reads' HO_6.out).2.2 x10_12 b1 b2
            cases e2
            rw [add_plain] at hx2
            have hf1 : wc.frozen? ⟨go26, x10_12.toNat, none⟩ = false := by obtain ⟨_, _, _, _, hfr⟩ := Kd.R_elem (Kd.S_R HO_6.out) ([] : List Int) x10_12 b1 b2; have := hfr 0; simpa [Kd.slice] using this
            have hf2 : wc.frozen? ⟨go26, x29_2.toNat, none⟩ = false := by obtain ⟨_, _, _, _, hfr⟩ := Kd.R_elem (Kd.S_R HO_6.out) ([] : List Int) x29_2 b3 b4; have := hfr 0; simpa [Kd.slice] using this
            have HBB := za0.mk (And.intro (And.intro b1 b2) (And.intro b3 b4))
            replace b1 := eq_true b1
            replace b2 := eq_true b2
            replace b3 := eq_true b3
            replace b4 := eq_true b4
            have n0_ := za0.mk (Kd.S_drew HO_6.out)
            have n1_ := za0.mk (zd0 HB.out)
            clear HO_6 HB
            have HO_6 := n0_
            have HB := n1_
            clear n0_ n1_
            refine start_ (n := 16) (S := fun w' => w'.cell? ⟨go26, x29_2.toNat, none⟩ = some (.slice A1 (rd_L1 x6_2 x29_2).length c1_) ∧ w'.cell? ⟨go26, x10_12.toNat, none⟩ = some (.slice A2 (rd_L1 x6_2 x10_12).length c2_)) (ds := [13, 15]) #[false, false, false, false, false, false, false, false, false, false, false, false, false, false, false, false] (by kernel_rfl) rfl rfl ⟨hx1, hx2⟩ (fun hHeld => ?_)
            replace hx1 := (show wc.drew.cell? _ = _ from hx1)
            replace hx2 := (show wc.drew.cell? _ = _ from hx2)
            replace hf1 := (show wc.drew.frozen? _ = _ from hf1)
            replace hf2 := (show wc.drew.frozen? _ = _ from hf2)
            generalize wc.drew = w26 at HO_6 HB hx1 hx2 hf1 hf2 hHeld ⊢
            refine pure_ (i := 0) (N := some 54) (v := ?_) (a' := ?_) (bf 16 1) rfl rfl (by kernel_rfl) (fun _ _ _ h => h) (Or.inl ⟨by rfl, ?_⟩) ?_ ?_
            rotate_left
            ·intro w'; go_simp; with_reducible rfl
            rotate_left
            ·simp only [Act.put, zA, zB, zC, i64_w, i32_w]; rfl
            refine pure_ (i := 1) (N := some 55) (v := ?_) (a' := ?_) (bf 16 3) rfl rfl (by kernel_rfl) (fun _ _ _ h => h) (Or.inl ⟨by rfl, ?_⟩) ?_ ?_
            rotate_left
            ·intro w'; go_simp; with_reducible rfl
            rotate_left
            ·simp only [Act.put, zA, zB, zC, i64_w, i32_w]; rfl
            refine pure_ (i := 2) (N := some 56) (v := ?_) (a' := ?_) (bf 16 7) rfl rfl (by kernel_rfl) (fun _ _ _ h => h) (Or.inl ⟨by rfl, ?_⟩) ?_ ?_
            rotate_left
            ·intro w'; go_simp; with_reducible rfl
            rotate_left
            ·simp only [Act.put, zA, zB, zC, i64_w, i32_w]; rfl
            refine pure_ (i := 3) (N := some 57) (v := ?_) (a' := ?_) (bf 16 15) rfl rfl (by kernel_rfl) (fun _ _ _ h => h) (Or.inl ⟨by rfl, ?_⟩) ?_ ?_
            rotate_left
            ·intro w'; go_simp; with_reducible rfl
            rotate_left
            ·simp only [Act.put, zA, zB, zC, i64_w, i32_w]; rfl
            refine pure_ (i := 4) (N := some 58) (v := ?_) (a' := ?_) (bf 16 31) rfl rfl (by kernel_rfl) (fun _ _ _ h => h) (Or.inl ⟨by rfl, ?_⟩) ?_ ?_
            rotate_left
            ·intro w'; go_simp; with_reducible rfl
            rotate_left
            ·simp only [Act.put, zA, zB, zC, i64_w, i32_w]; rfl
            refine pure_ (i := 5) (N := some 59) (v := ?_) (a' := ?_) (bf 16 63) rfl rfl (by kernel_rfl) (fun _ _ _ h => h) (Or.inl ⟨by rfl, ?_⟩) ?_ ?_
            rotate_left
            ·intro w'; go_simp; with_reducible rfl
            rotate_left
            ·simp only [Act.put, zA, zB, zC, i64_w, i32_w]; rfl
            refine pure_ (i := 6) (N := some 60) (v := ?_) (a' := ?_) (bf 16 127) rfl rfl (by kernel_rfl) (fun _ _ _ h => h) (Or.inl ⟨by rfl, ?_⟩) ?_ ?_
            rotate_left
            ·intro w'; go_simp; with_reducible rfl
            rotate_left
            ·simp only [Act.put, zA, zB, zC, i64_w, i32_w]; rfl
            refine take_ (i := 7) (N := some 61) (v := ?_) (a' := ?_) (bf 16 255) rfl rfl (by kernel_rfl) (fun _ _ _ h => h) (Or.inl ⟨by rfl, ?_⟩) hHeld ?_ ?_
            rotate_left
            ·rintro w' ⟨s0, s1⟩; go_simp; with_reducible rfl
            rotate_left
            ·simp only [Act.put, zA, zB, zC, i64_w, i32_w]; rfl
            refine pure_ (i := 8) (N := some 62) (v := ?_) (a' := ?_) (bf 16 511) rfl rfl (by kernel_rfl) (fun _ _ _ h => h) (Or.inl ⟨by rfl, ?_⟩) ?_ ?_
            rotate_left
            ·intro w'; go_simp; with_reducible rfl
            rotate_left
            ·simp only [Act.put, zA, zB, zC, i64_w, i32_w]; rfl
            refine pure_ (i := 9) (N := some 63) (v := ?_) (a' := ?_) (bf 16 1023) rfl rfl (by kernel_rfl) (fun _ _ _ h => h) (Or.inl ⟨by rfl, ?_⟩) ?_ ?_
            rotate_left
            ·intro w'; go_simp; with_reducible rfl
            rotate_left
            ·simp only [Act.put, zA, zB, zC, i64_w, i32_w]; rfl
            refine pure_ (i := 10) (N := some 64) (v := ?_) (a' := ?_) (bf 16 2047) rfl rfl (by kernel_rfl) (fun _ _ _ h => h) (Or.inl ⟨by rfl, ?_⟩) ?_ ?_
            rotate_left
            ·intro w'; go_simp; with_reducible rfl
            rotate_left
            ·simp only [Act.put, zA, zB, zC, i64_w, i32_w]; rfl
            refine take_ (i := 11) (N := some 65) (v := ?_) (a' := ?_) (bf 16 4095) rfl rfl (by kernel_rfl) (fun _ _ _ h => h) (Or.inl ⟨by rfl, ?_⟩) hHeld ?_ ?_
            rotate_left
            ·rintro w' ⟨s0, s1⟩; go_simp; with_reducible rfl
            rotate_left
            ·simp only [Act.put, zA, zB, zC, i64_w, i32_w]; rfl
            refine pure_ (i := 12) (N := some 66) (v := ?_) (a' := ?_) (bf 16 8191) rfl rfl (by kernel_rfl) (fun _ _ _ h => h) (Or.inl ⟨by rfl, ?_⟩) ?_ ?_
            rotate_left
            ·intro w'; go_simp; with_reducible rfl
            rotate_left
            ·simp only [Act.put, zA, zB, zC, i64_w, i32_w]; rfl
            refine last_ (i := 13) (N := none) (bf 16 16383) rfl rfl (by kernel_rfl) (by decide) (fun K hK => ?_)
            refine skip_ (w1 := ?_) (by rfl) rfl ?_ ?_
            rotate_left
            ·go_simp
             rfl
            refine hK.out _ _ ?_
            clear hK K
            have hx3 := cell_off (v := .slice A1 (rd_L1 x6_2 x29_2).length c1_) hx1 HNE.out
            have hf3 := froz_off (i := x10_12.toNat) (v := .slice A1 (rd_L1 x6_2 x29_2).length c1_) hf2
            refine pure_ (i := 14) (N := some 67) (v := ?_) (a' := ?_) (bf 16 32767) rfl rfl (by kernel_rfl) (fun _ _ _ h => h) (Or.inl ⟨by rfl, ?_⟩) ?_ ?_
            rotate_left
            ·intro w'; go_simp; with_reducible rfl
            rotate_left
            ·simp only [Act.put, zA, zB, zC, i64_w, i32_w]; rfl
            refine last_ (i := 15) (N := none) (bf 16 65535) rfl rfl (by kernel_rfl) (by decide) (fun K hK => ?_)
            refine skip_ (w1 := ?_) (by rfl) rfl ?_ ?_
            rotate_left
            ·go_simp
             rfl
            refine hK.out _ _ ?_
            clear hK K
            refine done_ (by kernel_rfl) ?_
            have HO170 := za0.mk (S_swap rfl ([] : List Int) HO_6.out (i := x10_12.toNat) (j := x29_2.toNat) (by have := HBB.out; omega) (by have := HBB.out; omega) hx2 hx1)
            rw [hsw] at HO170
            have n1_ := za0.mk (ze0 (ze0 HB.out HGB.out) HGB.out : Below w.heap.size w ((w26.setCell ⟨go26, x10_12.toNat, none⟩ (.slice A1 (rd_L1 x6_2 x29_2).length c1_)).setCell ⟨go26, x29_2.toNat, none⟩ (.slice A2 (rd_L1 x6_2 x10_12).length c2_)))
            clear HB
            have HB := n1_
            clear n1_ hx1 hx2 hx3 hf1 hf2 hf3 hHeld
            try go_wp2
            go_meet
            case rel => exact ⟨_, (wrap64 (-x4_2)), (t168), (by first | rfl | (simp; done) | (simp [*]; done)), H', ⟨by have := HK1.out; have := HK2.out; have := HJ12.out; first | omega | exact Nat.le_refl _⟩, ⟨by (with_reducible repeat (first | apply Kd.S_alloc | apply Kd.S_drewN | apply Kd.S_drew)); exact Kd.S_mono HO170.out (fun _ hk => trivial)⟩, ⟨by repeat (first | (with_reducible first | exact HB.out | apply zc0 | apply zb0 | apply zd0) | exact HB.out)⟩⟩
          case rest =>
           clear HC23
           try clear c1
           try clear p1
           try clear q1
           try clear hx1
           try clear c2
           try clear p2
           try clear c3
           try clear c4
           try clear c4b0
           try clear c5
           try clear c5b0
           try clear c6
           try clear c6b0
           try clear p6
           try clear c8
           try clear c11
           try clear c12
           try clear c12b0
           try clear c14
           try clear c14b0
           try clear c15
           try clear c15b0
           try clear p15
           try clear q15
           try clear hx15
           try clear c16
           try clear c16b0
           try clear p16
           try clear q16
           try clear hx16
           try clear c17
           try clear c17b0
           try clear c18
           try clear c18b0
           try clear c19
           try clear c19b0
           try clear c19b1
           try clear c22
           try clear c22b0
           try clear c22b1
           try clear c24
           try clear c24b0
           try clear c24b1
           try clear hx159_0
           try clear hx166_0
           try clear hx167_0
           try clear p1
           try clear p15
           try clear p159
           try clear p16
           try clear p166
           try clear p167
           try clear p2
           try clear p6
           try clear q1
           try clear q15
           try clear q159
           try clear q16
           try clear q166
           try clear q167
           obtain ⟨kq, x4_22, x6_22, rfl, HA, HJ22, HO_6, HB⟩ := hcut
           cases kq with
           | zero => exact absurd HA.out (by simp [impl_determinant.j4])
           | succ kj22 =>
            have H := HA.out
            clear HA
            simp only [impl_determinant.j4] at H
            have H' := za0.mk H
            clear H
            go_wp2
            go_loopg [11] kj22 (fun kq v11 w' => ∃ (x6_5 : List (List Int)) (x11_5 : Int), v11 = .int .i64 x11_5 ∧ za0 (impl_determinant.l3 kq (l0.length : Int) x4_22 x5_2 x6_5 x29_2 x11_5 (l0.length : Int) x29_2 = some r) ∧ za0 (kq ≤ kj22) ∧ za0 (Kd.S (Kd.slice 3 (Kd.int .i64)) 25 w' w.heap.size (fun _ => True) u6 x6_5) ∧ za0 (Below w.heap.size w w'))
            case atStart => exact ⟨(x6_22), (wrap64 (x29_2 + 1)), (by first | rfl | (simp; done) | (simp [*]; done)), H', ⟨Nat.le_refl _⟩, ⟨by (with_reducible repeat (first | apply Kd.S_alloc | apply Kd.S_drewN | apply Kd.S_drew)); exact HO_6.out⟩, ⟨by repeat (first | (with_reducible first | exact HB.out | apply zc0 | apply zb0 | apply zd0) | exact HB.out)⟩⟩
            case round =>
             clear H'
             try clear c1
             try clear p1
             try clear q1
             try clear hx1
             try clear c2
             try clear p2
             try clear c3
             try clear c4
             try clear c4b0
             try clear c5
             try clear c5b0
             try clear c6
             try clear c6b0
             try clear p6
             try clear c8
             try clear c11
             try clear c12
             try clear c12b0
             try clear c14
             try clear c14b0
             try clear c15
             try clear c15b0
             try clear p15
             try clear q15
             try clear hx15
             try clear c16
             try clear c16b0
             try clear p16
             try clear q16
             try clear hx16
             try clear c17
             try clear c17b0
             try clear c18
             try clear c18b0
             try clear c19
             try clear c19b0
             try clear c19b1
             try clear c22
             try clear c22b0
             try clear c22b1
             try clear c24
             try clear c24b0
             try clear c24b1
             try clear hx159_0
             try clear hx166_0
             try clear hx167_0
             try clear p1
             try clear p15
             try clear p159
             try clear p16
             try clear p166
             try clear p167
             try clear p2
             try clear p6
             try clear q1
             try clear q15
             try clear q159
             try clear q16
             try clear q166
             try clear q167
             obtain ⟨x6_5, x11_5, rfl, HA, HK5, HO_6, HB⟩ := hrel
             cases gk with
             | zero => exact absurd HA.out (by simp [impl_determinant.l3])
             | succ k5 =>
              have H := HA.out
              clear HA
              simp only [impl_determinant.l3] at H
              by_cases c28 : x11_5 < (l0.length : Int)
              ·rw [if_pos c28] at H
               have c28b0 : decide (x11_5 < (l0.length : Int)) = true := decide_eq_true c28
               clear c28
               have H' := za0.mk H
               clear H
               go_wp2
               go_loopg [12] k5 (fun kq v12 w' => ∃ (x6_6 : List (List Int)) (x12_6 : Int), v12 = .int .i64 x12_6 ∧ za0 (impl_determinant.l4 kq (l0.length : Int) x4_22 x5_2 x6_6 x29_2 x11_5 x12_6 (l0.length : Int) x29_2 = some r) ∧ za0 (kq ≤ k5) ∧ za0 (Kd.S (Kd.slice 3 (Kd.int .i64)) 25 w' w.heap.size (fun _ => True) u6 x6_6) ∧ za0 (Below w.heap.size w w'))
               case atStart => exact ⟨(x6_5), (wrap64 (x29_2 + 1)), (by first | rfl | (simp; done) | (simp [*]; done)), H', ⟨Nat.le_refl _⟩, ⟨by (with_reducible repeat (first | apply Kd.S_alloc | apply Kd.S_drewN | apply Kd.S_drew)); exact HO_6.out⟩, ⟨by repeat (first | (with_reducible first | exact HB.out | apply zc0 | apply zb0 | apply zd0) | exact HB.out)⟩⟩
               case round =>
                clear H'
                try clear c1
                try clear p1
                try clear q1
                try clear hx1
                try clear c2
                try clear p2
                try clear c3
                try clear c4
                try clear c4b0
                try clear c5
                try clear c5b0
                try clear c6
                try clear c6b0
                try clear p6
                try clear c8
                try clear c11
                try clear c12
                try clear c12b0
                try clear c14
                try clear c14b0
                try clear c15
                try clear c15b0
                try clear p15
                try clear q15
                try clear hx15
                try clear c16
                try clear c16b0
                try clear p16
                try clear q16
                try clear hx16
                try clear c17
                try clear c17b0
                try clear c18
                try clear c18b0
                try clear c19
                try clear c19b0
                try clear c19b1
                try clear c22
                try clear c22b0
                try clear c22b1
                try clear c24
                try clear c24b0
                try clear c24b1
                try clear c28
                try clear c28b0
                try clear hx159_0
                try clear hx166_0
                try clear hx167_0
                try clear p1
                try clear p15
                try clear p159
                try clear p16
                try clear p166
                try clear p167
                try clear p2
                try clear p6
                try clear q1
                try clear q15
                try clear q159
                try clear q16
                try clear q166
                try clear q167
                obtain ⟨x6_6, x12_6, rfl, HA, HK6, HO_6, HB⟩ := hrel
                cases gk with
                | zero => exact absurd HA.out (by simp [impl_determinant.l4])
                | succ k6 =>
                 have H := HA.out
                 clear HA
                 simp only [impl_determinant.l4] at H
                 by_cases c29 : x12_6 < (l0.length : Int)
                 ·rw [if_pos c29] at H
                  have c29b0 : decide (x12_6 < (l0.length : Int)) = true := decide_eq_true c29
                  clear c29
                  by_cases c30 : 0 ≤ x11_5
                  ·rw [if_pos c30] at H
                   have c30b0 : decide (0 ≤ x11_5) = true := decide_eq_true c30
                   clear c30
                   by_cases c31 : x11_5 < (x6_6.length : Int)
                   ·rw [if_pos c31] at H
                    have c31b0 : decide (x11_5 < (x6_6.length : Int)) = true := decide_eq_true c31
                    clear c31
                    by_cases c32 : 0 ≤ x12_6
                    ·rw [if_pos c32] at H
                     have c32b0 : decide (0 ≤ x12_6) = true := decide_eq_true c32
                     clear c32
                     by_cases c33 : x12_6 < ((rd_L1 x6_6 x11_5).length : Int)
                     ·rw [if_pos c33] at H
                      have c33b0 : decide (x12_6 < ((rd_L1 x6_6 x11_5).length : Int)) = true := decide_eq_true c33
                      clear c33
                      by_cases c34 : 0 ≤ x29_2
                      ·rw [if_pos c34] at H
                       have c34b0 : decide (0 ≤ x29_2) = true := decide_eq_true c34
                       clear c34
                       by_cases c35 : x29_2 < (x6_6.length : Int)
                       ·rw [if_pos c35] at H
                        have c35b0 : decide (x29_2 < (x6_6.length : Int)) = true := decide_eq_true c35
                        clear c35
                        by_cases c36 : x29_2 < ((rd_L1 x6_6 x29_2).length : Int)
                        ·rw [if_pos c36] at H
                         have c36b0 : decide (x29_2 < ((rd_L1 x6_6 x29_2).length : Int)) = true := decide_eq_true c36
                         clear c36
                         by_cases c37 : x29_2 < ((rd_L1 x6_6 x11_5).length : Int)
                         ·rw [if_pos c37] at H
                          have c37b0 : decide (x29_2 < ((rd_L1 x6_6 x11_5).length : Int)) = true := decide_eq_true c37
                          clear c37
                          by_cases c38 : x12_6 < ((rd_L1 x6_6 x29_2).length : Int)
                          ·rw [if_pos c38] at H
                           have c38b0 : decide (x12_6 < ((rd_L1 x6_6 x29_2).length : Int)) = true := decide_eq_true c38
                           clear c38
                           by_cases c39 : x5_2 = 0
                           ·rw [if_pos c39] at H
                            exact absurd H (by simp)
                           ·rw [if_neg c39] at H
                            have c39b0 : (x5_2 == 0) = false := beq_eq_false_iff_ne.mpr c39
                            have c39b1 : (x5_2 != 0) = true := bne_iff_ne.mpr c39
                            obtain ⟨y182, hy182⟩ : ∃ y_ : List Int, y_ = ((rd_L1 x6_6 x11_5).set (x12_6 : Int).toNat (wrap64 (Int.tdiv (wrap64 ((wrap64 ((rd (rd_L1 x6_6 x11_5) x12_6) * (rd (rd_L1 x6_6 x29_2) x29_2))) - (wrap64 ((rd (rd_L1 x6_6 x11_5) x29_2) * (rd (rd_L1 x6_6 x29_2) x12_6))))) x5_2))) := ⟨_, rfl⟩
                            replace H : (impl_determinant.l4 k6 (l0.length : Int) x4_22 x5_2 (x6_6.set (x11_5 : Int).toNat y182) x29_2 x11_5 (wrap64 (x12_6 + 1)) (l0.length : Int) x29_2) = some r := by first | (rw [hy182]; with_reducible exact H) | (have H2_ := (Option.bind_some _ _).symm.trans H; rw [hy182]; with_reducible exact H2_) | (have H2_ := (Option.bind_some _ _).symm.trans H; with_reducible exact H2_) | with_reducible exact H | (rw [hy182]; exact H) | exact H
                            have Ny182 := za0.mk hy182
                            clear hy182
                            obtain ⟨y184, hy184⟩ : ∃ y_ : List (List Int), y_ = (x6_6.set (x11_5 : Int).toNat y182) := ⟨_, rfl⟩
                            replace H : (impl_determinant.l4 k6 (l0.length : Int) x4_22 x5_2 y184 x29_2 x11_5 (wrap64 (x12_6 + 1)) (l0.length : Int) x29_2) = some r := by first | (rw [hy184]; with_reducible exact H) | (have H2_ := (Option.bind_some _ _).symm.trans H; rw [hy184]; with_reducible exact H2_) | (have H2_ := (Option.bind_some _ _).symm.trans H; with_reducible exact H2_) | with_reducible exact H | (rw [hy184]; exact H) | exact H
                            have Ny184 := za0.mk hy184
                            clear hy184
                            have H' := za0.mk H
                            clear H
                            try go_wp2
                            have n0_ := za0.mk (Kd.S_drew HO_6.out)
                            have n1_ := za0.mk (zd0 HB.out)
                            clear HO_6
                            clear HB
                            have HO_6 := n0_
                            have HB := n1_
                            clear n0_ n1_
                            obtain ⟨Ao42, co42, eo42⟩ := Kd.S_slice HO_6.out
                            (first | subst eo42 | (injection eo42 with f1_ f2_ f3_; have f4_ := f1_.symm; have f5_ := f3_.symm; clear f1_ f2_ f3_; subst f4_; subst f5_))
                            have p173 : 0 ≤ (x11_5 : Int) := of_decide_eq_true (by first | (with_reducible assumption) | assumption)
                            have q173 : x11_5 < (x6_6.length : Int) := of_decide_eq_true (by first | (with_reducible assumption) | assumption)
                            obtain ⟨ad173, A173_0, c173_0, e173, hx173_0, hl173_0, hi173_0⟩ := at_L1 (Kd.S_reads' HO_6.out).2.2 x11_5 p173 q173
                            cases e173
                            obtain ⟨ce173, hce173, hMe173, hcc173⟩ := Kd.S_get HO_6.out [] x11_5 p173 (by first | exact q173 | exact of_decide_eq_true (by first | (with_reducible assumption) | assumption) | (have e_ := (Kd.S_reads' HO_6.out).1; omega))
                            obtain ⟨ve173_0, rfl, ge173_0⟩ := hMe173
                            have hv173_0 := hcc173 0 _ rfl
                            rw [Nat.add_zero, show ((Kd.slice 3 (Kd.int .i64))).sz = 1 from rfl, Nat.mul_one] at hv173_0
                            replace hv173_0 := Option.some.inj (hv173_0.symm.trans hx173_0)
                            rw [hv173_0] at ge173_0
                            have HL173_0 := za0.mk (show Kd.R (Kd.int .i64) 3 _ _ _ _ (rd_L1 x6_6 x11_5) from ge173_0)
                            clear hv173_0 ge173_0
                            have HX173_0 := za0.mk hx173_0
                            clear hcc173 hce173
                            have HR173_0 := za0.mk hi173_0
                            have HC173_0 := za0.mk hl173_0
                            clear hi173_0 hl173_0
                            replace p173 := eq_true p173
                            replace q173 := eq_true q173
                            have p174 : 0 ≤ (x11_5 : Int) := of_decide_eq_true (by first | (with_reducible assumption) | assumption)
                            have q174 : x11_5 < (x6_6.length : Int) := of_decide_eq_true (by first | (with_reducible assumption) | assumption)
                            obtain ⟨ad174, A174_0, c174_0, e174, hx174_0, hl174_0, hi174_0⟩ := at_L1 (Kd.S_reads' HO_6.out).2.2 x11_5 p174 q174
                            obtain rfl : ad173 = ad174 := (by injection e174)
                            obtain ⟨ce174, hce174, hMe174, hcc174⟩ := Kd.S_get HO_6.out [] x11_5 p174 (by first | exact q174 | exact of_decide_eq_true (by first | (with_reducible assumption) | assumption) | (have e_ := (Kd.S_reads' HO_6.out).1; omega))
                            obtain ⟨ve174_0, rfl, ge174_0⟩ := hMe174
                            have hv174_0 := hcc174 0 _ rfl
                            rw [Nat.add_zero, show ((Kd.slice 3 (Kd.int .i64))).sz = 1 from rfl, Nat.mul_one] at hv174_0
                            replace hv174_0 := Option.some.inj (hv174_0.symm.trans hx174_0)
                            rw [hv174_0] at ge174_0
                            have HL174_0 := za0.mk (show Kd.R (Kd.int .i64) 3 _ _ _ _ (rd_L1 x6_6 x11_5) from ge174_0)
                            clear hv174_0 ge174_0
                            have HX174_0 := za0.mk hx174_0
                            clear hcc174 hce174
                            have HR174_0 := za0.mk hi174_0
                            have HC174_0 := za0.mk hl174_0
                            clear hi174_0 hl174_0
                            replace p174 := eq_true p174
                            replace q174 := eq_true q174
                            have ea_ := Option.some.inj (hx173_0.symm.trans hx174_0)
                            injection ea_ with ea_ en_ ec_
                            subst ea_
                            subst ec_
                            clear en_
                            have p175 : 0 ≤ (x12_6 : Int) := of_decide_eq_true (by first | (with_reducible assumption) | assumption)
                            have q175 : x12_6 < ((rd_L1 x6_6 x11_5).length : Int) := of_decide_eq_true (by first | (with_reducible assumption) | assumption)
                            obtain ⟨ad175, e175, hx175_0⟩ := Kd.at_int (by repeat (first | (with_reducible exact HR174_0.out) | (with_reducible refine Kd.C_alloc ?_ _) | (with_reducible refine Kd.C_drewN ?_ _) | (with_reducible refine Kd.C_drew ?_) | exact HR174_0.out)) x12_6 p175 q175
                            cases e175
                            replace p175 := eq_true p175
                            replace q175 := eq_true q175
                            have p176 : 0 ≤ (x29_2 : Int) := of_decide_eq_true (by first | (with_reducible assumption) | assumption)
                            have q176 : x29_2 < (x6_6.length : Int) := of_decide_eq_true (by first | (with_reducible assumption) | assumption)
                            obtain ⟨ad176, A176_0, c176_0, e176, hx176_0, hl176_0, hi176_0⟩ := at_L1 (Kd.S_reads' HO_6.out).2.2 x29_2 p176 q176
                            obtain rfl : ad173 = ad176 := (by injection e176)
                            obtain ⟨ce176, hce176, hMe176, hcc176⟩ := Kd.S_get HO_6.out [] x29_2 p176 (by first | exact q176 | exact of_decide_eq_true (by first | (with_reducible assumption) | assumption) | (have e_ := (Kd.S_reads' HO_6.out).1; omega))
                            obtain ⟨ve176_0, rfl, ge176_0⟩ := hMe176
                            have hv176_0 := hcc176 0 _ rfl
                            rw [Nat.add_zero, show ((Kd.slice 3 (Kd.int .i64))).sz = 1 from rfl, Nat.mul_one] at hv176_0
                            replace hv176_0 := Option.some.inj (hv176_0.symm.trans hx176_0)
                            rw [hv176_0] at ge176_0
                            have HL176_0 := za0.mk (show Kd.R (Kd.int .i64) 3 _ _ _ _ (rd_L1 x6_6 x29_2) from ge176_0)
                            clear hv176_0 ge176_0
                            have HX176_0 := za0.mk hx176_0
                            clear hcc176 hce176
                            have HR176_0 := za0.mk hi176_0
                            have HC176_0 := za0.mk hl176_0
                            clear hi176_0 hl176_0
                            replace p176 := eq_true p176
                            replace q176 := eq_true q176
                            have p177 : 0 ≤ (x29_2 : Int) := of_decide_eq_true (by first | (with_reducible assumption) | assumption)
                            have q177 : x29_2 < ((rd_L1 x6_6 x29_2).length : Int) := of_decide_eq_true (by first | (with_reducible assumption) | assumption)
                            obtain ⟨ad177, e177, hx177_0⟩ := Kd.at_int (by repeat (first | (with_reducible exact HR176_0.out) | (with_reducible refine Kd.C_alloc ?_ _) | (with_reducible refine Kd.C_drewN ?_ _) | (with_reducible refine Kd.C_drew ?_) | exact HR176_0.out)) x29_2 p177 q177
                            cases e177
                            replace p177 := eq_true p177
                            replace q177 := eq_true q177
                            have p178 : 0 ≤ (x11_5 : Int) := of_decide_eq_true (by first | (with_reducible assumption) | assumption)
                            have q178 : x11_5 < (x6_6.length : Int) := of_decide_eq_true (by first | (with_reducible assumption) | assumption)
                            obtain ⟨ad178, A178_0, c178_0, e178, hx178_0, hl178_0, hi178_0⟩ := at_L1 (Kd.S_reads' HO_6.out).2.2 x11_5 p178 q178
                            obtain rfl : ad173 = ad178 := (by injection e178)
                            obtain ⟨ce178, hce178, hMe178, hcc178⟩ := Kd.S_get HO_6.out [] x11_5 p178 (by first | exact q178 | exact of_decide_eq_true (by first | (with_reducible assumption) | assumption) | (have e_ := (Kd.S_reads' HO_6.out).1; omega))
                            obtain ⟨ve178_0, rfl, ge178_0⟩ := hMe178
                            have hv178_0 := hcc178 0 _ rfl
                            rw [Nat.add_zero, show ((Kd.slice 3 (Kd.int .i64))).sz = 1 from rfl, Nat.mul_one] at hv178_0
                            replace hv178_0 := Option.some.inj (hv178_0.symm.trans hx178_0)
                            rw [hv178_0] at ge178_0
                            have HL178_0 := za0.mk (show Kd.R (Kd.int .i64) 3 _ _ _ _ (rd_L1 x6_6 x11_5) from ge178_0)
                            clear hv178_0 ge178_0
                            have HX178_0 := za0.mk hx178_0
                            clear hcc178 hce178
                            have HR178_0 := za0.mk hi178_0
                            have HC178_0 := za0.mk hl178_0
                            clear hi178_0 hl178_0
                            replace p178 := eq_true p178
                            replace q178 := eq_true q178
                            have ea_ := Option.some.inj (hx173_0.symm.trans hx178_0)
                            injection ea_ with ea_ en_ ec_
                            subst ea_
                            subst ec_
                            clear en_
                            have p179 : 0 ≤ (x29_2 : Int) := of_decide_eq_true (by first | (with_reducible assumption) | assumption)
                            have q179 : x29_2 < ((rd_L1 x6_6 x11_5).length : Int) := of_decide_eq_true (by first | (with_reducible assumption) | assumption)
                            obtain ⟨ad179, e179, hx179_0⟩ := Kd.at_int (by repeat (first | (with_reducible exact HR178_0.out) | (with_reducible refine Kd.C_alloc ?_ _) | (with_reducible refine Kd.C_drewN ?_ _) | (with_reducible refine Kd.C_drew ?_) | exact HR178_0.out)) x29_2 p179 q179
                            cases e179
                            replace p179 := eq_true p179
                            replace q179 := eq_true q179
                            have p180 : 0 ≤ (x29_2 : Int) := of_decide_eq_true (by first | (with_reducible assumption) | assumption)
                            have q180 : x29_2 < (x6_6.length : Int) := of_decide_eq_true (by first | (with_reducible assumption) | assumption)
                            obtain ⟨ad180, A180_0, c180_0, e180, hx180_0, hl180_0, hi180_0⟩ := at_L1 (Kd.S_reads' HO_6.out).2.2 x29_2 p180 q180
                            obtain rfl : ad173 = ad180 := (by injection e180)
                            obtain ⟨ce180, hce180, hMe180, hcc180⟩ := Kd.S_get HO_6.out [] x29_2 p180 (by first | exact q180 | exact of_decide_eq_true (by first | (with_reducible assumption) | assumption) | (have e_ := (Kd.S_reads' HO_6.out).1; omega))
                            obtain ⟨ve180_0, rfl, ge180_0⟩ := hMe180
                            have hv180_0 := hcc180 0 _ rfl
                            rw [Nat.add_zero, show ((Kd.slice 3 (Kd.int .i64))).sz = 1 from rfl, Nat.mul_one] at hv180_0
                            replace hv180_0 := Option.some.inj (hv180_0.symm.trans hx180_0)
                            rw [hv180_0] at ge180_0
                            have HL180_0 := za0.mk (show Kd.R (Kd.int .i64) 3 _ _ _ _ (rd_L1 x6_6 x29_2) from ge180_0)
                            clear hv180_0 ge180_0
                            have HX180_0 := za0.mk hx180_0
                            clear hcc180 hce180
                            have HR180_0 := za0.mk hi180_0
                            have HC180_0 := za0.mk hl180_0
                            clear hi180_0 hl180_0
                            replace p180 := eq_true p180
                            replace q180 := eq_true q180
                            have ea_ := Option.some.inj (hx176_0.symm.trans hx180_0)
                            injection ea_ with ea_ en_ ec_
                            subst ea_
                            subst ec_
                            clear en_
                            have p181 : 0 ≤ (x12_6 : Int) := of_decide_eq_true (by first | (with_reducible assumption) | assumption)
                            have q181 : x12_6 < ((rd_L1 x6_6 x29_2).length : Int) := of_decide_eq_true (by first | (with_reducible assumption) | assumption)
                            obtain ⟨ad181, e181, hx181_0⟩ := Kd.at_int (by repeat (first | (with_reducible exact HR180_0.out) | (with_reducible refine Kd.C_alloc ?_ _) | (with_reducible refine Kd.C_drewN ?_ _) | (with_reducible refine Kd.C_drew ?_) | exact HR180_0.out)) x12_6 p181 q181
                            cases e181
                            replace p181 := eq_true p181
                            replace q181 := eq_true q181
                            have p40 : 0 ≤ (x12_6 : Int) := of_decide_eq_true (by first | (with_reducible assumption) | assumption)
                            have q40 : (x12_6 : Int) < (((rd_L1 x6_6 x11_5).length : Int) : Int) := of_decide_eq_true (by first | (with_reducible assumption) | assumption)
                            obtain ⟨go40, co40, eo40, gb40, gl40, cl40, HG40⟩ := Kd.R_form HL173_0.out (by omega)
                            (first | cases eo40 | (injection eo40 with ea_ en_ ec_; (first | subst ea_ | (injection ea_ with ea_; subst ea_)); subst ec_; clear en_))
                            have GB40 := za0.mk gb40
                            have GG40 := za0.mk HG40
                            clear gb40 gl40 HG40
                            (first | simp only [add_plain] at hx179_0 | skip)
                            obtain ⟨hx40_0, hf40_0⟩ := Kd.R_celln 0 HL173_0.out (x12_6 : Int) p40 q40
                            replace p40 := eq_true p40
                            replace q40 := eq_true q40
                            have hq43 : (x11_5 : Int) < (x6_6.length : Int) := (by have h_ : (x11_5 : Int) < ((x6_6.length : Int) : Int) := of_decide_eq_true (by first | (with_reducible assumption) | assumption); first | exact h_ | (have e_ := (Kd.S_reads' HO_6.out).1; omega) | simpa only [List.length_set, List.length_set] using h_)
                            obtain ⟨oki43, ce43, hcl43, hM43, hcc43, hok43, hbk43⟩ := Kd.S_borrow HO_6.out [] (x11_5 : Int) (of_decide_eq_true (by first | (with_reducible assumption) | assumption)) hq43
                            obtain ⟨ve43_0, rfl, ge43_0⟩ := hM43
                            have hv43 := hcc43 0 _ rfl
                            rw [Nat.add_zero, show ((Kd.slice 3 (Kd.int .i64))).sz = 1 from rfl, Nat.mul_one] at hv43
                            replace hv43 := Option.some.inj (hv43.symm.trans HX173_0.out)
                            subst hv43
                            clear hcc43 hcl43
                            replace ge43_0 := (show Kd.R (Kd.int .i64) 3 _ _ _ _ (rd_L1 x6_6 x11_5) from ge43_0)
                            have HP43 := Kd.R_putg ge43_0 (x12_6 : Int) (wrap64 (Int.tdiv (wrap64 ((wrap64 ((rd (rd_L1 x6_6 x11_5) x12_6) * (rd (rd_L1 x6_6 x29_2) x29_2))) - (wrap64 ((rd (rd_L1 x6_6 x11_5) x29_2) * (rd (rd_L1 x6_6 x29_2) x12_6))))) x5_2))
                            rw [← Ny182.out] at HP43
                            have HS43 := hbk43 HP43.2 (fun k_ e_ => by injection e_ with e_; subst e_; exact ge43_0.1 _ rfl) (x' := y182) (Kd.M_row HP43.1)
                            rw [← Ny184.out] at HS43
                            have HQ43 := za0.mk HS43
                            clear HP43 HS43 hbk43 hok43
                            (try simp only [add_plain] at hx175_0)
                            refine start_ (n := 40) (S := fun w' => w'.cell? (ad173.add (x11_5).toNat) = some (.slice (some ⟨go40, 0, none⟩) (rd_L1 x6_6 x11_5).length c173_0) ∧ w'.cell? (ad173.add (x11_5).toNat) = some (.slice (some ⟨go40, 0, none⟩) (rd_L1 x6_6 x11_5).length c173_0) ∧ w'.cell? ⟨go40, (x12_6).toNat, none⟩ = some (.int .i64 (rd (rd_L1 x6_6 x11_5) x12_6)) ∧ w'.cell? (ad173.add (x29_2).toNat) = some (.slice (some ad177) (rd_L1 x6_6 x29_2).length c176_0) ∧ w'.cell? (ad177.add (x29_2).toNat) = some (.int .i64 (rd (rd_L1 x6_6 x29_2) x29_2)) ∧ w'.cell? (ad173.add (x11_5).toNat) = some (.slice (some ⟨go40, 0, none⟩) (rd_L1 x6_6 x11_5).length c173_0) ∧ w'.cell? ⟨go40, (x29_2).toNat, none⟩ = some (.int .i64 (rd (rd_L1 x6_6 x11_5) x29_2)) ∧ w'.cell? (ad173.add (x29_2).toNat) = some (.slice (some ad177) (rd_L1 x6_6 x29_2).length c176_0) ∧ w'.cell? (ad177.add (x12_6).toNat) = some (.int .i64 (rd (rd_L1 x6_6 x29_2) x12_6))) (ds := [39]) #[false, false, false, false, false, false, false, false, false, false, false, false, false, false, false, false, false, false, false, false, false, false, false, false, false, false, false, false, false, false, false, false, false, false, false, false, false, false, false, false] (by kernel_rfl) rfl rfl ⟨hx173_0, hx174_0, hx175_0, hx176_0, hx177_0, hx178_0, hx179_0, hx180_0, hx181_0⟩ (fun hHeld => ?_); refine with_tabW impl_determinant.tab25 impl_determinant.bits25 (fun HT_ HW_ => ?_)
                            generalize wr.drew = w41 at HO_6 HB GG40 HL173_0 HL174_0 HL176_0 HL178_0 HL180_0 HQ43 HR173_0 HR174_0 HR176_0 HR178_0 HR180_0 HX173_0 HX174_0 HX176_0 HX178_0 HX180_0 hf40_0 hx173_0 hx174_0 hx175_0 hx176_0 hx177_0 hx178_0 hx179_0 hx180_0 hx181_0 hx40_0 hHeld ⊢
                            refine pure_ (i := 0) (N := some 84) (v := ?_) (a' := ?_) (bf 40 1) rfl rfl (any_of HT_.out (by kernel_rfl)) (fun _ _ _ h => h) (Or.inl ⟨by rfl, ?_⟩) ?_ ?_
                            rotate_left
                            ·intro w'; go_simp; with_reducible rfl
                            rotate_left
                            ·simp only [Act.put, zA, zB, zC, i64_w, i32_w]; rfl
                            refine pure_ (i := 1) (N := some 85) (v := ?_) (a' := ?_) (bf 40 3) rfl rfl (any_of HT_.out (by kernel_rfl)) (fun _ _ _ h => h) (Or.inl ⟨by rfl, ?_⟩) ?_ ?_
                            rotate_left
                            ·intro w'; go_simp; with_reducible rfl
                            rotate_left
                            ·simp only [Act.put, zA, zB, zC, i64_w, i32_w]; rfl
                            refine pure_ (i := 2) (N := some 86) (v := ?_) (a' := ?_) (bf 40 7) rfl rfl (any_of HT_.out (by kernel_rfl)) (fun _ _ _ h => h) (Or.inl ⟨by rfl, ?_⟩) ?_ ?_
                            rotate_left
                            ·intro w'; go_simp; with_reducible rfl
                            rotate_left
                            ·simp only [Act.put, zA, zB, zC, i64_w, i32_w]; rfl
                            refine pure_ (i := 4) (N := some 88) (v := ?_) (a' := ?_) (bf 40 23) rfl rfl (any_of HT_.out (by kernel_rfl)) (fun _ _ _ h => h) (Or.inl ⟨by rfl, ?_⟩) ?_ ?_
                            rotate_left
                            ·intro w'; go_simp; with_reducible rfl
                            rotate_left
                            ·simp only [Act.put, zA, zB, zC, i64_w, i32_w]; rfl
                            refine pure_ (i := 5) (N := some 89) (v := ?_) (a' := ?_) (bf 40 55) rfl rfl (any_of HT_.out (by kernel_rfl)) (fun _ _ _ h => h) (Or.inl ⟨by rfl, ?_⟩) ?_ ?_
                            rotate_left
                            ·intro w'; go_simp; with_reducible rfl
                            rotate_left
                            ·simp only [Act.put, zA, zB, zC, i64_w, i32_w]; rfl
                            refine pure_ (i := 6) (N := some 90) (v := ?_) (a' := ?_) (bf 40 119) rfl rfl (any_of HT_.out (by kernel_rfl)) (fun _ _ _ h => h) (Or.inl ⟨by rfl, ?_⟩) ?_ ?_
                            rotate_left
                            ·intro w'; go_simp; with_reducible rfl
                            rotate_left
                            ·simp only [Act.put, zA, zB, zC, i64_w, i32_w]; rfl
                            refine pure_ (i := 7) (N := some 91) (v := ?_) (a' := ?_) (bf 40 247) rfl rfl (any_of HT_.out (by kernel_rfl)) (fun _ _ _ h => h) (Or.inl ⟨by rfl, ?_⟩) ?_ ?_
                            rotate_left
                            ·intro w'; go_simp; with_reducible rfl
                            rotate_left
                            ·simp only [Act.put, zA, zB, zC, i64_w, i32_w]; rfl
                            refine pure_ (i := 9) (N := some 93) (v := ?_) (a' := ?_) (bf 40 759) rfl rfl (any_of HT_.out (by kernel_rfl)) (fun _ _ _ h => h) (Or.inl ⟨by rfl, ?_⟩) ?_ ?_
                            rotate_left
                            ·intro w'; go_simp; with_reducible rfl
                            rotate_left
                            ·simp only [Act.put, zA, zB, zC, i64_w, i32_w]; rfl
                            refine pure_ (i := 12) (N := some 96) (v := ?_) (a' := ?_) (bf 40 4855) rfl rfl (any_of HT_.out (by kernel_rfl)) (fun _ _ _ h => h) (Or.inl ⟨by rfl, ?_⟩) ?_ ?_
                            rotate_left
                            ·intro w'; go_simp; with_reducible rfl
                            rotate_left
                            ·simp only [Act.put, zA, zB, zC, i64_w, i32_w]; rfl
                            refine pure_ (i := 13) (N := some 97) (v := ?_) (a' := ?_) (bf 40 13047) rfl rfl (any_of HT_.out (by kernel_rfl)) (fun _ _ _ h => h) (Or.inl ⟨by rfl, ?_⟩) ?_ ?_
                            rotate_left
                            ·intro w'; go_simp; with_reducible rfl
                            rotate_left
                            ·simp only [Act.put, zA, zB, zC, i64_w, i32_w]; rfl
                            refine pure_ (i := 14) (N := some 98) (v := ?_) (a' := ?_) (bf 40 29431) rfl rfl (any_of HT_.out (by kernel_rfl)) (fun _ _ _ h => h) (Or.inl ⟨by rfl, ?_⟩) ?_ ?_
                            rotate_left
                            ·intro w'; go_simp; with_reducible rfl
                            rotate_left
                            ·simp only [Act.put, zA, zB, zC, i64_w, i32_w]; rfl
                            refine pure_ (i := 16) (N := some 100) (v := ?_) (a' := ?_) (bf 40 94967) rfl rfl (any_of HT_.out (by kernel_rfl)) (fun _ _ _ h => h) (Or.inl ⟨by rfl, ?_⟩) ?_ ?_
                            rotate_left
                            ·intro w'; go_simp; with_reducible rfl
                            rotate_left
                            ·simp only [Act.put, zA, zB, zC, i64_w, i32_w]; rfl
                            refine pure_ (i := 20) (N := some 104) (v := ?_) (a' := ?_) (bf 40 1143543) rfl rfl (any_of HT_.out (by kernel_rfl)) (fun _ _ _ h => h) (Or.inl ⟨by rfl, ?_⟩) ?_ ?_
                            rotate_left
                            ·intro w'; go_simp; with_reducible rfl
                            rotate_left
                            ·simp only [Act.put, zA, zB, zC, i64_w, i32_w]; rfl
                            refine pure_ (i := 21) (N := some 105) (v := ?_) (a' := ?_) (bf 40 3240695) rfl rfl (any_of HT_.out (by kernel_rfl)) (fun _ _ _ h => h) (Or.inl ⟨by rfl, ?_⟩) ?_ ?_
                            rotate_left
                            ·intro w'; go_simp; with_reducible rfl
                            rotate_left
                            ·simp only [Act.put, zA, zB, zC, i64_w, i32_w]; rfl
                            refine pure_ (i := 22) (N := some 106) (v := ?_) (a' := ?_) (bf 40 7434999) rfl rfl (any_of HT_.out (by kernel_rfl)) (fun _ _ _ h => h) (Or.inl ⟨by rfl, ?_⟩) ?_ ?_
                            rotate_left
                            ·intro w'; go_simp; with_reducible rfl
                            rotate_left
                            ·simp only [Act.put, zA, zB, zC, i64_w, i32_w]; rfl
                            refine pure_ (i := 24) (N := some 108) (v := ?_) (a' := ?_) (bf 40 24212215) rfl rfl (any_of HT_.out (by kernel_rfl)) (fun _ _ _ h => h) (Or.inl ⟨by rfl, ?_⟩) ?_ ?_
                            rotate_left
                            ·intro w'; go_simp; with_reducible rfl
                            rotate_left
                            ·simp only [Act.put, zA, zB, zC, i64_w, i32_w]; rfl
                            refine pure_ (i := 27) (N := some 111) (v := ?_) (a' := ?_) (bf 40 158429943) rfl rfl (any_of HT_.out (by kernel_rfl)) (fun _ _ _ h => h) (Or.inl ⟨by rfl, ?_⟩) ?_ ?_
                            rotate_left
                            ·intro w'; go_simp; with_reducible rfl
                            rotate_left
                            ·simp only [Act.put, zA, zB, zC, i64_w, i32_w]; rfl
                            refine pure_ (i := 28) (N := some 112) (v := ?_) (a' := ?_) (bf 40 426865399) rfl rfl (any_of HT_.out (by kernel_rfl)) (fun _ _ _ h => h) (Or.inl ⟨by rfl, ?_⟩) ?_ ?_
                            rotate_left
                            ·intro w'; go_simp; with_reducible rfl
                            rotate_left
                            ·simp only [Act.put, zA, zB, zC, i64_w, i32_w]; rfl
                            refine pure_ (i := 29) (N := some 113) (v := ?_) (a' := ?_) (bf 40 963736311) rfl rfl (any_of HT_.out (by kernel_rfl)) (fun _ _ _ h => h) (Or.inl ⟨by rfl, ?_⟩) ?_ ?_
                            rotate_left
                            ·intro w'; go_simp; with_reducible rfl
                            rotate_left
                            ·simp only [Act.put, zA, zB, zC, i64_w, i32_w]; rfl
                            refine pure_ (i := 31) (N := some 115) (v := ?_) (a' := ?_) (bf 40 3111219959) rfl rfl (any_of HT_.out (by kernel_rfl)) (fun _ _ _ h => h) (Or.inl ⟨by rfl, ?_⟩) ?_ ?_
                            rotate_left
                            ·intro w'; go_simp; with_reducible rfl
                            rotate_left
                            ·simp only [Act.put, zA, zB, zC, i64_w, i32_w]; rfl
                            refine pure_ (i := 36) (N := some 120) (v := ?_) (a' := ?_) (bf 40 71830696695) rfl rfl (any_of HT_.out (by kernel_rfl)) (fun _ _ _ h => h) (Or.inl ⟨by rfl, ?_⟩) ?_ ?_
                            rotate_left
                            ·intro w'; go_simp; with_reducible rfl
                            rotate_left
                            ·simp only [Act.put, zA, zB, zC, i64_w, i32_w]; rfl
                            refine take_ (i := 3) (N := some 87) (v := ?_) (a' := ?_) (bf 40 71830696703) rfl rfl (take_ofW HT_.out HW_.out (by kernel_rfl)) (fun _ _ _ h => h) (Or.inl ⟨by rfl, ?_⟩) hHeld ?_ ?_
                            rotate_left
                            ·rintro w' ⟨s0, s1, s2, s3, s4, s5, s6, s7, s8⟩; go_simp; with_reducible rfl
                            rotate_left
                            ·simp only [Act.put, zA, zB, zC, i64_w, i32_w]; rfl
                            refine take_ (i := 8) (N := some 92) (v := ?_) (a' := ?_) (bf 40 71830696959) rfl rfl (take_ofW HT_.out HW_.out (by kernel_rfl)) (fun _ _ _ h => h) (Or.inl ⟨by rfl, ?_⟩) hHeld ?_ ?_
                            rotate_left
                            ·rintro w' ⟨s0, s1, s2, s3, s4, s5, s6, s7, s8⟩; go_simp; with_reducible rfl
                            rotate_left
                            ·simp only [Act.put, zA, zB, zC, i64_w, i32_w]; rfl
                            refine pure_ (i := 10) (N := some 94) (v := ?_) (a' := ?_) (bf 40 71830697983) rfl rfl (any_of HT_.out (by kernel_rfl)) (fun _ _ _ h => h) (Or.inl ⟨by rfl, ?_⟩) ?_ ?_
                            rotate_left
                            ·intro w'; go_simp; with_reducible rfl
                            rotate_left
                            ·simp only [Act.put, zA, zB, zC, i64_w, i32_w]; rfl
                            refine take_ (i := 11) (N := some 95) (v := ?_) (a' := ?_) (bf 40 71830700031) rfl rfl (take_ofW HT_.out HW_.out (by kernel_rfl)) (fun _ _ _ h => h) (Or.inl ⟨by rfl, ?_⟩) hHeld ?_ ?_
                            rotate_left
                            ·rintro w' ⟨s0, s1, s2, s3, s4, s5, s6, s7, s8⟩; go_simp; with_reducible rfl
                            rotate_left
                            ·simp only [Act.put, zA, zB, zC, i64_w, i32_w]; rfl
                            refine take_ (i := 15) (N := some 99) (v := ?_) (a' := ?_) (bf 40 71830732799) rfl rfl (take_ofW HT_.out HW_.out (by kernel_rfl)) (fun _ _ _ h => h) (Or.inl ⟨by rfl, ?_⟩) hHeld ?_ ?_
                            rotate_left
                            ·rintro w' ⟨s0, s1, s2, s3, s4, s5, s6, s7, s8⟩; go_simp; with_reducible rfl
                            rotate_left
                            ·simp only [Act.put, zA, zB, zC, i64_w, i32_w]; rfl
                            refine pure_ (i := 17) (N := some 101) (v := ?_) (a' := ?_) (bf 40 71830863871) rfl rfl (any_of HT_.out (by kernel_rfl)) (fun _ _ _ h => h) (Or.inl ⟨by rfl, ?_⟩) ?_ ?_
                            rotate_left
                            ·intro w'; go_simp; with_reducible rfl
                            rotate_left
                            ·simp only [Act.put, zA, zB, zC, i64_w, i32_w]; rfl
                            refine take_ (i := 18) (N := some 102) (v := ?_) (a' := ?_) (bf 40 71831126015) rfl rfl (take_ofW HT_.out HW_.out (by kernel_rfl)) (fun _ _ _ h => h) (Or.inl ⟨by rfl, ?_⟩) hHeld ?_ ?_
                            rotate_left
                            ·rintro w' ⟨s0, s1, s2, s3, s4, s5, s6, s7, s8⟩; go_simp; with_reducible rfl
                            rotate_left
                            ·simp only [Act.put, zA, zB, zC, i64_w, i32_w]; rfl
                            refine pure_ (i := 19) (N := some 103) (v := ?_) (a' := ?_) (bf 40 71831650303) rfl rfl (any_of HT_.out (by kernel_rfl)) (fun _ _ _ h => h) (Or.inl ⟨by rfl, ?_⟩) ?_ ?_
                            rotate_left
                            ·intro w'; go_simp; with_reducible rfl
                            rotate_left
                            ·simp only [Act.put, zA, zB, zC, i64_w, i32_w]; rfl
                            refine take_ (i := 23) (N := some 107) (v := ?_) (a' := ?_) (bf 40 71840038911) rfl rfl (take_ofW HT_.out HW_.out (by kernel_rfl)) (fun _ _ _ h => h) (Or.inl ⟨by rfl, ?_⟩) hHeld ?_ ?_
                            rotate_left
                            ·rintro w' ⟨s0, s1, s2, s3, s4, s5, s6, s7, s8⟩; go_simp; with_reducible rfl
                            rotate_left
                            ·simp only [Act.put, zA, zB, zC, i64_w, i32_w]; rfl
                            refine pure_ (i := 25) (N := some 109) (v := ?_) (a' := ?_) (bf 40 71873593343) rfl rfl (any_of HT_.out (by kernel_rfl)) (fun _ _ _ h => h) (Or.inl ⟨by rfl, ?_⟩) ?_ ?_
                            rotate_left
                            ·intro w'; go_simp; with_reducible rfl
                            rotate_left
                            ·simp only [Act.put, zA, zB, zC, i64_w, i32_w]; rfl
                            refine take_ (i := 26) (N := some 110) (v := ?_) (a' := ?_) (bf 40 71940702207) rfl rfl (take_ofW HT_.out HW_.out (by kernel_rfl)) (fun _ _ _ h => h) (Or.inl ⟨by rfl, ?_⟩) hHeld ?_ ?_
                            rotate_left
                            ·rintro w' ⟨s0, s1, s2, s3, s4, s5, s6, s7, s8⟩; go_simp; with_reducible rfl
                            rotate_left
                            ·simp only [Act.put, zA, zB, zC, i64_w, i32_w]; rfl
                            refine take_ (i := 30) (N := some 114) (v := ?_) (a' := ?_) (bf 40 73014444031) rfl rfl (take_ofW HT_.out HW_.out (by kernel_rfl)) (fun _ _ _ h => h) (Or.inl ⟨by rfl, ?_⟩) hHeld ?_ ?_
                            rotate_left
                            ·rintro w' ⟨s0, s1, s2, s3, s4, s5, s6, s7, s8⟩; go_simp; with_reducible rfl
                            rotate_left
                            ·simp only [Act.put, zA, zB, zC, i64_w, i32_w]; rfl
                            refine pure_ (i := 32) (N := some 116) (v := ?_) (a' := ?_) (bf 40 77309411327) rfl rfl (any_of HT_.out (by kernel_rfl)) (fun _ _ _ h => h) (Or.inl ⟨by rfl, ?_⟩) ?_ ?_
                            rotate_left
                            ·intro w'; go_simp; with_reducible rfl
                            rotate_left
                            ·simp only [Act.put, zA, zB, zC, i64_w, i32_w]; rfl
                            refine take_ (i := 33) (N := some 117) (v := ?_) (a' := ?_) (bf 40 85899345919) rfl rfl (take_ofW HT_.out HW_.out (by kernel_rfl)) (fun _ _ _ h => h) (Or.inl ⟨by rfl, ?_⟩) hHeld ?_ ?_
                            rotate_left
                            ·rintro w' ⟨s0, s1, s2, s3, s4, s5, s6, s7, s8⟩; go_simp; with_reducible rfl
                            rotate_left
                            ·simp only [Act.put, zA, zB, zC, i64_w, i32_w]; rfl
                            refine pure_ (i := 34) (N := some 118) (v := ?_) (a' := ?_) (bf 40 103079215103) rfl rfl (any_of HT_.out (by kernel_rfl)) (fun _ _ _ h => h) (Or.inl ⟨by rfl, ?_⟩) ?_ ?_
                            rotate_left
                            ·intro w'; go_simp; with_reducible rfl
                            rotate_left
                            ·simp only [Act.put, zA, zB, zC, i64_w, i32_w]; rfl
                            refine pure_ (i := 35) (N := some 119) (v := ?_) (a' := ?_) (bf 40 137438953471) rfl rfl (any_of HT_.out (by kernel_rfl)) (fun _ _ _ h => h) (Or.inl ⟨by rfl, ?_⟩) ?_ ?_
                            rotate_left
                            ·intro w'; go_simp; with_reducible rfl
                            rotate_left
                            ·simp only [Act.put, zA, zB, zC, i64_w, i32_w]; rfl
                            refine pure_ (i := 37) (N := some 121) (v := ?_) (a' := ?_) (bf 40 274877906943) rfl rfl (any_of HT_.out (by kernel_rfl)) (fun _ _ _ h => h) (Or.inl ⟨by rfl, ?_⟩) ?_ ?_
                            rotate_left
                            ·intro w'; go_simp; with_reducible rfl
                            rotate_left
                            ·simp only [Act.put, zA, zB, zC, i64_w, i32_w]; rfl
                            refine pure_ (i := 38) (N := some 122) (v := ?_) (a' := ?_) (bf 40 549755813887) rfl rfl (any_of HT_.out (by kernel_rfl)) (fun _ _ _ h => h) (Or.inl ⟨by rfl, ?_⟩) ?_ ?_
                            rotate_left
                            ·intro w'; go_simp; with_reducible rfl
                            rotate_left
                            ·simp only [Act.put, zA, zB, zC, i64_w, i32_w]; rfl
                            refine last_ (i := 39) (N := none) (bf 40 1099511627775) rfl rfl (one_of HT_.out (by kernel_rfl)) (by decide) (fun K hK => ?_)
                            refine skip_ (w1 := ?_) (by rfl) rfl ?_ ?_
                            rotate_left
                            ·go_simp
                             rfl
                            refine hK.out _ _ ?_
                            clear hK K
                            refine done_ (done_of HT_.out (by kernel_rfl)) ?_
                            try go_wp2
                            go_roundg k6
                            case measure => have := HK1.out; have := HK2.out; have := HJ12.out; have := HJ22.out; have := HK5.out; have := HK6.out; omega
                            case rel => exact ⟨(y184), (wrap64 (x12_6 + 1)), (by first | rfl | (simp; done) | (simp [*]; done)), H', ⟨by have := HK1.out; have := HK2.out; have := HJ12.out; have := HJ22.out; have := HK5.out; have := HK6.out; omega⟩, ⟨by (with_reducible repeat (first | apply Kd.S_alloc | apply Kd.S_drewN | apply Kd.S_drew)); exact HQ43.out⟩, ⟨by repeat (first | (with_reducible first | exact HB.out | apply zc0 | apply zb0 | apply zd0 | refine ze0 ?_ GB40.out) | exact HB.out)⟩⟩
                          ·rw [if_neg c38] at H
                           exact absurd H (by simp)
                         ·rw [if_neg c37] at H
                          exact absurd H (by simp)
                        ·rw [if_neg c36] at H
                         exact absurd H (by simp)
                       ·rw [if_neg c35] at H
                        exact absurd H (by simp)
                      ·rw [if_neg c34] at H
                       exact absurd H (by simp)
                     ·rw [if_neg c33] at H
                      exact absurd H (by simp)
                    ·rw [if_neg c32] at H
                     exact absurd H (by simp)
                   ·rw [if_neg c31] at H
                    exact absurd H (by simp)
                  ·rw [if_neg c30] at H
                   exact absurd H (by simp)
                 ·rw [if_neg c29] at H
                  have c29b0 : decide (x12_6 < (l0.length : Int)) = false := decide_eq_false c29
                  clear c29
                  have H' := za0.mk H
                  clear H
                  go_wp2
                  go_roundg k6
                  case measure => have := HK1.out; have := HK2.out; have := HJ12.out; have := HJ22.out; have := HK5.out; have := HK6.out; omega
                  case rel => exact ⟨(x6_6), (wrap64 (x11_5 + 1)), (by first | rfl | (simp; done) | (simp [*]; done)), H', ⟨by have := HK1.out; have := HK2.out; have := HJ12.out; have := HJ22.out; have := HK5.out; have := HK6.out; omega⟩, ⟨by (with_reducible repeat (first | apply Kd.S_alloc | apply Kd.S_drewN | apply Kd.S_drew)); exact HO_6.out⟩, ⟨by repeat (first | (with_reducible first | exact HB.out | apply zc0 | apply zb0 | apply zd0) | exact HB.out)⟩⟩
              ·rw [if_neg c28] at H
               have c28b0 : decide (x11_5 < (l0.length : Int)) = false := decide_eq_false c28
               clear c28
               by_cases c45 : 0 ≤ x29_2
               ·rw [if_pos c45] at H
                have c45b0 : decide (0 ≤ x29_2) = true := decide_eq_true c45
                clear c45
                by_cases c46 : x29_2 < (x6_5.length : Int)
                ·rw [if_pos c46] at H
                 have c46b0 : decide (x29_2 < (x6_5.length : Int)) = true := decide_eq_true c46
                 clear c46
                 by_cases c47 : x29_2 < ((rd_L1 x6_5 x29_2).length : Int)
                 ·rw [if_pos c47] at H
                  have c47b0 : decide (x29_2 < ((rd_L1 x6_5 x29_2).length : Int)) = true := decide_eq_true c47
                  clear c47
                  have H' := za0.mk H
                  clear H
                  obtain ⟨Ao48, co48, eo48⟩ := Kd.S_slice HO_6.out
                  subst eo48
                  have p171 : 0 ≤ (x29_2 : Int) := of_decide_eq_true (by first | (with_reducible assumption) | assumption)
                  have q171 : x29_2 < (x6_5.length : Int) := of_decide_eq_true (by first | (with_reducible assumption) | assumption)
                  obtain ⟨ad171, A171_0, c171_0, e171, hx171_0, hl171_0, hi171_0⟩ := at_L1 (Kd.S_reads' HO_6.out).2.2 x29_2 p171 q171
                  cases e171
                  obtain ⟨ce171, hce171, hMe171, hcc171⟩ := Kd.S_get HO_6.out [] x29_2 p171 (by first | exact q171 | exact of_decide_eq_true (by first | (with_reducible assumption) | assumption) | (have e_ := (Kd.S_reads' HO_6.out).1; omega))
                  obtain ⟨ve171_0, rfl, ge171_0⟩ := hMe171
                  have hv171_0 := hcc171 0 _ rfl
                  rw [Nat.add_zero, show ((Kd.slice 3 (Kd.int .i64))).sz = 1 from rfl, Nat.mul_one] at hv171_0
                  replace hv171_0 := Option.some.inj (hv171_0.symm.trans hx171_0)
                  rw [hv171_0] at ge171_0
                  have HL171_0 := za0.mk (show Kd.R (Kd.int .i64) 3 _ _ _ _ (rd_L1 x6_5 x29_2) from ge171_0)
                  clear hv171_0 ge171_0
                  have HX171_0 := za0.mk hx171_0
                  clear hcc171 hce171
                  have HR171_0 := za0.mk hi171_0
                  have HC171_0 := za0.mk hl171_0
                  clear hi171_0 hl171_0
                  replace p171 := eq_true p171
                  replace q171 := eq_true q171
                  have p172 : 0 ≤ (x29_2 : Int) := of_decide_eq_true (by first | (with_reducible assumption) | assumption)
                  have q172 : x29_2 < ((rd_L1 x6_5 x29_2).length : Int) := of_decide_eq_true (by first | (with_reducible assumption) | assumption)
                  obtain ⟨ad172, e172, hx172_0⟩ := Kd.at_int (by repeat (first | (with_reducible exact HR171_0.out) | (with_reducible refine Kd.C_alloc ?_ _) | (with_reducible refine Kd.C_drewN ?_ _) | (with_reducible refine Kd.C_drew ?_) | exact HR171_0.out)) x29_2 p172 q172
                  cases e172
                  replace p172 := eq_true p172
                  replace q172 := eq_true q172
                  go_wp2
                  go_roundg k5
                  case measure => have := HK1.out; have := HK2.out; have := HJ12.out; have := HJ22.out; have := HK5.out; omega
                  case rel => exact ⟨(x4_22), (rd (rd_L1 x6_5 x29_2) x29_2), (x6_5), (wrap64 (x29_2 + 1)), (by first | rfl | (simp; done) | (simp [*]; done)), (by first | rfl | (simp; done) | (simp [*]; done)), (by first | rfl | (simp; done) | (simp [*]; done)), H', ⟨by have := HK1.out; have := HK2.out; have := HJ12.out; have := HJ22.out; have := HK5.out; omega⟩, ⟨by (with_reducible repeat (first | apply Kd.S_alloc | apply Kd.S_drewN | apply Kd.S_drew)); exact HO_6.out⟩, ⟨by repeat (first | (with_reducible first | exact HB.out | apply zc0 | apply zb0 | apply zd0) | exact HB.out)⟩⟩
                 ·rw [if_neg c47] at H
                  exact absurd H (by simp)
                ·rw [if_neg c46] at H
                 exact absurd H (by simp)
               ·rw [if_neg c45] at H
                exact absurd H (by simp)
      ·rw [if_neg c12] at H
       have c12b0 : decide (x29_2 < (l0.length : Int)) = false := decide_eq_false c12
       clear c12
       obtain rfl := Option.some.inj H
       go_wp2
       go_ret
       exact ⟨by first | rfl | (simp [errW_none, errW_some] <;> rfl) | (simp [*, errW_none, errW_some] <;> rfl), by repeat (first | (with_reducible first | exact HB.out | apply zc0 | apply zb0 | apply zd0) | exact HB.out)⟩
def actorL (k : Nat) (l : List (List Int)) (s : Int) : Option Bool := (impl_hasSink.f k l s).bind fun a => if a = true then ((impl_laplace.f k l s).bind fun m => (impl_determinant.f k m).bind fun d => some (decide (d ≤ 60))) else some false
theorem actorL_mono (l : List (List Int)) (s : Int) (k : Nat) : LeO (actorL k l s) (actorL (k + 1) l s) := by
 unfold actorL
 exact LeO.bind (impl_hasSink.mono _ _ _) (fun b => LeO.ite (LeO.bind (impl_laplace.mono _ _ _) (fun _ => LeO.bind (impl_determinant.mono _ _) (fun _ => LeO.refl _))) (LeO.refl _))
set_option maxHeartbeats 8000000 in
set_option maxRecDepth 100000 in
theorem impl_actorOf.calls (k : Nat) (l : List (List Int)) (s : Int) (A0 : Option Addr) (c0 : Nat) (b : Bool) (w : World) (hr0 : Kd.C (Kd.slice 3 (Kd.int .i64)) w A0 l.length l) (hc0 : l.length ≤ c0) (h : actorL k l s = some b) :
  Calls Try.prog 39 #[.agg #[.slice A0 l.length c0], .int .i64 s] w fun e w' => ∃ Ba, e = .returned (.tuple #[.pointer (if b then some ⟨Ba, 0, none⟩ else none), .bool b]) ∧ (b = true → w.heap.size ≤ Ba ∧ w'.heap[Ba]? = some (.cells #[.slice A0 l.length c0, .int .i64 s] 71 (0, 0))) ∧ Below w.heap.size w w' := by
 have hu1 := Try.underlying29
 have hu3 := Try.underlying71
 have HR0 := za0.mk hr0
 have HC0 := za0.mk hc0
 unfold actorL at h
 obtain ⟨a, h1, h⟩ := Option.bind_eq_some_iff.mp h
 have A1 := za0.mk h1
 clear hr0 hc0 h1
 cases a with
 | false =>
  rw [if_neg (by decide)] at h
  obtain rfl := Option.some.inj h
  go_enter Try.func39, Try.ntmps39
  go_wp2_with (first | ((with_reducible refine zn0 (N := 2) rfl ?_); refine zo0 ?hg (N := 2) ?hd (cs := #[.slice A0 l.length c0]) (t := 29) ?hr ?_; (case hd => rfl); (case hg => rfl); (case hr => first | (go_simp; done) | (go_simp; rfl)); intro gb hg w2 hbox hb; have HB := za0.mk (hb); have BG := za0.mk hbox; clear hb hbox hg; have hcg : w2.cell? ⟨gb, 0, none⟩ = some (.slice A0 l.length c0) := (zk0 BG.out 0).trans rfl) | (go_at_call 61; refine (impl_hasSink.calls k _ _ l s false _ (Kd.C_below HR0.out HB.out) HC0.out A1.out).mono ?_; rintro e w3 ⟨rfl, hb⟩; have n0_ := za0.mk (zj0 HB.out hb); have n1_ := za0.mk (zl0 BG.out hb); clear HB BG hb; have HB := n0_; have BG := n1_; clear n0_ n1_; clear hcg; have hcg : w3.cell? ⟨gb, 0, none⟩ = some (.slice A0 l.length c0) := (zk0 BG.out 0).trans rfl))
  go_ret2
  first | exact ⟨rfl, HB.out⟩ | exact ⟨0, rfl, fun h => (by cases h), HB.out⟩
 | true =>
  rw [if_pos rfl] at h
  obtain ⟨m, h2, h⟩ := Option.bind_eq_some_iff.mp h
  obtain ⟨d, h3, h⟩ := Option.bind_eq_some_iff.mp h
  have A2 := za0.mk h2
  have A3 := za0.mk h3
  clear h2 h3
  obtain rfl := Option.some.inj h
  clear h
  by_cases hd : d ≤ 60
  ·rw [decide_eq_true hd]
   have hdb : decide (60 < d) = false := decide_eq_false (by omega)
   clear hd
   go_enter Try.func39, Try.ntmps39
   go_wp2_with (first | ((with_reducible refine zn0 (N := 2) rfl ?_); refine zo0 ?hg (N := 2) ?hd (cs := #[.slice A0 l.length c0]) (t := 29) ?hr ?_; (case hd => rfl); (case hg => rfl); (case hr => first | (go_simp; done) | (go_simp; rfl)); intro gb hg w2 hbox hb; have HB := za0.mk (hb); have BG := za0.mk hbox; clear hb hbox hg; have hcg : w2.cell? ⟨gb, 0, none⟩ = some (.slice A0 l.length c0) := (zk0 BG.out 0).trans rfl) | (go_at_call 61; refine (impl_hasSink.calls k _ _ l s true _ (Kd.C_below HR0.out HB.out) HC0.out A1.out).mono ?_; rintro e w3 ⟨rfl, hb⟩; have n0_ := za0.mk (zj0 HB.out hb); have n1_ := za0.mk (zl0 BG.out hb); clear HB BG hb; have HB := n0_; have BG := n1_; clear n0_ n1_; clear hcg; have hcg : w3.cell? ⟨gb, 0, none⟩ = some (.slice A0 l.length c0) := (zk0 BG.out 0).trans rfl) | (go_at_call 63; refine (impl_laplace.calls k _ _ l s m _ (Kd.C_below HR0.out HB.out) HC0.out A2.out).mono ?_; rintro e w4 ⟨v4, rfl, ho, hb⟩; have HM := za0.mk ho; clear ho; have n0_ := za0.mk (zj0 HB.out hb); have n1_ := za0.mk (zl0 BG.out hb); clear HB BG hb; have HB := n0_; have BG := n1_; clear n0_ n1_; clear hcg; have hcg : w4.cell? ⟨gb, 0, none⟩ = some (.slice A0 l.length c0) := (zk0 BG.out 0).trans rfl; obtain ⟨Am, cm, em⟩ := Kd.S_slice HM.out; subst em) | (go_at_call 62; refine (impl_determinant.calls k _ _ m d _ (Kd.S_reads' HM.out).2.2 (Kd.S_reads' HM.out).2.1 A3.out).mono ?_; rintro e w5 ⟨rfl, hb⟩; have n0_ := za0.mk (zj0 HB.out hb); have n1_ := za0.mk (zl0 BG.out hb); clear HB BG hb; have HB := n0_; have BG := n1_; clear n0_ n1_; clear hcg; have hcg : w5.cell? ⟨gb, 0, none⟩ = some (.slice A0 l.length c0) := (zk0 BG.out 0).trans rfl) | ((with_reducible refine zn0 (N := 20) rfl ?_); refine zo0 ?hg (N := 20) ?hd (cs := #[.slice A0 l.length c0, .int .i64 s]) (t := 71) ?hr ?_; (case hd => rfl); (case hg => rfl); (case hr => first | (go_simp; done) | (go_simp; rfl)); intro B hg w6 hbox hb; have GE := za0.mk (show w.heap.size ≤ B from by rw [hg]; exact zg0 HB.out); have BX := za0.mk hbox; have n0_ := za0.mk (zj0 HB.out hb); clear HB hb hbox hg; have HB := n0_; clear n0_))
   go_ret2
   exact ⟨B, rfl, ⟨GE.out, BX.out⟩, HB.out⟩
  ·rw [decide_eq_false hd]
   have hdb : decide (60 < d) = true := decide_eq_true (by omega)
   clear hd
   go_enter Try.func39, Try.ntmps39
   go_wp2_with (first | ((with_reducible refine zn0 (N := 2) rfl ?_); refine zo0 ?hg (N := 2) ?hd (cs := #[.slice A0 l.length c0]) (t := 29) ?hr ?_; (case hd => rfl); (case hg => rfl); (case hr => first | (go_simp; done) | (go_simp; rfl)); intro gb hg w2 hbox hb; have HB := za0.mk (hb); have BG := za0.mk hbox; clear hb hbox hg; have hcg : w2.cell? ⟨gb, 0, none⟩ = some (.slice A0 l.length c0) := (zk0 BG.out 0).trans rfl) | (go_at_call 61; refine (impl_hasSink.calls k _ _ l s true _ (Kd.C_below HR0.out HB.out) HC0.out A1.out).mono ?_; rintro e w3 ⟨rfl, hb⟩; have n0_ := za0.mk (zj0 HB.out hb); have n1_ := za0.mk (zl0 BG.out hb); clear HB BG hb; have HB := n0_; have BG := n1_; clear n0_ n1_; clear hcg; have hcg : w3.cell? ⟨gb, 0, none⟩ = some (.slice A0 l.length c0) := (zk0 BG.out 0).trans rfl) | (go_at_call 63; refine (impl_laplace.calls k _ _ l s m _ (Kd.C_below HR0.out HB.out) HC0.out A2.out).mono ?_; rintro e w4 ⟨v4, rfl, ho, hb⟩; have HM := za0.mk ho; clear ho; have n0_ := za0.mk (zj0 HB.out hb); have n1_ := za0.mk (zl0 BG.out hb); clear HB BG hb; have HB := n0_; have BG := n1_; clear n0_ n1_; clear hcg; have hcg : w4.cell? ⟨gb, 0, none⟩ = some (.slice A0 l.length c0) := (zk0 BG.out 0).trans rfl; obtain ⟨Am, cm, em⟩ := Kd.S_slice HM.out; subst em) | (go_at_call 62; refine (impl_determinant.calls k _ _ m d _ (Kd.S_reads' HM.out).2.2 (Kd.S_reads' HM.out).2.1 A3.out).mono ?_; rintro e w5 ⟨rfl, hb⟩; have n0_ := za0.mk (zj0 HB.out hb); have n1_ := za0.mk (zl0 BG.out hb); clear HB BG hb; have HB := n0_; have BG := n1_; clear n0_ n1_; clear hcg; have hcg : w5.cell? ⟨gb, 0, none⟩ = some (.slice A0 l.length c0) := (zk0 BG.out 0).trans rfl))
   go_ret2
   first | exact ⟨rfl, HB.out⟩ | exact ⟨0, rfl, fun h => (by cases h), HB.out⟩
structure WkSt (w0 w1 w : World) (B nb n cap : Nat) (rot : List Int) (p : Int) : Prop where
 hb : Below w0.heap.size w0 w
 hk : Kept w1 w (fun k => k = nb ∨ k = B)
 hn : n = rot.length
 cap_ : n ≤ cap
 bk : w.heap[B]? = some (.cells #[.slice (some ⟨nb, 0, none⟩) n cap, .int .i64 p] 63 (0, 0))
 rt : Kd.R (Kd.int .i64) 3 w w0.heap.size (fun k => k = nb) (.slice (some ⟨nb, 0, none⟩) n cap) rot
 ge : w0.heap.size ≤ B
section
variable {w0 w1 w w2 : World} {B nb n cap : Nat} {rot : List Int} {p : Int}
theorem WkSt.ne (h : WkSt w0 w1 w B nb n cap rot p) : B ≠ nb := fun e => Kd.R_ne h.rt h.bk (by decide) (by rw [e]; rfl)
theorem WkSt.below (h : WkSt w0 w1 w B nb n cap rot p) (hb : Below w.heap.size w w2) : WkSt w0 w1 w2 B nb n cap rot p :=
 ⟨zj0 h.hb hb, h.hk.below hb, h.hn, h.cap_, zl0 h.bk hb, Kd.R_below h.rt hb, h.ge⟩
theorem WkSt.drew (h : WkSt w0 w1 w B nb n cap rot p) : WkSt w0 w1 w.drew B nb n cap rot p := h.below (below_drew (Below.refl _ _))
theorem WkSt.put (h : WkSt w0 w1 w B nb n cap rot p) (i x : Int) : WkSt w0 w1 (w.setCell ⟨nb, i.toNat, none⟩ (.int .i64 x)) B nb n cap (rot.set i.toNat x) p :=
 ⟨ze0 h.hb (Kd.R_base h.rt nb rfl), h.hk.setCell (.inl (.inl rfl)) _, by rw [List.length_set]; exact h.hn, h.cap_, (Below.heap_setCell w ⟨nb, i.toNat, none⟩ _ B h.ne).trans h.bk, (Kd.R_putg h.rt i x).1, h.ge⟩
theorem blk_putA {w : World} {B j t : Nat} {cs : Array Value} {u : Value} (h : w.heap[B]? = some (.cells cs t (0, 0))) : (w.setCell ⟨B, j, none⟩ u).heap[B]? = some (.cells (cs.setIfInBounds j u) t (0, 0)) := by
 simp only [World.setCell, Array.getElem?_modify, if_true, h, Option.map_some]
 rfl
theorem WkSt.at_ (h : WkSt w0 w1 w B nb n cap rot p) (q : Int) : WkSt w0 w1 (w.setCell ⟨B, 1, none⟩ (.int .i64 q)) B nb n cap rot q :=
 ⟨ze0 h.hb h.ge, h.hk.setCell (.inl (.inr rfl)) _, h.hn, h.cap_, (blk_putA h.bk).trans rfl, Kd.R_set h.rt h.bk (by decide) 1 _, h.ge⟩
end
theorem rd_set_self {o : List Int} {p x : Int} (h0 : 0 ≤ p) (h1 : p < (o.length : Int)) : rd (o.set p.toNat x) p = x := by
 simp only [rd, List.getD_eq_getElem?_getD]
 rw [List.getElem?_set_self (by omega)]; rfl
def stepL (l : List (List Int)) (rot : List Int) (p : Int) : Option (List Int × Int) :=
 if 0 ≤ p then (if p < (l.length : Int) then (if ((rd_L1 l p).length : Int) = 0 then none else (if p < (rot.length : Int) then (if 0 ≤ Int.tmod (wrap64 (rd rot p + 1)) ((rd_L1 l p).length : Int) then (if Int.tmod (wrap64 (rd rot p + 1)) ((rd_L1 l p).length : Int) < ((rd_L1 l p).length : Int) then some (rot.set p.toNat (Int.tmod (wrap64 (rd rot p + 1)) ((rd_L1 l p).length : Int)), rd (rd_L1 l p) (Int.tmod (wrap64 (rd rot p + 1)) ((rd_L1 l p).length : Int))) else none) else none) else none)) else none) else none
set_option maxHeartbeats 8000000 in
set_option maxRecDepth 100000 in
theorem impl_Graph_step.calls (l : List (List Int)) (A0 : Option Addr) (c0 B nb n cap : Nat) (rot rot2 : List Int) (p p2 : Int) (w0 w1 w : World) (hr0 : Kd.C (Kd.slice 3 (Kd.int .i64)) w0 A0 l.length l) (hc0 : l.length ≤ c0) (st : WkSt w0 w1 w B nb n cap rot p) (h : stepL l rot p = some (rot2, p2)) :
  Calls Try.prog 56 #[.agg #[.slice A0 l.length c0], .pointer (some ⟨B, 0, none⟩)] w fun e w' => e = .returned (.bool true) ∧ WkSt w0 w1 w' B nb n cap rot2 p2 := by
 have hu1 := Try.underlying29
 have hu2 := Try.underlying63
 have hn := st.hn
 subst hn
 unfold stepL at h
 by_cases p0 : 0 ≤ p
 ·rw [if_pos p0] at h
  by_cases p1 : p < (l.length : Int)
  ·rw [if_pos p1] at h
   by_cases hz : ((rd_L1 l p).length : Int) = 0
   ·rw [if_pos hz] at h; exact absurd h (by simp)
   ·rw [if_neg hz] at h
    have hzb : (((rd_L1 l p).length : Int) == 0) = false := beq_eq_false_iff_ne.mpr hz
    have hzl : ¬ (rd_L1 l p) = [] := fun h_ => hz (by rw [h_]; rfl)
    by_cases p2 : p < (rot.length : Int)
    ·rw [if_pos p2] at h
     obtain ⟨t, ht⟩ : ∃ t, Int.tmod (wrap64 (rd rot p + 1)) ((rd_L1 l p).length : Int) = t := ⟨_, rfl⟩
     rw [ht] at h
     by_cases t0 : 0 ≤ t
     ·rw [if_pos t0] at h
      by_cases t1 : t < ((rd_L1 l p).length : Int)
      ·rw [if_pos t1] at h
       simp only [Option.some.injEq, Prod.mk.injEq] at h
       obtain ⟨rfl, rfl⟩ := h
       have HR0 := za0.mk hr0
       have HC0 := za0.mk hc0
       have HT := za0.mk ht
       have ST := za0.mk st
       have HZ := za0.mk hz
       obtain ⟨ad0, A1, c1_, e1, hx1, hl1, hi1⟩ := at_L1 hr0 p p0 p1
       subst e1
       obtain ⟨adr, e2, hx3⟩ := Kd.at_int hi1 t t0 t1
       subst e2
       have HX1 := za0.mk hx1
       have HX3 := za0.mk hx3
       have HL1 := za0.mk hl1
       have HP := za0.mk (And.intro p0 (And.intro p1 p2))
       have HT01 := za0.mk (And.intro t0 t1)
       replace p0 := eq_true p0
       replace p1 := eq_true p1
       replace p2 := eq_true p2
       replace t0 := eq_true t0
       replace t1 := eq_true t1
       clear st hr0 hc0 ht hx1 hx3 hl1 hi1 hz
       go_enter Try.func56, Try.ntmps56
       go_wp2_with (((with_reducible refine zn0 (N := 2) rfl ?_); refine zo0 ?hg (N := 2) ?hd (cs := #[.slice (some ad0) l.length c0]) (t := 29) ?hr ?_; (case hd => rfl); (case hg => rfl); (case hr => first | (go_simp; done) | (go_simp; rfl)); intro gb hg w6 hbox hb; have n0_ := za0.mk (ST.out.below hb); have BG := za0.mk hbox; clear ST hg hb hbox; have ST := n0_; clear n0_))
       have n0_ := za0.mk ST.out.drew
       have hcg : w6.drew.cell? ⟨gb, 0, none⟩ = some (.slice (some ad0) l.length c0) := (zk0 BG.out 0).trans rfl
       have hcr : w6.drew.cell? ⟨B, 0, none⟩ = some (.slice (some ⟨nb, 0, none⟩) rot.length cap) := (zk0 ST.out.bk 0).trans rfl
       have hcp : w6.drew.cell? ⟨B, 1, none⟩ = some (.int .i64 p) := (zk0 ST.out.bk 1).trans rfl
       have hfp : w6.drew.frozen? ⟨B, 1, none⟩ = false := zm0 n0_.out.bk 1
       have hx1 : w6.drew.cell? (ad0.add p.toNat) = some (.slice (some adr) (rd_L1 l p).length c1_) := (n0_.out.hb.cell (World.block_lt_of_cell? _ _ HX1.out)).trans HX1.out
       obtain ⟨hx2, hf2⟩ := Kd.R_celln 0 n0_.out.rt p HP.out.1 HP.out.2.2
       replace BG := za0.mk (show w6.drew.heap[gb]? = _ from BG.out)
       clear ST
       have ST := n0_
       clear n0_
       refine start_ (n := 9) (S := fun w' => w'.cell? ⟨gb, 0, none⟩ = some (.slice (some ad0) l.length c0) ∧ w'.cell? ⟨B, 1, none⟩ = some (.int .i64 p) ∧ w'.cell? (ad0.add p.toNat) = some (.slice (some adr) (rd_L1 l p).length c1_)) (ds := []) #[false, false, false, false, false, false, false, false, false] (by kernel_rfl) rfl rfl ⟨hcg, hcp, hx1⟩ (fun hHeld => ?_)
       generalize w6.drew = w7 at ST BG hcg hcp hcr hx1 hx2 hf2 hfp hHeld ⊢
       refine pure_ (i := 0) (N := some 6) (v := ?_) (a' := ?_) (bf 9 1) rfl rfl (by kernel_rfl) (fun _ _ _ h => h) (Or.inl ⟨by rfl, ?_⟩) ?_ ?_
       rotate_left
       ·intro w'; go_simp; with_reducible rfl
       rotate_left
       ·simp only [Act.put, zA, zB, zC, i64_w, i32_w]; rfl
       refine take_ (i := 1) (N := some 7) (v := ?_) (a' := ?_) (bf 9 3) rfl rfl (by kernel_rfl) (fun _ _ _ h => h) (Or.inl ⟨by rfl, ?_⟩) hHeld ?_ ?_
       rotate_left
       ·rintro w' ⟨s0, s1, s2⟩; go_simp; with_reducible rfl
       rotate_left
       ·simp only [Act.put, zA, zB, zC, i64_w, i32_w]; rfl
       refine pure_ (i := 2) (N := some 8) (v := ?_) (a' := ?_) (bf 9 7) rfl rfl (by kernel_rfl) (fun _ _ _ h => h) (Or.inl ⟨by rfl, ?_⟩) ?_ ?_
       rotate_left
       ·intro w'; go_simp; with_reducible rfl
       rotate_left
       ·simp only [Act.put, zA, zB, zC, i64_w, i32_w]; rfl
       refine pure_ (i := 3) (N := some 9) (v := ?_) (a' := ?_) (bf 9 15) rfl rfl (by kernel_rfl) (fun _ _ _ h => h) (Or.inl ⟨by rfl, ?_⟩) ?_ ?_
       rotate_left
       ·intro w'; go_simp; with_reducible rfl
       rotate_left
       ·simp only [Act.put, zA, zB, zC, i64_w, i32_w]; rfl
       refine pure_ (i := 4) (N := some 10) (v := ?_) (a' := ?_) (bf 9 31) rfl rfl (by kernel_rfl) (fun _ _ _ h => h) (Or.inl ⟨by rfl, ?_⟩) ?_ ?_
       rotate_left
       ·intro w'; go_simp; with_reducible rfl
       rotate_left
       ·simp only [Act.put, zA, zB, zC, i64_w, i32_w]; rfl
       refine take_ (i := 5) (N := some 11) (v := ?_) (a' := ?_) (bf 9 63) rfl rfl (by kernel_rfl) (fun _ _ _ h => h) (Or.inl ⟨by rfl, ?_⟩) hHeld ?_ ?_
       rotate_left
       ·rintro w' ⟨s0, s1, s2⟩; go_simp; with_reducible rfl
       rotate_left
       ·simp only [Act.put, zA, zB, zC, i64_w, i32_w]; rfl
       refine pure_ (i := 6) (N := some 12) (v := ?_) (a' := ?_) (bf 9 127) rfl rfl (by kernel_rfl) (fun _ _ _ h => h) (Or.inl ⟨by rfl, ?_⟩) ?_ ?_
       rotate_left
       ·intro w'; go_simp; with_reducible rfl
       rotate_left
       ·simp only [Act.put, zA, zB, zC, i64_w, i32_w]; rfl
       refine take_ (i := 7) (N := some 13) (v := ?_) (a' := ?_) (bf 9 255) rfl rfl (by kernel_rfl) (fun _ _ _ h => h) (Or.inl ⟨by rfl, ?_⟩) hHeld ?_ ?_
       rotate_left
       ·rintro w' ⟨s0, s1, s2⟩; go_simp; with_reducible rfl
       rotate_left
       ·simp only [Act.put, zA, zB, zC, i64_w, i32_w]; rfl
       refine pure_ (i := 8) (N := some 5) (v := ?_) (a' := ?_) (bf 9 511) rfl rfl (by kernel_rfl) (fun _ _ _ h => h) (Or.inl ⟨by rfl, ?_⟩) ?_ ?_
       rotate_left
       ·intro w'; go_simp; with_reducible rfl
       rotate_left
       ·simp only [Act.put, zA, zB, zC, i64_w, i32_w]; rfl
       refine done_ (by kernel_rfl) ?_
       go_wp2
       have n0_ := za0.mk ST.out.drew
       replace hcg := (show w7.drew.cell? _ = _ from hcg)
       replace hcr := (show w7.drew.cell? _ = _ from hcr)
       replace hcp := (show w7.drew.cell? _ = _ from hcp)
       replace hx1 := (show w7.drew.cell? _ = _ from hx1)
       replace hx2 := (show w7.drew.cell? _ = _ from hx2)
       replace hf2 := (show w7.drew.frozen? _ = _ from hf2)
       replace hfp := (show w7.drew.frozen? _ = _ from hfp)
       replace BG := za0.mk (show w7.drew.heap[gb]? = _ from BG.out)
       clear ST hHeld
       have ST := n0_
       clear n0_
       refine start_ (n := 24) (S := fun w' => w'.cell? ⟨B, 0, none⟩ = some (.slice (some ⟨nb, 0, none⟩) rot.length cap) ∧ w'.cell? ⟨B, 1, none⟩ = some (.int .i64 p) ∧ w'.cell? ⟨nb, p.toNat, none⟩ = some (.int .i64 (rd rot p))) (ds := [23]) #[false, false, false, false, false, false, false, false, false, false, false, false, false, false, false, false, false, false, false, false, false, false, false, false] (by kernel_rfl) rfl rfl ⟨hcr, hcp, hx2⟩ (fun hHeld => ?_)
       generalize w7.drew = w8 at ST BG hcg hcp hcr hx1 hx2 hf2 hfp hHeld ⊢
       refine pure_ (i := 0) (N := some 17) (v := ?_) (a' := ?_) (bf 24 1) rfl rfl (by kernel_rfl) (fun _ _ _ h => h) (Or.inl ⟨by rfl, ?_⟩) ?_ ?_
       rotate_left
       ·intro w'; go_simp; with_reducible rfl
       rotate_left
       ·simp only [Act.put, zA, zB, zC, i64_w, i32_w]; rfl
       refine pure_ (i := 1) (N := some 18) (v := ?_) (a' := ?_) (bf 24 3) rfl rfl (by kernel_rfl) (fun _ _ _ h => h) (Or.inl ⟨by rfl, ?_⟩) ?_ ?_
       rotate_left
       ·intro w'; go_simp; with_reducible rfl
       rotate_left
       ·simp only [Act.put, zA, zB, zC, i64_w, i32_w]; rfl
       refine pure_ (i := 2) (N := some 19) (v := ?_) (a' := ?_) (bf 24 7) rfl rfl (by kernel_rfl) (fun _ _ _ h => h) (Or.inl ⟨by rfl, ?_⟩) ?_ ?_
       rotate_left
       ·intro w'; go_simp; with_reducible rfl
       rotate_left
       ·simp only [Act.put, zA, zB, zC, i64_w, i32_w]; rfl
       refine take_ (i := 3) (N := some 20) (v := ?_) (a' := ?_) (bf 24 15) rfl rfl (by kernel_rfl) (fun _ _ _ h => h) (Or.inl ⟨by rfl, ?_⟩) hHeld ?_ ?_
       rotate_left
       ·rintro w' ⟨s0, s1, s2⟩; go_simp; with_reducible rfl
       rotate_left
       ·simp only [Act.put, zA, zB, zC, i64_w, i32_w]; rfl
       refine pure_ (i := 4) (N := some 21) (v := ?_) (a' := ?_) (bf 24 31) rfl rfl (by kernel_rfl) (fun _ _ _ h => h) (Or.inl ⟨by rfl, ?_⟩) ?_ ?_
       rotate_left
       ·intro w'; go_simp; with_reducible rfl
       rotate_left
       ·simp only [Act.put, zA, zB, zC, i64_w, i32_w]; rfl
       refine pure_ (i := 5) (N := some 22) (v := ?_) (a' := ?_) (bf 24 63) rfl rfl (by kernel_rfl) (fun _ _ _ h => h) (Or.inl ⟨by rfl, ?_⟩) ?_ ?_
       rotate_left
       ·intro w'; go_simp; with_reducible rfl
       rotate_left
       ·simp only [Act.put, zA, zB, zC, i64_w, i32_w]; rfl
       refine pure_ (i := 6) (N := some 23) (v := ?_) (a' := ?_) (bf 24 127) rfl rfl (by kernel_rfl) (fun _ _ _ h => h) (Or.inl ⟨by rfl, ?_⟩) ?_ ?_
       rotate_left
       ·intro w'; go_simp; with_reducible rfl
       rotate_left
       ·simp only [Act.put, zA, zB, zC, i64_w, i32_w]; rfl
       refine take_ (i := 7) (N := some 24) (v := ?_) (a' := ?_) (bf 24 255) rfl rfl (by kernel_rfl) (fun _ _ _ h => h) (Or.inl ⟨by rfl, ?_⟩) hHeld ?_ ?_
       rotate_left
       ·rintro w' ⟨s0, s1, s2⟩; go_simp; with_reducible rfl
       rotate_left
       ·simp only [Act.put, zA, zB, zC, i64_w, i32_w]; rfl
       refine pure_ (i := 8) (N := some 25) (v := ?_) (a' := ?_) (bf 24 511) rfl rfl (by kernel_rfl) (fun _ _ _ h => h) (Or.inl ⟨by rfl, ?_⟩) ?_ ?_
       rotate_left
       ·intro w'; go_simp; with_reducible rfl
       rotate_left
       ·simp only [Act.put, zA, zB, zC, i64_w, i32_w]; rfl
       refine pure_ (i := 9) (N := some 26) (v := ?_) (a' := ?_) (bf 24 1023) rfl rfl (by kernel_rfl) (fun _ _ _ h => h) (Or.inl ⟨by rfl, ?_⟩) ?_ ?_
       rotate_left
       ·intro w'; go_simp; with_reducible rfl
       rotate_left
       ·simp only [Act.put, zA, zB, zC, i64_w, i32_w]; rfl
       refine pure_ (i := 10) (N := some 27) (v := ?_) (a' := ?_) (bf 24 2047) rfl rfl (by kernel_rfl) (fun _ _ _ h => h) (Or.inl ⟨by rfl, ?_⟩) ?_ ?_
       rotate_left
       ·intro w'; go_simp; with_reducible rfl
       rotate_left
       ·simp only [Act.put, zA, zB, zC, i64_w, i32_w]; rfl
       refine take_ (i := 11) (N := some 28) (v := ?_) (a' := ?_) (bf 24 4095) rfl rfl (by kernel_rfl) (fun _ _ _ h => h) (Or.inl ⟨by rfl, ?_⟩) hHeld ?_ ?_
       rotate_left
       ·rintro w' ⟨s0, s1, s2⟩; go_simp; with_reducible rfl
       rotate_left
       ·simp only [Act.put, zA, zB, zC, i64_w, i32_w]; rfl
       refine pure_ (i := 12) (N := some 29) (v := ?_) (a' := ?_) (bf 24 8191) rfl rfl (by kernel_rfl) (fun _ _ _ h => h) (Or.inl ⟨by rfl, ?_⟩) ?_ ?_
       rotate_left
       ·intro w'; go_simp; with_reducible rfl
       rotate_left
       ·simp only [Act.put, zA, zB, zC, i64_w, i32_w]; rfl
       refine pure_ (i := 13) (N := some 30) (v := ?_) (a' := ?_) (bf 24 16383) rfl rfl (by kernel_rfl) (fun _ _ _ h => h) (Or.inl ⟨by rfl, ?_⟩) ?_ ?_
       rotate_left
       ·intro w'; go_simp; with_reducible rfl
       rotate_left
       ·simp only [Act.put, zA, zB, zC, i64_w, i32_w]; rfl
       refine pure_ (i := 14) (N := some 31) (v := ?_) (a' := ?_) (bf 24 32767) rfl rfl (by kernel_rfl) (fun _ _ _ h => h) (Or.inl ⟨by rfl, ?_⟩) ?_ ?_
       rotate_left
       ·intro w'; go_simp; with_reducible rfl
       rotate_left
       ·simp only [Act.put, zA, zB, zC, i64_w, i32_w]; rfl
       refine take_ (i := 15) (N := some 32) (v := ?_) (a' := ?_) (bf 24 65535) rfl rfl (by kernel_rfl) (fun _ _ _ h => h) (Or.inl ⟨by rfl, ?_⟩) hHeld ?_ ?_
       rotate_left
       ·rintro w' ⟨s0, s1, s2⟩; go_simp; with_reducible rfl
       rotate_left
       ·simp only [Act.put, zA, zB, zC, i64_w, i32_w]; rfl
       refine pure_ (i := 16) (N := some 33) (v := ?_) (a' := ?_) (bf 24 131071) rfl rfl (by kernel_rfl) (fun _ _ _ h => h) (Or.inl ⟨by rfl, ?_⟩) ?_ ?_
       rotate_left
       ·intro w'; go_simp; with_reducible rfl
       rotate_left
       ·simp only [Act.put, zA, zB, zC, i64_w, i32_w]; rfl
       refine take_ (i := 17) (N := some 34) (v := ?_) (a' := ?_) (bf 24 262143) rfl rfl (by kernel_rfl) (fun _ _ _ h => h) (Or.inl ⟨by rfl, ?_⟩) hHeld ?_ ?_
       rotate_left
       ·rintro w' ⟨s0, s1, s2⟩; go_simp; with_reducible rfl
       rotate_left
       ·simp only [Act.put, zA, zB, zC, i64_w, i32_w]; rfl
       refine pure_ (i := 18) (N := some 35) (v := ?_) (a' := ?_) (bf 24 524287) rfl rfl (by kernel_rfl) (fun _ _ _ h => h) (Or.inl ⟨by rfl, ?_⟩) ?_ ?_
       rotate_left
       ·intro w'; go_simp; with_reducible rfl
       rotate_left
       ·simp only [Act.put, zA, zB, zC, i64_w, i32_w]; rfl
       refine pure_ (i := 19) (N := some 36) (v := ?_) (a' := ?_) (bf 24 1048575) rfl rfl (by kernel_rfl) (fun _ _ _ h => h) (Or.inl ⟨by rfl, ?_⟩) ?_ ?_
       rotate_left
       ·intro w'; go_simp; with_reducible rfl
       rotate_left
       ·simp only [Act.put, zA, zB, zC, i64_w, i32_w]; rfl
       refine pure_ (i := 20) (N := some 37) (v := ?_) (a' := ?_) (bf 24 2097151) rfl rfl (by kernel_rfl) (fun _ _ _ h => h) (Or.inl ⟨by rfl, ?_⟩) ?_ ?_
       rotate_left
       ·intro w'; go_simp; with_reducible rfl
       rotate_left
       ·simp only [Act.put, zA, zB, zC, i64_w, i32_w]; rfl
       refine pure_ (i := 21) (N := some 38) (v := ?_) (a' := ?_) (bf 24 4194303) rfl rfl (by kernel_rfl) (fun _ _ _ h => h) (Or.inl ⟨by rfl, ?_⟩) ?_ ?_
       rotate_left
       ·intro w'; go_simp; with_reducible rfl
       rotate_left
       ·simp only [Act.put, zA, zB, zC, i64_w, i32_w]; rfl
       refine pure_ (i := 22) (N := some 39) (v := ?_) (a' := ?_) (bf 24 8388607) rfl rfl (by kernel_rfl) (fun _ _ _ h => h) (Or.inl ⟨by rfl, ?_⟩) ?_ ?_
       rotate_left
       ·intro w'; go_simp; with_reducible rfl
       rotate_left
       ·simp only [Act.put, zA, zB, zC, i64_w, i32_w]; rfl
       refine last_ (i := 23) (N := none) (bf 24 16777215) rfl rfl (by kernel_rfl) (by decide) (fun K hK => ?_)
       refine skip_ (w1 := ?_) (by rfl) rfl ?_ ?_
       rotate_left
       ·go_simp
        rfl
       refine hK.out _ _ ?_
       clear hK K
       refine done_ (by kernel_rfl) ?_
       rw [HT.out]
       have n0_ := za0.mk (ST.out.put p t)
       clear ST BG hcg hcp hcr hx1 hx2 hf2 hfp hHeld
       generalize w8.setCell ⟨nb, p.toNat, none⟩ (.int .i64 t) = w9 at n0_ ⊢
       go_wp2
       have ST := za0.mk n0_.out.drew
       have hcr : w9.drew.cell? ⟨B, 0, none⟩ = some (.slice (some ⟨nb, 0, none⟩) rot.length cap) := (zk0 ST.out.bk 0).trans rfl
       have hcp : w9.drew.cell? ⟨B, 1, none⟩ = some (.int .i64 p) := (zk0 ST.out.bk 1).trans rfl
       have hfp : w9.drew.frozen? ⟨B, 1, none⟩ = false := zm0 ST.out.bk 1
       obtain ⟨hx2, hf2⟩ := Kd.R_celln 0 ST.out.rt p HP.out.1 (by first | exact HP.out.2.2 | (rw [List.length_set]; exact HP.out.2.2))
       replace hx2 := hx2.trans (congrArg (fun z => some (Value.int .i64 z)) (show rdOf 0 (rot.set p.toNat t) p = t from rd_set_self HP.out.1 HP.out.2.2))
       have hx3 : w9.drew.cell? (adr.add t.toNat) = some (.int .i64 (rd (rd_L1 l p) t)) := (ST.out.hb.cell (World.block_lt_of_cell? _ _ HX3.out)).trans HX3.out
       clear n0_
       refine start_ (n := 17) (S := fun w' => w'.cell? ⟨B, 0, none⟩ = some (.slice (some ⟨nb, 0, none⟩) rot.length cap) ∧ w'.cell? ⟨B, 1, none⟩ = some (.int .i64 p) ∧ w'.cell? ⟨nb, p.toNat, none⟩ = some (.int .i64 t) ∧ w'.cell? (adr.add t.toNat) = some (.int .i64 (rd (rd_L1 l p) t))) (ds := [16]) #[false, false, false, false, false, false, false, false, false, false, false, false, false, false, false, false, false] (by kernel_rfl) rfl rfl ⟨hcr, hcp, hx2, hx3⟩ (fun hHeld => ?_)
       generalize w9.drew = w10 at ST hcp hcr hx2 hx3 hf2 hfp hHeld ⊢
       refine pure_ (i := 0) (N := some 40) (v := ?_) (a' := ?_) (bf 17 1) rfl rfl (by kernel_rfl) (fun _ _ _ h => h) (Or.inl ⟨by rfl, ?_⟩) ?_ ?_
       rotate_left
       ·intro w'; go_simp; with_reducible rfl
       rotate_left
       ·simp only [Act.put, zA, zB, zC, i64_w, i32_w]; rfl
       refine pure_ (i := 1) (N := some 41) (v := ?_) (a' := ?_) (bf 17 3) rfl rfl (by kernel_rfl) (fun _ _ _ h => h) (Or.inl ⟨by rfl, ?_⟩) ?_ ?_
       rotate_left
       ·intro w'; go_simp; with_reducible rfl
       rotate_left
       ·simp only [Act.put, zA, zB, zC, i64_w, i32_w]; rfl
       refine pure_ (i := 2) (N := some 42) (v := ?_) (a' := ?_) (bf 17 7) rfl rfl (by kernel_rfl) (fun _ _ _ h => h) (Or.inl ⟨by rfl, ?_⟩) ?_ ?_
       rotate_left
       ·intro w'; go_simp; with_reducible rfl
       rotate_left
       ·simp only [Act.put, zA, zB, zC, i64_w, i32_w]; rfl
       refine pure_ (i := 3) (N := some 43) (v := ?_) (a' := ?_) (bf 17 15) rfl rfl (by kernel_rfl) (fun _ _ _ h => h) (Or.inl ⟨by rfl, ?_⟩) ?_ ?_
       rotate_left
       ·intro w'; go_simp; with_reducible rfl
       rotate_left
       ·simp only [Act.put, zA, zB, zC, i64_w, i32_w]; rfl
       refine pure_ (i := 4) (N := some 44) (v := ?_) (a' := ?_) (bf 17 31) rfl rfl (by kernel_rfl) (fun _ _ _ h => h) (Or.inl ⟨by rfl, ?_⟩) ?_ ?_
       rotate_left
       ·intro w'; go_simp; with_reducible rfl
       rotate_left
       ·simp only [Act.put, zA, zB, zC, i64_w, i32_w]; rfl
       refine take_ (i := 5) (N := some 45) (v := ?_) (a' := ?_) (bf 17 63) rfl rfl (by kernel_rfl) (fun _ _ _ h => h) (Or.inl ⟨by rfl, ?_⟩) hHeld ?_ ?_
       rotate_left
       ·rintro w' ⟨s0, s1, s2, s3⟩; go_simp; with_reducible rfl
       rotate_left
       ·simp only [Act.put, zA, zB, zC, i64_w, i32_w]; rfl
       refine pure_ (i := 6) (N := some 46) (v := ?_) (a' := ?_) (bf 17 127) rfl rfl (by kernel_rfl) (fun _ _ _ h => h) (Or.inl ⟨by rfl, ?_⟩) ?_ ?_
       rotate_left
       ·intro w'; go_simp; with_reducible rfl
       rotate_left
       ·simp only [Act.put, zA, zB, zC, i64_w, i32_w]; rfl
       refine pure_ (i := 7) (N := some 47) (v := ?_) (a' := ?_) (bf 17 255) rfl rfl (by kernel_rfl) (fun _ _ _ h => h) (Or.inl ⟨by rfl, ?_⟩) ?_ ?_
       rotate_left
       ·intro w'; go_simp; with_reducible rfl
       rotate_left
       ·simp only [Act.put, zA, zB, zC, i64_w, i32_w]; rfl
       refine pure_ (i := 8) (N := some 48) (v := ?_) (a' := ?_) (bf 17 511) rfl rfl (by kernel_rfl) (fun _ _ _ h => h) (Or.inl ⟨by rfl, ?_⟩) ?_ ?_
       rotate_left
       ·intro w'; go_simp; with_reducible rfl
       rotate_left
       ·simp only [Act.put, zA, zB, zC, i64_w, i32_w]; rfl
       refine take_ (i := 9) (N := some 49) (v := ?_) (a' := ?_) (bf 17 1023) rfl rfl (by kernel_rfl) (fun _ _ _ h => h) (Or.inl ⟨by rfl, ?_⟩) hHeld ?_ ?_
       rotate_left
       ·rintro w' ⟨s0, s1, s2, s3⟩; go_simp; with_reducible rfl
       rotate_left
       ·simp only [Act.put, zA, zB, zC, i64_w, i32_w]; rfl
       refine pure_ (i := 10) (N := some 50) (v := ?_) (a' := ?_) (bf 17 2047) rfl rfl (by kernel_rfl) (fun _ _ _ h => h) (Or.inl ⟨by rfl, ?_⟩) ?_ ?_
       rotate_left
       ·intro w'; go_simp; with_reducible rfl
       rotate_left
       ·simp only [Act.put, zA, zB, zC, i64_w, i32_w]; rfl
       refine take_ (i := 11) (N := some 51) (v := ?_) (a' := ?_) (bf 17 4095) rfl rfl (by kernel_rfl) (fun _ _ _ h => h) (Or.inl ⟨by rfl, ?_⟩) hHeld ?_ ?_
       rotate_left
       ·rintro w' ⟨s0, s1, s2, s3⟩; go_simp; with_reducible rfl
       rotate_left
       ·simp only [Act.put, zA, zB, zC, i64_w, i32_w]; rfl
       refine pure_ (i := 12) (N := some 52) (v := ?_) (a' := ?_) (bf 17 8191) rfl rfl (by kernel_rfl) (fun _ _ _ h => h) (Or.inl ⟨by rfl, ?_⟩) ?_ ?_
       rotate_left
       ·intro w'; go_simp; with_reducible rfl
       rotate_left
       ·simp only [Act.put, zA, zB, zC, i64_w, i32_w]; rfl
       refine take_ (i := 13) (N := some 53) (v := ?_) (a' := ?_) (bf 17 16383) rfl rfl (by kernel_rfl) (fun _ _ _ h => h) (Or.inl ⟨by rfl, ?_⟩) hHeld ?_ ?_
       rotate_left
       ·rintro w' ⟨s0, s1, s2, s3⟩; go_simp; with_reducible rfl
       rotate_left
       ·simp only [Act.put, zA, zB, zC, i64_w, i32_w]; rfl
       refine pure_ (i := 14) (N := some 54) (v := ?_) (a' := ?_) (bf 17 32767) rfl rfl (by kernel_rfl) (fun _ _ _ h => h) (Or.inl ⟨by rfl, ?_⟩) ?_ ?_
       rotate_left
       ·intro w'; go_simp; with_reducible rfl
       rotate_left
       ·simp only [Act.put, zA, zB, zC, i64_w, i32_w]; rfl
       refine pure_ (i := 15) (N := some 55) (v := ?_) (a' := ?_) (bf 17 65535) rfl rfl (by kernel_rfl) (fun _ _ _ h => h) (Or.inl ⟨by rfl, ?_⟩) ?_ ?_
       rotate_left
       ·intro w'; go_simp; with_reducible rfl
       rotate_left
       ·simp only [Act.put, zA, zB, zC, i64_w, i32_w]; rfl
       refine last_ (i := 16) (N := none) (bf 17 131071) rfl rfl (by kernel_rfl) (by decide) (fun K hK => ?_)
       refine skip_ (w1 := ?_) (by rfl) rfl ?_ ?_
       rotate_left
       ·go_simp
        rfl
       refine hK.out _ _ ?_
       clear hK K
       refine done_ (by kernel_rfl) ?_
       have n0_ := za0.mk (ST.out.at_ (rd (rd_L1 l p) t))
       clear ST hcp hcr hx2 hx3 hf2 hfp hHeld
       go_wp2
       go_ret
       exact ⟨rfl, n0_.out⟩
      ·rw [if_neg t1] at h; exact absurd h (by simp)
     ·rw [if_neg t0] at h; exact absurd h (by simp)
    ·rw [if_neg p2] at h; exact absurd h (by simp)
  ·rw [if_neg p1] at h; exact absurd h (by simp)
 ·rw [if_neg p0] at h; exact absurd h (by simp)
structure PtSt (w0 w1 w : World) (Ba B nb n cap : Nat) (A0 : Option Addr) (m c0 : Nat) (s : Int) (rot : List Int) (p : Int) (v : Value) (out : List Int) : Prop where
 wk : WkSt w0 w w B nb n cap rot p
 hk : Kept w1 w (fun k => k = nb)
 hB : w1.heap.size ≤ B
 ba : w.heap[Ba]? = some (.cells #[.slice A0 m c0, .int .i64 s] 71 (0, 0))
 ot : Kd.R (Kd.int .i64) 3 w w0.heap.size (fun k => k ≠ nb ∧ w1.heap.size ≤ k) v out
section
variable {w0 w1 w w2 : World} {Ba B nb n cap : Nat} {A0 : Option Addr} {m c0 : Nat} {s : Int} {rot rot2 : List Int} {p p2 : Int} {v v2 : Value} {out out2 : List Int}
theorem PtSt.drew (h : PtSt w0 w1 w Ba B nb n cap A0 m c0 s rot p v out) : PtSt w0 w1 w.drew Ba B nb n cap A0 m c0 s rot p v out :=
 ⟨⟨below_drew h.wk.hb, Kept.refl _ _, h.wk.hn, h.wk.cap_, h.wk.bk, Kd.R_drew h.wk.rt, h.wk.ge⟩, h.hk.drew, h.hB, h.ba, Kd.R_drew h.ot⟩
theorem PtSt.ne (h : PtSt w0 w1 w Ba B nb n cap A0 m c0 s rot p v out) : Ba ≠ nb ∧ Ba ≠ B :=
 ⟨fun e => Kd.R_ne h.wk.rt h.ba (by decide) (by rw [e]; rfl), blk_ne h.ba h.wk.bk (by decide)⟩
theorem PtSt.step (h : PtSt w0 w1 w Ba B nb n cap A0 m c0 s rot p v out) (k : WkSt w0 w w2 B nb n cap rot2 p2) : PtSt w0 w1 w2 Ba B nb n cap A0 m c0 s rot2 p2 v out :=
 ⟨⟨k.hb, Kept.refl _ _, k.hn, k.cap_, k.bk, k.rt, k.ge⟩, h.hk.then_ k.hk (fun j hj => hj.elim .inl (fun e => .inr (by rw [e]; exact h.hB))), h.hB, blk_kept h.ba k.hk (fun e => e.elim h.ne.1 h.ne.2),
  Kd.R_mono (Kd.R_kept (Kd.R_types h.ot h.wk.bk (by decide)) k.hk (fun j hj e => e.elim hj.1.1 hj.2)) (fun _ hj => hj.1)⟩
theorem PtSt.grow (h : PtSt w0 w1 w Ba B nb n cap A0 m c0 s rot p v out) (hb : Below w0.heap.size w0 w2) (hg : w.grownBy w2 v.ownBlock) (hat : v2.ownBlock = v.ownBlock ∨ ∃ b, v2.ownBlock = some b ∧ w.heap.size ≤ b)
  (ot : Kd.R (Kd.int .i64) 3 w2 w0.heap.size (fun k => k ≠ nb ∧ w1.heap.size ≤ k) v2 out2) : PtSt w0 w1 w2 Ba B nb n cap A0 m c0 s rot p v2 out2 :=
 ⟨⟨hb, Kept.refl _ _, h.wk.hn, h.wk.cap_, zy0 h.wk.bk hg (Kd.R_ne h.ot h.wk.bk (by decide)), Kd.R_grown h.wk.rt hg (fun k hk e => (h.ot.1 k e.symm).1 hk), h.wk.ge⟩,
  Kept.of_grown hg h.hk (fun k hk => .inr (h.ot.1 k hk).2), h.hB, zy0 h.ba hg (Kd.R_ne h.ot h.ba (by decide)), ot⟩
end
def pathL (l : List (List Int)) (s most : Int) : Nat → List Int → Int → List Int → Option (List Int × List Int × Bool)
 | 0, _, _, _ => none
 | k + 1, rot, p, out => if p = s then some (rot, out, true) else (if most < (out.length : Int) then some (rot, [], false) else ((stepL l rot p).bind fun t => if out.length < 17592186044416 then pathL l s most k t.1 t.2 (out ++ [t.2]) else none))
set_option maxHeartbeats 8000000 in
set_option maxRecDepth 100000 in
theorem impl_actor_path.calls (k : Nat) (l : List (List Int)) (A0 : Option Addr) (c0 Ba nb n cap : Nat) (s : Int) (rot : List Int) (p most : Int) (r1 r2 : List Int) (r3 : Bool) (w0 w : World) (hr0 : Kd.C (Kd.slice 3 (Kd.int .i64)) w0 A0 l.length l) (hc0 : l.length ≤ c0)
  (hb : Below w0.heap.size w0 w) (ba : w.heap[Ba]? = some (.cells #[.slice A0 l.length c0, .int .i64 s] 71 (0, 0))) (hn : n = rot.length) (hcap : n ≤ cap) (rt : Kd.R (Kd.int .i64) 3 w w0.heap.size (fun k => k = nb) (.slice (some ⟨nb, 0, none⟩) n cap) rot) (h : pathL l s most k rot p [p] = some (r1, r2, r3)) :
  Calls Try.prog 34 #[.pointer (some ⟨Ba, 0, none⟩), .slice (some ⟨nb, 0, none⟩) n cap, .int .i64 p, .int .i64 most] w fun e w' => ∃ v, e = .returned (.tuple #[v, .bool r3]) ∧ Kd.R (Kd.int .i64) 3 w' w0.heap.size (fun k => k ≠ nb ∧ w.heap.size ≤ k) v r2 ∧
   Kd.R (Kd.int .i64) 3 w' w0.heap.size (fun k => k = nb) (.slice (some ⟨nb, 0, none⟩) n cap) r1 ∧ Below w0.heap.size w0 w' ∧ Kept w w' (fun k => k = nb) := by
 have hu1 := Try.underlying29
 have hu2 := Try.underlying63
 have hu3 := Try.underlying71
 subst hn
 have HR0 := za0.mk hr0
 have HC0 := za0.mk hc0
 have H' := za0.mk h
 have HB := za0.mk hb
 have BA := za0.mk ba
 have RT := za0.mk rt
 have HCP := za0.mk hcap
 have HNB := za0.mk (Kd.R_lt rt nb rfl)
 clear hr0 hc0 h hb ba rt hcap
 go_enter Try.func34, Try.ntmps34
 go_wp2_with (first | ((with_reducible refine zn0 (N := 16) rfl ?_); refine Kd.R_lit (Kd.int .i64) _ 3 ?hg (N := 16) ?hd (xs := ([p] : List Int)) (inner := [.int .i64 p]) (ok := fun _ => True) (okp := fun _ => True) ?hr ?hp (fun _ hk => hk) trivial (Below.refl _ _) (Nat.le_refl _) (by simp) ?_; (case hd => rfl); (case hg => rfl); (case hr => first | (go_simp; done) | (go_simp; rfl)); (case hp => exact (Reps.one (show Kd.M (Kd.int .i64) _ _ _ p [.int .i64 p] from rfl) (Reps.none _ _))); intro v16 w16 ho hb hg_ hnew_; clear hg_ hnew_; have OT := za0.mk (Kd.R_lower (Kd.R_mono (ok' := fun k => k ≠ nb ∧ w.heap.size ≤ k) (Kd.R_bound ho) (fun k hk => ⟨fun e => by have h1 := hk.2.1; have h2 := HNB.out; rw [e] at h1; exact absurd h1 (Nat.not_le.2 h2), hk.2.1⟩)) HB.out.size); have n0_ := za0.mk (zj0 HB.out hb); have n1_ := za0.mk (zl0 BA.out hb); have n2_ := za0.mk (Kd.R_below RT.out hb); have HK := za0.mk (Kept.of_below hb (fun k => k = nb)); have HSZ := za0.mk hb.size; clear HB BA RT ho hb; have HB := n0_; have BA := n1_; have RT := n2_; clear n0_ n1_ n2_) | ((with_reducible refine zn0 (N := 10) rfl ?_); refine zo0 ?hg (N := 10) ?hd (cs := #[.slice none 0 0, .int .i64 0]) (t := 63) ?hr ?_; (case hd => rfl); (case hg => rfl); (case hr => first | (go_simp; done) | (go_simp; rfl)); intro B hg w17 hbox hb; have GE := za0.mk (show w.heap.size ≤ B ∧ w0.heap.size ≤ B from ⟨by rw [hg]; exact HSZ.out, by rw [hg]; exact HB.out.size⟩); have BX := za0.mk hbox; have n0_ := za0.mk (zj0 HB.out hb); have n1_ := za0.mk (zl0 BA.out hb); have n2_ := za0.mk (Kd.R_below RT.out hb); have n3_ := za0.mk (Kd.R_below OT.out hb); have n4_ := za0.mk (HK.out.below hb); clear HB BA RT OT HK HSZ hbox hb hg; have HB := n0_; have BA := n1_; have RT := n2_; have OT := n3_; have HK := n4_; clear n0_ n1_ n2_ n3_ n4_; have hcz0 : w17.cell? ⟨B, 0, none⟩ = some (.slice none 0 0) := (zk0 BX.out 0).trans rfl; have hcz1 : w17.cell? ⟨B, 1, none⟩ = some (.int .i64 0) := (zk0 BX.out 1).trans rfl; have hfz0 := zm0 BX.out 0; have hfz1 := zm0 BX.out 1))
 have WK := za0.mk (show WkSt w0 w ((w17.setCell ⟨B, 0, none⟩ (.slice (some ⟨nb, 0, none⟩) rot.length cap)).setCell ⟨B, 1, none⟩ (.int .i64 p)) B nb rot.length cap rot p from ⟨ze0 (ze0 HB.out GE.out.2) GE.out.2, ((HK.out.mono (fun _ h_ => .inl h_)).setCell (.inl (.inr rfl)) _).setCell (.inl (.inr rfl)) _, rfl, HCP.out, (blk_putA ((blk_putA BX.out).trans rfl)).trans rfl, Kd.R_set (Kd.R_set RT.out BX.out (by decide) 0 _) ((blk_putA BX.out).trans rfl) (by decide) 1 _, GE.out.2⟩)
 have NEB := za0.mk (blk_ne BA.out BX.out (by decide))
 have ST := za0.mk (show PtSt w0 w ((w17.setCell ⟨B, 0, none⟩ (.slice (some ⟨nb, 0, none⟩) rot.length cap)).setCell ⟨B, 1, none⟩ (.int .i64 p)) Ba B nb rot.length cap A0 l.length c0 s rot p v16 [p] from
  ⟨⟨WK.out.hb, Kept.refl _ _, rfl, HCP.out, WK.out.bk, WK.out.rt, GE.out.2⟩, ((HK.out.setCell (.inr GE.out.1) _).setCell (.inr GE.out.1) _), GE.out.1, (Below.heap_setCell _ ⟨B, 1, none⟩ _ Ba NEB.out).trans ((Below.heap_setCell _ ⟨B, 0, none⟩ _ Ba NEB.out).trans BA.out), Kd.R_set (Kd.R_set OT.out BX.out (by decide) 0 _) ((blk_putA BX.out).trans rfl) (by decide) 1 _⟩)
 clear WK NEB OT BX BA RT HB HK hcz0 hcz1 hfz0 hfz1
 go_loopg [11] k (fun kq v11 w' => ∃ (rot' : List Int) (p' : Int) (out' : List Int), za0 (pathL l s most kq rot' p' out' = some (r1, r2, r3)) ∧ za0 (kq ≤ k) ∧ za0 (PtSt w0 w w' Ba B nb rot.length cap A0 l.length c0 s rot' p' v11 out'))
 case atStart => exact ⟨rot, p, [p], H', ⟨Nat.le_refl _⟩, ST⟩
 case round =>
  clear H' ST
  obtain ⟨rt, p, out, HA, HK1, ST0⟩ := hrel
  have HN := za0.mk ST0.out.wk.hn
  obtain ⟨Ao, co, eo⟩ := Kd.R_slice ST0.out.ot
  subst eo
  cases gk with
  | zero => exact absurd HA.out (by simp [pathL])
  | succ k1 =>
   have H := HA.out
   clear HA
   simp only [pathL] at H
   have ST := za0.mk ST0.out.drew
   have hcp : wr.drew.cell? ⟨B, 1, none⟩ = some (.int .i64 p) := (zk0 ST.out.wk.bk 1).trans rfl
   have hcs : wr.drew.cell? ⟨Ba, 1, none⟩ = some (.int .i64 s) := (zk0 ST.out.ba 1).trans rfl
   clear ST0
   by_cases c1 : p = s
   ·rw [if_pos c1] at H
    have c1b0 : (p == s) = true := beq_iff_eq.mpr c1
    have c1b1 : (p != s) = false := bne_eq_false_iff_eq.mpr c1
    clear c1
    simp only [Option.some.injEq, Prod.mk.injEq] at H
    obtain ⟨rfl, rfl, rfl⟩ := H
    go_wp2
    refine start_ (n := 7) (S := fun w' => w'.cell? ⟨B, 1, none⟩ = some (.int .i64 p) ∧ w'.cell? ⟨Ba, 1, none⟩ = some (.int .i64 s)) (ds := []) #[false, false, false, false, false, false, false] (by kernel_rfl) rfl rfl ⟨hcp, hcs⟩ (fun hHeld => ?_)
    generalize wr.drew = w3 at ST hcp hcs hHeld ⊢
    refine pure_ (i := 0) (N := some 17) (v := ?_) (a' := ?_) (bf 7 1) rfl rfl (by kernel_rfl) (fun _ _ _ h => h) (Or.inl ⟨by rfl, ?_⟩) ?_ ?_
    rotate_left
    ·intro w'; go_simp; with_reducible rfl
    rotate_left
    ·simp only [Act.put, zA, zB, zC, i64_w, i32_w]; rfl
    refine take_ (i := 1) (N := some 18) (v := ?_) (a' := ?_) (bf 7 3) rfl rfl (by kernel_rfl) (fun _ _ _ h => h) (Or.inl ⟨by rfl, ?_⟩) hHeld ?_ ?_
    rotate_left
    ·rintro w' ⟨s0, s1⟩; go_simp; with_reducible rfl
    rotate_left
    ·simp only [Act.put, zA, zB, zC, i64_w, i32_w]; rfl
    refine pure_ (i := 2) (N := some 19) (v := ?_) (a' := ?_) (bf 7 7) rfl rfl (by kernel_rfl) (fun _ _ _ h => h) (Or.inl ⟨by rfl, ?_⟩) ?_ ?_
    rotate_left
    ·intro w'; go_simp; with_reducible rfl
    rotate_left
    ·simp only [Act.put, zA, zB, zC, i64_w, i32_w]; rfl
    refine pure_ (i := 3) (N := some 20) (v := ?_) (a' := ?_) (bf 7 15) rfl rfl (by kernel_rfl) (fun _ _ _ h => h) (Or.inl ⟨by rfl, ?_⟩) ?_ ?_
    rotate_left
    ·intro w'; go_simp; with_reducible rfl
    rotate_left
    ·simp only [Act.put, zA, zB, zC, i64_w, i32_w]; rfl
    refine pure_ (i := 4) (N := some 21) (v := ?_) (a' := ?_) (bf 7 31) rfl rfl (by kernel_rfl) (fun _ _ _ h => h) (Or.inl ⟨by rfl, ?_⟩) ?_ ?_
    rotate_left
    ·intro w'; go_simp; with_reducible rfl
    rotate_left
    ·simp only [Act.put, zA, zB, zC, i64_w, i32_w]; rfl
    refine take_ (i := 5) (N := some 22) (v := ?_) (a' := ?_) (bf 7 63) rfl rfl (by kernel_rfl) (fun _ _ _ h => h) (Or.inl ⟨by rfl, ?_⟩) hHeld ?_ ?_
    rotate_left
    ·rintro w' ⟨s0, s1⟩; go_simp; with_reducible rfl
    rotate_left
    ·simp only [Act.put, zA, zB, zC, i64_w, i32_w]; rfl
    refine pure_ (i := 6) (N := some 23) (v := ?_) (a' := ?_) (bf 7 127) rfl rfl (by kernel_rfl) (fun _ _ _ h => h) (Or.inl ⟨by rfl, ?_⟩) ?_ ?_
    rotate_left
    ·intro w'; go_simp; with_reducible rfl
    rotate_left
    ·simp only [Act.put, zA, zB, zC, i64_w, i32_w]; rfl
    refine done_ (by kernel_rfl) ?_
    go_wp2
    go_ret2
    exact ⟨_, by first | rfl | (simp; done), ST.out.ot, ST.out.wk.rt, ST.out.wk.hb, ST.out.hk⟩
   ·rw [if_neg c1] at H
    have c1b0 : (p == s) = false := beq_eq_false_iff_ne.mpr c1
    have c1b1 : (p != s) = true := bne_iff_ne.mpr c1
    clear c1
    by_cases c2 : most < (out.length : Int)
    ·rw [if_pos c2] at H
     have c2b0 : decide (most < (out.length : Int)) = true := decide_eq_true c2
     clear c2
     simp only [Option.some.injEq, Prod.mk.injEq] at H
     obtain ⟨rfl, rfl, rfl⟩ := H
     go_wp2
     refine start_ (n := 7) (S := fun w' => w'.cell? ⟨B, 1, none⟩ = some (.int .i64 p) ∧ w'.cell? ⟨Ba, 1, none⟩ = some (.int .i64 s)) (ds := []) #[false, false, false, false, false, false, false] (by kernel_rfl) rfl rfl ⟨hcp, hcs⟩ (fun hHeld => ?_)
     generalize wr.drew = w3 at ST hcp hcs hHeld ⊢
     refine pure_ (i := 0) (N := some 17) (v := ?_) (a' := ?_) (bf 7 1) rfl rfl (by kernel_rfl) (fun _ _ _ h => h) (Or.inl ⟨by rfl, ?_⟩) ?_ ?_
     rotate_left
     ·intro w'; go_simp; with_reducible rfl
     rotate_left
     ·simp only [Act.put, zA, zB, zC, i64_w, i32_w]; rfl
     refine take_ (i := 1) (N := some 18) (v := ?_) (a' := ?_) (bf 7 3) rfl rfl (by kernel_rfl) (fun _ _ _ h => h) (Or.inl ⟨by rfl, ?_⟩) hHeld ?_ ?_
     rotate_left
     ·rintro w' ⟨s0, s1⟩; go_simp; with_reducible rfl
     rotate_left
     ·simp only [Act.put, zA, zB, zC, i64_w, i32_w]; rfl
     refine pure_ (i := 2) (N := some 19) (v := ?_) (a' := ?_) (bf 7 7) rfl rfl (by kernel_rfl) (fun _ _ _ h => h) (Or.inl ⟨by rfl, ?_⟩) ?_ ?_
     rotate_left
     ·intro w'; go_simp; with_reducible rfl
     rotate_left
     ·simp only [Act.put, zA, zB, zC, i64_w, i32_w]; rfl
     refine pure_ (i := 3) (N := some 20) (v := ?_) (a' := ?_) (bf 7 15) rfl rfl (by kernel_rfl) (fun _ _ _ h => h) (Or.inl ⟨by rfl, ?_⟩) ?_ ?_
     rotate_left
     ·intro w'; go_simp; with_reducible rfl
     rotate_left
     ·simp only [Act.put, zA, zB, zC, i64_w, i32_w]; rfl
     refine pure_ (i := 4) (N := some 21) (v := ?_) (a' := ?_) (bf 7 31) rfl rfl (by kernel_rfl) (fun _ _ _ h => h) (Or.inl ⟨by rfl, ?_⟩) ?_ ?_
     rotate_left
     ·intro w'; go_simp; with_reducible rfl
     rotate_left
     ·simp only [Act.put, zA, zB, zC, i64_w, i32_w]; rfl
     refine take_ (i := 5) (N := some 22) (v := ?_) (a' := ?_) (bf 7 63) rfl rfl (by kernel_rfl) (fun _ _ _ h => h) (Or.inl ⟨by rfl, ?_⟩) hHeld ?_ ?_
     rotate_left
     ·rintro w' ⟨s0, s1⟩; go_simp; with_reducible rfl
     rotate_left
     ·simp only [Act.put, zA, zB, zC, i64_w, i32_w]; rfl
     refine pure_ (i := 6) (N := some 23) (v := ?_) (a' := ?_) (bf 7 127) rfl rfl (by kernel_rfl) (fun _ _ _ h => h) (Or.inl ⟨by rfl, ?_⟩) ?_ ?_
     rotate_left
     ·intro w'; go_simp; with_reducible rfl
     rotate_left
     ·simp only [Act.put, zA, zB, zC, i64_w, i32_w]; rfl
     refine done_ (by kernel_rfl) ?_
     go_wp2
     go_ret2
     exact ⟨_, by first | rfl | (simp; done), Kd.R_nil _ _ _ _ _, ST.out.wk.rt, ST.out.wk.hb, ST.out.hk⟩
    ·rw [if_neg c2] at H
     have c2b0 : decide (most < (out.length : Int)) = false := decide_eq_false c2
     clear c2
     replace H := Option.bind_eq_some_iff.mp H
     obtain ⟨⟨rt2, p2⟩, A90, H⟩ := H
     have A9 := za0.mk A90
     clear A90
     replace H : (if out.length < 17592186044416 then pathL l s most k1 rt2 p2 (out ++ [p2]) else none) = some (r1, r2, r3) := H
     by_cases c3 : out.length < 17592186044416
     ·rw [if_pos c3] at H
      have LM := za0.mk c3
      have H' := za0.mk H
      clear H c3
      go_wp2
      refine start_ (n := 7) (S := fun w' => w'.cell? ⟨B, 1, none⟩ = some (.int .i64 p) ∧ w'.cell? ⟨Ba, 1, none⟩ = some (.int .i64 s)) (ds := []) #[false, false, false, false, false, false, false] (by kernel_rfl) rfl rfl ⟨hcp, hcs⟩ (fun hHeld => ?_)
      generalize wr.drew = w3 at ST hcp hcs hHeld ⊢
      refine pure_ (i := 0) (N := some 17) (v := ?_) (a' := ?_) (bf 7 1) rfl rfl (by kernel_rfl) (fun _ _ _ h => h) (Or.inl ⟨by rfl, ?_⟩) ?_ ?_
      rotate_left
      ·intro w'; go_simp; with_reducible rfl
      rotate_left
      ·simp only [Act.put, zA, zB, zC, i64_w, i32_w]; rfl
      refine take_ (i := 1) (N := some 18) (v := ?_) (a' := ?_) (bf 7 3) rfl rfl (by kernel_rfl) (fun _ _ _ h => h) (Or.inl ⟨by rfl, ?_⟩) hHeld ?_ ?_
      rotate_left
      ·rintro w' ⟨s0, s1⟩; go_simp; with_reducible rfl
      rotate_left
      ·simp only [Act.put, zA, zB, zC, i64_w, i32_w]; rfl
      refine pure_ (i := 2) (N := some 19) (v := ?_) (a' := ?_) (bf 7 7) rfl rfl (by kernel_rfl) (fun _ _ _ h => h) (Or.inl ⟨by rfl, ?_⟩) ?_ ?_
      rotate_left
      ·intro w'; go_simp; with_reducible rfl
      rotate_left
      ·simp only [Act.put, zA, zB, zC, i64_w, i32_w]; rfl
      refine pure_ (i := 3) (N := some 20) (v := ?_) (a' := ?_) (bf 7 15) rfl rfl (by kernel_rfl) (fun _ _ _ h => h) (Or.inl ⟨by rfl, ?_⟩) ?_ ?_
      rotate_left
      ·intro w'; go_simp; with_reducible rfl
      rotate_left
      ·simp only [Act.put, zA, zB, zC, i64_w, i32_w]; rfl
      refine pure_ (i := 4) (N := some 21) (v := ?_) (a' := ?_) (bf 7 31) rfl rfl (by kernel_rfl) (fun _ _ _ h => h) (Or.inl ⟨by rfl, ?_⟩) ?_ ?_
      rotate_left
      ·intro w'; go_simp; with_reducible rfl
      rotate_left
      ·simp only [Act.put, zA, zB, zC, i64_w, i32_w]; rfl
      refine take_ (i := 5) (N := some 22) (v := ?_) (a' := ?_) (bf 7 63) rfl rfl (by kernel_rfl) (fun _ _ _ h => h) (Or.inl ⟨by rfl, ?_⟩) hHeld ?_ ?_
      rotate_left
      ·rintro w' ⟨s0, s1⟩; go_simp; with_reducible rfl
      rotate_left
      ·simp only [Act.put, zA, zB, zC, i64_w, i32_w]; rfl
      refine pure_ (i := 6) (N := some 23) (v := ?_) (a' := ?_) (bf 7 127) rfl rfl (by kernel_rfl) (fun _ _ _ h => h) (Or.inl ⟨by rfl, ?_⟩) ?_ ?_
      rotate_left
      ·intro w'; go_simp; with_reducible rfl
      rotate_left
      ·simp only [Act.put, zA, zB, zC, i64_w, i32_w]; rfl
      refine done_ (by kernel_rfl) ?_
      have hcg : w3.cell? ⟨Ba, 0, none⟩ = some (.slice A0 l.length c0) := (zk0 ST.out.ba 0).trans rfl
      go_wp2_with (first | (go_at_call 56; refine (impl_Graph_step.calls l A0 c0 B nb rot.length cap rt rt2 p p2 w0 w3 w3 HR0.out HC0.out ST.out.wk A9.out).mono ?_; rintro e w4 ⟨rfl, st2⟩; have ST4 := za0.mk (ST.out.step st2); clear st2 ST hcp hcs hcg hHeld; have hcq : w4.cell? ⟨B, 1, none⟩ = some (.int .i64 p2) := (zk0 ST4.out.wk.bk 1).trans rfl) | ((with_reducible refine gate_builtin (b := .append) (xs := #[.tmp 33, .tmp 36]) rfl ?_); at_builtin; refine Kd.R_append (Kd.int .i64) (w0 := w0) w0.heap.size rfl (.tmp 33) (.tmp 36) 25 3 (.int .i64 0) 8 rfl Try.underlying25 info3 rfl (by decide) (by omega) (.slice Ao out.length co) out p2 [.int .i64 p2] (fun k => k ≠ nb ∧ w.heap.size ≤ k) (fun _ => False) rfl (by first | (go_simp; done) | (go_simp; rfl)) ?aP (fun _ hk => hk.elim) ?aF ?aO ?aB ?aS ?aL ?_; (case aP => exact rfl); (case aB => exact ST4.out.wk.hb); (case aF => exact fun k hk => ⟨fun e => absurd (Kd.R_lt ST4.out.wk.rt nb rfl) (by omega), by have := ST4.out.hk.1; omega⟩); (case aO => exact ST4.out.ot); (case aS => exact zg0 ST4.out.wk.hb); (case aL => have := LM.out; omega); intro v5 w5 ho hb hg hat; have ST5 := za0.mk (ST4.out.grow hb hg hat ho); clear ho hb hg hat ST4))
      go_roundg k1
      case measure => have := HK1.out; omega
      case rel => exact ⟨rt2, p2, out ++ [p2], H', ⟨by have := HK1.out; omega⟩, ST5⟩
     ·rw [if_neg c3] at H; exact absurd H (by simp)
theorem pathL_mono (l : List (List Int)) (s most : Int) : ∀ k rot p out, LeO (pathL l s most k rot p out) (pathL l s most (k + 1) rot p out) := by
 intro k
 induction k with
 | zero => intro rot p out; exact LeO.none _
 | succ k ih =>
  intro rot p out
  rw [pathL.eq_2, pathL.eq_2]
  exact LeO.ite (LeO.refl _) (LeO.ite (LeO.refl _) (LeO.bind (LeO.refl _) (fun t => LeO.ite (ih _ _ _) (LeO.refl _))))
def actL (l : List (List Int)) (s : Int) (chips : List Int) : Nat → Option Int → Int → List Int → Int → Option (List Int × Bool)
 | 0, _, _, _, _ => none
 | k + 1, none, i, rot, left => if i < (chips.length : Int) then (if 0 ≤ i then actL l s chips k (some 0) i rot left else none) else some (rot, true)
 | k + 1, some j, i, rot, left => if j < rd chips i then ((pathL l s left k rot i [i]).bind fun t => if t.2.2 = true then actL l s chips k (some (wrap64 (j + 1))) i t.1 (wrap64 (left - wrap64 ((t.2.1.length : Int) - 1))) else some ([], false)) else actL l s chips k none (wrap64 (i + 1)) rot left
theorem actL_mono (l : List (List Int)) (s : Int) (chips : List Int) : ∀ k j i rot left, LeO (actL l s chips k j i rot left) (actL l s chips (k + 1) j i rot left) := by
 intro k
 induction k with
 | zero => intro j i rot left; exact LeO.none _
 | succ k ih =>
  intro j i rot left
  cases j with
  | none => rw [actL.eq_2, actL.eq_2]; exact LeO.ite (LeO.ite (ih _ _ _ _) (LeO.refl _)) (LeO.refl _)
  | some j => rw [actL.eq_3, actL.eq_3]; exact LeO.ite (LeO.bind (pathL_mono _ _ _ _ _ _ _) (fun t => LeO.ite (ih _ _ _ _) (LeO.refl _))) (ih _ _ _ _)
def impl_actor_act.f (k : Nat) (l : List (List Int)) (s : Int) (rot chips : List Int) : Option (List Int × Bool) := if 0 < rot.length then (slices_Clone_int_int.f rot).bind fun t => if t.length = rot.length then actL l s chips k none 0 t 4000 else none else none
theorem impl_actor_act.mono (l : List (List Int)) (s : Int) (rot chips : List Int) (k : Nat) : LeO (impl_actor_act.f k l s rot chips) (impl_actor_act.f (k + 1) l s rot chips) := by
 unfold impl_actor_act.f
 exact LeO.ite (LeO.bind (LeO.refl _) (fun t => LeO.ite (actL_mono _ _ _ _ _ _ _ _) (LeO.refl _))) (LeO.refl _)
structure ActSt (w0 w : World) (Ba nb n cap : Nat) (A0 : Option Addr) (m c0 : Nat) (s : Int) (rot : List Int) : Prop where
 hb : Below w0.heap.size w0 w
 hn : n = rot.length
 cap_ : n ≤ cap
 ba : w.heap[Ba]? = some (.cells #[.slice A0 m c0, .int .i64 s] 71 (0, 0))
 rt : Kd.R (Kd.int .i64) 3 w w0.heap.size (fun k => k = nb) (.slice (some ⟨nb, 0, none⟩) n cap) rot
theorem actor_ne {w : World} {Ba nb n cap base : Nat} {cs : Array Value} {rot : List Int} (ba : w.heap[Ba]? = some (.cells cs 71 (0, 0))) (rt : Kd.R (Kd.int .i64) 3 w base (fun k => k = nb) (.slice (some ⟨nb, 0, none⟩) n cap) rot) : Ba ≠ nb :=
 fun e => Kd.R_ne rt ba (by decide) (by rw [e]; rfl)
set_option maxHeartbeats 8000000 in
set_option maxRecDepth 100000 in
theorem impl_actor_act.calls (k : Nat) (l : List (List Int)) (s : Int) (A0 : Option Addr) (c0 Ba : Nat) (A1 : Option Addr) (c1 : Nat) (rot : List Int) (A2 : Option Addr) (c2 : Nat) (chips : List Int) (r1 : List Int) (r2 : Bool) (w : World) (hr0 : Kd.C (Kd.slice 3 (Kd.int .i64)) w A0 l.length l) (hc0 : l.length ≤ c0)
  (ba : w.heap[Ba]? = some (.cells #[.slice A0 l.length c0, .int .i64 s] 71 (0, 0))) (hr1 : Kd.C (Kd.int .i64) w A1 rot.length rot) (hc1 : rot.length ≤ c1) (n2 : Nat) (hn2 : n2 = chips.length) (hr2 : Kd.C (Kd.int .i64) w A2 n2 chips) (hc2 : n2 ≤ c2) (h : impl_actor_act.f k l s rot chips = some (r1, r2)) :
  Calls Try.prog 55 #[.pointer (some ⟨Ba, 0, none⟩), .slice A1 rot.length c1, .slice A2 n2 c2] w fun e w' => ∃ v, e = .returned (.tuple #[v, .bool r2]) ∧ Kd.R (Kd.int .i64) 3 w' w.heap.size (fun _ => True) v r1 ∧ Below w.heap.size w w' := by
 have hu1 := Try.underlying29
 have hu3 := Try.underlying71
 subst hn2
 unfold impl_actor_act.f at h
 by_cases hl0 : 0 < rot.length
 ·rw [if_pos hl0] at h
  obtain ⟨t, h1, h⟩ := Option.bind_eq_some_iff.mp h
  by_cases htl : t.length = rot.length
  ·rw [if_pos htl] at h
   have HR0 := za0.mk hr0
   have HC0 := za0.mk hc0
   have HR1 := za0.mk hr1
   have HC1 := za0.mk hc1
   have HR2 := za0.mk hr2
   have HC2 := za0.mk hc2
   have BA := za0.mk ba
   have A5 := za0.mk h1
   have H' := za0.mk h
   have HL := za0.mk hl0
   have HTL := za0.mk htl
   clear hr0 hc0 hr1 hc1 hr2 hc2 ba h1 h hl0 htl
   go_enter Try.func55, Try.ntmps55
   go_wp2_with (go_at_call 35; refine (slices_Clone_int_int.calls _ _ rot t _ HR1.out HC1.out A5.out).mono ?_; rintro e w1 ⟨v1, rfl, ho, hb⟩; obtain ⟨nb, cap, e1, hnb, _, _⟩ := Kd.R_form ho (by have := HTL.out; have := HL.out; omega); subst e1; have ST := za0.mk (show ActSt w w1 Ba nb t.length cap A0 l.length c0 s t from ⟨hb, rfl, (Kd.R_reads' ho).2.1, zl0 BA.out hb, Kd.R_mono (ok' := fun k => k = nb) (Kd.R_tight rfl ho) (fun k hk => by injection hk)⟩); clear ho hb hnb BA)
   go_loopg [9, 18] k (fun kq v9 v18 w' => ∃ (left i : Int) (rot' : List Int), v9 = .int .i64 left ∧ v18 = .int .i64 i ∧ za0 (actL l s chips kq none i rot' left = some (r1, r2)) ∧ za0 (kq ≤ k) ∧ za0 (ActSt w w' Ba nb t.length cap A0 l.length c0 s rot'))
   case atStart => exact ⟨4000, 0, t, rfl, rfl, H', ⟨Nat.le_refl _⟩, ST⟩
   case round =>
    clear H' ST
    obtain ⟨left, i, rt, rfl, rfl, HA, HK1, ST⟩ := hrel
    cases gk with
    | zero => exact absurd HA.out (by simp [actL])
    | succ k1 =>
     have H := HA.out
     clear HA
     simp only [actL] at H
     by_cases c1 : i < (chips.length : Int)
     ·rw [if_pos c1] at H
      by_cases c2_ : 0 ≤ i
      ·rw [if_pos c2_] at H
       obtain ⟨adc, ec, hxc⟩ := Kd.at_int HR2.out i c2_ c1
       cases ec
       replace hxc := (ST.out.hb.cell (World.block_lt_of_cell? _ _ hxc)).trans hxc
       have HI := za0.mk (And.intro c2_ c1)
       have c1b0 : decide (i < (chips.length : Int)) = true := decide_eq_true c1
       replace c1 := eq_true c1
       replace c2_ := eq_true c2_
       have H' := za0.mk H
       clear H
       go_wp2
       go_loopg [9, 24] k1 (fun kq v9 v24 w' => ∃ (left j : Int) (rot' : List Int), v9 = .int .i64 left ∧ v24 = .int .i64 j ∧ za0 (actL l s chips kq (some j) i rot' left = some (r1, r2)) ∧ za0 (kq ≤ k1) ∧ za0 (ActSt w w' Ba nb t.length cap (A0) l.length c0 s rot'))
       case atStart => exact ⟨left, 0, rt, rfl, rfl, H', ⟨Nat.le_refl _⟩, ST⟩
       case round =>
        clear H' ST hxc
        obtain ⟨lf, j, rt2, rfl, rfl, HA, HK2, ST⟩ := hrel
        cases gk with
        | zero => exact absurd HA.out (by simp [actL])
        | succ k2 =>
         have H := HA.out
         clear HA
         simp only [actL] at H
         by_cases c3 : j < rd chips i
         ·rw [if_pos c3] at H
          have c3b0 : decide (j < rd chips i) = true := decide_eq_true c3
          clear c3
          obtain ⟨⟨t1, t2, t3⟩, A90, H⟩ := Option.bind_eq_some_iff.mp H
          have A9 := za0.mk A90
          clear A90
          replace H : (if t3 = true then actL l s chips k2 (some (wrap64 (j + 1))) i t1 (wrap64 (lf - wrap64 ((t2.length : Int) - 1))) else some ([], false)) = some (r1, r2) := H
          cases t3 with
          | false =>
           rw [if_neg (by decide)] at H
           simp only [Option.some.injEq, Prod.mk.injEq] at H
           obtain ⟨rfl, rfl⟩ := H
           go_wp2_with (go_at_call 34; refine (impl_actor_path.calls k2 l A0 c0 Ba nb t.length cap s rt2 i lf t1 t2 false w wr (HR0.out) HC0.out ST.out.hb ST.out.ba ST.out.hn ST.out.cap_ ST.out.rt A9.out).mono ?_; rintro e w5 ⟨v5, rfl, ho, hrt, hb, hkp⟩; have n0_ := za0.mk (show ActSt w w5 Ba nb t.length cap A0 l.length c0 s t1 from ⟨hb, by have := Kd.R_reads' hrt; have := Kd.R_slice hrt; obtain ⟨_, _, e_⟩ := this; injection e_, ST.out.cap_, blk_kept ST.out.ba hkp (actor_ne ST.out.ba ST.out.rt), hrt⟩); obtain ⟨A5_, c5_, e5⟩ := Kd.R_slice ho; subst e5; clear ST ho hrt hb hkp; have ST := n0_; clear n0_)
           go_ret2
           exact ⟨_, by first | rfl | (simp; done), Kd.R_nil _ _ _ _ _, ST.out.hb⟩
          | true =>
           rw [if_pos rfl] at H
           have H' := za0.mk H
           clear H
           go_wp2_with (go_at_call 34; refine (impl_actor_path.calls k2 l A0 c0 Ba nb t.length cap s rt2 i lf t1 t2 true w wr (HR0.out) HC0.out ST.out.hb ST.out.ba ST.out.hn ST.out.cap_ ST.out.rt A9.out).mono ?_; rintro e w5 ⟨v5, rfl, ho, hrt, hb, hkp⟩; have n0_ := za0.mk (show ActSt w w5 Ba nb t.length cap A0 l.length c0 s t1 from ⟨hb, by have := Kd.R_reads' hrt; have := Kd.R_slice hrt; obtain ⟨_, _, e_⟩ := this; injection e_, ST.out.cap_, blk_kept ST.out.ba hkp (actor_ne ST.out.ba ST.out.rt), hrt⟩); obtain ⟨A5_, c5_, e5⟩ := Kd.R_slice ho; subst e5; clear ST ho hrt hb hkp; have ST := n0_; clear n0_)
           go_roundg k2
           case measure => have := HK2.out; omega
           case rel => exact ⟨_, _, t1, rfl, rfl, H', ⟨by have := HK2.out; omega⟩, ST⟩
         ·rw [if_neg c3] at H
          have c3b0 : decide (j < rd chips i) = false := decide_eq_false c3
          clear c3
          have H' := za0.mk H
          clear H
          go_wp2
          go_roundg k2
          case measure => have := HK2.out; have := HK1.out; omega
          case rel => exact ⟨_, _, rt2, rfl, rfl, H', ⟨by have := HK2.out; have := HK1.out; omega⟩, ST⟩
      ·rw [if_neg c2_] at H; exact absurd H (by simp)
     ·rw [if_neg c1] at H
      have c1b0 : decide (i < (chips.length : Int)) = false := decide_eq_false c1
      clear c1
      simp only [Option.some.injEq, Prod.mk.injEq] at H
      obtain ⟨rfl, rfl⟩ := H
      go_wp2
      go_ret2
      exact ⟨_, by first | rfl | (simp; done), Kd.R_mono ST.out.rt (fun _ _ => trivial), ST.out.hb⟩
  ·rw [if_neg htl] at h; exact absurd h (by simp)
 ·rw [if_neg hl0] at h; exact absurd h (by simp)
def impl_actor_one.f (k : Nat) (l : List (List Int)) (s : Int) (rot : List Int) (p : Int) : Option (List Int × Bool) := if 0 ≤ p then (if p < (l.length : Int) then (if l.length ≤ 1000 then impl_actor_act.f k l s rot ((List.replicate l.length 0).set p.toNat 1) else none) else none) else none
theorem impl_actor_one.mono (l : List (List Int)) (s : Int) (rot : List Int) (p : Int) (k : Nat) : LeO (impl_actor_one.f k l s rot p) (impl_actor_one.f (k + 1) l s rot p) := by
 unfold impl_actor_one.f
 exact LeO.ite (LeO.ite (LeO.ite (impl_actor_act.mono _ _ _ _ _) (LeO.refl _)) (LeO.refl _)) (LeO.refl _)
set_option maxHeartbeats 8000000 in
set_option maxRecDepth 100000 in
theorem impl_actor_one.calls (k : Nat) (l : List (List Int)) (s : Int) (A0 : Option Addr) (c0 Ba : Nat) (A1 : Option Addr) (c1 : Nat) (rot : List Int) (p : Int) (r1 : List Int) (r2 : Bool) (w : World) (hr0 : Kd.C (Kd.slice 3 (Kd.int .i64)) w A0 l.length l) (hc0 : l.length ≤ c0)
  (ba : w.heap[Ba]? = some (.cells #[.slice A0 l.length c0, .int .i64 s] 71 (0, 0))) (hr1 : Kd.C (Kd.int .i64) w A1 rot.length rot) (hc1 : rot.length ≤ c1) (h : impl_actor_one.f k l s rot p = some (r1, r2)) :
  Calls Try.prog 33 #[.pointer (some ⟨Ba, 0, none⟩), .slice A1 rot.length c1, .int .i64 p] w fun e w' => ∃ v, e = .returned (.tuple #[v, .bool r2]) ∧ Kd.R (Kd.int .i64) 3 w' w.heap.size (fun _ => True) v r1 ∧ Below w.heap.size w w' := by
 have hu1 := Try.underlying29
 have hu3 := Try.underlying71
 unfold impl_actor_one.f at h
 by_cases p0 : 0 ≤ p
 ·rw [if_pos p0] at h
  by_cases p1 : p < (l.length : Int)
  ·rw [if_pos p1] at h
   by_cases hl : l.length ≤ 1000
   ·rw [if_pos hl] at h
    have HR0 := za0.mk hr0
    have HC0 := za0.mk hc0
    have HR1 := za0.mk hr1
    have HC1 := za0.mk hc1
    have BA := za0.mk ba
    have A5 := za0.mk h
    have HL := za0.mk hl
    have HP := za0.mk (And.intro p0 p1)
    have hcg : w.cell? ⟨Ba, 0, none⟩ = some (.slice A0 l.length c0) := (zk0 BA.out 0).trans rfl
    replace p0 := eq_true p0
    replace p1 := eq_true p1
    clear hr0 hc0 hr1 hc1 ba h hl
    go_enter Try.func33, Try.ntmps33
    go_wp2_with (first | ((with_reducible refine zn0 (N := 15) rfl ?_); refine Kd.R_make (Kd.int .i64) (w0 := w) w.heap.size 3 rfl (N := 15) rfl 25 _ _ rfl (l.length : Int) rfl rfl Try.underlying25 (.int .i64 0) 8 info3 rfl (by decide) (by omega) 0 (ok := fun _ => True) (okp := fun _ => False) rfl (fun _ _ => trivial) trivial (by omega) (by have := HL.out; omega) (by repeat (first | exact Below.refl _ _ | apply zd0 | apply zb0)) (Nat.le_refl _) ?_; intro v2 w2 hr2 hb2 hg2 hnew2; rw [Int.toNat_natCast] at hr2; obtain ⟨nb, cap, e2, hnb, _, _⟩ := Kd.R_form hr2 (by rw [List.length_replicate]; have := HP.out; omega); rw [List.length_replicate] at e2; subst e2; obtain ⟨hx2, hf2⟩ := Kd.R_celln 0 hr2 p HP.out.1 HP.out.2; have HB2 := za0.mk hb2; have HR2 := za0.mk hr2; have HN := za0.mk hnb; have HG := za0.mk hg2; clear hb2 hr2 hnb hg2 hnew2 hcg) | (go_at_call 55; refine (impl_actor_act.calls k l s A0 c0 Ba _ _ rot _ _ ((List.replicate l.length 0).set p.toNat 1) r1 r2 (w2.setCell ⟨nb, p.toNat, none⟩ (.int .i64 1)) (Kd.C_below HR0.out (ze0 HB2.out HN.out)) HC0.out ((Below.heap_setCell _ ⟨nb, p.toNat, none⟩ _ Ba (Nat.ne_of_lt (Nat.lt_of_lt_of_le (blk_lt BA.out) HN.out))).trans (zy0 BA.out HG.out (by simp))) (Kd.C_below HR1.out (ze0 HB2.out HN.out)) HC1.out l.length (by rw [List.length_set, List.length_replicate]) ?side (Kd.R_reads' HR2.out).2.1 A5.out).mono ?_; go_loud (case side => have h_ := (Kd.R_reads' (Kd.R_putg HR2.out p 1).1).2.2; simp only [List.length_set, List.length_replicate] at h_ ⊢; exact h_); go_loud (rintro e w5 ⟨v5, rfl, ho, hb⟩; have HO := za0.mk (Kd.R_lower ho (zg0 (ze0 HB2.out HN.out))); have HB := za0.mk (zj0 (ze0 HB2.out HN.out) hb); clear ho hb)))
    go_ret2
    exact ⟨_, by first | rfl | (simp; done), HO.out, HB.out⟩
   ·rw [if_neg hl] at h; exact absurd h (by simp)
  ·rw [if_neg p1] at h; exact absurd h (by simp)
 ·rw [if_neg p0] at h; exact absurd h (by simp)
def slices_Equal_int_int.l0 : Nat → List Int → List Int → Int → Int → Option (Bool)
 | 0, _, _, _, _ => none
 | k + 1, x0, x1, x12, x13 => if x13 < x12 then (if 0 ≤ x13 then (if x13 < (x0.length : Int) then (if x13 < (x1.length : Int) then (if (rd x0 x13) = (rd x1 x13) then (slices_Equal_int_int.l0 k x0 x1 x12 (wrap64 (x13 + 1))) else (some false)) else (none)) else (none)) else (none)) else (some true)
def slices_Equal_int_int.f (k : Nat) (l0 : List Int) (l1 : List Int) : Option (Bool) := if (l0.length : Int) = (l1.length : Int) then (slices_Equal_int_int.l0 k l0 l1 (l0.length : Int) 0) else (some false)
theorem slices_Equal_int_int.mono_l : ∀ k, (∀ y0 y1 y2 y3, LeO (slices_Equal_int_int.l0 k y0 y1 y2 y3) (slices_Equal_int_int.l0 (k + 1) y0 y1 y2 y3))
 | 0 => fun _ _ _ _ r h => by simp [slices_Equal_int_int.l0] at h
 | k + 1 => by
  have ih0 := slices_Equal_int_int.mono_l k
  ·intro y0 y1 y2 y3
   unfold slices_Equal_int_int.l0
   repeat' first
   | (with_reducible exact ih0 _ _ _ _)
   | (with_reducible exact LeO.refl _)
   | (with_reducible exact LeO.none _)
   | (with_reducible refine LeO.ite ?_ ?_)
   | (with_reducible refine LeO.bind ?_ (fun _ => ?_))
   | exact ih0 _ _ _ _
   | exact LeO.none _
   | refine LeO.ite ?_ ?_
   | refine LeO.bind ?_ (fun _ => ?_)
theorem slices_Equal_int_int.mono : ∀ a0 a1 k, LeO (slices_Equal_int_int.f k a0 a1) (slices_Equal_int_int.f (k + 1) a0 a1) := by
 intro a0 a1 k
 have ih0 := slices_Equal_int_int.mono_l k
 unfold slices_Equal_int_int.f
 repeat' first
   | (with_reducible exact ih0 _ _ _ _)
   | (with_reducible exact LeO.refl _)
   | (with_reducible exact LeO.none _)
   | (with_reducible refine LeO.ite ?_ ?_)
   | (with_reducible refine LeO.bind ?_ (fun _ => ?_))
   | exact ih0 _ _ _ _
   | exact LeO.none _
   | refine LeO.ite ?_ ?_
   | refine LeO.bind ?_ (fun _ => ?_)
set_option maxHeartbeats 8000000 in
set_option maxRecDepth 100000 in
theorem slices_Equal_int_int.calls (k : Nat) (A0 : Option Addr) (c0 : Nat) (l0 : List Int) (A1 : Option Addr) (c1 : Nat) (l1 : List Int) (r : Bool) (w : World) (hr0 : Kd.C (Kd.int .i64) w A0 l0.length l0) (hc0 : l0.length ≤ c0) (hr1 : Kd.C (Kd.int .i64) w A1 l1.length l1) (hc1 : l1.length ≤ c1) (h : slices_Equal_int_int.f k l0 l1 = some r) :
  Calls Try.prog 58 #[.slice A0 l0.length c0, .slice A1 l1.length c1] w fun e w' => e = .returned (.bool r) ∧ zz0 w w' := by
 have HR0 := za0.mk hr0
 have HC0 := za0.mk hc0
 clear hr0 hc0
 have HR1 := za0.mk hr1
 have HC1 := za0.mk hc1
 clear hr1 hc1
 have H : (if (l0.length : Int) = (l1.length : Int) then (slices_Equal_int_int.l0 k l0 l1 (l0.length : Int) 0) else (some false)) = some r := h
 clear h
 by_cases c3 : (l0.length : Int) = (l1.length : Int)
 ·rw [if_pos c3] at H
  have c3b0 : ((l0.length : Int) == (l1.length : Int)) = true := beq_iff_eq.mpr c3
  have c3b1 : ((l0.length : Int) != (l1.length : Int)) = false := bne_eq_false_iff_eq.mpr c3
  have c3b2 : (l0.length == l1.length) = true := by first | simpa using c3 | (simp at c3 ⊢; omega)
  clear c3
  have H' := za0.mk H
  clear H
  go_enter Try.func58, Try.ntmps58
  go_wp2
  repeat (go_quiet (fail); try go_wp2)
  go_loopg [13] k (fun kq v13 w' => ∃ (x13_1 : Int), v13 = .int .i64 x13_1 ∧ za0 (slices_Equal_int_int.l0 kq l0 l1 (l0.length : Int) x13_1 = some r) ∧ za0 (kq ≤ k) ∧ zz0 w w')
  case atStart => exact ⟨(0), (by first | rfl | (simp; done) | (simp [*]; done)), H', ⟨Nat.le_refl _⟩, by repeat (first | exact zz0.refl _ | apply zz0.step)⟩
  case round =>
   clear H'
   try clear c1
   try clear p2
   try clear c3
   try clear c3b0
   try clear c3b1
   try clear c3b2
   obtain ⟨x13_1, rfl, HA, HK1, ⟨m1, rfl⟩⟩ := hrel
   cases gk with
   | zero => exact absurd HA.out (by simp [slices_Equal_int_int.l0])
   | succ k1 =>
    have H := HA.out
    clear HA
    simp only [slices_Equal_int_int.l0] at H
    by_cases c4 : x13_1 < (l0.length : Int)
    ·rw [if_pos c4] at H
     have c4b0 : decide (x13_1 < (l0.length : Int)) = true := decide_eq_true c4
     clear c4
     by_cases c5 : 0 ≤ x13_1
     ·rw [if_pos c5] at H
      have c5b0 : decide (0 ≤ x13_1) = true := decide_eq_true c5
      clear c5
      by_cases c6 : x13_1 < (l0.length : Int)
      ·rw [if_pos c6] at H
       have c6b0 : decide (x13_1 < (l0.length : Int)) = true := decide_eq_true c6
       clear c6
       by_cases c7 : x13_1 < (l1.length : Int)
       ·rw [if_pos c7] at H
        have c7b0 : decide (x13_1 < (l1.length : Int)) = true := decide_eq_true c7
        clear c7
        by_cases c8 : (rd l0 x13_1) = (rd l1 x13_1)
        ·rw [if_pos c8] at H
         have c8b0 : ((rd l0 x13_1) == (rd l1 x13_1)) = true := beq_iff_eq.mpr c8
         have c8b1 : ((rd l0 x13_1) != (rd l1 x13_1)) = false := bne_eq_false_iff_eq.mpr c8
         clear c8
         have H' := za0.mk H
         clear H
         have p221 : 0 ≤ (x13_1 : Int) := of_decide_eq_true (by first | (with_reducible assumption) | assumption)
         have q221 : x13_1 < (l0.length : Int) := of_decide_eq_true (by first | (with_reducible assumption) | assumption)
         obtain ⟨ad221, e221, hx221_0⟩ := Kd.at_int HR0.out x13_1 p221 q221
         cases e221
         replace p221 := eq_true p221
         replace q221 := eq_true q221
         have p222 : 0 ≤ (x13_1 : Int) := of_decide_eq_true (by first | (with_reducible assumption) | assumption)
         have q222 : x13_1 < (l1.length : Int) := of_decide_eq_true (by first | (with_reducible assumption) | assumption)
         obtain ⟨ad222, e222, hx222_0⟩ := Kd.at_int HR1.out x13_1 p222 q222
         cases e222
         replace p222 := eq_true p222
         replace q222 := eq_true q222
         go_wp2
         repeat (go_quiet (fail); try go_wp2)
         go_roundg k1
         case measure => have := HK1.out; omega
         case rel => exact ⟨(wrap64 (x13_1 + 1)), (by first | rfl | (simp; done) | (simp [*]; done)), H', ⟨by have := HK1.out; omega⟩, by repeat (first | exact zz0.refl _ | apply zz0.step)⟩
        ·rw [if_neg c8] at H
         have c8b0 : ((rd l0 x13_1) == (rd l1 x13_1)) = false := beq_eq_false_iff_ne.mpr c8
         have c8b1 : ((rd l0 x13_1) != (rd l1 x13_1)) = true := bne_iff_ne.mpr c8
         obtain rfl := Option.some.inj H
         have p221 : 0 ≤ (x13_1 : Int) := of_decide_eq_true (by first | (with_reducible assumption) | assumption)
         have q221 : x13_1 < (l0.length : Int) := of_decide_eq_true (by first | (with_reducible assumption) | assumption)
         obtain ⟨ad221, e221, hx221_0⟩ := Kd.at_int HR0.out x13_1 p221 q221
         cases e221
         replace p221 := eq_true p221
         replace q221 := eq_true q221
         have p222 : 0 ≤ (x13_1 : Int) := of_decide_eq_true (by first | (with_reducible assumption) | assumption)
         have q222 : x13_1 < (l1.length : Int) := of_decide_eq_true (by first | (with_reducible assumption) | assumption)
         obtain ⟨ad222, e222, hx222_0⟩ := Kd.at_int HR1.out x13_1 p222 q222
         cases e222
         replace p222 := eq_true p222
         replace q222 := eq_true q222
         go_wp2
         repeat (go_quiet (fail); try go_wp2)
         go_ret
         exact ⟨by first | rfl | (simp; done) | (simp [*]; done), by repeat (first | exact zz0.refl _ | apply zz0.step)⟩
       ·rw [if_neg c7] at H
        exact absurd H (by simp)
      ·rw [if_neg c6] at H
       exact absurd H (by simp)
     ·rw [if_neg c5] at H
      exact absurd H (by simp)
    ·rw [if_neg c4] at H
     have c4b0 : decide (x13_1 < (l0.length : Int)) = false := decide_eq_false c4
     clear c4
     obtain rfl := Option.some.inj H
     go_wp2
     repeat (go_quiet (fail); try go_wp2)
     go_ret
     exact ⟨by first | rfl | (simp; done) | (simp [*]; done), by repeat (first | exact zz0.refl _ | apply zz0.step)⟩
 ·rw [if_neg c3] at H
  have c3b0 : ((l0.length : Int) == (l1.length : Int)) = false := beq_eq_false_iff_ne.mpr c3
  have c3b1 : ((l0.length : Int) != (l1.length : Int)) = true := bne_iff_ne.mpr c3
  have c3b2 : (l0.length == l1.length) = false := by first | simpa using c3 | (simp at c3 ⊢; omega)
  obtain rfl := Option.some.inj H
  go_enter Try.func58, Try.ntmps58
  go_wp2
  repeat (go_quiet (fail); try go_wp2)
  go_ret
  exact ⟨by first | rfl | (simp; done) | (simp [*]; done), by repeat (first | exact zz0.refl _ | apply zz0.step)⟩
def orbL (l : List (List Int)) (s : Int) (rot : List Int) (p : Int) : Nat → List (List Int) → Option (List (List Int) × Bool)
 | 0, _ => none
 | k + 1, out => if 0 ≤ wrap64 ((out.length : Int) - 1) then (if wrap64 ((out.length : Int) - 1) < (out.length : Int) then ((impl_actor_one.f k l s (rd_L1 out (wrap64 ((out.length : Int) - 1))) p).bind fun t => if t.2 = true then ((slices_Equal_int_int.f k t.1 rot).bind fun e => if e = true then some (out, true) else (if (out.length + 1) * 24 ≤ 140737488355328 then orbL l s rot p k (out ++ [t.1]) else none)) else some ([], false)) else none) else none
theorem orbL_mono (l : List (List Int)) (s : Int) (rot : List Int) (p : Int) : ∀ k out, LeO (orbL l s rot p k out) (orbL l s rot p (k + 1) out) := by
 intro k
 induction k with
 | zero => intro out; exact LeO.none _
 | succ k ih =>
  intro out
  rw [orbL.eq_2, orbL.eq_2]
  exact LeO.ite (LeO.ite (LeO.bind (impl_actor_one.mono _ _ _ _ _) (fun t => LeO.ite (LeO.bind (slices_Equal_int_int.mono _ _ _) (fun e => LeO.ite (LeO.refl _) (LeO.ite (ih _) (LeO.refl _)))) (LeO.refl _))) (LeO.refl _)) (LeO.refl _)
def impl_actor_orbit.f (k : Nat) (l : List (List Int)) (s : Int) (rot : List Int) (p : Int) : Option (List (List Int) × Bool) := (slices_Clone_int_int.f rot).bind fun t => orbL l s rot p k [t]
theorem impl_actor_orbit.mono (l : List (List Int)) (s : Int) (rot : List Int) (p : Int) (k : Nat) : LeO (impl_actor_orbit.f k l s rot p) (impl_actor_orbit.f (k + 1) l s rot p) := by
 unfold impl_actor_orbit.f
 exact LeO.bind (LeO.refl _) (fun t => orbL_mono _ _ _ _ _ _)
structure OrbSt (w0 w : World) (Ba : Nat) (A0 : Option Addr) (m c0 : Nat) (s : Int) (v : Value) (out : List (List Int)) : Prop where
 hb : Below w0.heap.size w0 w
 ba : w.heap[Ba]? = some (.cells #[.slice A0 m c0, .int .i64 s] 71 (0, 0))
 lt : Ba < w0.heap.size
 fd : Kd.S (Kd.slice 3 (Kd.int .i64)) 25 w w0.heap.size (fun _ => True) v out
theorem OrbSt.below {w0 w w2 : World} {Ba : Nat} {A0 : Option Addr} {m c0 : Nat} {s : Int} {v : Value} {out : List (List Int)} (h : OrbSt w0 w Ba A0 m c0 s v out) (hb : Below w.heap.size w w2) : OrbSt w0 w2 Ba A0 m c0 s v out :=
 ⟨zj0 h.hb hb, zl0 h.ba hb, h.lt, Kd.S_below h.fd hb⟩
set_option maxHeartbeats 8000000 in
set_option maxRecDepth 100000 in
theorem impl_actor_orbit.calls (k : Nat) (l : List (List Int)) (s : Int) (A0 : Option Addr) (c0 Ba : Nat) (A1 : Option Addr) (c1 : Nat) (rot : List Int) (p : Int) (r1 : List (List Int)) (r2 : Bool) (w : World) (hr0 : Kd.C (Kd.slice 3 (Kd.int .i64)) w A0 l.length l) (hc0 : l.length ≤ c0)
  (ba : w.heap[Ba]? = some (.cells #[.slice A0 l.length c0, .int .i64 s] 71 (0, 0))) (hr1 : Kd.C (Kd.int .i64) w A1 rot.length rot) (hc1 : rot.length ≤ c1) (h : impl_actor_orbit.f k l s rot p = some (r1, r2)) :
  Calls Try.prog 37 #[.pointer (some ⟨Ba, 0, none⟩), .slice A1 rot.length c1, .int .i64 p] w fun e w' => ∃ v, e = .returned (.tuple #[v, .bool r2]) ∧ Kd.S (Kd.slice 3 (Kd.int .i64)) 25 w' w.heap.size (fun _ => True) v r1 ∧ Below w.heap.size w w' := by
 have hu1 := Try.underlying29
 have hu3 := Try.underlying71
 have hu4 := Try.underlying25
 unfold impl_actor_orbit.f at h
 obtain ⟨t, h1, h⟩ := Option.bind_eq_some_iff.mp h
 have HR0 := za0.mk hr0
 have HC0 := za0.mk hc0
 have HR1 := za0.mk hr1
 have HC1 := za0.mk hc1
 have BA := za0.mk ba
 have A5 := za0.mk h1
 have H' := za0.mk h
 clear hr0 hc0 hr1 hc1 ba h1 h
 go_enter Try.func37, Try.ntmps37
 go_wp2_with (first | (go_at_call 35; refine (slices_Clone_int_int.calls _ _ rot t _ HR1.out HC1.out A5.out).mono ?_; rintro e w1 ⟨v1, rfl, ho, hb⟩; have HO := za0.mk ho; have HB := za0.mk hb; clear ho hb; obtain ⟨Ao, co, eo⟩ := Kd.R_slice HO.out; subst eo) | ((with_reducible refine zn0 (N := 13) rfl ?_); refine Kd.S_lits (Kd.slice 3 (Kd.int .i64)) (w0 := w) w.heap.size 25 ?hg (N := 13) ?hd (xs := ([t] : List (List Int))) (inner := [.slice Ao t.length co]) (ok := fun _ => True) (fun j k_ => j = 0 ∧ some k_ = (.slice Ao t.length co : Value).ownBlock) ?hr (by rfl) ?hp (fun i j k_ hi hj => hi.1.trans hj.1.symm) (fun _ _ _ => trivial) trivial HB.out (zg0 HB.out) (by simp) ?_; (case hd => rfl); (case hg => rfl); (case hr => first | (go_simp; done) | (go_simp; rfl)); (case hp => intro j x hj; cases j with | zero => (injection hj with hj; subst hj; exact Kd.M_row (Kd.R_mono (Kd.R_tight rfl HO.out) (fun k_ h_ => ⟨rfl, h_⟩))) | succ j => simp at hj); intro v2 w2 hs hb2 hg hat; have ST := za0.mk (show OrbSt w w2 Ba A0 l.length c0 s v2 [t] from ⟨hb2, zl0 BA.out hb2, blk_lt BA.out, hs⟩); clear hs hb2 hg hat BA))
 go_loopg [8] k (fun kq v8 w' => ∃ (out : List (List Int)), za0 (orbL l s rot p kq out = some (r1, r2)) ∧ za0 (kq ≤ k) ∧ za0 (OrbSt w w' Ba A0 l.length c0 s v8 out))
 case atStart => exact ⟨[t], H', ⟨Nat.le_refl _⟩, ST⟩
 case round =>
  clear H' ST
  obtain ⟨out, HA, HK1, ST⟩ := hrel
  cases gk with
  | zero => exact absurd HA.out (by simp [orbL])
  | succ k1 =>
   have H := HA.out
   clear HA
   simp only [orbL] at H
   obtain ⟨j, hj⟩ : ∃ j, wrap64 ((out.length : Int) - 1) = j := ⟨_, rfl⟩
   rw [hj] at H
   obtain ⟨Af, cf, ef⟩ := Kd.S_slice ST.out.fd
   subst ef
   by_cases j0 : 0 ≤ j
   ·rw [if_pos j0] at H
    by_cases j1 : j < (out.length : Int)
    ·rw [if_pos j1] at H
     obtain ⟨adf, Aj, cj, ej, hxj, hlj, hij⟩ := at_L1 (Kd.S_reads' ST.out.fd).2.2 j j0 j1
     cases ej
     have HIJ := za0.mk hij
     have HLJ := za0.mk hlj
     replace j0 := eq_true j0
     replace j1 := eq_true j1
     clear hij hlj
     obtain ⟨⟨t1, t2⟩, A90, H⟩ := Option.bind_eq_some_iff.mp H
     have A9 := za0.mk A90
     clear A90
     replace H : (if t2 = true then ((slices_Equal_int_int.f k1 t1 rot).bind fun e => if e = true then some (out, true) else (if (out.length + 1) * 24 ≤ 140737488355328 then orbL l s rot p k1 (out ++ [t1]) else none)) else some ([], false)) = some (r1, r2) := H
     cases t2 with
     | false =>
      rw [if_neg (by decide)] at H
      simp only [Option.some.injEq, Prod.mk.injEq] at H
      obtain ⟨rfl, rfl⟩ := H
      go_wp2_with ((go_at_call 33; refine (impl_actor_one.calls k1 l s A0 c0 Ba _ _ (rd_L1 out j) p t1 false wr (Kd.C_below HR0.out ST.out.hb) HC0.out ST.out.ba HIJ.out HLJ.out A9.out).mono ?_; rintro e w3 ⟨v3, rfl, ho, hb⟩; have HF := za0.mk (Kd.S_elder' ST.out.fd (Kd.R_base ho) hb); have n0_ := za0.mk (ST.out.below hb); have HW := za0.mk (Kd.R_lower ho (zg0 ST.out.hb)); clear ST ho hb hxj; have ST := n0_; clear n0_; obtain ⟨Ao3, co3, eo3⟩ := Kd.R_slice HW.out; subst eo3))
      go_ret2
      exact ⟨_, by first | rfl | (simp; done), Kd.S_nil _ _ _ _ _, ST.out.hb⟩
     | true =>
      rw [if_pos rfl] at H
      obtain ⟨b, A80, H⟩ := Option.bind_eq_some_iff.mp H
      have A8 := za0.mk A80
      clear A80
      cases b with
      | true =>
       rw [if_pos rfl] at H
       simp only [Option.some.injEq, Prod.mk.injEq] at H
       obtain ⟨rfl, rfl⟩ := H
       go_wp2_with (first | (go_at_call 33; refine (impl_actor_one.calls k1 l s A0 c0 Ba _ _ (rd_L1 out j) p t1 true wr (Kd.C_below HR0.out ST.out.hb) HC0.out ST.out.ba HIJ.out HLJ.out A9.out).mono ?_; rintro e w3 ⟨v3, rfl, ho, hb⟩; have HF := za0.mk (Kd.S_elder' ST.out.fd (Kd.R_base ho) hb); have n0_ := za0.mk (ST.out.below hb); have HW := za0.mk (Kd.R_lower ho (zg0 ST.out.hb)); clear ST ho hb hxj; have ST := n0_; clear n0_; obtain ⟨Ao3, co3, eo3⟩ := Kd.R_slice HW.out; subst eo3) | (go_at_call 58; refine (slices_Equal_int_int.calls k1 _ _ t1 _ _ rot true _ (Kd.R_reads' HW.out).2.2 (Kd.R_reads' HW.out).2.1 (Kd.C_below HR1.out ST.out.hb) HC1.out A8.out).mono ?_; rintro e w4 ⟨rfl, hd⟩; have n0_ := za0.mk (ST.out.below hd.below); have n1_ := za0.mk (Kd.R_below HW.out hd.below); have n2_ := za0.mk (Kd.S_below HF.out hd.below); clear ST HW HF hd; have ST := n0_; have HW := n1_; have HF := n2_; clear n0_ n1_ n2_))
       go_ret2
       exact ⟨_, by first | rfl | (simp; done), ST.out.fd, ST.out.hb⟩
      | false =>
       rw [if_neg (by decide)] at H
       by_cases hlm : (out.length + 1) * 24 ≤ 140737488355328
       ·rw [if_pos hlm] at H
        have LM := za0.mk hlm
        have H' := za0.mk H
        clear H hlm
        go_wp2_with (first | (go_at_call 33; refine (impl_actor_one.calls k1 l s A0 c0 Ba _ _ (rd_L1 out j) p t1 true wr (Kd.C_below HR0.out ST.out.hb) HC0.out ST.out.ba HIJ.out HLJ.out A9.out).mono ?_; rintro e w3 ⟨v3, rfl, ho, hb⟩; have HF := za0.mk (Kd.S_elder' ST.out.fd (Kd.R_base ho) hb); have n0_ := za0.mk (ST.out.below hb); have HW := za0.mk (Kd.R_lower ho (zg0 ST.out.hb)); clear ST ho hb hxj; have ST := n0_; clear n0_; obtain ⟨Ao3, co3, eo3⟩ := Kd.R_slice HW.out; subst eo3) | (go_at_call 58; refine (slices_Equal_int_int.calls k1 _ _ t1 _ _ rot false _ (Kd.R_reads' HW.out).2.2 (Kd.R_reads' HW.out).2.1 (Kd.C_below HR1.out ST.out.hb) HC1.out A8.out).mono ?_; rintro e w4 ⟨rfl, hd⟩; have n0_ := za0.mk (ST.out.below hd.below); have n1_ := za0.mk (Kd.R_below HW.out hd.below); have n2_ := za0.mk (Kd.S_below HF.out hd.below); clear ST HW HF hd; have ST := n0_; have HW := n1_; have HF := n2_; clear n0_ n1_ n2_) | ((with_reducible refine gate_builtin (b := .append) (xs := #[.tmp 32, .tmp 34]) rfl ?_); at_builtin; refine Kd.S_append (Kd.slice 3 (Kd.int .i64)) (w0 := w) w.heap.size rfl (.tmp 32) (.tmp 34) 22 25 (.slice none 0 0) 24 rfl Try.underlying22 info25 rfl (by decide) (by omega) (.slice (some adf) out.length cf) out t1 [.slice Ao3 t1.length co3] (fun _ => True) (fun k_ => some k_ = (.slice Ao3 t1.length co3 : Value).ownBlock) rfl (by first | (go_simp; done) | (go_simp; rfl)) ?aP ?aK (fun _ _ => trivial) ?aO ?aB ?aS ?aL ?_; (case aP => exact Kd.M_row (Kd.R_mono (Kd.R_tight rfl HW.out) (fun _ h_ => h_))); (case aK => exact fun k_ hk_ => ⟨trivial, ((Kd.R_apart' HW.out (Kd.S_typed ST.out.fd) (by decide)).1 k_ hk_.symm).2⟩); (case aB => exact ST.out.hb); (case aO => exact Kd.S_mono HF.out (fun k_ hk => ⟨trivial, fun e_ => hk.2 e_⟩)); (case aS => exact zg0 ST.out.hb); (case aL => exact LM.out); intro v9 w9 ho hb hg hat; have n0_ := za0.mk (show OrbSt w w9 Ba A0 l.length c0 s v9 (out ++ [t1]) from ⟨hb, zy0 ST.out.ba hg (Kd.S_ne ST.out.fd ST.out.ba (by decide)), ST.out.lt, ho⟩); clear ST HW HF ho hb hg hat; have ST := n0_; clear n0_))
        go_roundg k1
        case measure => have := HK1.out; omega
        case rel => exact ⟨out ++ [t1], H', ⟨by have := HK1.out; omega⟩, ST⟩
       ·rw [if_neg hlm] at H; exact absurd H (by simp)
    ·rw [if_neg j1] at H; exact absurd H (by simp)
   ·rw [if_neg j0] at H; exact absurd H (by simp)
def impl_Graph_next.f (l0_0 : List (List Int)) (l1 : List Int) (a2 : Int) : Option (Int) := if 0 ≤ a2 then (if a2 < (l0_0.length : Int) then (if ((rd_L1 l0_0 a2).length : Int) = 0 then (some (-1)) else (if a2 < (l1.length : Int) then (if 0 ≤ (rd l1 a2) then (if (rd l1 a2) < ((rd_L1 l0_0 a2).length : Int) then (some (rd (rd_L1 l0_0 a2) (rd l1 a2))) else (none)) else (none)) else (none))) else (none)) else (none)
set_option maxHeartbeats 8000000 in
set_option maxRecDepth 100000 in
theorem impl_Graph_next.calls (A0_0 : Option Addr) (c0_0 : Nat) (l0_0 : List (List Int)) (A1 : Option Addr) (c1 : Nat) (l1 : List Int) (a2 : Int) (r : Int) (w : World) (hr0_0 : Kd.C (Kd.slice 3 (Kd.int .i64)) w A0_0 l0_0.length l0_0) (hc0_0 : l0_0.length ≤ c0_0) (hr1 : Kd.C (Kd.int .i64) w A1 l1.length l1) (hc1 : l1.length ≤ c1) (h : impl_Graph_next.f l0_0 l1 a2 = some r) :
  Calls Try.prog 87 #[.agg #[.slice A0_0 l0_0.length c0_0], .slice A1 l1.length c1, .int .i64 a2] w fun e w' => e = .returned (.int .i64 r) ∧ Below w.heap.size w w' := by
 have hu29 := Try.underlying29
 have HR0_0 := za0.mk hr0_0
 have HC0_0 := za0.mk hc0_0
 clear hr0_0 hc0_0
 have HR1 := za0.mk hr1
 have HC1 := za0.mk hc1
 clear hr1 hc1
 have HB := za0.mk (Below.refl w.heap.size w)
 have H : (if 0 ≤ a2 then (if a2 < (l0_0.length : Int) then (if ((rd_L1 l0_0 a2).length : Int) = 0 then (some (-1)) else (if a2 < (l1.length : Int) then (if 0 ≤ (rd l1 a2) then (if (rd l1 a2) < ((rd_L1 l0_0 a2).length : Int) then (some (rd (rd_L1 l0_0 a2) (rd l1 a2))) else (none)) else (none)) else (none))) else (none)) else (none)) = some r := h
 clear h
 by_cases c4 : 0 ≤ a2
 ·rw [if_pos c4] at H
  have c4b0 : decide (0 ≤ a2) = true := decide_eq_true c4
  clear c4
  by_cases c5 : a2 < (l0_0.length : Int)
  ·rw [if_pos c5] at H
   have c5b0 : decide (a2 < (l0_0.length : Int)) = true := decide_eq_true c5
   clear c5
   by_cases c6 : ((rd_L1 l0_0 a2).length : Int) = 0
   ·rw [if_pos c6] at H
    have c6b0 : (((rd_L1 l0_0 a2).length : Int) == 0) = true := beq_iff_eq.mpr c6
    have c6b1 : (((rd_L1 l0_0 a2).length : Int) != 0) = false := bne_eq_false_iff_eq.mpr c6
    clear c6
    obtain rfl := Option.some.inj H
    go_enter Try.func87, Try.ntmps87
    go_wp2_with (first | ((with_reducible refine zn0 (N := 3) rfl ?_); refine zo0 ?hg (N := 3) ?hd (cs := #[.slice A0_0 l0_0.length c0_0]) (t := 29) ?hr ?_; (case hd => rfl); (case hg => rfl); (case hr => first | (go_simp; done) | (go_simp; rfl)); intro gb203 hg w7 hbox hb; have n0_ := za0.mk (zj0 (by repeat (first | (with_reducible first | exact HB.out | apply zc0 | apply zb0 | apply zd0) | exact HB.out)) hb); have n1_ := za0.mk (hbox); have n2_ := za0.mk ((by rw [hg]; exact (zg0 (by repeat (first | (with_reducible first | exact HB.out | apply zc0 | apply zb0 | apply zd0) | exact HB.out))) : w.heap.size ≤ gb203)); have n3_ := za0.mk ((by rw [hg]; exact (zg0 (by repeat (first | (with_reducible first | exact HB.out | apply zc0 | apply zb0 | apply zd0) | exact HB.out))) : w.heap.size ≤ gb203)); clear HB; have HB := n0_; have BK203 := n1_; have GW203 := n2_; have GE203 := n3_; clear n0_ n1_ n2_ n3_; clear hb hbox hg; have hcz8_0 : w7.cell? ⟨gb203, 0, none⟩ = some (.slice A0_0 l0_0.length c0_0) := (zk0 BK203.out 0).trans rfl; have hfz8_0 := zm0 BK203.out 0; have p204 : 0 ≤ (a2 : Int) := of_decide_eq_true (by first | (with_reducible assumption) | assumption); have q204 : a2 < (l0_0.length : Int) := of_decide_eq_true (by first | (with_reducible assumption) | assumption); obtain ⟨ad204, A204_0, c204_0, e204, hx204_0, hl204_0, hi204_0⟩ := at_L1 HR0_0.out a2 p204 q204; cases e204; replace hx204_0 := (HB.out.cell (World.block_lt_of_cell? w _ hx204_0)).trans hx204_0; have HR204_0 := za0.mk hi204_0; have HC204_0 := za0.mk hl204_0; clear hi204_0 hl204_0; replace p204 := eq_true p204; replace q204 := eq_true q204))
    repeat (go_quiet (first | ((with_reducible refine zn0 (N := 3) rfl ?_); refine zo0 ?hg (N := 3) ?hd (cs := #[.slice A0_0 l0_0.length c0_0]) (t := 29) ?hr ?_; (case hd => rfl); (case hg => rfl); (case hr => first | (go_simp; done) | (go_simp; rfl)); intro gb203 hg w7 hbox hb; have n0_ := za0.mk (zj0 (by repeat (first | (with_reducible first | exact HB.out | apply zc0 | apply zb0 | apply zd0) | exact HB.out)) hb); have n1_ := za0.mk (hbox); have n2_ := za0.mk ((by rw [hg]; exact (zg0 (by repeat (first | (with_reducible first | exact HB.out | apply zc0 | apply zb0 | apply zd0) | exact HB.out))) : w.heap.size ≤ gb203)); have n3_ := za0.mk ((by rw [hg]; exact (zg0 (by repeat (first | (with_reducible first | exact HB.out | apply zc0 | apply zb0 | apply zd0) | exact HB.out))) : w.heap.size ≤ gb203)); clear HB; have HB := n0_; have BK203 := n1_; have GW203 := n2_; have GE203 := n3_; clear n0_ n1_ n2_ n3_; clear hb hbox hg; have hcz8_0 : w7.cell? ⟨gb203, 0, none⟩ = some (.slice A0_0 l0_0.length c0_0) := (zk0 BK203.out 0).trans rfl; have hfz8_0 := zm0 BK203.out 0; have p204 : 0 ≤ (a2 : Int) := of_decide_eq_true (by first | (with_reducible assumption) | assumption); have q204 : a2 < (l0_0.length : Int) := of_decide_eq_true (by first | (with_reducible assumption) | assumption); obtain ⟨ad204, A204_0, c204_0, e204, hx204_0, hl204_0, hi204_0⟩ := at_L1 HR0_0.out a2 p204 q204; cases e204; replace hx204_0 := (HB.out.cell (World.block_lt_of_cell? w _ hx204_0)).trans hx204_0; have HR204_0 := za0.mk hi204_0; have HC204_0 := za0.mk hl204_0; clear hi204_0 hl204_0; replace p204 := eq_true p204; replace q204 := eq_true q204)); try go_wp2_with (first | ((with_reducible refine zn0 (N := 3) rfl ?_); refine zo0 ?hg (N := 3) ?hd (cs := #[.slice A0_0 l0_0.length c0_0]) (t := 29) ?hr ?_; (case hd => rfl); (case hg => rfl); (case hr => first | (go_simp; done) | (go_simp; rfl)); intro gb203 hg w7 hbox hb; have n0_ := za0.mk (zj0 (by repeat (first | (with_reducible first | exact HB.out | apply zc0 | apply zb0 | apply zd0) | exact HB.out)) hb); have n1_ := za0.mk (hbox); have n2_ := za0.mk ((by rw [hg]; exact (zg0 (by repeat (first | (with_reducible first | exact HB.out | apply zc0 | apply zb0 | apply zd0) | exact HB.out))) : w.heap.size ≤ gb203)); have n3_ := za0.mk ((by rw [hg]; exact (zg0 (by repeat (first | (with_reducible first | exact HB.out | apply zc0 | apply zb0 | apply zd0) | exact HB.out))) : w.heap.size ≤ gb203)); clear HB; have HB := n0_; have BK203 := n1_; have GW203 := n2_; have GE203 := n3_; clear n0_ n1_ n2_ n3_; clear hb hbox hg; have hcz8_0 : w7.cell? ⟨gb203, 0, none⟩ = some (.slice A0_0 l0_0.length c0_0) := (zk0 BK203.out 0).trans rfl; have hfz8_0 := zm0 BK203.out 0; have p204 : 0 ≤ (a2 : Int) := of_decide_eq_true (by first | (with_reducible assumption) | assumption); have q204 : a2 < (l0_0.length : Int) := of_decide_eq_true (by first | (with_reducible assumption) | assumption); obtain ⟨ad204, A204_0, c204_0, e204, hx204_0, hl204_0, hi204_0⟩ := at_L1 HR0_0.out a2 p204 q204; cases e204; replace hx204_0 := (HB.out.cell (World.block_lt_of_cell? w _ hx204_0)).trans hx204_0; have HR204_0 := za0.mk hi204_0; have HC204_0 := za0.mk hl204_0; clear hi204_0 hl204_0; replace p204 := eq_true p204; replace q204 := eq_true q204)))
    go_ret
    exact ⟨by first | rfl | (simp [errW_none, errW_some] <;> rfl) | (simp [*, errW_none, errW_some] <;> rfl), by repeat (first | (with_reducible first | exact HB.out | apply zc0 | apply zb0 | apply zd0 | refine ze0 ?_ GE203.out) | exact HB.out)⟩
   ·rw [if_neg c6] at H
    have c6b0 : (((rd_L1 l0_0 a2).length : Int) == 0) = false := beq_eq_false_iff_ne.mpr c6
    have c6b1 : (((rd_L1 l0_0 a2).length : Int) != 0) = true := bne_iff_ne.mpr c6
    have c6b2 : ¬ ((rd_L1 l0_0 a2) = []) := fun h_ => c6 (by rw [h_]; rfl)
    by_cases c9 : a2 < (l1.length : Int)
    ·rw [if_pos c9] at H
     have c9b0 : decide (a2 < (l1.length : Int)) = true := decide_eq_true c9
     clear c9
     by_cases c10 : 0 ≤ (rd l1 a2)
     ·rw [if_pos c10] at H
      have c10b0 : decide (0 ≤ (rd l1 a2)) = true := decide_eq_true c10
      clear c10
      by_cases c11 : (rd l1 a2) < ((rd_L1 l0_0 a2).length : Int)
      ·rw [if_pos c11] at H
       have c11b0 : decide ((rd l1 a2) < ((rd_L1 l0_0 a2).length : Int)) = true := decide_eq_true c11
       clear c11
       obtain rfl := Option.some.inj H
       go_enter Try.func87, Try.ntmps87
       go_wp2_with (first | ((with_reducible refine zn0 (N := 3) rfl ?_); refine zo0 ?hg (N := 3) ?hd (cs := #[.slice A0_0 l0_0.length c0_0]) (t := 29) ?hr ?_; (case hd => rfl); (case hg => rfl); (case hr => first | (go_simp; done) | (go_simp; rfl)); intro gb203 hg w12 hbox hb; have n0_ := za0.mk (zj0 (by repeat (first | (with_reducible first | exact HB.out | apply zc0 | apply zb0 | apply zd0) | exact HB.out)) hb); have n1_ := za0.mk (hbox); have n2_ := za0.mk ((by rw [hg]; exact (zg0 (by repeat (first | (with_reducible first | exact HB.out | apply zc0 | apply zb0 | apply zd0) | exact HB.out))) : w.heap.size ≤ gb203)); have n3_ := za0.mk ((by rw [hg]; exact (zg0 (by repeat (first | (with_reducible first | exact HB.out | apply zc0 | apply zb0 | apply zd0) | exact HB.out))) : w.heap.size ≤ gb203)); clear HB; have HB := n0_; have BK203 := n1_; have GW203 := n2_; have GE203 := n3_; clear n0_ n1_ n2_ n3_; clear hb hbox hg; have hcz13_0 : w12.cell? ⟨gb203, 0, none⟩ = some (.slice A0_0 l0_0.length c0_0) := (zk0 BK203.out 0).trans rfl; have hfz13_0 := zm0 BK203.out 0; have p204 : 0 ≤ (a2 : Int) := of_decide_eq_true (by first | (with_reducible assumption) | assumption); have q204 : a2 < (l0_0.length : Int) := of_decide_eq_true (by first | (with_reducible assumption) | assumption); obtain ⟨ad204, A204_0, c204_0, e204, hx204_0, hl204_0, hi204_0⟩ := at_L1 HR0_0.out a2 p204 q204; cases e204; replace hx204_0 := (HB.out.cell (World.block_lt_of_cell? w _ hx204_0)).trans hx204_0; have HR204_0 := za0.mk hi204_0; have HC204_0 := za0.mk hl204_0; clear hi204_0 hl204_0; replace p204 := eq_true p204; replace q204 := eq_true q204; have p205 : 0 ≤ (a2 : Int) := of_decide_eq_true (by first | (with_reducible assumption) | assumption); have q205 : a2 < (l0_0.length : Int) := of_decide_eq_true (by first | (with_reducible assumption) | assumption); obtain ⟨ad205, A205_0, c205_0, e205, hx205_0, hl205_0, hi205_0⟩ := at_L1 HR0_0.out a2 p205 q205; obtain rfl : ad204 = ad205 := (by injection e205); replace hx205_0 := (HB.out.cell (World.block_lt_of_cell? w _ hx205_0)).trans hx205_0; have HR205_0 := za0.mk hi205_0; have HC205_0 := za0.mk hl205_0; clear hi205_0 hl205_0; replace p205 := eq_true p205; replace q205 := eq_true q205; have ea_ := Option.some.inj (hx204_0.symm.trans hx205_0); injection ea_ with ea_ en_ ec_; subst ea_; subst ec_; clear en_; have p206 : 0 ≤ (a2 : Int) := of_decide_eq_true (by first | (with_reducible assumption) | assumption); have q206 : a2 < (l1.length : Int) := of_decide_eq_true (by first | (with_reducible assumption) | assumption); obtain ⟨ad206, e206, hx206_0⟩ := Kd.at_int HR1.out a2 p206 q206; cases e206; replace hx206_0 := (HB.out.cell (World.block_lt_of_cell? w _ hx206_0)).trans hx206_0; replace p206 := eq_true p206; replace q206 := eq_true q206; have p207 : 0 ≤ ((rd l1 a2) : Int) := of_decide_eq_true (by first | (with_reducible assumption) | assumption); have q207 : (rd l1 a2) < ((rd_L1 l0_0 a2).length : Int) := of_decide_eq_true (by first | (with_reducible assumption) | assumption); obtain ⟨ad207, e207, hx207_0⟩ := Kd.at_int HR205_0.out (rd l1 a2) p207 q207; cases e207; replace hx207_0 := (HB.out.cell (World.block_lt_of_cell? w _ hx207_0)).trans hx207_0; replace p207 := eq_true p207; replace q207 := eq_true q207))
       repeat (go_quiet (first | ((with_reducible refine zn0 (N := 3) rfl ?_); refine zo0 ?hg (N := 3) ?hd (cs := #[.slice A0_0 l0_0.length c0_0]) (t := 29) ?hr ?_; (case hd => rfl); (case hg => rfl); (case hr => first | (go_simp; done) | (go_simp; rfl)); intro gb203 hg w12 hbox hb; have n0_ := za0.mk (zj0 (by repeat (first | (with_reducible first | exact HB.out | apply zc0 | apply zb0 | apply zd0) | exact HB.out)) hb); have n1_ := za0.mk (hbox); have n2_ := za0.mk ((by rw [hg]; exact (zg0 (by repeat (first | (with_reducible first | exact HB.out | apply zc0 | apply zb0 | apply zd0) | exact HB.out))) : w.heap.size ≤ gb203)); have n3_ := za0.mk ((by rw [hg]; exact (zg0 (by repeat (first | (with_reducible first | exact HB.out | apply zc0 | apply zb0 | apply zd0) | exact HB.out))) : w.heap.size ≤ gb203)); clear HB; have HB := n0_; have BK203 := n1_; have GW203 := n2_; have GE203 := n3_; clear n0_ n1_ n2_ n3_; clear hb hbox hg; have hcz13_0 : w12.cell? ⟨gb203, 0, none⟩ = some (.slice A0_0 l0_0.length c0_0) := (zk0 BK203.out 0).trans rfl; have hfz13_0 := zm0 BK203.out 0; have p204 : 0 ≤ (a2 : Int) := of_decide_eq_true (by first | (with_reducible assumption) | assumption); have q204 : a2 < (l0_0.length : Int) := of_decide_eq_true (by first | (with_reducible assumption) | assumption); obtain ⟨ad204, A204_0, c204_0, e204, hx204_0, hl204_0, hi204_0⟩ := at_L1 HR0_0.out a2 p204 q204; cases e204; replace hx204_0 := (HB.out.cell (World.block_lt_of_cell? w _ hx204_0)).trans hx204_0; have HR204_0 := za0.mk hi204_0; have HC204_0 := za0.mk hl204_0; clear hi204_0 hl204_0; replace p204 := eq_true p204; replace q204 := eq_true q204; have p205 : 0 ≤ (a2 : Int) := of_decide_eq_true (by first | (with_reducible assumption) | assumption); have q205 : a2 < (l0_0.length : Int) := of_decide_eq_true (by first | (with_reducible assumption) | assumption); obtain ⟨ad205, A205_0, c205_0, e205, hx205_0, hl205_0, hi205_0⟩ := at_L1 HR0_0.out a2 p205 q205; obtain rfl : ad204 = ad205 := (by injection e205); replace hx205_0 := (HB.out.cell (World.block_lt_of_cell? w _ hx205_0)).trans hx205_0; have HR205_0 := za0.mk hi205_0; have HC205_0 := za0.mk hl205_0; clear hi205_0 hl205_0; replace p205 := eq_true p205; replace q205 := eq_true q205; have ea_ := Option.some.inj (hx204_0.symm.trans hx205_0); injection ea_ with ea_ en_ ec_; subst ea_; subst ec_; clear en_; have p206 : 0 ≤ (a2 : Int) := of_decide_eq_true (by first | (with_reducible assumption) | assumption); have q206 : a2 < (l1.length : Int) := of_decide_eq_true (by first | (with_reducible assumption) | assumption); obtain ⟨ad206, e206, hx206_0⟩ := Kd.at_int HR1.out a2 p206 q206; cases e206; replace hx206_0 := (HB.out.cell (World.block_lt_of_cell? w _ hx206_0)).trans hx206_0; replace p206 := eq_true p206; replace q206 := eq_true q206; have p207 : 0 ≤ ((rd l1 a2) : Int) := of_decide_eq_true (by first | (with_reducible assumption) | assumption); have q207 : (rd l1 a2) < ((rd_L1 l0_0 a2).length : Int) := of_decide_eq_true (by first | (with_reducible assumption) | assumption); obtain ⟨ad207, e207, hx207_0⟩ := Kd.at_int HR205_0.out (rd l1 a2) p207 q207; cases e207; replace hx207_0 := (HB.out.cell (World.block_lt_of_cell? w _ hx207_0)).trans hx207_0; replace p207 := eq_true p207; replace q207 := eq_true q207)); try go_wp2_with (first | ((with_reducible refine zn0 (N := 3) rfl ?_); refine zo0 ?hg (N := 3) ?hd (cs := #[.slice A0_0 l0_0.length c0_0]) (t := 29) ?hr ?_; (case hd => rfl); (case hg => rfl); (case hr => first | (go_simp; done) | (go_simp; rfl)); intro gb203 hg w12 hbox hb; have n0_ := za0.mk (zj0 (by repeat (first | (with_reducible first | exact HB.out | apply zc0 | apply zb0 | apply zd0) | exact HB.out)) hb); have n1_ := za0.mk (hbox); have n2_ := za0.mk ((by rw [hg]; exact (zg0 (by repeat (first | (with_reducible first | exact HB.out | apply zc0 | apply zb0 | apply zd0) | exact HB.out))) : w.heap.size ≤ gb203)); have n3_ := za0.mk ((by rw [hg]; exact (zg0 (by repeat (first | (with_reducible first | exact HB.out | apply zc0 | apply zb0 | apply zd0) | exact HB.out))) : w.heap.size ≤ gb203)); clear HB; have HB := n0_; have BK203 := n1_; have GW203 := n2_; have GE203 := n3_; clear n0_ n1_ n2_ n3_; clear hb hbox hg; have hcz13_0 : w12.cell? ⟨gb203, 0, none⟩ = some (.slice A0_0 l0_0.length c0_0) := (zk0 BK203.out 0).trans rfl; have hfz13_0 := zm0 BK203.out 0; have p204 : 0 ≤ (a2 : Int) := of_decide_eq_true (by first | (with_reducible assumption) | assumption); have q204 : a2 < (l0_0.length : Int) := of_decide_eq_true (by first | (with_reducible assumption) | assumption); obtain ⟨ad204, A204_0, c204_0, e204, hx204_0, hl204_0, hi204_0⟩ := at_L1 HR0_0.out a2 p204 q204; cases e204; replace hx204_0 := (HB.out.cell (World.block_lt_of_cell? w _ hx204_0)).trans hx204_0; have HR204_0 := za0.mk hi204_0; have HC204_0 := za0.mk hl204_0; clear hi204_0 hl204_0; replace p204 := eq_true p204; replace q204 := eq_true q204; have p205 : 0 ≤ (a2 : Int) := of_decide_eq_true (by first | (with_reducible assumption) | assumption); have q205 : a2 < (l0_0.length : Int) := of_decide_eq_true (by first | (with_reducible assumption) | assumption); obtain ⟨ad205, A205_0, c205_0, e205, hx205_0, hl205_0, hi205_0⟩ := at_L1 HR0_0.out a2 p205 q205; obtain rfl : ad204 = ad205 := (by injection e205); replace hx205_0 := (HB.out.cell (World.block_lt_of_cell? w _ hx205_0)).trans hx205_0; have HR205_0 := za0.mk hi205_0; have HC205_0 := za0.mk hl205_0; clear hi205_0 hl205_0; replace p205 := eq_true p205; replace q205 := eq_true q205; have ea_ := Option.some.inj (hx204_0.symm.trans hx205_0); injection ea_ with ea_ en_ ec_; subst ea_; subst ec_; clear en_; have p206 : 0 ≤ (a2 : Int) := of_decide_eq_true (by first | (with_reducible assumption) | assumption); have q206 : a2 < (l1.length : Int) := of_decide_eq_true (by first | (with_reducible assumption) | assumption); obtain ⟨ad206, e206, hx206_0⟩ := Kd.at_int HR1.out a2 p206 q206; cases e206; replace hx206_0 := (HB.out.cell (World.block_lt_of_cell? w _ hx206_0)).trans hx206_0; replace p206 := eq_true p206; replace q206 := eq_true q206; have p207 : 0 ≤ ((rd l1 a2) : Int) := of_decide_eq_true (by first | (with_reducible assumption) | assumption); have q207 : (rd l1 a2) < ((rd_L1 l0_0 a2).length : Int) := of_decide_eq_true (by first | (with_reducible assumption) | assumption); obtain ⟨ad207, e207, hx207_0⟩ := Kd.at_int HR205_0.out (rd l1 a2) p207 q207; cases e207; replace hx207_0 := (HB.out.cell (World.block_lt_of_cell? w _ hx207_0)).trans hx207_0; replace p207 := eq_true p207; replace q207 := eq_true q207)))
       go_ret
       exact ⟨by first | rfl | (simp [errW_none, errW_some] <;> rfl) | (simp [*, errW_none, errW_some] <;> rfl), by repeat (first | (with_reducible first | exact HB.out | apply zc0 | apply zb0 | apply zd0 | refine ze0 ?_ GE203.out) | exact HB.out)⟩
      ·rw [if_neg c11] at H
       exact absurd H (by simp)
     ·rw [if_neg c10] at H
      exact absurd H (by simp)
    ·rw [if_neg c9] at H
     exact absurd H (by simp)
  ·rw [if_neg c5] at H
   exact absurd H (by simp)
 ·rw [if_neg c4] at H
  exact absurd H (by simp)
end Go.Proofs.Ytlbgajpbdbgmkaa.P
