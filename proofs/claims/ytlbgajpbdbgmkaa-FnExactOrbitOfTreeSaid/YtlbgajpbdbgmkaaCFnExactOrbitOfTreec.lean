/- Texts of this session on the way to the law FnExactOrbitOfTree, part 3: words of the print, walks, plain laws; only what the law's proof uses. -/
import Derived.Test.YtlbgajpbdbgmkaaCFnExactOrbitOfTreea
import Derived.Test.YtlbgajpbdbgmkaaCFnExactOrbitOfTreeb
namespace Go.Proofs.Ytlbgajpbdbgmkaa.P
set_option maxHeartbeats 8000000
set_option maxRecDepth 100000
open Go.RowKit Go.Proofs.YtlbgajpbdbgmkaaW.PrintWords Go.Proofs.YtlbgajpbdbgmkaaW.PrintLast Go.Proofs.YtlbgajpbdbgmkaaW.PrintMore
attribute [local go_sem] zw0 zv0 zz0 zy0 zs0 zq0 zu0 zx0
set_option linter.unusedVariables false
set_option linter.unusedSimpArgs false
mutual
def ya0.l0 : Nat → Int → Int → Int → List (List Int) → List (List Int) → Int → Int → Option (Int)
 | 0, _, _, _, _, _, _, _ => none
 | k + 1, x3, x4, x5, x6, x16, x17, x18 => if x18 < x17 then (if 0 ≤ x18 then (if x18 < (x16.length : Int) then ((yj1.f (rd_L1 x16 x18)).bind fun t160 => (if x6.length < 5864062014805 then (ya0.l0 k x3 x4 x5 (x6 ++ [t160]) x16 x17 (wrap64 (x18 + 1))) else (none))) else (none)) else (none)) else (ya0.l1 k x3 x4 x5 x6 x3 0)
def ya0.l1 : Nat → Int → Int → Int → List (List Int) → Int → Int → Option (Int)
 | 0, _, _, _, _, _, _ => none
 | k + 1, x3, x4, x5, x6, x28, x29 => if x29 < x28 then (ya0.l2 k x3 x4 x5 x6 x29 x29 x28 x29) else (some (wrap64 (x4 * x5)))
def ya0.j3 : Nat → Int → Int → Int → List (List Int) → Int → Int → Int → Int → Option (Int)
 | 0, _, _, _, _, _, _, _, _ => none
 | k + 1, x3, x4, x5, x6, x9, x10, x28, x29 => if x10 = x3 then (some 0) else (if x10 = x9 then (ya0.j4 k x3 x4 x5 x6 x9 x28 x29) else ((fake_swap.f x6 x10 x9).bind fun t168 => (ya0.j4 k x3 (wrap64 (-x4)) x5 t168 x9 x28 x29)))
def ya0.j4 : Nat → Int → Int → Int → List (List Int) → Int → Int → Int → Option (Int)
 | 0, _, _, _, _, _, _, _ => none
 | k + 1, x3, x4, x5, x6, x9, x28, x29 => ya0.l3 k x3 x4 x5 x6 x9 (wrap64 (x9 + 1)) x28 x29
def ya0.l3 : Nat → Int → Int → Int → List (List Int) → Int → Int → Int → Int → Option (Int)
 | 0, _, _, _, _, _, _, _, _ => none
 | k + 1, x3, x4, x5, x6, x9, x11, x28, x29 => if x11 < x3 then (ya0.l4 k x3 x4 x5 x6 x9 x11 (wrap64 (x9 + 1)) x28 x29) else (if 0 ≤ x9 then (if x9 < (x6.length : Int) then (if x9 < ((rd_L1 x6 x9).length : Int) then (ya0.l1 k x3 x4 (rd (rd_L1 x6 x9) x9) x6 x28 (wrap64 (x29 + 1))) else (none)) else (none)) else (none))
def ya0.l4 : Nat → Int → Int → Int → List (List Int) → Int → Int → Int → Int → Int → Option (Int)
 | 0, _, _, _, _, _, _, _, _, _ => none
 | k + 1, x3, x4, x5, x6, x9, x11, x12, x28, x29 => if x12 < x3 then (if 0 ≤ x11 then (if x11 < (x6.length : Int) then (if 0 ≤ x12 then (if x12 < ((rd_L1 x6 x11).length : Int) then (if 0 ≤ x9 then (if x9 < (x6.length : Int) then (if x9 < ((rd_L1 x6 x9).length : Int) then (if x9 < ((rd_L1 x6 x11).length : Int) then (if x12 < ((rd_L1 x6 x9).length : Int) then (if x5 = 0 then (none) else (ya0.l4 k x3 x4 x5 (x6.set (x11 : Int).toNat ((rd_L1 x6 x11).set (x12 : Int).toNat (wrap64 (Int.tdiv (wrap64 ((wrap64 ((rd (rd_L1 x6 x11) x12) * (rd (rd_L1 x6 x9) x9))) - (wrap64 ((rd (rd_L1 x6 x11) x9) * (rd (rd_L1 x6 x9) x12))))) x5)))) x9 x11 (wrap64 (x12 + 1)) x28 x29)) else (none)) else (none)) else (none)) else (none)) else (none)) else (none)) else (none)) else (none)) else (none)) else (ya0.l3 k x3 x4 x5 x6 x9 (wrap64 (x11 + 1)) x28 x29)
def ya0.l2 : Nat → Int → Int → Int → List (List Int) → Int → Int → Int → Int → Option (Int)
 | 0, _, _, _, _, _, _, _, _ => none
 | k + 1, x3, x4, x5, x6, x9, x10, x28, x29 => if x10 < x3 then (if 0 ≤ x10 then (if x10 < (x6.length : Int) then (if 0 ≤ x9 then (if x9 < ((rd_L1 x6 x10).length : Int) then (if (rd (rd_L1 x6 x10) x9) = 0 then (ya0.l2 k x3 x4 x5 x6 x9 (wrap64 (x10 + 1)) x28 x29) else (ya0.j3 k x3 x4 x5 x6 x9 x10 x28 x29)) else (none)) else (none)) else (none)) else (none)) else (ya0.j3 k x3 x4 x5 x6 x9 x10 x28 x29)
end
def ya0.f (k : Nat) (l0 : List (List Int)) : Option (Int) := ya0.l0 k (l0.length : Int) 1 1 (([] : List (List Int))) l0 (l0.length : Int) 0
theorem ya0.mono_l : ∀ k, (∀ y0 y1 y2 y3 y4 y5 y6, LeO (ya0.l0 k y0 y1 y2 y3 y4 y5 y6) (ya0.l0 (k + 1) y0 y1 y2 y3 y4 y5 y6)) ∧ (∀ y0 y1 y2 y3 y4 y5, LeO (ya0.l1 k y0 y1 y2 y3 y4 y5) (ya0.l1 (k + 1) y0 y1 y2 y3 y4 y5)) ∧ (∀ y0 y1 y2 y3 y4 y5 y6 y7, LeO (ya0.j3 k y0 y1 y2 y3 y4 y5 y6 y7) (ya0.j3 (k + 1) y0 y1 y2 y3 y4 y5 y6 y7)) ∧ (∀ y0 y1 y2 y3 y4 y5 y6, LeO (ya0.j4 k y0 y1 y2 y3 y4 y5 y6) (ya0.j4 (k + 1) y0 y1 y2 y3 y4 y5 y6)) ∧ (∀ y0 y1 y2 y3 y4 y5 y6 y7, LeO (ya0.l3 k y0 y1 y2 y3 y4 y5 y6 y7) (ya0.l3 (k + 1) y0 y1 y2 y3 y4 y5 y6 y7)) ∧ (∀ y0 y1 y2 y3 y4 y5 y6 y7 y8, LeO (ya0.l4 k y0 y1 y2 y3 y4 y5 y6 y7 y8) (ya0.l4 (k + 1) y0 y1 y2 y3 y4 y5 y6 y7 y8)) ∧ (∀ y0 y1 y2 y3 y4 y5 y6 y7, LeO (ya0.l2 k y0 y1 y2 y3 y4 y5 y6 y7) (ya0.l2 (k + 1) y0 y1 y2 y3 y4 y5 y6 y7))
 | 0 => ⟨fun _ _ _ _ _ _ _ r h => by simp [ya0.l0] at h, fun _ _ _ _ _ _ r h => by simp [ya0.l1] at h, fun _ _ _ _ _ _ _ _ r h => by simp [ya0.j3] at h, fun _ _ _ _ _ _ _ r h => by simp [ya0.j4] at h, fun _ _ _ _ _ _ _ _ r h => by simp [ya0.l3] at h, fun _ _ _ _ _ _ _ _ _ r h => by simp [ya0.l4] at h, fun _ _ _ _ _ _ _ _ r h => by simp [ya0.l2] at h⟩
 | k + 1 => by
  obtain ⟨ih0, ih1, ih2, ih3, ih4, ih5, ih6⟩ := ya0.mono_l k
  refine ⟨?_, ?_, ?_, ?_, ?_, ?_, ?_⟩
  ·intro y0 y1 y2 y3 y4 y5 y6
   unfold ya0.l0
   repeat' (with_reducible first | exact ih0 _ _ _ _ _ _ _ | exact ih1 _ _ _ _ _ _ | exact ih2 _ _ _ _ _ _ _ _ | exact ih3 _ _ _ _ _ _ _ | exact ih4 _ _ _ _ _ _ _ _ | exact ih5 _ _ _ _ _ _ _ _ _ | exact ih6 _ _ _ _ _ _ _ _ | exact LeO.refl _ | exact LeO.none _ | refine LeO.ite ?_ ?_ | refine LeO.bind ?_ (fun _ => ?_))
  ·intro y0 y1 y2 y3 y4 y5
   unfold ya0.l1
   repeat' (with_reducible first | exact ih0 _ _ _ _ _ _ _ | exact ih1 _ _ _ _ _ _ | exact ih2 _ _ _ _ _ _ _ _ | exact ih3 _ _ _ _ _ _ _ | exact ih4 _ _ _ _ _ _ _ _ | exact ih5 _ _ _ _ _ _ _ _ _ | exact ih6 _ _ _ _ _ _ _ _ | exact LeO.refl _ | exact LeO.none _ | refine LeO.ite ?_ ?_ | refine LeO.bind ?_ (fun _ => ?_))
  ·intro y0 y1 y2 y3 y4 y5 y6 y7
   unfold ya0.j3
   repeat' (with_reducible first | exact ih0 _ _ _ _ _ _ _ | exact ih1 _ _ _ _ _ _ | exact ih2 _ _ _ _ _ _ _ _ | exact ih3 _ _ _ _ _ _ _ | exact ih4 _ _ _ _ _ _ _ _ | exact ih5 _ _ _ _ _ _ _ _ _ | exact ih6 _ _ _ _ _ _ _ _ | exact LeO.refl _ | exact LeO.none _ | refine LeO.ite ?_ ?_ | refine LeO.bind ?_ (fun _ => ?_))
  ·intro y0 y1 y2 y3 y4 y5 y6
   unfold ya0.j4
   repeat' (with_reducible first | exact ih0 _ _ _ _ _ _ _ | exact ih1 _ _ _ _ _ _ | exact ih2 _ _ _ _ _ _ _ _ | exact ih3 _ _ _ _ _ _ _ | exact ih4 _ _ _ _ _ _ _ _ | exact ih5 _ _ _ _ _ _ _ _ _ | exact ih6 _ _ _ _ _ _ _ _ | exact LeO.refl _ | exact LeO.none _ | refine LeO.ite ?_ ?_ | refine LeO.bind ?_ (fun _ => ?_))
  ·intro y0 y1 y2 y3 y4 y5 y6 y7
   unfold ya0.l3
   repeat' (with_reducible first | exact ih0 _ _ _ _ _ _ _ | exact ih1 _ _ _ _ _ _ | exact ih2 _ _ _ _ _ _ _ _ | exact ih3 _ _ _ _ _ _ _ | exact ih4 _ _ _ _ _ _ _ _ | exact ih5 _ _ _ _ _ _ _ _ _ | exact ih6 _ _ _ _ _ _ _ _ | exact LeO.refl _ | exact LeO.none _ | refine LeO.ite ?_ ?_ | refine LeO.bind ?_ (fun _ => ?_))
  ·intro y0 y1 y2 y3 y4 y5 y6 y7 y8
   unfold ya0.l4
   repeat' (with_reducible first | exact ih0 _ _ _ _ _ _ _ | exact ih1 _ _ _ _ _ _ | exact ih2 _ _ _ _ _ _ _ _ | exact ih3 _ _ _ _ _ _ _ | exact ih4 _ _ _ _ _ _ _ _ | exact ih5 _ _ _ _ _ _ _ _ _ | exact ih6 _ _ _ _ _ _ _ _ | exact LeO.refl _ | exact LeO.none _ | refine LeO.ite ?_ ?_ | refine LeO.bind ?_ (fun _ => ?_))
  ·intro y0 y1 y2 y3 y4 y5 y6 y7
   unfold ya0.l2
   repeat' (with_reducible first | exact ih0 _ _ _ _ _ _ _ | exact ih1 _ _ _ _ _ _ | exact ih2 _ _ _ _ _ _ _ _ | exact ih3 _ _ _ _ _ _ _ | exact ih4 _ _ _ _ _ _ _ _ | exact ih5 _ _ _ _ _ _ _ _ _ | exact ih6 _ _ _ _ _ _ _ _ | exact LeO.refl _ | exact LeO.none _ | refine LeO.ite ?_ ?_ | refine LeO.bind ?_ (fun _ => ?_))
theorem ya0.mono : ∀ a0 k, LeO (ya0.f k a0) (ya0.f (k + 1) a0) := by
 intro a0 k
 obtain ⟨ih0, ih1, ih2, ih3, ih4, ih5, ih6⟩ := ya0.mono_l k
 unfold ya0.f
 repeat' (with_reducible first | exact ih0 _ _ _ _ _ _ _ | exact ih1 _ _ _ _ _ _ | exact ih2 _ _ _ _ _ _ _ _ | exact ih3 _ _ _ _ _ _ _ | exact ih4 _ _ _ _ _ _ _ _ | exact ih5 _ _ _ _ _ _ _ _ _ | exact ih6 _ _ _ _ _ _ _ _ | exact LeO.refl _ | exact LeO.none _ | refine LeO.ite ?_ ?_ | refine LeO.bind ?_ (fun _ => ?_))
def ya0.T25 : Bool × List (List Nat × List Nat) := (true, [([], []), ([], []), ([0, 1], [0, 1]), ([2], [2]), ([], []), ([], []), ([], []), ([5, 6], [5, 6]), ([7], [7]), ([], []), ([8, 9], [8, 9]), ([10], [10]), ([], []), ([], []), ([12, 13], [12, 13]), ([14], [14]), ([], []), ([15, 16], [15, 16]), ([17], [17]), ([11, 18], [11, 18]), ([], []), ([], []), ([20, 21], [20, 21]), ([22], [22]), ([], []), ([23, 24], [23, 24]), ([25], [25]), ([], []), ([], []), ([27, 28], [27, 28]), ([29], [29]), ([], []), ([30, 31], [30, 31]), ([32], [32]), ([26, 33], [26, 33]), ([19, 34], [19, 34]), ([], []), ([35, 36], [35, 36]), ([3, 4, 0, 1, 2, 3, 4, 5, 6, 7, 8, 9, 10, 11, 12, 13, 14, 15, 16, 17, 18, 19, 20, 21, 22, 23, 24, 25, 26, 27, 28, 29, 30, 31, 32, 33, 34, 35, 36, 37], [3, 4]), ([38, 37, 0, 1, 2, 3, 4, 5, 6, 7, 8, 9, 10, 11, 12, 13, 14, 15, 16, 17, 18, 19, 20, 21, 22, 23, 24, 25, 26, 27, 28, 29, 30, 31, 32, 33, 34, 35, 36, 37], [37, 38])])
def ya0.B25 : List Nat := [0, 0, 3, 7, 0, 0, 0, 96, 224, 0, 992, 2016, 0, 0, 12288, 28672, 0, 126976, 258048, 524256, 0, 0, 3145728, 7340032, 0, 32505856, 66060288, 0, 0, 402653184, 939524096, 0, 4160749568, 8455716864, 17178820608, 34359738336, 0, 137438953440, 274877906943, 549755813887]
theorem ya0.tab25 : rtab .any (opsOf Try.f62 25) = ya0.T25 := by kernel_rfl
theorem ya0.bits25 : waitsOk ya0.T25.2 ya0.B25 = true := by kernel_rfl
theorem ya0.calls (k : Nat) (A0 : Option Addr) (c0 : Nat) (l0 : List (List Int)) (r : Int) (w : World) (hr0 : Kd.C (Kd.slice 3 (Kd.int .i64)) w A0 l0.length l0) (hc0 : l0.length ≤ c0) (h : ya0.f k l0 = some r) :
  Calls Try.prog 62 #[.slice A0 l0.length c0] w fun e w' => e = .returned (.int .i64 r) ∧ Below w.heap.size w w' := by
 have HR0 := za0.mk hr0
 have HC0 := za0.mk hc0
 clear hr0 hc0
 have HB := za0.mk (Below.refl w.heap.size w)
 have H : (ya0.l0 k (l0.length : Int) 1 1 (([] : List (List Int))) l0 (l0.length : Int) 0) = some r := h
 clear h
 obtain ⟨y156, hy156⟩ : ∃ y_ : List (List Int), y_ = (([] : List (List Int))) := ⟨_, rfl⟩
 replace H : (ya0.l0 k (l0.length : Int) 1 1 y156 l0 (l0.length : Int) 0) = some r := by first | (rw [hy156]; with_reducible exact H) | (have H2_ := (Option.bind_some _ _).symm.trans H; rw [hy156]; with_reducible exact H2_) | (have H2_ := (Option.bind_some _ _).symm.trans H; with_reducible exact H2_) | with_reducible exact H | (rw [hy156]; exact H) | exact H
 have Ny156 := za0.mk hy156
 clear hy156
 have H' := za0.mk H
 clear H
 go_enter Try.func62, Try.ntmps62
 go_wp2_with (first | ((with_reducible refine zo0 (N := 15) rfl ?_); refine Kd.S_lit (Kd.slice 3 (Kd.int .i64)) _ 25 ?hg (N := 15) ?hd (xs := ([] : List (List Int))) (inner := []) (ok := fun _ => True) (okp := fun _ => True) ?hr ?hp (fun _ hk => hk) trivial (Below.refl _ _) (Nat.le_refl _) (by simp) ?_; (case hd | hg => rfl); (case hr => go_simp <;> rfl); (case hp => exact (Reps.none _ _)); intro v157 w2 ho3 hb hg_ hnew_; clear hg_ hnew_; (first | rw [← Ny156.1] at ho3 | (simp only [Int.reduceToNat] at ho3; rw [← Ny156.1] at ho3)); have n0_ := za0.mk (Kd.S_lower ho3 (zh0 (by repeat (first | exact HB.1 | apply zc0 | apply zb0 | apply zd0)))); have n1_ := za0.mk (zi0 (by repeat (first | exact HB.1 | apply zc0 | apply zb0 | apply zd0)) hb); clear HB; have HO158 := n0_; have HB := n1_; clear n0_ n1_; clear hb ho3))
 go_loopg [6, 18] k (fun kq v6 v18 w' => ∃ (x6_1 : List (List Int)) (x18_1 : Int), v18 = .int .i64 x18_1 ∧ za0 (ya0.l0 kq (l0.length : Int) 1 1 x6_1 l0 (l0.length : Int) x18_1 = some r) ∧ za0 (kq ≤ k) ∧ za0 (Kd.S (Kd.slice 3 (Kd.int .i64)) 25 w' w.heap.size (fun _ => True) v6 x6_1) ∧ za0 (Below w.heap.size w w'))
 case atStart => exact ⟨(y156), (0), (by first | rfl | (simp; done) | (simp [*]; done)), H', ⟨Nat.le_refl _⟩, ⟨by (with_reducible repeat (first | apply Kd.S_alloc | apply Kd.S_drewN | apply Kd.S_drew)); exact HO158.1⟩, ⟨by repeat (first | exact HB.1 | apply zc0 | apply zb0 | apply zd0)⟩⟩
 case round =>
  clear H'
  try clear p2
  obtain ⟨x6_1, x18_1, rfl, HA, HK1, HO_6, HB⟩ := hrel
  obtain _ | k1 := gk
  ·exact absurd HA.1 (by simp [ya0.l0])
  have H := HA.1
  clear HA
  simp only [ya0.l0] at H
  by_cases c4 : x18_1 < (l0.length : Int)
  ·rw [if_pos c4] at H
   have c4b0 : decide (x18_1 < (l0.length : Int)) = true := decide_eq_true c4
   clear c4
   by_cases c5 : 0 ≤ x18_1
   rotate_left
   ·rw [if_neg c5] at H
    exact absurd H (by simp)
   rw [if_pos c5] at H
   have c5b0 : decide (0 ≤ x18_1) = true := decide_eq_true c5
   clear c5
   by_cases c6 : x18_1 < (l0.length : Int)
   rotate_left
   ·rw [if_neg c6] at H
    exact absurd H (by simp)
   rw [if_pos c6] at H
   have c6b0 : decide (x18_1 < (l0.length : Int)) = true := decide_eq_true c6
   clear c6
   replace H := Option.bind_eq_some_iff.mp H
   obtain ⟨t160, A70, H⟩ := H
   replace H : (if x6_1.length < 5864062014805 then (ya0.l0 k1 (l0.length : Int) 1 1 (x6_1 ++ [t160]) l0 (l0.length : Int) (wrap64 (x18_1 + 1))) else (none)) = some r := H
   have A7 := za0.mk A70
   clear A70
   by_cases c8 : x6_1.length < 5864062014805
   rotate_left
   ·rw [if_neg c8] at H
    exact absurd H (by simp)
   rw [if_pos c8] at H
   have LMc8 := za0.mk c8
   clear c8
   obtain ⟨y163, hy163⟩ : ∃ y_ : List (List Int), y_ = (x6_1 ++ [t160]) := ⟨_, rfl⟩
   replace H : (ya0.l0 k1 (l0.length : Int) 1 1 y163 l0 (l0.length : Int) (wrap64 (x18_1 + 1))) = some r := by first | (rw [hy163]; with_reducible exact H) | (have H2_ := (Option.bind_some _ _).symm.trans H; rw [hy163]; with_reducible exact H2_) | (have H2_ := (Option.bind_some _ _).symm.trans H; with_reducible exact H2_) | with_reducible exact H | (rw [hy163]; exact H) | exact H
   have Ny163 := za0.mk hy163
   clear hy163
   have H' := za0.mk H
   clear H
   have p159 : 0 ≤ (x18_1 : Int) := of_decide_eq_true (by assumption)
   have q159 : x18_1 < (l0.length : Int) := of_decide_eq_true (by assumption)
   obtain ⟨ad159, A159_0, c159_0, e159, hx159_0, hl159_0, hi159_0⟩ := at_L1 HR0.1 x18_1 p159 q159
   cases e159
   replace hx159_0 := (HB.1.cell (World.block_lt_of_cell? w _ hx159_0)).trans hx159_0
   have HR159_0 := za0.mk hi159_0
   have HC159_0 := za0.mk hl159_0
   clear hi159_0 hl159_0
   replace p159 := eq_true p159
   replace q159 := eq_true q159
   go_wp2_with (first | ((with_reducible refine zn0 (f := 35) rfl ?_); refine za1 (some 24) rfl rfl Try.func35 (by kernel_rfl) rfl #[.slice A159_0 (rd_L1 l0 x18_1).length c159_0] rfl (by (try simp only [List.map_toArray, List.map_cons, List.map_nil]); first | done | rfl | (simp only [List.length_drop, List.length_take]; rfl)) ?_; (with_reducible refine (yj1.calls _ _ (rd_L1 l0 x18_1) t160 _ ?side1 ?side2 A7.1).mono ?_); (case side1 => repeat (first | exact (Kd.C_below HR159_0.1 HB.1) | with_reducible first | refine Kd.C_alloc ?_ _ | refine Kd.C_drewN ?_ _ | refine Kd.C_drew ?_)); (case side2 => exact HC159_0.1); rintro e w9 ⟨v161, rfl, ho0, hb⟩; refine ⟨_, rfl, ?_⟩; have n0_ := za0.mk (Kd.S_elder' (by (with_reducible repeat (first | apply Kd.S_alloc | apply Kd.S_drewN | apply Kd.S_drew)); exact HO_6.1) (Kd.R_base ho0) hb); have n1_ := za0.mk (Kd.R_lower ho0 (zh0 (by repeat (first | exact HB.1 | apply zc0 | apply zb0 | apply zd0)))); have n2_ := za0.mk (zi0 (by repeat (first | exact HB.1 | apply zc0 | apply zb0 | apply zd0)) hb); clear HO_6; clear HB; have HO_6 := n0_; have HO162 := n1_; have HB := n2_; clear n0_ n1_ n2_; (try clear hb); (try clear hb2); (try clear hk); (try clear hi); (try clear ho0); obtain ⟨Ao11, co11, eo11⟩ := Kd.R_slice HO162.1; subst eo11) | ((with_reducible refine gate_builtin (b := .append) (xs := #[.tmp 22, .tmp 25]) rfl ?_); at_builtin; refine Kd.S_append (Kd.slice 3 (Kd.int .i64)) (w0 := w) w.heap.size rfl (.tmp 22) (.tmp 25) 22 25 (.slice none 0 0) 24 rfl Try.underlying22 info25 rfl (by decide) (by omega) u6 x6_1 t160 [.slice Ao11 t160.length co11] (fun _ => True) (fun k_ => some k_ = (.slice Ao11 t160.length co11 : Value).ownBlock) rfl rfl ?aP (fun k_ hk_ => ((Kd.R_mono (ok' := fun k_ => ((fun _ => True)) k_ ∧ some k_ ≠ (u6 : Value).ownBlock) (Kd.R_apart' (HO162.1) (Kd.S_typed HO_6.1) (by decide)) (fun k_ hk => ⟨trivial, hk.2⟩))).1 k_ hk_.symm) ?aF ?aO ?aB ?aS ?aL ?_; (case aP => exact Kd.M_row (Kd.R_mono (Kd.R_tight rfl (Kd.R_mono (ok' := fun k_ => ((fun _ => True)) k_ ∧ some k_ ≠ (u6 : Value).ownBlock) (Kd.R_apart' (HO162.1) (Kd.S_typed HO_6.1) (by decide)) (fun k_ hk => ⟨trivial, hk.2⟩))) (fun _ h_ => h_))); (case aB => exact (by repeat (first | exact HB.1 | apply zc0 | apply zb0 | apply zd0))); (case aF => exact (fun _ _ => trivial)); (case aO => exact (by (with_reducible repeat (first | apply Kd.S_alloc | apply Kd.S_drewN | apply Kd.S_drew)); exact Kd.S_mono HO_6.1 (fun k_ hk => ⟨trivial, fun e_ => hk.2 e_⟩))); (case aS => exact (zh0 (by repeat (first | exact HB.1 | apply zc0 | apply zb0 | apply zd0)))); (case aL => have := LMc8.1; omega); intro v164 w10 ho hb hg hat; rw [← Ny163.1] at ho; have n0_ := za0.mk (hb); have n1_ := za0.mk (ho); clear HB; clear HO_6; clear HO162; have HB := n0_; have HO165 := n1_; clear n0_ n1_; clear ho hb hg hat))
   go_roundg k1
   case measure => have := HK1.1; omega
   case rel => exact ⟨(y163), (wrap64 (x18_1 + 1)), (by first | rfl | (simp; done) | (simp [*]; done)), H', ⟨by have := HK1.1; omega⟩, ⟨by (with_reducible repeat (first | apply Kd.S_alloc | apply Kd.S_drewN | apply Kd.S_drew)); exact HO165.1⟩, ⟨by repeat (first | exact HB.1 | apply zc0 | apply zb0 | apply zd0)⟩⟩
  rw [if_neg c4] at H
  have c4b0 : decide (x18_1 < (l0.length : Int)) = false := decide_eq_false c4
  clear c4
  have H' := za0.mk H
  clear H
  go_wp2
  go_loopg [4, 5, 29] k1 (fun kq v4 v5 v29 w' => ∃ (x4_2 : Int) (x5_2 : Int) (x6_2 : List (List Int)) (x29_2 : Int), v4 = .int .i64 x4_2 ∧ v5 = .int .i64 x5_2 ∧ v29 = .int .i64 x29_2 ∧ za0 (ya0.l1 kq (l0.length : Int) x4_2 x5_2 x6_2 (l0.length : Int) x29_2 = some r) ∧ za0 (kq ≤ k1) ∧ za0 (Kd.S (Kd.slice 3 (Kd.int .i64)) 25 w' w.heap.size (fun _ => True) u6 x6_2) ∧ za0 (Below w.heap.size w w'))
  case atStart => exact ⟨(1), (1), (x6_1), (0), (by first | rfl | (simp; done) | (simp [*]; done)), (by first | rfl | (simp; done) | (simp [*]; done)), (by first | rfl | (simp; done) | (simp [*]; done)), H', ⟨Nat.le_refl _⟩, ⟨by (with_reducible repeat (first | apply Kd.S_alloc | apply Kd.S_drewN | apply Kd.S_drew)); exact HO_6.1⟩, ⟨by repeat (first | exact HB.1 | apply zc0 | apply zb0 | apply zd0)⟩⟩
  case round =>
   clear H'
   try clear c1
   try clear p1
   try clear q1
   try clear hx1
   try clear p2
   try clear c3
   try clear c4
   try clear c4b0
   try clear c5
   try clear c5b0
   try clear c6
   try clear c6b0
   try clear p6
   try clear c8
   try clear hx159_0
   try clear p159
   try clear p2
   try clear q159
   obtain ⟨x4_2, x5_2, x6_2, x29_2, rfl, rfl, rfl, HA, HK2, HO_6, HB⟩ := hrel
   obtain _ | k2 := gk
   ·exact absurd HA.1 (by simp [ya0.l1])
   have H := HA.1
   clear HA
   simp only [ya0.l1] at H
   by_cases c12 : x29_2 < (l0.length : Int)
   rotate_left
   ·rw [if_neg c12] at H
    have c12b0 : decide (x29_2 < (l0.length : Int)) = false := decide_eq_false c12
    clear c12
    obtain rfl := Option.some.inj H
    go_wp2
    go_ret
    exact ⟨by first | rfl | (simp [errW_none, errW_some] <;> rfl) | (simp [*, errW_none, errW_some] <;> rfl), by repeat (first | exact HB.1 | apply zc0 | apply zb0 | apply zd0)⟩
   rw [if_pos c12] at H
   have c12b0 : decide (x29_2 < (l0.length : Int)) = true := decide_eq_true c12
   clear c12
   have HC13 := za0.mk H
   clear H
   go_upto_block 4 with (fail)
   go_cut [10] (fun v10 wc => ∃ (kq : Nat) (x10_12 : Int), v10 = .int .i64 x10_12 ∧ za0 (ya0.j3 kq (l0.length : Int) x4_2 x5_2 x6_2 x29_2 x10_12 (l0.length : Int) x29_2 = some r) ∧ za0 (kq ≤ k2) ∧ za0 (Kd.S (Kd.slice 3 (Kd.int .i64)) 25 wc w.heap.size (fun _ => True) u6 x6_2) ∧ za0 (Below w.heap.size w wc))
   case first =>
    have H := HC13.1
    clear HC13
    have H' := za0.mk H
    clear H
    go_wp2
    go_loopg [10] k2 (fun kq v10 w' => ∃ (x10_3 : Int), v10 = .int .i64 x10_3 ∧ za0 (ya0.l2 kq (l0.length : Int) x4_2 x5_2 x6_2 x29_2 x10_3 (l0.length : Int) x29_2 = some r) ∧ za0 (kq ≤ k2) ∧ za0 (Kd.S (Kd.slice 3 (Kd.int .i64)) 25 w' w.heap.size (fun _ => True) u6 x6_2) ∧ za0 (Below w.heap.size w w'))
    case atStart => exact ⟨(x29_2), (by first | rfl | (simp; done) | (simp [*]; done)), H', ⟨Nat.le_refl _⟩, ⟨by (with_reducible repeat (first | apply Kd.S_alloc | apply Kd.S_drewN | apply Kd.S_drew)); exact HO_6.1⟩, ⟨by repeat (first | exact HB.1 | apply zc0 | apply zb0 | apply zd0)⟩⟩
    case round =>
     clear H'
     try clear c1
     try clear p1
     try clear q1
     try clear hx1
     try clear p2
     try clear c3
     try clear c4
     try clear c4b0
     try clear c5
     try clear c5b0
     try clear c6
     try clear c6b0
     try clear p6
     try clear c8
     try clear c12
     try clear c12b0
     try clear hx159_0
     try clear p1
     try clear p159
     try clear p2
     try clear p6
     try clear q1
     try clear q159
     obtain ⟨x10_3, rfl, HA, HK3, HO_6, HB⟩ := hrel
     obtain _ | k3 := gk
     ·exact absurd HA.1 (by simp [ya0.l2])
     have H := HA.1
     clear HA
     simp only [ya0.l2] at H
     by_cases c14 : x10_3 < (l0.length : Int)
     rotate_left
     ·rw [if_neg c14] at H
      have c14b0 : decide (x10_3 < (l0.length : Int)) = false := decide_eq_false c14
      clear c14
      (first | rw [c14b0] | (simp only [i64_w, i32_w]; rw [c14b0]) | skip)
      have H' := za0.mk H
      clear H
      go_wp2
      go_meet
      case rel => exact ⟨_, (x10_3), (by first | rfl | (simp; done) | (simp [*]; done)), H', ⟨by have := HK1.1; have := HK2.1; have := HK3.1; first | omega | exact Nat.le_refl _⟩, ⟨by (with_reducible repeat (first | apply Kd.S_alloc | apply Kd.S_drewN | apply Kd.S_drew)); exact HO_6.1⟩, ⟨by repeat (first | exact HB.1 | apply zc0 | apply zb0 | apply zd0)⟩⟩
     rw [if_pos c14] at H
     have c14b0 : decide (x10_3 < (l0.length : Int)) = true := decide_eq_true c14
     clear c14
     (first | rw [c14b0] | (simp only [i64_w, i32_w]; rw [c14b0]) | skip)
     by_cases c15 : 0 ≤ x10_3
     rotate_left
     ·rw [if_neg c15] at H
      exact absurd H (by simp)
     rw [if_pos c15] at H
     have c15b0 : decide (0 ≤ x10_3) = true := decide_eq_true c15
     clear c15
     by_cases c16 : x10_3 < (x6_2.length : Int)
     rotate_left
     ·rw [if_neg c16] at H
      exact absurd H (by simp)
     rw [if_pos c16] at H
     have c16b0 : decide (x10_3 < (x6_2.length : Int)) = true := decide_eq_true c16
     clear c16
     by_cases c17 : 0 ≤ x29_2
     rotate_left
     ·rw [if_neg c17] at H
      exact absurd H (by simp)
     rw [if_pos c17] at H
     have c17b0 : decide (0 ≤ x29_2) = true := decide_eq_true c17
     clear c17
     by_cases c18 : x29_2 < ((rd_L1 x6_2 x10_3).length : Int)
     rotate_left
     ·rw [if_neg c18] at H
      exact absurd H (by simp)
     rw [if_pos c18] at H
     have c18b0 : decide (x29_2 < ((rd_L1 x6_2 x10_3).length : Int)) = true := decide_eq_true c18
     clear c18
     by_cases c19 : (rd (rd_L1 x6_2 x10_3) x29_2) = 0
     rotate_left
     ·rw [if_neg c19] at H
      have c19b0 : ((rd (rd_L1 x6_2 x10_3) x29_2) == 0) = false := beq_eq_false_iff_ne.mpr c19
      have c19b1 : ((rd (rd_L1 x6_2 x10_3) x29_2) != 0) = true := bne_iff_ne.mpr c19
      have H' := za0.mk H
      clear H
      obtain ⟨Ao21, co21, eo21⟩ := Kd.S_slice HO_6.1
      subst eo21
      have p166 : 0 ≤ (x10_3 : Int) := of_decide_eq_true (by assumption)
      have q166 : x10_3 < (x6_2.length : Int) := of_decide_eq_true (by assumption)
      obtain ⟨ad166, A166_0, c166_0, e166, hx166_0, hl166_0, hi166_0⟩ := at_L1 (Kd.S_reads' HO_6.1).2.2 x10_3 p166 q166
      cases e166
      obtain ⟨ce166, hce166, hMe166, hcc166⟩ := Kd.S_get HO_6.1 [] x10_3 p166 (by first | exact q166 | exact of_decide_eq_true (by assumption) | (have e_ := (Kd.S_reads' HO_6.1).1; omega))
      obtain ⟨ve166_0, rfl, ge166_0⟩ := hMe166
      have hv166_0 := hcc166 0 _ rfl
      rw [Nat.add_zero, show ((Kd.slice 3 (Kd.int .i64))).sz = 1 from rfl, Nat.mul_one] at hv166_0
      replace hv166_0 := Option.some.inj (hv166_0.symm.trans hx166_0)
      rw [hv166_0] at ge166_0
      have HL166_0 := za0.mk (show Kd.R (Kd.int .i64) 3 _ _ _ _ (rd_L1 x6_2 x10_3) from ge166_0)
      clear hv166_0 ge166_0
      have HX166_0 := za0.mk hx166_0
      clear hcc166 hce166
      have HR166_0 := za0.mk hi166_0
      have HC166_0 := za0.mk hl166_0
      clear hi166_0 hl166_0
      replace p166 := eq_true p166
      replace q166 := eq_true q166
      have p167 : 0 ≤ (x29_2 : Int) := of_decide_eq_true (by assumption)
      have q167 : x29_2 < ((rd_L1 x6_2 x10_3).length : Int) := of_decide_eq_true (by assumption)
      obtain ⟨ad167, e167, hx167_0⟩ := Kd.at_int (by repeat (first | (with_reducible exact HR166_0.1) | (with_reducible refine Kd.C_alloc ?_ _) | (with_reducible refine Kd.C_drewN ?_ _) | (with_reducible refine Kd.C_drew ?_) | exact HR166_0.1)) x29_2 p167 q167
      cases e167
      replace p167 := eq_true p167
      replace q167 := eq_true q167
      go_wp2
      go_meet
      case rel => exact ⟨_, (x10_3), (by first | rfl | (simp; done) | (simp [*]; done)), H', ⟨by have := HK1.1; have := HK2.1; have := HK3.1; first | omega | exact Nat.le_refl _⟩, ⟨by (with_reducible repeat (first | apply Kd.S_alloc | apply Kd.S_drewN | apply Kd.S_drew)); exact HO_6.1⟩, ⟨by repeat (first | exact HB.1 | apply zc0 | apply zb0 | apply zd0)⟩⟩
     rw [if_pos c19] at H
     have c19b0 : ((rd (rd_L1 x6_2 x10_3) x29_2) == 0) = true := beq_iff_eq.mpr c19
     have c19b1 : ((rd (rd_L1 x6_2 x10_3) x29_2) != 0) = false := bne_eq_false_iff_eq.mpr c19
     clear c19
     have H' := za0.mk H
     clear H
     obtain ⟨Ao20, co20, eo20⟩ := Kd.S_slice HO_6.1
     subst eo20
     have p166 : 0 ≤ (x10_3 : Int) := of_decide_eq_true (by assumption)
     have q166 : x10_3 < (x6_2.length : Int) := of_decide_eq_true (by assumption)
     obtain ⟨ad166, A166_0, c166_0, e166, hx166_0, hl166_0, hi166_0⟩ := at_L1 (Kd.S_reads' HO_6.1).2.2 x10_3 p166 q166
     cases e166
     obtain ⟨ce166, hce166, hMe166, hcc166⟩ := Kd.S_get HO_6.1 [] x10_3 p166 (by first | exact q166 | exact of_decide_eq_true (by assumption) | (have e_ := (Kd.S_reads' HO_6.1).1; omega))
     obtain ⟨ve166_0, rfl, ge166_0⟩ := hMe166
     have hv166_0 := hcc166 0 _ rfl
     rw [Nat.add_zero, show ((Kd.slice 3 (Kd.int .i64))).sz = 1 from rfl, Nat.mul_one] at hv166_0
     replace hv166_0 := Option.some.inj (hv166_0.symm.trans hx166_0)
     rw [hv166_0] at ge166_0
     have HL166_0 := za0.mk (show Kd.R (Kd.int .i64) 3 _ _ _ _ (rd_L1 x6_2 x10_3) from ge166_0)
     clear hv166_0 ge166_0
     have HX166_0 := za0.mk hx166_0
     clear hcc166 hce166
     have HR166_0 := za0.mk hi166_0
     have HC166_0 := za0.mk hl166_0
     clear hi166_0 hl166_0
     replace p166 := eq_true p166
     replace q166 := eq_true q166
     have p167 : 0 ≤ (x29_2 : Int) := of_decide_eq_true (by assumption)
     have q167 : x29_2 < ((rd_L1 x6_2 x10_3).length : Int) := of_decide_eq_true (by assumption)
     obtain ⟨ad167, e167, hx167_0⟩ := Kd.at_int (by repeat (first | (with_reducible exact HR166_0.1) | (with_reducible refine Kd.C_alloc ?_ _) | (with_reducible refine Kd.C_drewN ?_ _) | (with_reducible refine Kd.C_drew ?_) | exact HR166_0.1)) x29_2 p167 q167
     cases e167
     replace p167 := eq_true p167
     replace q167 := eq_true q167
     go_wp2
     go_roundg k3
     case measure => have := HK1.1; have := HK2.1; have := HK3.1; omega
     case rel => exact ⟨(wrap64 (x10_3 + 1)), (by first | rfl | (simp; done) | (simp [*]; done)), H', ⟨by have := HK1.1; have := HK2.1; have := HK3.1; omega⟩, ⟨by (with_reducible repeat (first | apply Kd.S_alloc | apply Kd.S_drewN | apply Kd.S_drew)); exact HO_6.1⟩, ⟨by repeat (first | exact HB.1 | apply zc0 | apply zb0 | apply zd0)⟩⟩
   case rest =>
    clear HC13
    try clear c1
    try clear p1
    try clear q1
    try clear hx1
    try clear p2
    try clear c3
    try clear c4
    try clear c4b0
    try clear c5
    try clear c5b0
    try clear c6
    try clear c6b0
    try clear p6
    try clear c8
    try clear c12
    try clear c12b0
    try clear c14
    try clear c14b0
    try clear c15
    try clear c15b0
    try clear p15
    try clear q15
    try clear hx15
    try clear c16
    try clear c16b0
    try clear p16
    try clear q16
    try clear hx16
    try clear c17
    try clear c17b0
    try clear c18
    try clear c18b0
    try clear c19
    try clear c19b0
    try clear c19b1
    try clear hx159_0
    try clear hx166_0
    try clear hx167_0
    try clear p1
    try clear p159
    try clear p166
    try clear p167
    try clear p2
    try clear p6
    try clear q1
    try clear q159
    try clear q166
    try clear q167
    obtain ⟨kq, x10_12, rfl, HA, HJ12, HO_6, HB⟩ := hcut
    cases kq with
    | zero => exact absurd HA.1 (by simp [ya0.j3])
    | succ kj12 =>
     have H := HA.1
     clear HA
     simp only [ya0.j3] at H
     by_cases c22 : x10_12 = (l0.length : Int)
     ·rw [if_pos c22] at H
      have c22b0 : (x10_12 == (l0.length : Int)) = true := beq_iff_eq.mpr c22
      have c22b1 : (x10_12 != (l0.length : Int)) = false := bne_eq_false_iff_eq.mpr c22
      clear c22
      obtain rfl := Option.some.inj H
      go_wp2
      go_ret
      exact ⟨by first | rfl | (simp [errW_none, errW_some] <;> rfl) | (simp [*, errW_none, errW_some] <;> rfl), by repeat (first | exact HB.1 | apply zc0 | apply zb0 | apply zd0)⟩
     rw [if_neg c22] at H
     have c22b0 : (x10_12 == (l0.length : Int)) = false := beq_eq_false_iff_ne.mpr c22
     have c22b1 : (x10_12 != (l0.length : Int)) = true := bne_iff_ne.mpr c22
     have HC23 := za0.mk H
     clear H
     go_upto_if 53 with (fail)
     go_cut [4] (fun v4 wc => ∃ (kq : Nat) (x4_22 : Int) (x6_22 : List (List Int)), v4 = .int .i64 x4_22 ∧ za0 (ya0.j4 kq (l0.length : Int) x4_22 x5_2 x6_22 x29_2 (l0.length : Int) x29_2 = some r) ∧ za0 (kq ≤ kj12) ∧ za0 (Kd.S (Kd.slice 3 (Kd.int .i64)) 25 wc w.heap.size (fun _ => True) u6 x6_22) ∧ za0 (Below w.heap.size w wc))
     case first =>
      have H := HC23.1
      clear HC23
      by_cases c24 : x10_12 = x29_2
      ·rw [if_pos c24] at H
       have c24b0 : (x10_12 == x29_2) = true := beq_iff_eq.mpr c24
       have c24b1 : (x10_12 != x29_2) = false := bne_eq_false_iff_eq.mpr c24
       clear c24
       (first | rw [c24b0] | (simp only [i64_w, i32_w]; rw [c24b0]) | skip)
       have H' := za0.mk H
       clear H
       go_wp2
       go_meet
       case rel => exact ⟨_, (x4_2), (x6_2), (by first | rfl | (simp; done) | (simp [*]; done)), H', ⟨by have := HK1.1; have := HK2.1; have := HJ12.1; first | omega | exact Nat.le_refl _⟩, ⟨by (with_reducible repeat (first | apply Kd.S_alloc | apply Kd.S_drewN | apply Kd.S_drew)); exact HO_6.1⟩, ⟨by repeat (first | exact HB.1 | apply zc0 | apply zb0 | apply zd0)⟩⟩
      rw [if_neg c24] at H
      have c24b0 : (x10_12 == x29_2) = false := beq_eq_false_iff_ne.mpr c24
      have c24b1 : (x10_12 != x29_2) = true := bne_iff_ne.mpr c24
      (first | rw [c24b0] | (simp only [i64_w, i32_w]; rw [c24b0]) | skip)
      replace H := Option.bind_eq_some_iff.mp H
      obtain ⟨t168, A250, H⟩ := H
      replace H : (ya0.j4 kj12 (l0.length : Int) (wrap64 (-x4_2)) x5_2 t168 x29_2 (l0.length : Int) x29_2) = some r := H
      have A25 := za0.mk A250
      clear A250
      have H' := za0.mk H
      clear H
      obtain ⟨b1, b2, b3, b4, hsw⟩ := fake_swap_some A25.1
      obtain ⟨go26, co26, eo26, gb26, _, cl26, HG26⟩ := Kd.S_form HO_6.1 (by omega)
      subst eo26
      have hne_ : x10_12.toNat ≠ x29_2.toNat := by omega
      have HNE := za0.mk hne_
      clear hne_
      have HGB := za0.mk gb26
      clear gb26 HG26
      try go_wp2
      obtain ⟨ad1, A1, c1_, e1, hx1, _, _⟩ := at_L1 (Kd.S_reads' HO_6.1).2.2 x29_2 b3 b4
      cases e1
      rw [add_plain] at hx1
      obtain ⟨ad2, A2, c2_, e2, hx2, _, _⟩ := at_L1 (Kd.S_reads' HO_6.1).2.2 x10_12 b1 b2
      cases e2
      rw [add_plain] at hx2
      have hf1 : wc.frozen? ⟨go26, x10_12.toNat, none⟩ = false := by obtain ⟨_, _, _, _, hfr⟩ := Kd.R_elem (Kd.S_R HO_6.1) ([] : List Int) x10_12 b1 b2; have := hfr 0; simpa [Kd.slice] using this
      have hf2 : wc.frozen? ⟨go26, x29_2.toNat, none⟩ = false := by obtain ⟨_, _, _, _, hfr⟩ := Kd.R_elem (Kd.S_R HO_6.1) ([] : List Int) x29_2 b3 b4; have := hfr 0; simpa [Kd.slice] using this
      have HBB := za0.mk (And.intro (And.intro b1 b2) (And.intro b3 b4))
      replace b1 := eq_true b1
      replace b2 := eq_true b2
      replace b3 := eq_true b3
      replace b4 := eq_true b4
      have n0_ := za0.mk (Kd.S_drew HO_6.1)
      have n1_ := za0.mk (zd0 HB.1)
      clear HO_6 HB
      have HO_6 := n0_
      have HB := n1_
      clear n0_ n1_
      refine start_ (n := 16) (S := fun w' => w'.cell? ⟨go26, x29_2.toNat, none⟩ = some (.slice A1 (rd_L1 x6_2 x29_2).length c1_) ∧ w'.cell? ⟨go26, x10_12.toNat, none⟩ = some (.slice A2 (rd_L1 x6_2 x10_12).length c2_)) (ds := [13, 15]) #[false, false, false, false, false, false, false, false, false, false, false, false, false, false, false, false] (by kernel_rfl) rfl rfl ⟨hx1, hx2⟩ (fun hHeld => ?_)
      replace hx1 := (show wc.drew.cell? _ = _ from hx1)
      replace hx2 := (show wc.drew.cell? _ = _ from hx2)
      replace hf1 := (show wc.drew.frozen? _ = _ from hf1)
      replace hf2 := (show wc.drew.frozen? _ = _ from hf2)
      generalize wc.drew = w26 at HO_6 HB hx1 hx2 hf1 hf2 hHeld ⊢
      refine pu 0 (some 54) (v := ?_) (a' := ?_) (bf 16 1) ?_ ?_ ?_
      rotate_left
      ·intro w'; go_simp; with_reducible rfl
      rotate_left
      ·simp only [Act.put, zA, zB, zC, i64_w, i32_w]; rfl
      refine pu 1 (some 55) (v := ?_) (a' := ?_) (bf 16 3) ?_ ?_ ?_
      rotate_left
      ·intro w'; go_simp; with_reducible rfl
      rotate_left
      ·simp only [Act.put, zA, zB, zC, i64_w, i32_w]; rfl
      refine pu 2 (some 56) (v := ?_) (a' := ?_) (bf 16 7) ?_ ?_ ?_
      rotate_left
      ·intro w'; go_simp; with_reducible rfl
      rotate_left
      ·simp only [Act.put, zA, zB, zC, i64_w, i32_w]; rfl
      refine pu 3 (some 57) (v := ?_) (a' := ?_) (bf 16 15) ?_ ?_ ?_
      rotate_left
      ·intro w'; go_simp; with_reducible rfl
      rotate_left
      ·simp only [Act.put, zA, zB, zC, i64_w, i32_w]; rfl
      refine pu 4 (some 58) (v := ?_) (a' := ?_) (bf 16 31) ?_ ?_ ?_
      rotate_left
      ·intro w'; go_simp; with_reducible rfl
      rotate_left
      ·simp only [Act.put, zA, zB, zC, i64_w, i32_w]; rfl
      refine pu 5 (some 59) (v := ?_) (a' := ?_) (bf 16 63) ?_ ?_ ?_
      rotate_left
      ·intro w'; go_simp; with_reducible rfl
      rotate_left
      ·simp only [Act.put, zA, zB, zC, i64_w, i32_w]; rfl
      refine pu 6 (some 60) (v := ?_) (a' := ?_) (bf 16 127) ?_ ?_ ?_
      rotate_left
      ·intro w'; go_simp; with_reducible rfl
      rotate_left
      ·simp only [Act.put, zA, zB, zC, i64_w, i32_w]; rfl
      refine take_ (i := 7) (N := some 61) (v := ?_) (a' := ?_) (bf 16 255) rfl rfl (by kernel_rfl) (fun _ _ _ h => h) (Or.inl ⟨by rfl, ?_⟩) hHeld ?_ ?_
      rotate_left
      ·rintro w' ⟨s0, s1⟩; go_simp; with_reducible rfl
      rotate_left
      ·simp only [Act.put, zA, zB, zC, i64_w, i32_w]; rfl
      refine pu 8 (some 62) (v := ?_) (a' := ?_) (bf 16 511) ?_ ?_ ?_
      rotate_left
      ·intro w'; go_simp; with_reducible rfl
      rotate_left
      ·simp only [Act.put, zA, zB, zC, i64_w, i32_w]; rfl
      refine pu 9 (some 63) (v := ?_) (a' := ?_) (bf 16 1023) ?_ ?_ ?_
      rotate_left
      ·intro w'; go_simp; with_reducible rfl
      rotate_left
      ·simp only [Act.put, zA, zB, zC, i64_w, i32_w]; rfl
      refine pu 10 (some 64) (v := ?_) (a' := ?_) (bf 16 2047) ?_ ?_ ?_
      rotate_left
      ·intro w'; go_simp; with_reducible rfl
      rotate_left
      ·simp only [Act.put, zA, zB, zC, i64_w, i32_w]; rfl
      refine take_ (i := 11) (N := some 65) (v := ?_) (a' := ?_) (bf 16 4095) rfl rfl (by kernel_rfl) (fun _ _ _ h => h) (Or.inl ⟨by rfl, ?_⟩) hHeld ?_ ?_
      rotate_left
      ·rintro w' ⟨s0, s1⟩; go_simp; with_reducible rfl
      rotate_left
      ·simp only [Act.put, zA, zB, zC, i64_w, i32_w]; rfl
      refine pu 12 (some 66) (v := ?_) (a' := ?_) (bf 16 8191) ?_ ?_ ?_
      rotate_left
      ·intro w'; go_simp; with_reducible rfl
      rotate_left
      ·simp only [Act.put, zA, zB, zC, i64_w, i32_w]; rfl
      refine last_ (i := 13) (N := none) (bf 16 16383) rfl rfl (by kernel_rfl) (by decide) (fun K hK => ?_)
      refine skip_ (w1 := ?_) (by rfl) rfl ?_ ?_
      rotate_left
      ·go_simp
       rfl
      refine hK.out _ _ ?_
      clear hK K
      have hx3 := cell_off (v := .slice A1 (rd_L1 x6_2 x29_2).length c1_) hx1 HNE.1
      have hf3 := froz_off (i := x10_12.toNat) (v := .slice A1 (rd_L1 x6_2 x29_2).length c1_) hf2
      refine pu 14 (some 67) (v := ?_) (a' := ?_) (bf 16 32767) ?_ ?_ ?_
      rotate_left
      ·intro w'; go_simp; with_reducible rfl
      rotate_left
      ·simp only [Act.put, zA, zB, zC, i64_w, i32_w]; rfl
      refine last_ (i := 15) (N := none) (bf 16 65535) rfl rfl (by kernel_rfl) (by decide) (fun K hK => ?_)
      refine skip_ (w1 := ?_) (by rfl) rfl ?_ ?_
      rotate_left
      ·go_simp
       rfl
      refine hK.out _ _ ?_
      clear hK K
      refine done_ (by kernel_rfl) ?_
      have HO170 := za0.mk (S_swap rfl ([] : List Int) HO_6.1 (i := x10_12.toNat) (j := x29_2.toNat) (by have := HBB.1; omega) (by have := HBB.1; omega) hx2 hx1)
      rw [hsw] at HO170
      have n1_ := za0.mk (ze0 (ze0 HB.1 HGB.1) HGB.1 : Below w.heap.size w ((w26.setCell ⟨go26, x10_12.toNat, none⟩ (.slice A1 (rd_L1 x6_2 x29_2).length c1_)).setCell ⟨go26, x29_2.toNat, none⟩ (.slice A2 (rd_L1 x6_2 x10_12).length c2_)))
      clear HB
      have HB := n1_
      clear n1_ hx1 hx2 hx3 hf1 hf2 hf3 hHeld
      try go_wp2
      go_meet
      case rel => exact ⟨_, (wrap64 (-x4_2)), (t168), (by first | rfl | (simp; done) | (simp [*]; done)), H', ⟨by have := HK1.1; have := HK2.1; have := HJ12.1; first | omega | exact Nat.le_refl _⟩, ⟨by (with_reducible repeat (first | apply Kd.S_alloc | apply Kd.S_drewN | apply Kd.S_drew)); exact Kd.S_mono HO170.1 (fun _ hk => trivial)⟩, ⟨by repeat (first | exact HB.1 | apply zc0 | apply zb0 | apply zd0)⟩⟩
     case rest =>
      clear HC23
      try clear c1
      try clear p1
      try clear q1
      try clear hx1
      try clear c2
      try clear p2
      try clear c3
      try clear c4
      try clear c4b0
      try clear c5
      try clear c5b0
      try clear c6
      try clear c6b0
      try clear p6
      try clear c8
      try clear c11
      try clear c12
      try clear c12b0
      try clear c14
      try clear c14b0
      try clear c15
      try clear c15b0
      try clear p15
      try clear q15
      try clear hx15
      try clear c16
      try clear c16b0
      try clear p16
      try clear q16
      try clear hx16
      try clear c17
      try clear c17b0
      try clear c18
      try clear c18b0
      try clear c19
      try clear c19b0
      try clear c19b1
      try clear c22
      try clear c22b0
      try clear c22b1
      try clear c24
      try clear c24b0
      try clear c24b1
      try clear hx159_0
      try clear hx166_0
      try clear hx167_0
      try clear p1
      try clear p15
      try clear p159
      try clear p16
      try clear p166
      try clear p167
      try clear p2
      try clear p6
      try clear q1
      try clear q15
      try clear q159
      try clear q16
      try clear q166
      try clear q167
      obtain ⟨kq, x4_22, x6_22, rfl, HA, HJ22, HO_6, HB⟩ := hcut
      cases kq with
      | zero => exact absurd HA.1 (by simp [ya0.j4])
      | succ kj22 =>
       have H := HA.1
       clear HA
       simp only [ya0.j4] at H
       have H' := za0.mk H
       clear H
       go_wp2
       go_loopg [11] kj22 (fun kq v11 w' => ∃ (x6_5 : List (List Int)) (x11_5 : Int), v11 = .int .i64 x11_5 ∧ za0 (ya0.l3 kq (l0.length : Int) x4_22 x5_2 x6_5 x29_2 x11_5 (l0.length : Int) x29_2 = some r) ∧ za0 (kq ≤ kj22) ∧ za0 (Kd.S (Kd.slice 3 (Kd.int .i64)) 25 w' w.heap.size (fun _ => True) u6 x6_5) ∧ za0 (Below w.heap.size w w'))
       case atStart => exact ⟨(x6_22), (wrap64 (x29_2 + 1)), (by first | rfl | (simp; done) | (simp [*]; done)), H', ⟨Nat.le_refl _⟩, ⟨by (with_reducible repeat (first | apply Kd.S_alloc | apply Kd.S_drewN | apply Kd.S_drew)); exact HO_6.1⟩, ⟨by repeat (first | exact HB.1 | apply zc0 | apply zb0 | apply zd0)⟩⟩
       case round =>
        clear H'
        try clear c1
        try clear p1
        try clear q1
        try clear hx1
        try clear c2
        try clear p2
        try clear c3
        try clear c4
        try clear c4b0
        try clear c5
        try clear c5b0
        try clear c6
        try clear c6b0
        try clear p6
        try clear c8
        try clear c11
        try clear c12
        try clear c12b0
        try clear c14
        try clear c14b0
        try clear c15
        try clear c15b0
        try clear p15
        try clear q15
        try clear hx15
        try clear c16
        try clear c16b0
        try clear p16
        try clear q16
        try clear hx16
        try clear c17
        try clear c17b0
        try clear c18
        try clear c18b0
        try clear c19
        try clear c19b0
        try clear c19b1
        try clear c22
        try clear c22b0
        try clear c22b1
        try clear c24
        try clear c24b0
        try clear c24b1
        try clear hx159_0
        try clear hx166_0
        try clear hx167_0
        try clear p1
        try clear p15
        try clear p159
        try clear p16
        try clear p166
        try clear p167
        try clear p2
        try clear p6
        try clear q1
        try clear q15
        try clear q159
        try clear q16
        try clear q166
        try clear q167
        obtain ⟨x6_5, x11_5, rfl, HA, HK5, HO_6, HB⟩ := hrel
        obtain _ | k5 := gk
        ·exact absurd HA.1 (by simp [ya0.l3])
        have H := HA.1
        clear HA
        simp only [ya0.l3] at H
        by_cases c28 : x11_5 < (l0.length : Int)
        rotate_left
        ·rw [if_neg c28] at H
         have c28b0 : decide (x11_5 < (l0.length : Int)) = false := decide_eq_false c28
         clear c28
         by_cases c45 : 0 ≤ x29_2
         rotate_left
         ·rw [if_neg c45] at H
          exact absurd H (by simp)
         rw [if_pos c45] at H
         have c45b0 : decide (0 ≤ x29_2) = true := decide_eq_true c45
         clear c45
         by_cases c46 : x29_2 < (x6_5.length : Int)
         rotate_left
         ·rw [if_neg c46] at H
          exact absurd H (by simp)
         rw [if_pos c46] at H
         have c46b0 : decide (x29_2 < (x6_5.length : Int)) = true := decide_eq_true c46
         clear c46
         by_cases c47 : x29_2 < ((rd_L1 x6_5 x29_2).length : Int)
         rotate_left
         ·rw [if_neg c47] at H
          exact absurd H (by simp)
         rw [if_pos c47] at H
         have c47b0 : decide (x29_2 < ((rd_L1 x6_5 x29_2).length : Int)) = true := decide_eq_true c47
         clear c47
         have H' := za0.mk H
         clear H
         obtain ⟨Ao48, co48, eo48⟩ := Kd.S_slice HO_6.1
         subst eo48
         have p171 : 0 ≤ (x29_2 : Int) := of_decide_eq_true (by assumption)
         have q171 : x29_2 < (x6_5.length : Int) := of_decide_eq_true (by assumption)
         obtain ⟨ad171, A171_0, c171_0, e171, hx171_0, hl171_0, hi171_0⟩ := at_L1 (Kd.S_reads' HO_6.1).2.2 x29_2 p171 q171
         cases e171
         obtain ⟨ce171, hce171, hMe171, hcc171⟩ := Kd.S_get HO_6.1 [] x29_2 p171 (by first | exact q171 | exact of_decide_eq_true (by assumption) | (have e_ := (Kd.S_reads' HO_6.1).1; omega))
         obtain ⟨ve171_0, rfl, ge171_0⟩ := hMe171
         have hv171_0 := hcc171 0 _ rfl
         rw [Nat.add_zero, show ((Kd.slice 3 (Kd.int .i64))).sz = 1 from rfl, Nat.mul_one] at hv171_0
         replace hv171_0 := Option.some.inj (hv171_0.symm.trans hx171_0)
         rw [hv171_0] at ge171_0
         have HL171_0 := za0.mk (show Kd.R (Kd.int .i64) 3 _ _ _ _ (rd_L1 x6_5 x29_2) from ge171_0)
         clear hv171_0 ge171_0
         have HX171_0 := za0.mk hx171_0
         clear hcc171 hce171
         have HR171_0 := za0.mk hi171_0
         have HC171_0 := za0.mk hl171_0
         clear hi171_0 hl171_0
         replace p171 := eq_true p171
         replace q171 := eq_true q171
         have p172 : 0 ≤ (x29_2 : Int) := of_decide_eq_true (by assumption)
         have q172 : x29_2 < ((rd_L1 x6_5 x29_2).length : Int) := of_decide_eq_true (by assumption)
         obtain ⟨ad172, e172, hx172_0⟩ := Kd.at_int (by repeat (first | (with_reducible exact HR171_0.1) | (with_reducible refine Kd.C_alloc ?_ _) | (with_reducible refine Kd.C_drewN ?_ _) | (with_reducible refine Kd.C_drew ?_) | exact HR171_0.1)) x29_2 p172 q172
         cases e172
         replace p172 := eq_true p172
         replace q172 := eq_true q172
         go_wp2
         go_roundg k5
         case measure => have := HK1.1; have := HK2.1; have := HJ12.1; have := HJ22.1; have := HK5.1; omega
         case rel => exact ⟨(x4_22), (rd (rd_L1 x6_5 x29_2) x29_2), (x6_5), (wrap64 (x29_2 + 1)), (by first | rfl | (simp; done) | (simp [*]; done)), (by first | rfl | (simp; done) | (simp [*]; done)), (by first | rfl | (simp; done) | (simp [*]; done)), H', ⟨by have := HK1.1; have := HK2.1; have := HJ12.1; have := HJ22.1; have := HK5.1; omega⟩, ⟨by (with_reducible repeat (first | apply Kd.S_alloc | apply Kd.S_drewN | apply Kd.S_drew)); exact HO_6.1⟩, ⟨by repeat (first | exact HB.1 | apply zc0 | apply zb0 | apply zd0)⟩⟩
        rw [if_pos c28] at H
        have c28b0 : decide (x11_5 < (l0.length : Int)) = true := decide_eq_true c28
        clear c28
        have H' := za0.mk H
        clear H
        go_wp2
        go_loopg [12] k5 (fun kq v12 w' => ∃ (x6_6 : List (List Int)) (x12_6 : Int), v12 = .int .i64 x12_6 ∧ za0 (ya0.l4 kq (l0.length : Int) x4_22 x5_2 x6_6 x29_2 x11_5 x12_6 (l0.length : Int) x29_2 = some r) ∧ za0 (kq ≤ k5) ∧ za0 (Kd.S (Kd.slice 3 (Kd.int .i64)) 25 w' w.heap.size (fun _ => True) u6 x6_6) ∧ za0 (Below w.heap.size w w'))
        case atStart => exact ⟨(x6_5), (wrap64 (x29_2 + 1)), (by first | rfl | (simp; done) | (simp [*]; done)), H', ⟨Nat.le_refl _⟩, ⟨by (with_reducible repeat (first | apply Kd.S_alloc | apply Kd.S_drewN | apply Kd.S_drew)); exact HO_6.1⟩, ⟨by repeat (first | exact HB.1 | apply zc0 | apply zb0 | apply zd0)⟩⟩
        case round =>
         clear H'
         try clear c1
         try clear p1
         try clear q1
         try clear hx1
         try clear c2
         try clear p2
         try clear c3
         try clear c4
         try clear c4b0
         try clear c5
         try clear c5b0
         try clear c6
         try clear c6b0
         try clear p6
         try clear c8
         try clear c11
         try clear c12
         try clear c12b0
         try clear c14
         try clear c14b0
         try clear c15
         try clear c15b0
         try clear p15
         try clear q15
         try clear hx15
         try clear c16
         try clear c16b0
         try clear p16
         try clear q16
         try clear hx16
         try clear c17
         try clear c17b0
         try clear c18
         try clear c18b0
         try clear c19
         try clear c19b0
         try clear c19b1
         try clear c22
         try clear c22b0
         try clear c22b1
         try clear c24
         try clear c24b0
         try clear c24b1
         try clear c28
         try clear c28b0
         try clear hx159_0
         try clear hx166_0
         try clear hx167_0
         try clear p1
         try clear p15
         try clear p159
         try clear p16
         try clear p166
         try clear p167
         try clear p2
         try clear p6
         try clear q1
         try clear q15
         try clear q159
         try clear q16
         try clear q166
         try clear q167
         obtain ⟨x6_6, x12_6, rfl, HA, HK6, HO_6, HB⟩ := hrel
         obtain _ | k6 := gk
         ·exact absurd HA.1 (by simp [ya0.l4])
         have H := HA.1
         clear HA
         simp only [ya0.l4] at H
         by_cases c29 : x12_6 < (l0.length : Int)
         rotate_left
         ·rw [if_neg c29] at H
          have c29b0 : decide (x12_6 < (l0.length : Int)) = false := decide_eq_false c29
          clear c29
          have H' := za0.mk H
          clear H
          go_wp2
          go_roundg k6
          case measure => have := HK1.1; have := HK2.1; have := HJ12.1; have := HJ22.1; have := HK5.1; have := HK6.1; omega
          case rel => exact ⟨(x6_6), (wrap64 (x11_5 + 1)), (by first | rfl | (simp; done) | (simp [*]; done)), H', ⟨by have := HK1.1; have := HK2.1; have := HJ12.1; have := HJ22.1; have := HK5.1; have := HK6.1; omega⟩, ⟨by (with_reducible repeat (first | apply Kd.S_alloc | apply Kd.S_drewN | apply Kd.S_drew)); exact HO_6.1⟩, ⟨by repeat (first | exact HB.1 | apply zc0 | apply zb0 | apply zd0)⟩⟩
         rw [if_pos c29] at H
         have c29b0 : decide (x12_6 < (l0.length : Int)) = true := decide_eq_true c29
         clear c29
         by_cases c30 : 0 ≤ x11_5
         rotate_left
         ·rw [if_neg c30] at H
          exact absurd H (by simp)
         rw [if_pos c30] at H
         have c30b0 : decide (0 ≤ x11_5) = true := decide_eq_true c30
         clear c30
         by_cases c31 : x11_5 < (x6_6.length : Int)
         rotate_left
         ·rw [if_neg c31] at H
          exact absurd H (by simp)
         rw [if_pos c31] at H
         have c31b0 : decide (x11_5 < (x6_6.length : Int)) = true := decide_eq_true c31
         clear c31
         by_cases c32 : 0 ≤ x12_6
         rotate_left
         ·rw [if_neg c32] at H
          exact absurd H (by simp)
         rw [if_pos c32] at H
         have c32b0 : decide (0 ≤ x12_6) = true := decide_eq_true c32
         clear c32
         by_cases c33 : x12_6 < ((rd_L1 x6_6 x11_5).length : Int)
         rotate_left
         ·rw [if_neg c33] at H
          exact absurd H (by simp)
         rw [if_pos c33] at H
         have c33b0 : decide (x12_6 < ((rd_L1 x6_6 x11_5).length : Int)) = true := decide_eq_true c33
         clear c33
         by_cases c34 : 0 ≤ x29_2
         rotate_left
         ·rw [if_neg c34] at H
          exact absurd H (by simp)
         rw [if_pos c34] at H
         have c34b0 : decide (0 ≤ x29_2) = true := decide_eq_true c34
         clear c34
         by_cases c35 : x29_2 < (x6_6.length : Int)
         rotate_left
         ·rw [if_neg c35] at H
          exact absurd H (by simp)
         rw [if_pos c35] at H
         have c35b0 : decide (x29_2 < (x6_6.length : Int)) = true := decide_eq_true c35
         clear c35
         by_cases c36 : x29_2 < ((rd_L1 x6_6 x29_2).length : Int)
         rotate_left
         ·rw [if_neg c36] at H
          exact absurd H (by simp)
         rw [if_pos c36] at H
         have c36b0 : decide (x29_2 < ((rd_L1 x6_6 x29_2).length : Int)) = true := decide_eq_true c36
         clear c36
         by_cases c37 : x29_2 < ((rd_L1 x6_6 x11_5).length : Int)
         rotate_left
         ·rw [if_neg c37] at H
          exact absurd H (by simp)
         rw [if_pos c37] at H
         have c37b0 : decide (x29_2 < ((rd_L1 x6_6 x11_5).length : Int)) = true := decide_eq_true c37
         clear c37
         by_cases c38 : x12_6 < ((rd_L1 x6_6 x29_2).length : Int)
         rotate_left
         ·rw [if_neg c38] at H
          exact absurd H (by simp)
         rw [if_pos c38] at H
         have c38b0 : decide (x12_6 < ((rd_L1 x6_6 x29_2).length : Int)) = true := decide_eq_true c38
         clear c38
         by_cases c39 : x5_2 = 0
         ·rw [if_pos c39] at H
          exact absurd H (by simp)
         rw [if_neg c39] at H
         have c39b0 : (x5_2 == 0) = false := beq_eq_false_iff_ne.mpr c39
         have c39b1 : (x5_2 != 0) = true := bne_iff_ne.mpr c39
         obtain ⟨y182, hy182⟩ : ∃ y_ : List Int, y_ = ((rd_L1 x6_6 x11_5).set (x12_6 : Int).toNat (wrap64 (Int.tdiv (wrap64 ((wrap64 ((rd (rd_L1 x6_6 x11_5) x12_6) * (rd (rd_L1 x6_6 x29_2) x29_2))) - (wrap64 ((rd (rd_L1 x6_6 x11_5) x29_2) * (rd (rd_L1 x6_6 x29_2) x12_6))))) x5_2))) := ⟨_, rfl⟩
         replace H : (ya0.l4 k6 (l0.length : Int) x4_22 x5_2 (x6_6.set (x11_5 : Int).toNat y182) x29_2 x11_5 (wrap64 (x12_6 + 1)) (l0.length : Int) x29_2) = some r := by first | (rw [hy182]; with_reducible exact H) | (have H2_ := (Option.bind_some _ _).symm.trans H; rw [hy182]; with_reducible exact H2_) | (have H2_ := (Option.bind_some _ _).symm.trans H; with_reducible exact H2_) | with_reducible exact H | (rw [hy182]; exact H) | exact H
         have Ny182 := za0.mk hy182
         clear hy182
         obtain ⟨y184, hy184⟩ : ∃ y_ : List (List Int), y_ = (x6_6.set (x11_5 : Int).toNat y182) := ⟨_, rfl⟩
         replace H : (ya0.l4 k6 (l0.length : Int) x4_22 x5_2 y184 x29_2 x11_5 (wrap64 (x12_6 + 1)) (l0.length : Int) x29_2) = some r := by first | (rw [hy184]; with_reducible exact H) | (have H2_ := (Option.bind_some _ _).symm.trans H; rw [hy184]; with_reducible exact H2_) | (have H2_ := (Option.bind_some _ _).symm.trans H; with_reducible exact H2_) | with_reducible exact H | (rw [hy184]; exact H) | exact H
         have Ny184 := za0.mk hy184
         clear hy184
         have H' := za0.mk H
         clear H
         try go_wp2
         have n0_ := za0.mk (Kd.S_drew HO_6.1)
         have n1_ := za0.mk (zd0 HB.1)
         clear HO_6 HB
         have HO_6 := n0_
         have HB := n1_
         clear n0_ n1_
         obtain ⟨Ao42, co42, eo42⟩ := Kd.S_slice HO_6.1
         (first | subst eo42 | (injection eo42 with f1_ f2_ f3_; have f4_ := f1_.symm; have f5_ := f3_.symm; clear f1_ f2_ f3_; subst f4_; subst f5_))
         have p173 : 0 ≤ (x11_5 : Int) := of_decide_eq_true (by assumption)
         have q173 : x11_5 < (x6_6.length : Int) := of_decide_eq_true (by assumption)
         obtain ⟨ad173, A173_0, c173_0, e173, hx173_0, hl173_0, hi173_0⟩ := at_L1 (Kd.S_reads' HO_6.1).2.2 x11_5 p173 q173
         cases e173
         obtain ⟨ce173, hce173, hMe173, hcc173⟩ := Kd.S_get HO_6.1 [] x11_5 p173 (by first | exact q173 | exact of_decide_eq_true (by assumption) | (have e_ := (Kd.S_reads' HO_6.1).1; omega))
         obtain ⟨ve173_0, rfl, ge173_0⟩ := hMe173
         have hv173_0 := hcc173 0 _ rfl
         rw [Nat.add_zero, show ((Kd.slice 3 (Kd.int .i64))).sz = 1 from rfl, Nat.mul_one] at hv173_0
         replace hv173_0 := Option.some.inj (hv173_0.symm.trans hx173_0)
         rw [hv173_0] at ge173_0
         have HL173_0 := za0.mk (show Kd.R (Kd.int .i64) 3 _ _ _ _ (rd_L1 x6_6 x11_5) from ge173_0)
         clear hv173_0 ge173_0
         have HX173_0 := za0.mk hx173_0
         clear hcc173 hce173
         have HR173_0 := za0.mk hi173_0
         have HC173_0 := za0.mk hl173_0
         clear hi173_0 hl173_0
         replace p173 := eq_true p173
         replace q173 := eq_true q173
         have p174 : 0 ≤ (x11_5 : Int) := of_decide_eq_true (by assumption)
         have q174 : x11_5 < (x6_6.length : Int) := of_decide_eq_true (by assumption)
         obtain ⟨ad174, A174_0, c174_0, e174, hx174_0, hl174_0, hi174_0⟩ := at_L1 (Kd.S_reads' HO_6.1).2.2 x11_5 p174 q174
         obtain rfl : ad173 = ad174 := (by injection e174)
         obtain ⟨ce174, hce174, hMe174, hcc174⟩ := Kd.S_get HO_6.1 [] x11_5 p174 (by first | exact q174 | exact of_decide_eq_true (by assumption) | (have e_ := (Kd.S_reads' HO_6.1).1; omega))
         obtain ⟨ve174_0, rfl, ge174_0⟩ := hMe174
         have hv174_0 := hcc174 0 _ rfl
         rw [Nat.add_zero, show ((Kd.slice 3 (Kd.int .i64))).sz = 1 from rfl, Nat.mul_one] at hv174_0
         replace hv174_0 := Option.some.inj (hv174_0.symm.trans hx174_0)
         rw [hv174_0] at ge174_0
         have HL174_0 := za0.mk (show Kd.R (Kd.int .i64) 3 _ _ _ _ (rd_L1 x6_6 x11_5) from ge174_0)
         clear hv174_0 ge174_0
         have HX174_0 := za0.mk hx174_0
         clear hcc174 hce174
         have HR174_0 := za0.mk hi174_0
         have HC174_0 := za0.mk hl174_0
         clear hi174_0 hl174_0
         replace p174 := eq_true p174
         replace q174 := eq_true q174
         have ea_ := Option.some.inj (hx173_0.symm.trans hx174_0)
         injection ea_ with ea_ en_ ec_
         subst ea_
         subst ec_
         clear en_
         have p175 : 0 ≤ (x12_6 : Int) := of_decide_eq_true (by assumption)
         have q175 : x12_6 < ((rd_L1 x6_6 x11_5).length : Int) := of_decide_eq_true (by assumption)
         obtain ⟨ad175, e175, hx175_0⟩ := Kd.at_int (by repeat (first | (with_reducible exact HR174_0.1) | (with_reducible refine Kd.C_alloc ?_ _) | (with_reducible refine Kd.C_drewN ?_ _) | (with_reducible refine Kd.C_drew ?_) | exact HR174_0.1)) x12_6 p175 q175
         cases e175
         replace p175 := eq_true p175
         replace q175 := eq_true q175
         have p176 : 0 ≤ (x29_2 : Int) := of_decide_eq_true (by assumption)
         have q176 : x29_2 < (x6_6.length : Int) := of_decide_eq_true (by assumption)
         obtain ⟨ad176, A176_0, c176_0, e176, hx176_0, hl176_0, hi176_0⟩ := at_L1 (Kd.S_reads' HO_6.1).2.2 x29_2 p176 q176
         obtain rfl : ad173 = ad176 := (by injection e176)
         obtain ⟨ce176, hce176, hMe176, hcc176⟩ := Kd.S_get HO_6.1 [] x29_2 p176 (by first | exact q176 | exact of_decide_eq_true (by assumption) | (have e_ := (Kd.S_reads' HO_6.1).1; omega))
         obtain ⟨ve176_0, rfl, ge176_0⟩ := hMe176
         have hv176_0 := hcc176 0 _ rfl
         rw [Nat.add_zero, show ((Kd.slice 3 (Kd.int .i64))).sz = 1 from rfl, Nat.mul_one] at hv176_0
         replace hv176_0 := Option.some.inj (hv176_0.symm.trans hx176_0)
         rw [hv176_0] at ge176_0
         have HL176_0 := za0.mk (show Kd.R (Kd.int .i64) 3 _ _ _ _ (rd_L1 x6_6 x29_2) from ge176_0)
         clear hv176_0 ge176_0
         have HX176_0 := za0.mk hx176_0
         clear hcc176 hce176
         have HR176_0 := za0.mk hi176_0
         have HC176_0 := za0.mk hl176_0
         clear hi176_0 hl176_0
         replace p176 := eq_true p176
         replace q176 := eq_true q176
         have p177 : 0 ≤ (x29_2 : Int) := of_decide_eq_true (by assumption)
         have q177 : x29_2 < ((rd_L1 x6_6 x29_2).length : Int) := of_decide_eq_true (by assumption)
         obtain ⟨ad177, e177, hx177_0⟩ := Kd.at_int (by repeat (first | (with_reducible exact HR176_0.1) | (with_reducible refine Kd.C_alloc ?_ _) | (with_reducible refine Kd.C_drewN ?_ _) | (with_reducible refine Kd.C_drew ?_) | exact HR176_0.1)) x29_2 p177 q177
         cases e177
         replace p177 := eq_true p177
         replace q177 := eq_true q177
         have p178 : 0 ≤ (x11_5 : Int) := of_decide_eq_true (by assumption)
         have q178 : x11_5 < (x6_6.length : Int) := of_decide_eq_true (by assumption)
         obtain ⟨ad178, A178_0, c178_0, e178, hx178_0, hl178_0, hi178_0⟩ := at_L1 (Kd.S_reads' HO_6.1).2.2 x11_5 p178 q178
         obtain rfl : ad173 = ad178 := (by injection e178)
         obtain ⟨ce178, hce178, hMe178, hcc178⟩ := Kd.S_get HO_6.1 [] x11_5 p178 (by first | exact q178 | exact of_decide_eq_true (by assumption) | (have e_ := (Kd.S_reads' HO_6.1).1; omega))
         obtain ⟨ve178_0, rfl, ge178_0⟩ := hMe178
         have hv178_0 := hcc178 0 _ rfl
         rw [Nat.add_zero, show ((Kd.slice 3 (Kd.int .i64))).sz = 1 from rfl, Nat.mul_one] at hv178_0
         replace hv178_0 := Option.some.inj (hv178_0.symm.trans hx178_0)
         rw [hv178_0] at ge178_0
         have HL178_0 := za0.mk (show Kd.R (Kd.int .i64) 3 _ _ _ _ (rd_L1 x6_6 x11_5) from ge178_0)
         clear hv178_0 ge178_0
         have HX178_0 := za0.mk hx178_0
         clear hcc178 hce178
         have HR178_0 := za0.mk hi178_0
         have HC178_0 := za0.mk hl178_0
         clear hi178_0 hl178_0
         replace p178 := eq_true p178
         replace q178 := eq_true q178
         have ea_ := Option.some.inj (hx173_0.symm.trans hx178_0)
         injection ea_ with ea_ en_ ec_
         subst ea_
         subst ec_
         clear en_
         have p179 : 0 ≤ (x29_2 : Int) := of_decide_eq_true (by assumption)
         have q179 : x29_2 < ((rd_L1 x6_6 x11_5).length : Int) := of_decide_eq_true (by assumption)
         obtain ⟨ad179, e179, hx179_0⟩ := Kd.at_int (by repeat (first | (with_reducible exact HR178_0.1) | (with_reducible refine Kd.C_alloc ?_ _) | (with_reducible refine Kd.C_drewN ?_ _) | (with_reducible refine Kd.C_drew ?_) | exact HR178_0.1)) x29_2 p179 q179
         cases e179
         replace p179 := eq_true p179
         replace q179 := eq_true q179
         have p180 : 0 ≤ (x29_2 : Int) := of_decide_eq_true (by assumption)
         have q180 : x29_2 < (x6_6.length : Int) := of_decide_eq_true (by assumption)
         obtain ⟨ad180, A180_0, c180_0, e180, hx180_0, hl180_0, hi180_0⟩ := at_L1 (Kd.S_reads' HO_6.1).2.2 x29_2 p180 q180
         obtain rfl : ad173 = ad180 := (by injection e180)
         obtain ⟨ce180, hce180, hMe180, hcc180⟩ := Kd.S_get HO_6.1 [] x29_2 p180 (by first | exact q180 | exact of_decide_eq_true (by assumption) | (have e_ := (Kd.S_reads' HO_6.1).1; omega))
         obtain ⟨ve180_0, rfl, ge180_0⟩ := hMe180
         have hv180_0 := hcc180 0 _ rfl
         rw [Nat.add_zero, show ((Kd.slice 3 (Kd.int .i64))).sz = 1 from rfl, Nat.mul_one] at hv180_0
         replace hv180_0 := Option.some.inj (hv180_0.symm.trans hx180_0)
         rw [hv180_0] at ge180_0
         have HL180_0 := za0.mk (show Kd.R (Kd.int .i64) 3 _ _ _ _ (rd_L1 x6_6 x29_2) from ge180_0)
         clear hv180_0 ge180_0
         have HX180_0 := za0.mk hx180_0
         clear hcc180 hce180
         have HR180_0 := za0.mk hi180_0
         have HC180_0 := za0.mk hl180_0
         clear hi180_0 hl180_0
         replace p180 := eq_true p180
         replace q180 := eq_true q180
         have ea_ := Option.some.inj (hx176_0.symm.trans hx180_0)
         injection ea_ with ea_ en_ ec_
         subst ea_
         subst ec_
         clear en_
         have p181 : 0 ≤ (x12_6 : Int) := of_decide_eq_true (by assumption)
         have q181 : x12_6 < ((rd_L1 x6_6 x29_2).length : Int) := of_decide_eq_true (by assumption)
         obtain ⟨ad181, e181, hx181_0⟩ := Kd.at_int (by repeat (first | (with_reducible exact HR180_0.1) | (with_reducible refine Kd.C_alloc ?_ _) | (with_reducible refine Kd.C_drewN ?_ _) | (with_reducible refine Kd.C_drew ?_) | exact HR180_0.1)) x12_6 p181 q181
         cases e181
         replace p181 := eq_true p181
         replace q181 := eq_true q181
         have p40 : 0 ≤ (x12_6 : Int) := of_decide_eq_true (by assumption)
         have q40 : (x12_6 : Int) < (((rd_L1 x6_6 x11_5).length : Int) : Int) := of_decide_eq_true (by assumption)
         obtain ⟨go40, co40, eo40, gb40, gl40, cl40, HG40⟩ := Kd.R_form HL173_0.1 (by omega)
         (first | cases eo40 | (injection eo40 with ea_ en_ ec_; (first | subst ea_ | (injection ea_ with ea_; subst ea_)); subst ec_; clear en_))
         have GB40 := za0.mk gb40
         have GG40 := za0.mk HG40
         clear gb40 gl40 HG40
         (first | simp only [add_plain] at hx179_0 | skip)
         obtain ⟨hx40_0, hf40_0⟩ := Kd.R_celln 0 HL173_0.1 (x12_6 : Int) p40 q40
         replace p40 := eq_true p40
         replace q40 := eq_true q40
         have hq43 : (x11_5 : Int) < (x6_6.length : Int) := (by have h_ : (x11_5 : Int) < ((x6_6.length : Int) : Int) := of_decide_eq_true (by assumption); first | exact h_ | (have e_ := (Kd.S_reads' HO_6.1).1; omega) | simpa only [List.length_set, List.length_set] using h_)
         obtain ⟨oki43, ce43, hcl43, hM43, hcc43, hok43, hbk43⟩ := Kd.S_borrow HO_6.1 [] (x11_5 : Int) (of_decide_eq_true (by assumption)) hq43
         obtain ⟨ve43_0, rfl, ge43_0⟩ := hM43
         have hv43 := hcc43 0 _ rfl
         rw [Nat.add_zero, show ((Kd.slice 3 (Kd.int .i64))).sz = 1 from rfl, Nat.mul_one] at hv43
         replace hv43 := Option.some.inj (hv43.symm.trans HX173_0.1)
         subst hv43
         clear hcc43 hcl43
         replace ge43_0 := (show Kd.R (Kd.int .i64) 3 _ _ _ _ (rd_L1 x6_6 x11_5) from ge43_0)
         have HP43 := Kd.R_putg ge43_0 (x12_6 : Int) (wrap64 (Int.tdiv (wrap64 ((wrap64 ((rd (rd_L1 x6_6 x11_5) x12_6) * (rd (rd_L1 x6_6 x29_2) x29_2))) - (wrap64 ((rd (rd_L1 x6_6 x11_5) x29_2) * (rd (rd_L1 x6_6 x29_2) x12_6))))) x5_2))
         rw [← Ny182.1] at HP43
         have HS43 := hbk43 HP43.2 (fun k_ e_ => by injection e_ with e_; subst e_; exact ge43_0.1 _ rfl) (x' := y182) (Kd.M_row HP43.1)
         rw [← Ny184.1] at HS43
         have HQ43 := za0.mk HS43
         clear HP43 HS43 hbk43 hok43
         (try simp only [add_plain] at hx175_0)
         refine start_ (n := 40) (S := fun w' => w'.cell? (ad173.add (x11_5).toNat) = some (.slice (some ⟨go40, 0, none⟩) (rd_L1 x6_6 x11_5).length c173_0) ∧ w'.cell? (ad173.add (x11_5).toNat) = some (.slice (some ⟨go40, 0, none⟩) (rd_L1 x6_6 x11_5).length c173_0) ∧ w'.cell? ⟨go40, (x12_6).toNat, none⟩ = some (.int .i64 (rd (rd_L1 x6_6 x11_5) x12_6)) ∧ w'.cell? (ad173.add (x29_2).toNat) = some (.slice (some ad177) (rd_L1 x6_6 x29_2).length c176_0) ∧ w'.cell? (ad177.add (x29_2).toNat) = some (.int .i64 (rd (rd_L1 x6_6 x29_2) x29_2)) ∧ w'.cell? (ad173.add (x11_5).toNat) = some (.slice (some ⟨go40, 0, none⟩) (rd_L1 x6_6 x11_5).length c173_0) ∧ w'.cell? ⟨go40, (x29_2).toNat, none⟩ = some (.int .i64 (rd (rd_L1 x6_6 x11_5) x29_2)) ∧ w'.cell? (ad173.add (x29_2).toNat) = some (.slice (some ad177) (rd_L1 x6_6 x29_2).length c176_0) ∧ w'.cell? (ad177.add (x12_6).toNat) = some (.int .i64 (rd (rd_L1 x6_6 x29_2) x12_6))) (ds := [39]) #[false, false, false, false, false, false, false, false, false, false, false, false, false, false, false, false, false, false, false, false, false, false, false, false, false, false, false, false, false, false, false, false, false, false, false, false, false, false, false, false] (by kernel_rfl) rfl rfl ⟨hx173_0, hx174_0, hx175_0, hx176_0, hx177_0, hx178_0, hx179_0, hx180_0, hx181_0⟩ (fun hHeld => ?_); refine with_tabW ya0.tab25 ya0.bits25 (fun HT_ HW_ => ?_)
         generalize wr.drew = w41 at HO_6 HB GG40 HL173_0 HL174_0 HL176_0 HL178_0 HL180_0 HQ43 HR173_0 HR174_0 HR176_0 HR178_0 HR180_0 HX173_0 HX174_0 HX176_0 HX178_0 HX180_0 hf40_0 hx173_0 hx174_0 hx175_0 hx176_0 hx177_0 hx178_0 hx179_0 hx180_0 hx181_0 hx40_0 hHeld ⊢
         refine pv 0 (some 84) (v := ?_) (a' := ?_) (bf 40 1) HT_ ?_ ?_ ?_
         rotate_left
         ·intro w'; go_simp; with_reducible rfl
         rotate_left
         ·simp only [Act.put, zA, zB, zC, i64_w, i32_w]; rfl
         refine pv 1 (some 85) (v := ?_) (a' := ?_) (bf 40 3) HT_ ?_ ?_ ?_
         rotate_left
         ·intro w'; go_simp; with_reducible rfl
         rotate_left
         ·simp only [Act.put, zA, zB, zC, i64_w, i32_w]; rfl
         refine pv 2 (some 86) (v := ?_) (a' := ?_) (bf 40 7) HT_ ?_ ?_ ?_
         rotate_left
         ·intro w'; go_simp; with_reducible rfl
         rotate_left
         ·simp only [Act.put, zA, zB, zC, i64_w, i32_w]; rfl
         refine pv 4 (some 88) (v := ?_) (a' := ?_) (bf 40 23) HT_ ?_ ?_ ?_
         rotate_left
         ·intro w'; go_simp; with_reducible rfl
         rotate_left
         ·simp only [Act.put, zA, zB, zC, i64_w, i32_w]; rfl
         refine pv 5 (some 89) (v := ?_) (a' := ?_) (bf 40 55) HT_ ?_ ?_ ?_
         rotate_left
         ·intro w'; go_simp; with_reducible rfl
         rotate_left
         ·simp only [Act.put, zA, zB, zC, i64_w, i32_w]; rfl
         refine pv 6 (some 90) (v := ?_) (a' := ?_) (bf 40 119) HT_ ?_ ?_ ?_
         rotate_left
         ·intro w'; go_simp; with_reducible rfl
         rotate_left
         ·simp only [Act.put, zA, zB, zC, i64_w, i32_w]; rfl
         refine pv 7 (some 91) (v := ?_) (a' := ?_) (bf 40 247) HT_ ?_ ?_ ?_
         rotate_left
         ·intro w'; go_simp; with_reducible rfl
         rotate_left
         ·simp only [Act.put, zA, zB, zC, i64_w, i32_w]; rfl
         refine pv 9 (some 93) (v := ?_) (a' := ?_) (bf 40 759) HT_ ?_ ?_ ?_
         rotate_left
         ·intro w'; go_simp; with_reducible rfl
         rotate_left
         ·simp only [Act.put, zA, zB, zC, i64_w, i32_w]; rfl
         refine pv 12 (some 96) (v := ?_) (a' := ?_) (bf 40 4855) HT_ ?_ ?_ ?_
         rotate_left
         ·intro w'; go_simp; with_reducible rfl
         rotate_left
         ·simp only [Act.put, zA, zB, zC, i64_w, i32_w]; rfl
         refine pv 13 (some 97) (v := ?_) (a' := ?_) (bf 40 13047) HT_ ?_ ?_ ?_
         rotate_left
         ·intro w'; go_simp; with_reducible rfl
         rotate_left
         ·simp only [Act.put, zA, zB, zC, i64_w, i32_w]; rfl
         refine pv 14 (some 98) (v := ?_) (a' := ?_) (bf 40 29431) HT_ ?_ ?_ ?_
         rotate_left
         ·intro w'; go_simp; with_reducible rfl
         rotate_left
         ·simp only [Act.put, zA, zB, zC, i64_w, i32_w]; rfl
         refine pv 16 (some 100) (v := ?_) (a' := ?_) (bf 40 94967) HT_ ?_ ?_ ?_
         rotate_left
         ·intro w'; go_simp; with_reducible rfl
         rotate_left
         ·simp only [Act.put, zA, zB, zC, i64_w, i32_w]; rfl
         refine pv 20 (some 104) (v := ?_) (a' := ?_) (bf 40 1143543) HT_ ?_ ?_ ?_
         rotate_left
         ·intro w'; go_simp; with_reducible rfl
         rotate_left
         ·simp only [Act.put, zA, zB, zC, i64_w, i32_w]; rfl
         refine pv 21 (some 105) (v := ?_) (a' := ?_) (bf 40 3240695) HT_ ?_ ?_ ?_
         rotate_left
         ·intro w'; go_simp; with_reducible rfl
         rotate_left
         ·simp only [Act.put, zA, zB, zC, i64_w, i32_w]; rfl
         refine pv 22 (some 106) (v := ?_) (a' := ?_) (bf 40 7434999) HT_ ?_ ?_ ?_
         rotate_left
         ·intro w'; go_simp; with_reducible rfl
         rotate_left
         ·simp only [Act.put, zA, zB, zC, i64_w, i32_w]; rfl
         refine pv 24 (some 108) (v := ?_) (a' := ?_) (bf 40 24212215) HT_ ?_ ?_ ?_
         rotate_left
         ·intro w'; go_simp; with_reducible rfl
         rotate_left
         ·simp only [Act.put, zA, zB, zC, i64_w, i32_w]; rfl
         refine pv 27 (some 111) (v := ?_) (a' := ?_) (bf 40 158429943) HT_ ?_ ?_ ?_
         rotate_left
         ·intro w'; go_simp; with_reducible rfl
         rotate_left
         ·simp only [Act.put, zA, zB, zC, i64_w, i32_w]; rfl
         refine pv 28 (some 112) (v := ?_) (a' := ?_) (bf 40 426865399) HT_ ?_ ?_ ?_
         rotate_left
         ·intro w'; go_simp; with_reducible rfl
         rotate_left
         ·simp only [Act.put, zA, zB, zC, i64_w, i32_w]; rfl
         refine pv 29 (some 113) (v := ?_) (a' := ?_) (bf 40 963736311) HT_ ?_ ?_ ?_
         rotate_left
         ·intro w'; go_simp; with_reducible rfl
         rotate_left
         ·simp only [Act.put, zA, zB, zC, i64_w, i32_w]; rfl
         refine pv 31 (some 115) (v := ?_) (a' := ?_) (bf 40 3111219959) HT_ ?_ ?_ ?_
         rotate_left
         ·intro w'; go_simp; with_reducible rfl
         rotate_left
         ·simp only [Act.put, zA, zB, zC, i64_w, i32_w]; rfl
         refine pv 36 (some 120) (v := ?_) (a' := ?_) (bf 40 71830696695) HT_ ?_ ?_ ?_
         rotate_left
         ·intro w'; go_simp; with_reducible rfl
         rotate_left
         ·simp only [Act.put, zA, zB, zC, i64_w, i32_w]; rfl
         refine take_ (i := 3) (N := some 87) (v := ?_) (a' := ?_) (bf 40 71830696703) rfl rfl (take_ofW HT_.1 HW_.1 (by kernel_rfl)) (fun _ _ _ h => h) (Or.inl ⟨by rfl, ?_⟩) hHeld ?_ ?_
         rotate_left
         ·rintro w' ⟨s0, s1, s2, s3, s4, s5, s6, s7, s8⟩; go_simp; with_reducible rfl
         rotate_left
         ·simp only [Act.put, zA, zB, zC, i64_w, i32_w]; rfl
         refine take_ (i := 8) (N := some 92) (v := ?_) (a' := ?_) (bf 40 71830696959) rfl rfl (take_ofW HT_.1 HW_.1 (by kernel_rfl)) (fun _ _ _ h => h) (Or.inl ⟨by rfl, ?_⟩) hHeld ?_ ?_
         rotate_left
         ·rintro w' ⟨s0, s1, s2, s3, s4, s5, s6, s7, s8⟩; go_simp; with_reducible rfl
         rotate_left
         ·simp only [Act.put, zA, zB, zC, i64_w, i32_w]; rfl
         refine pv 10 (some 94) (v := ?_) (a' := ?_) (bf 40 71830697983) HT_ ?_ ?_ ?_
         rotate_left
         ·intro w'; go_simp; with_reducible rfl
         rotate_left
         ·simp only [Act.put, zA, zB, zC, i64_w, i32_w]; rfl
         refine take_ (i := 11) (N := some 95) (v := ?_) (a' := ?_) (bf 40 71830700031) rfl rfl (take_ofW HT_.1 HW_.1 (by kernel_rfl)) (fun _ _ _ h => h) (Or.inl ⟨by rfl, ?_⟩) hHeld ?_ ?_
         rotate_left
         ·rintro w' ⟨s0, s1, s2, s3, s4, s5, s6, s7, s8⟩; go_simp; with_reducible rfl
         rotate_left
         ·simp only [Act.put, zA, zB, zC, i64_w, i32_w]; rfl
         refine take_ (i := 15) (N := some 99) (v := ?_) (a' := ?_) (bf 40 71830732799) rfl rfl (take_ofW HT_.1 HW_.1 (by kernel_rfl)) (fun _ _ _ h => h) (Or.inl ⟨by rfl, ?_⟩) hHeld ?_ ?_
         rotate_left
         ·rintro w' ⟨s0, s1, s2, s3, s4, s5, s6, s7, s8⟩; go_simp; with_reducible rfl
         rotate_left
         ·simp only [Act.put, zA, zB, zC, i64_w, i32_w]; rfl
         refine pv 17 (some 101) (v := ?_) (a' := ?_) (bf 40 71830863871) HT_ ?_ ?_ ?_
         rotate_left
         ·intro w'; go_simp; with_reducible rfl
         rotate_left
         ·simp only [Act.put, zA, zB, zC, i64_w, i32_w]; rfl
         refine take_ (i := 18) (N := some 102) (v := ?_) (a' := ?_) (bf 40 71831126015) rfl rfl (take_ofW HT_.1 HW_.1 (by kernel_rfl)) (fun _ _ _ h => h) (Or.inl ⟨by rfl, ?_⟩) hHeld ?_ ?_
         rotate_left
         ·rintro w' ⟨s0, s1, s2, s3, s4, s5, s6, s7, s8⟩; go_simp; with_reducible rfl
         rotate_left
         ·simp only [Act.put, zA, zB, zC, i64_w, i32_w]; rfl
         refine pv 19 (some 103) (v := ?_) (a' := ?_) (bf 40 71831650303) HT_ ?_ ?_ ?_
         rotate_left
         ·intro w'; go_simp; with_reducible rfl
         rotate_left
         ·simp only [Act.put, zA, zB, zC, i64_w, i32_w]; rfl
         refine take_ (i := 23) (N := some 107) (v := ?_) (a' := ?_) (bf 40 71840038911) rfl rfl (take_ofW HT_.1 HW_.1 (by kernel_rfl)) (fun _ _ _ h => h) (Or.inl ⟨by rfl, ?_⟩) hHeld ?_ ?_
         rotate_left
         ·rintro w' ⟨s0, s1, s2, s3, s4, s5, s6, s7, s8⟩; go_simp; with_reducible rfl
         rotate_left
         ·simp only [Act.put, zA, zB, zC, i64_w, i32_w]; rfl
         refine pv 25 (some 109) (v := ?_) (a' := ?_) (bf 40 71873593343) HT_ ?_ ?_ ?_
         rotate_left
         ·intro w'; go_simp; with_reducible rfl
         rotate_left
         ·simp only [Act.put, zA, zB, zC, i64_w, i32_w]; rfl
         refine take_ (i := 26) (N := some 110) (v := ?_) (a' := ?_) (bf 40 71940702207) rfl rfl (take_ofW HT_.1 HW_.1 (by kernel_rfl)) (fun _ _ _ h => h) (Or.inl ⟨by rfl, ?_⟩) hHeld ?_ ?_
         rotate_left
         ·rintro w' ⟨s0, s1, s2, s3, s4, s5, s6, s7, s8⟩; go_simp; with_reducible rfl
         rotate_left
         ·simp only [Act.put, zA, zB, zC, i64_w, i32_w]; rfl
         refine take_ (i := 30) (N := some 114) (v := ?_) (a' := ?_) (bf 40 73014444031) rfl rfl (take_ofW HT_.1 HW_.1 (by kernel_rfl)) (fun _ _ _ h => h) (Or.inl ⟨by rfl, ?_⟩) hHeld ?_ ?_
         rotate_left
         ·rintro w' ⟨s0, s1, s2, s3, s4, s5, s6, s7, s8⟩; go_simp; with_reducible rfl
         rotate_left
         ·simp only [Act.put, zA, zB, zC, i64_w, i32_w]; rfl
         refine pv 32 (some 116) (v := ?_) (a' := ?_) (bf 40 77309411327) HT_ ?_ ?_ ?_
         rotate_left
         ·intro w'; go_simp; with_reducible rfl
         rotate_left
         ·simp only [Act.put, zA, zB, zC, i64_w, i32_w]; rfl
         refine take_ (i := 33) (N := some 117) (v := ?_) (a' := ?_) (bf 40 85899345919) rfl rfl (take_ofW HT_.1 HW_.1 (by kernel_rfl)) (fun _ _ _ h => h) (Or.inl ⟨by rfl, ?_⟩) hHeld ?_ ?_
         rotate_left
         ·rintro w' ⟨s0, s1, s2, s3, s4, s5, s6, s7, s8⟩; go_simp; with_reducible rfl
         rotate_left
         ·simp only [Act.put, zA, zB, zC, i64_w, i32_w]; rfl
         refine pv 34 (some 118) (v := ?_) (a' := ?_) (bf 40 103079215103) HT_ ?_ ?_ ?_
         rotate_left
         ·intro w'; go_simp; with_reducible rfl
         rotate_left
         ·simp only [Act.put, zA, zB, zC, i64_w, i32_w]; rfl
         refine pv 35 (some 119) (v := ?_) (a' := ?_) (bf 40 137438953471) HT_ ?_ ?_ ?_
         rotate_left
         ·intro w'; go_simp; with_reducible rfl
         rotate_left
         ·simp only [Act.put, zA, zB, zC, i64_w, i32_w]; rfl
         refine pv 37 (some 121) (v := ?_) (a' := ?_) (bf 40 274877906943) HT_ ?_ ?_ ?_
         rotate_left
         ·intro w'; go_simp; with_reducible rfl
         rotate_left
         ·simp only [Act.put, zA, zB, zC, i64_w, i32_w]; rfl
         refine pv 38 (some 122) (v := ?_) (a' := ?_) (bf 40 549755813887) HT_ ?_ ?_ ?_
         rotate_left
         ·intro w'; go_simp; with_reducible rfl
         rotate_left
         ·simp only [Act.put, zA, zB, zC, i64_w, i32_w]; rfl
         refine last_ (i := 39) (N := none) (bf 40 1099511627775) rfl rfl (one_of HT_.1 (by kernel_rfl)) (by decide) (fun K hK => ?_)
         refine skip_ (w1 := ?_) (by rfl) rfl ?_ ?_
         rotate_left
         ·go_simp
          rfl
         refine hK.out _ _ ?_
         clear hK K
         refine done_ (done_of HT_.1 (by kernel_rfl)) ?_
         try go_wp2
         go_roundg k6
         case measure => have := HK1.1; have := HK2.1; have := HJ12.1; have := HJ22.1; have := HK5.1; have := HK6.1; omega
         case rel => exact ⟨(y184), (wrap64 (x12_6 + 1)), (by first | rfl | (simp; done) | (simp [*]; done)), H', ⟨by have := HK1.1; have := HK2.1; have := HJ12.1; have := HJ22.1; have := HK5.1; have := HK6.1; omega⟩, ⟨by (with_reducible repeat (first | apply Kd.S_alloc | apply Kd.S_drewN | apply Kd.S_drew)); exact HQ43.1⟩, ⟨by repeat (first | exact HB.1 | apply zc0 | apply zb0 | apply zd0 | refine ze0 ?_ GB40.1)⟩⟩
def actorL (k : Nat) (l : List (List Int)) (s : Int) : Option Bool := (yn1.f k l s).bind fun a => if a = true then ((yg0.f k l s).bind fun m => (ya0.f k m).bind fun d => some (decide (d ≤ 60))) else some false
theorem actorL_mono (l : List (List Int)) (s : Int) (k : Nat) : LeO (actorL k l s) (actorL (k + 1) l s) := by
 unfold actorL
 exact LeO.bind (yn1.mono _ _ _) (fun b => LeO.ite (LeO.bind (yg0.mono _ _ _) (fun _ => LeO.bind (ya0.mono _ _) (fun _ => LeO.refl _))) (LeO.refl _))
theorem yk2.calls (k : Nat) (l : List (List Int)) (s : Int) (A0 : Option Addr) (c0 : Nat) (b : Bool) (w : World) (hr0 : Kd.C (Kd.slice 3 (Kd.int .i64)) w A0 l.length l) (hc0 : l.length ≤ c0) (h : actorL k l s = some b) :
  Calls Try.prog 39 #[.agg #[.slice A0 l.length c0], .int .i64 s] w fun e w' => ∃ Ba, e = .returned (.tuple #[.pointer (if b then some ⟨Ba, 0, none⟩ else none), .bool b]) ∧ (b = true → w.heap.size ≤ Ba ∧ w'.heap[Ba]? = some (.cells #[.slice A0 l.length c0, .int .i64 s] 71 (0, 0))) ∧ Below w.heap.size w w' := by
 have hu1 := Try.underlying29
 have hu3 := Try.underlying71
 have HR0 := za0.mk hr0
 have HC0 := za0.mk hc0
 unfold actorL at h
 obtain ⟨a, h1, h⟩ := Option.bind_eq_some_iff.mp h
 have A1 := za0.mk h1
 clear hr0 hc0 h1
 cases a with
 | false =>
  rw [if_neg (by decide)] at h
  obtain rfl := Option.some.inj h
  go_enter Try.func39, Try.ntmps39
  go_wp2_with (first | ((with_reducible refine zo0 (N := 2) rfl ?_); refine zp0 ?hg (N := 2) ?hd (cs := #[.slice A0 l.length c0]) (t := 29) ?hr ?_; (case hd | hg => rfl); (case hr => go_simp <;> rfl); intro gb hg w2 hbox hb; have HB := za0.mk (hb); have BG := za0.mk hbox; clear hb hbox hg; have hcg : w2.cell? ⟨gb, 0, none⟩ = some (.slice A0 l.length c0) := (zl0 BG.1 0).trans rfl) | (go_at_call 61; refine (yn1.calls k _ _ l s false _ (Kd.C_below HR0.1 HB.1) HC0.1 A1.1).mono ?_; rintro e w3 ⟨rfl, hb⟩; have n0_ := za0.mk (zi0 HB.1 hb); have n1_ := za0.mk (zm0 BG.1 hb); clear HB BG hb; have HB := n0_; have BG := n1_; clear n0_ n1_; clear hcg; have hcg : w3.cell? ⟨gb, 0, none⟩ = some (.slice A0 l.length c0) := (zl0 BG.1 0).trans rfl))
  go_ret2
  first | exact ⟨rfl, HB.1⟩ | exact ⟨0, rfl, fun h => (by cases h), HB.1⟩
 | true =>
  rw [if_pos rfl] at h
  obtain ⟨m, h2, h⟩ := Option.bind_eq_some_iff.mp h
  obtain ⟨d, h3, h⟩ := Option.bind_eq_some_iff.mp h
  have A2 := za0.mk h2
  have A3 := za0.mk h3
  clear h2 h3
  obtain rfl := Option.some.inj h
  clear h
  by_cases hd : d ≤ 60
  ·rw [decide_eq_true hd]
   have hdb : decide (60 < d) = false := decide_eq_false (by omega)
   clear hd
   go_enter Try.func39, Try.ntmps39
   go_wp2_with (first | ((with_reducible refine zo0 (N := 2) rfl ?_); refine zp0 ?hg (N := 2) ?hd (cs := #[.slice A0 l.length c0]) (t := 29) ?hr ?_; (case hd | hg => rfl); (case hr => go_simp <;> rfl); intro gb hg w2 hbox hb; have HB := za0.mk (hb); have BG := za0.mk hbox; clear hb hbox hg; have hcg : w2.cell? ⟨gb, 0, none⟩ = some (.slice A0 l.length c0) := (zl0 BG.1 0).trans rfl) | (go_at_call 61; refine (yn1.calls k _ _ l s true _ (Kd.C_below HR0.1 HB.1) HC0.1 A1.1).mono ?_; rintro e w3 ⟨rfl, hb⟩; have n0_ := za0.mk (zi0 HB.1 hb); have n1_ := za0.mk (zm0 BG.1 hb); clear HB BG hb; have HB := n0_; have BG := n1_; clear n0_ n1_; clear hcg; have hcg : w3.cell? ⟨gb, 0, none⟩ = some (.slice A0 l.length c0) := (zl0 BG.1 0).trans rfl) | (go_at_call 63; refine (yg0.calls k _ _ l s m _ (Kd.C_below HR0.1 HB.1) HC0.1 A2.1).mono ?_; rintro e w4 ⟨v4, rfl, ho, hb⟩; have HM := za0.mk ho; clear ho; have n0_ := za0.mk (zi0 HB.1 hb); have n1_ := za0.mk (zm0 BG.1 hb); clear HB BG hb; have HB := n0_; have BG := n1_; clear n0_ n1_; clear hcg; have hcg : w4.cell? ⟨gb, 0, none⟩ = some (.slice A0 l.length c0) := (zl0 BG.1 0).trans rfl; obtain ⟨Am, cm, em⟩ := Kd.S_slice HM.1; subst em) | (go_at_call 62; refine (ya0.calls k _ _ m d _ (Kd.S_reads' HM.1).2.2 (Kd.S_reads' HM.1).2.1 A3.1).mono ?_; rintro e w5 ⟨rfl, hb⟩; have n0_ := za0.mk (zi0 HB.1 hb); have n1_ := za0.mk (zm0 BG.1 hb); clear HB BG hb; have HB := n0_; have BG := n1_; clear n0_ n1_; clear hcg; have hcg : w5.cell? ⟨gb, 0, none⟩ = some (.slice A0 l.length c0) := (zl0 BG.1 0).trans rfl) | ((with_reducible refine zo0 (N := 20) rfl ?_); refine zp0 ?hg (N := 20) ?hd (cs := #[.slice A0 l.length c0, .int .i64 s]) (t := 71) ?hr ?_; (case hd | hg => rfl); (case hr => go_simp <;> rfl); intro B hg w6 hbox hb; have GE := za0.mk (show w.heap.size ≤ B from by rw [hg]; exact zh0 HB.1); have BX := za0.mk hbox; have n0_ := za0.mk (zi0 HB.1 hb); clear HB hb hbox hg; have HB := n0_; clear n0_))
   go_ret2
   exact ⟨B, rfl, ⟨GE.1, BX.1⟩, HB.1⟩
  rw [decide_eq_false hd]
  have hdb : decide (60 < d) = true := decide_eq_true (by omega)
  clear hd
  go_enter Try.func39, Try.ntmps39
  go_wp2_with (first | ((with_reducible refine zo0 (N := 2) rfl ?_); refine zp0 ?hg (N := 2) ?hd (cs := #[.slice A0 l.length c0]) (t := 29) ?hr ?_; (case hd | hg => rfl); (case hr => go_simp <;> rfl); intro gb hg w2 hbox hb; have HB := za0.mk (hb); have BG := za0.mk hbox; clear hb hbox hg; have hcg : w2.cell? ⟨gb, 0, none⟩ = some (.slice A0 l.length c0) := (zl0 BG.1 0).trans rfl) | (go_at_call 61; refine (yn1.calls k _ _ l s true _ (Kd.C_below HR0.1 HB.1) HC0.1 A1.1).mono ?_; rintro e w3 ⟨rfl, hb⟩; have n0_ := za0.mk (zi0 HB.1 hb); have n1_ := za0.mk (zm0 BG.1 hb); clear HB BG hb; have HB := n0_; have BG := n1_; clear n0_ n1_; clear hcg; have hcg : w3.cell? ⟨gb, 0, none⟩ = some (.slice A0 l.length c0) := (zl0 BG.1 0).trans rfl) | (go_at_call 63; refine (yg0.calls k _ _ l s m _ (Kd.C_below HR0.1 HB.1) HC0.1 A2.1).mono ?_; rintro e w4 ⟨v4, rfl, ho, hb⟩; have HM := za0.mk ho; clear ho; have n0_ := za0.mk (zi0 HB.1 hb); have n1_ := za0.mk (zm0 BG.1 hb); clear HB BG hb; have HB := n0_; have BG := n1_; clear n0_ n1_; clear hcg; have hcg : w4.cell? ⟨gb, 0, none⟩ = some (.slice A0 l.length c0) := (zl0 BG.1 0).trans rfl; obtain ⟨Am, cm, em⟩ := Kd.S_slice HM.1; subst em) | (go_at_call 62; refine (ya0.calls k _ _ m d _ (Kd.S_reads' HM.1).2.2 (Kd.S_reads' HM.1).2.1 A3.1).mono ?_; rintro e w5 ⟨rfl, hb⟩; have n0_ := za0.mk (zi0 HB.1 hb); have n1_ := za0.mk (zm0 BG.1 hb); clear HB BG hb; have HB := n0_; have BG := n1_; clear n0_ n1_; clear hcg; have hcg : w5.cell? ⟨gb, 0, none⟩ = some (.slice A0 l.length c0) := (zl0 BG.1 0).trans rfl))
  go_ret2
  first | exact ⟨rfl, HB.1⟩ | exact ⟨0, rfl, fun h => (by cases h), HB.1⟩
mutual
def yf0.j0 : Nat → Bool → List (List Int) → List Int → Int → Option (Bool)
 | 0, _, _, _, _ => none
 | k + 1, x21, x186000, x187000, x187001 => if x21 = true then (some false) else (yf0.l0 k x187000 (x187000.length : Int) 0 x186000)
def yf0.l0 : Nat → List Int → Int → Int → List (List Int) → Option (Bool)
 | 0, _, _, _, _ => none
 | k + 1, x23, x24, x25, x186000 => if x25 < x24 then (if 0 ≤ x25 then (if x25 < (x23.length : Int) then (if x25 < (x186000.length : Int) then ((yc1.f (rd x23 x25) 0 (mx (wrap64 (((rd_L1 x186000 x25).length : Int) - 1)) 0)).bind fun t193 => (if t193 = true then (yf0.l0 k x23 x24 (wrap64 (x25 + 1)) x186000) else (some false))) else (none)) else (none)) else (none)) else (some true)
end
def yf0.f (k : Nat) (l0_0 : List (List Int)) (l1_0 : List Int) (a1_1 : Int) : Option (Bool) := (yb1.f l0_0 (([a1_1] : List Int))).bind fun t190 => (if t190 = true then (yf0.j0 k ((l1_0.length : Int) != (l0_0.length : Int)) l0_0 l1_0 a1_1) else (yf0.j0 k true l0_0 l1_0 a1_1))
theorem yf0.mono_l : ∀ k, (∀ y0 y1 y2 y3, LeO (yf0.j0 k y0 y1 y2 y3) (yf0.j0 (k + 1) y0 y1 y2 y3)) ∧ (∀ y0 y1 y2 y3, LeO (yf0.l0 k y0 y1 y2 y3) (yf0.l0 (k + 1) y0 y1 y2 y3))
 | 0 => ⟨fun _ _ _ _ r h => by simp [yf0.j0] at h, fun _ _ _ _ r h => by simp [yf0.l0] at h⟩
 | k + 1 => by
  obtain ⟨ih0, ih1⟩ := yf0.mono_l k
  refine ⟨?_, ?_⟩
  ·intro y0 y1 y2 y3
   unfold yf0.j0
   repeat' (with_reducible first | exact ih0 _ _ _ _ | exact ih1 _ _ _ _ | exact LeO.refl _ | exact LeO.none _ | refine LeO.ite ?_ ?_ | refine LeO.bind ?_ (fun _ => ?_))
  ·intro y0 y1 y2 y3
   unfold yf0.l0
   repeat' (with_reducible first | exact ih0 _ _ _ _ | exact ih1 _ _ _ _ | exact LeO.refl _ | exact LeO.none _ | refine LeO.ite ?_ ?_ | refine LeO.bind ?_ (fun _ => ?_))
theorem yf0.mono : ∀ a0 a1 a2 k, LeO (yf0.f k a0 a1 a2) (yf0.f (k + 1) a0 a1 a2) := by
 intro a0 a1 a2 k
 obtain ⟨ih0, ih1⟩ := yf0.mono_l k
 unfold yf0.f
 repeat' (with_reducible first | exact ih0 _ _ _ _ | exact ih1 _ _ _ _ | exact LeO.refl _ | exact LeO.none _ | refine LeO.ite ?_ ?_ | refine LeO.bind ?_ (fun _ => ?_))
theorem yf0.calls (k : Nat) (A0_0 : Option Addr) (c0_0 : Nat) (l0_0 : List (List Int)) (A1_0 : Option Addr) (c1_0 : Nat) (l1_0 : List Int) (a1_1 : Int) (r : Bool) (w : World) (hr0_0 : Kd.C (Kd.slice 3 (Kd.int .i64)) w A0_0 l0_0.length l0_0) (hc0_0 : l0_0.length ≤ c0_0) (hr1_0 : Kd.C (Kd.int .i64) w A1_0 l1_0.length l1_0) (hc1_0 : l1_0.length ≤ c1_0) (h : yf0.f k l0_0 l1_0 a1_1 = some r) :
  Calls Try.prog 86 #[.agg #[.slice A0_0 l0_0.length c0_0], .agg #[.slice A1_0 l1_0.length c1_0, .int .i64 a1_1]] w fun e w' => e = .returned (.bool r) ∧ Below w.heap.size w w' := by
 have hu29 := Try.underlying29
 have hu63 := Try.underlying63
 have HR0_0 := za0.mk hr0_0
 have HC0_0 := za0.mk hc0_0
 clear hr0_0 hc0_0
 have HR1_0 := za0.mk hr1_0
 have HC1_0 := za0.mk hc1_0
 clear hr1_0 hc1_0
 have HB := za0.mk (Below.refl w.heap.size w)
 have H : ((yb1.f l0_0 (([a1_1] : List Int))).bind fun t190 => (if t190 = true then (yf0.j0 k ((l1_0.length : Int) != (l0_0.length : Int)) l0_0 l1_0 a1_1) else (yf0.j0 k true l0_0 l1_0 a1_1))) = some r := h
 clear h
 have HC3 := za0.mk H
 clear H
 go_enter Try.func86, Try.ntmps86
 go_upto_region 1 with (first | ((with_reducible refine zo0 (N := 2) rfl ?_); (try (refine gate_guard (by rfl) ?_; dsimp only)); refine zp0 ?hg (N := 2) ?hd (cs := #[.slice A0_0 l0_0.length c0_0]) (t := 29) ?hr ?_; (case hd | hg => rfl); (case hr => go_simp <;> rfl); intro gb185 hg w4 hbox hb; have n0_ := za0.mk (zi0 (by repeat (first | exact HB.1 | apply zc0 | apply zb0 | apply zd0)) hb); have n1_ := za0.mk (hbox); have n2_ := za0.mk ((by rw [hg]; exact (zh0 (by repeat (first | exact HB.1 | apply zc0 | apply zb0 | apply zd0))) : w.heap.size ≤ gb185)); have n3_ := za0.mk ((by rw [hg]; exact (zh0 (by repeat (first | exact HB.1 | apply zc0 | apply zb0 | apply zd0))) : w.heap.size ≤ gb185)); clear HB; have HB := n0_; have BK185 := n1_; have GW185 := n2_; have GE185 := n3_; clear n0_ n1_ n2_ n3_; clear hb hbox hg) | ((with_reducible refine zo0 (N := 3) rfl ?_); (try (refine gate_guard (by rfl) ?_; dsimp only)); refine zp0 ?hg (N := 3) ?hd (cs := #[.slice A1_0 l1_0.length c1_0, .int .i64 a1_1]) (t := 63) ?hr ?_; (case hd | hg => rfl); (case hr => go_simp <;> rfl); intro gb186 hg w5 hbox hb; have n0_ := za0.mk (zm0 (g := gb185) (o := .cells #[.slice A0_0 l0_0.length c0_0] 29 (0, 0)) (by (with_reducible repeat (first | refine zg0 ?_ _ | refine zj0 ?_ | refine zf0 ?_ _)); exact BK185.1) hb); have n1_ := za0.mk (zi0 (by repeat (first | exact HB.1 | apply zc0 | apply zb0 | apply zd0 | refine ze0 ?_ GE185.1)) hb); have n2_ := za0.mk (hbox); have n3_ := za0.mk ((by rw [hg]; exact (zh0 (by repeat (first | exact HB.1 | apply zc0 | apply zb0 | apply zd0 | refine ze0 ?_ GE185.1))) : w.heap.size ≤ gb186)); have n4_ := za0.mk ((by rw [hg]; exact (zh0 (by repeat (first | exact HB.1 | apply zc0 | apply zb0 | apply zd0 | refine ze0 ?_ GE185.1))) : w.heap.size ≤ gb186)); have n5_ := za0.mk ((by rw [hg]; exact Nat.ne_of_lt (blk_lt (g := gb185) (o := .cells #[.slice A0_0 l0_0.length c0_0] 29 (0, 0)) (by (with_reducible repeat (first | refine zg0 ?_ _ | refine zj0 ?_ | refine zf0 ?_ _)); exact BK185.1)) : gb185 ≠ gb186)); have n6_ := za0.mk ((by rw [hg]; exact Nat.ne_of_gt (blk_lt (g := gb185) (o := .cells #[.slice A0_0 l0_0.length c0_0] 29 (0, 0)) (by (with_reducible repeat (first | refine zg0 ?_ _ | refine zj0 ?_ | refine zf0 ?_ _)); exact BK185.1)) : gb186 ≠ gb185)); clear BK185; clear HB; have BK185 := n0_; have HB := n1_; have BK186 := n2_; have GW186 := n3_; have GE186 := n4_; have NB185_186 := n5_; have NB186_185 := n6_; clear n0_ n1_ n2_ n3_ n4_ n5_ n6_; clear hb hbox hg))
 (try simp only [Act.put, zA, zB, zC])
 go_cut [21] (fun v21 wc => ∃ (kq : Nat) (x21_2 : Bool), v21 = .bool x21_2 ∧ za0 (yf0.j0 kq x21_2 l0_0 l1_0 a1_1 = some r) ∧ za0 (kq ≤ k) ∧ za0 (wc.heap[gb185]? = some (.cells #[(.slice A0_0 l0_0.length c0_0)] 29 (0, 0))) ∧ za0 (wc.heap[gb186]? = some (.cells #[(.slice A1_0 l1_0.length c1_0), .int .i64 a1_1] 63 (0, 0))) ∧ za0 (Below w.heap.size w wc))
 case first =>
  have H := HC3.1
  clear HC3
  obtain ⟨y187, hy187⟩ : ∃ y_ : List Int, y_ = (([a1_1] : List Int)) := ⟨_, rfl⟩
  replace H : ((yb1.f l0_0 y187).bind fun t190 => (if t190 = true then (yf0.j0 k ((l1_0.length : Int) != (l0_0.length : Int)) l0_0 l1_0 a1_1) else (yf0.j0 k true l0_0 l1_0 a1_1))) = some r := by first | (rw [hy187]; with_reducible exact H) | (have H2_ := (Option.bind_some _ _).symm.trans H; rw [hy187]; with_reducible exact H2_) | (have H2_ := (Option.bind_some _ _).symm.trans H; with_reducible exact H2_) | with_reducible exact H | (rw [hy187]; exact H) | exact H
  have Ny187 := za0.mk hy187
  clear hy187
  replace H := Option.bind_eq_some_iff.mp H
  obtain ⟨t190, A60, H⟩ := H
  replace H : (if t190 = true then (yf0.j0 k ((l1_0.length : Int) != (l0_0.length : Int)) l0_0 l1_0 a1_1) else (yf0.j0 k true l0_0 l1_0 a1_1)) = some r := H
  have A6 := za0.mk A60
  clear A60
  by_cases c7 : t190 = true
  ·subst c7
   have H1 : (yf0.j0 k ((l1_0.length : Int) != (l0_0.length : Int)) l0_0 l1_0 a1_1) = some r := by rw [if_pos rfl] at H; exact H
   clear H
   have H := H1
   clear H1
   have H' := za0.mk H
   clear H
   have hnb8 := NB185_186.1
   have hnc8 := NB186_185.1
   have hcz9_0 : w5.cell? ⟨gb185, 0, none⟩ = some (.slice A0_0 l0_0.length c0_0) := (zl0 BK185.1 0).trans rfl
   have hfz9_0 := zk0 BK185.1 0
   have hcz10_0 : w5.cell? ⟨gb186, 0, none⟩ = some (.slice A1_0 l1_0.length c1_0) := (zl0 BK186.1 0).trans rfl
   have hcz10_1 : w5.cell? ⟨gb186, 1, none⟩ = some (.int .i64 a1_1) := (zl0 BK186.1 1).trans rfl
   have hfz10_0 := zk0 BK186.1 0
   have hfz10_1 := zk0 BK186.1 1
   go_wp2_with (first | ((with_reducible refine zo0 (N := 10) rfl ?_); (try (refine gate_guard (by rfl) ?_; dsimp only)); refine Kd.R_lit (Kd.int .i64) _ 3 ?hg (N := 10) ?hd (xs := ([a1_1] : List Int)) (inner := [.int .i64 a1_1]) (ok := fun _ => True) (okp := fun _ => True) ?hr ?hp (fun _ hk => hk) trivial (Below.refl _ _) (Nat.le_refl _) (by simp) ?_; (case hd | hg => rfl); (case hr => go_simp <;> rfl); (case hp => exact (Reps.one (show Kd.M (Kd.int .i64) _ _ _ a1_1 [.int .i64 a1_1] from rfl) (Reps.none _ _))); intro v188 w11 ho12 hb hg_ hnew_; clear hg_ hnew_; (first | rw [← Ny187.1] at ho12 | (simp only [Int.reduceToNat] at ho12; rw [← Ny187.1] at ho12)); have n0_ := za0.mk (Kd.R_lower ho12 (zh0 (by repeat (first | exact HB.1 | apply zc0 | apply zb0 | apply zd0 | refine ze0 ?_ GE185.1 | refine ze0 ?_ GE186.1)))); have n1_ := za0.mk (zm0 (g := gb185) (o := .cells #[.slice A0_0 l0_0.length c0_0] 29 (0, 0)) (by (with_reducible repeat (first | refine zg0 ?_ _ | refine zj0 ?_ | refine zf0 ?_ _)); exact BK185.1) hb); have n2_ := za0.mk (zm0 (g := gb186) (o := .cells #[.slice A1_0 l1_0.length c1_0, .int .i64 a1_1] 63 (0, 0)) (by (with_reducible repeat (first | refine zg0 ?_ _ | refine zj0 ?_ | refine zf0 ?_ _)); exact BK186.1) hb); have n3_ := za0.mk (zi0 (by repeat (first | exact HB.1 | apply zc0 | apply zb0 | apply zd0 | refine ze0 ?_ GE185.1 | refine ze0 ?_ GE186.1)) hb); clear BK185; clear BK186; clear HB; have HO189 := n0_; have BK185 := n1_; have BK186 := n2_; have HB := n3_; clear n0_ n1_ n2_ n3_; clear hb ho12; obtain ⟨Ao13, co13, eo13⟩ := Kd.R_slice HO189.1; subst eo13) | ((with_reducible refine zn0 (f := 32) rfl ?_); refine za1 (some 11) rfl rfl Try.func32 (by kernel_rfl) rfl #[.agg #[.slice A0_0 l0_0.length c0_0], .slice Ao13 y187.length co13] rfl (by (try simp only [List.map_toArray, List.map_cons, List.map_nil]); first | done | rfl | (simp only [List.length_drop, List.length_take]; rfl)) ?_; (with_reducible refine (yb1.calls _ _ l0_0 _ _ y187 true _ ?side1 ?side2 ?side3 ?side4 A6.1).mono ?_); (case side1 => repeat (first | exact (Kd.C_below HR0_0.1 HB.1) | with_reducible first | refine Kd.C_alloc ?_ _ | refine Kd.C_drewN ?_ _ | refine Kd.C_drew ?_)); (case side2 => exact HC0_0.1); (case side3 => repeat (first | exact (Kd.R_reads' HO189.1).2.2 | (with_reducible refine Kd.C_alloc ?_ _) | (with_reducible refine Kd.C_drewN ?_ _) | (with_reducible refine Kd.C_drew ?_))); (case side4 => exact (Kd.R_reads' HO189.1).2.1); rintro e w14 ⟨rfl, hb⟩; refine ⟨_, rfl, ?_⟩; have n0_ := za0.mk (Kd.R_below (by (with_reducible repeat (first | apply Kd.R_alloc | apply Kd.R_drewN | apply Kd.R_drew)); exact HO189.1) hb); have n1_ := za0.mk (zm0 (g := gb185) (o := .cells #[.slice A0_0 l0_0.length c0_0] 29 (0, 0)) (by (with_reducible repeat (first | refine zg0 ?_ _ | refine zj0 ?_ | refine zf0 ?_ _)); exact BK185.1) hb); have n2_ := za0.mk (zm0 (g := gb186) (o := .cells #[.slice A1_0 l1_0.length c1_0, .int .i64 a1_1] 63 (0, 0)) (by (with_reducible repeat (first | refine zg0 ?_ _ | refine zj0 ?_ | refine zf0 ?_ _)); exact BK186.1) hb); have n3_ := za0.mk (zi0 (by repeat (first | exact HB.1 | apply zc0 | apply zb0 | apply zd0 | refine ze0 ?_ GE185.1 | refine ze0 ?_ GE186.1)) hb); clear HO189; clear BK185; clear BK186; clear HB; have HO189 := n0_; have BK185 := n1_; have BK186 := n2_; have HB := n3_; clear n0_ n1_ n2_ n3_; (try clear hb); (try clear hb2); (try clear hk); (try clear hi); have hcz15_0 : w14.cell? ⟨gb186, 0, none⟩ = some (.slice A1_0 l1_0.length c1_0) := (zl0 BK186.1 0).trans rfl; have hcz15_1 : w14.cell? ⟨gb186, 1, none⟩ = some (.int .i64 a1_1) := (zl0 BK186.1 1).trans rfl; have hfz15_0 := zk0 BK186.1 0; have hfz15_1 := zk0 BK186.1 1; have hcz16_0 : w14.cell? ⟨gb185, 0, none⟩ = some (.slice A0_0 l0_0.length c0_0) := (zl0 BK185.1 0).trans rfl; have hfz16_0 := zk0 BK185.1 0))
   go_meet
   case rel => exact ⟨_, (((l1_0.length : Int) != (l0_0.length : Int))), (by first | rfl | (simp; done) | (simp [*]; done)), H', ⟨by first | omega | exact Nat.le_refl _⟩, ⟨by (with_reducible repeat (first | refine zg0 ?_ _ | refine zj0 ?_ | refine zf0 ?_ _)); exact BK185.1⟩, ⟨by (with_reducible repeat (first | refine zg0 ?_ _ | refine zj0 ?_ | refine zf0 ?_ _)); exact BK186.1⟩, ⟨by repeat (first | exact HB.1 | apply zc0 | apply zb0 | apply zd0 | refine ze0 ?_ GE185.1 | refine ze0 ?_ GE186.1)⟩⟩
  replace c7 := Bool.eq_false_iff.mpr c7
  subst c7
  have H1 : (yf0.j0 k true l0_0 l1_0 a1_1) = some r := by rw [if_neg (show ¬ (false = true) by decide)] at H; exact H
  clear H
  have H := H1
  clear H1
  have H' := za0.mk H
  clear H
  have hnb17 := NB185_186.1
  have hnc17 := NB186_185.1
  have hcz18_0 : w5.cell? ⟨gb185, 0, none⟩ = some (.slice A0_0 l0_0.length c0_0) := (zl0 BK185.1 0).trans rfl
  have hfz18_0 := zk0 BK185.1 0
  have hcz19_0 : w5.cell? ⟨gb186, 0, none⟩ = some (.slice A1_0 l1_0.length c1_0) := (zl0 BK186.1 0).trans rfl
  have hcz19_1 : w5.cell? ⟨gb186, 1, none⟩ = some (.int .i64 a1_1) := (zl0 BK186.1 1).trans rfl
  have hfz19_0 := zk0 BK186.1 0
  have hfz19_1 := zk0 BK186.1 1
  go_wp2_with (first | ((with_reducible refine zo0 (N := 10) rfl ?_); (try (refine gate_guard (by rfl) ?_; dsimp only)); refine Kd.R_lit (Kd.int .i64) _ 3 ?hg (N := 10) ?hd (xs := ([a1_1] : List Int)) (inner := [.int .i64 a1_1]) (ok := fun _ => True) (okp := fun _ => True) ?hr ?hp (fun _ hk => hk) trivial (Below.refl _ _) (Nat.le_refl _) (by simp) ?_; (case hd | hg => rfl); (case hr => go_simp <;> rfl); (case hp => exact (Reps.one (show Kd.M (Kd.int .i64) _ _ _ a1_1 [.int .i64 a1_1] from rfl) (Reps.none _ _))); intro v188 w20 ho21 hb hg_ hnew_; clear hg_ hnew_; (first | rw [← Ny187.1] at ho21 | (simp only [Int.reduceToNat] at ho21; rw [← Ny187.1] at ho21)); have n0_ := za0.mk (Kd.R_lower ho21 (zh0 (by repeat (first | exact HB.1 | apply zc0 | apply zb0 | apply zd0 | refine ze0 ?_ GE185.1 | refine ze0 ?_ GE186.1)))); have n1_ := za0.mk (zm0 (g := gb185) (o := .cells #[.slice A0_0 l0_0.length c0_0] 29 (0, 0)) (by (with_reducible repeat (first | refine zg0 ?_ _ | refine zj0 ?_ | refine zf0 ?_ _)); exact BK185.1) hb); have n2_ := za0.mk (zm0 (g := gb186) (o := .cells #[.slice A1_0 l1_0.length c1_0, .int .i64 a1_1] 63 (0, 0)) (by (with_reducible repeat (first | refine zg0 ?_ _ | refine zj0 ?_ | refine zf0 ?_ _)); exact BK186.1) hb); have n3_ := za0.mk (zi0 (by repeat (first | exact HB.1 | apply zc0 | apply zb0 | apply zd0 | refine ze0 ?_ GE185.1 | refine ze0 ?_ GE186.1)) hb); clear BK185; clear BK186; clear HB; have HO189 := n0_; have BK185 := n1_; have BK186 := n2_; have HB := n3_; clear n0_ n1_ n2_ n3_; clear hb ho21; obtain ⟨Ao22, co22, eo22⟩ := Kd.R_slice HO189.1; subst eo22) | ((with_reducible refine zn0 (f := 32) rfl ?_); refine za1 (some 11) rfl rfl Try.func32 (by kernel_rfl) rfl #[.agg #[.slice A0_0 l0_0.length c0_0], .slice Ao22 y187.length co22] rfl (by (try simp only [List.map_toArray, List.map_cons, List.map_nil]); first | done | rfl | (simp only [List.length_drop, List.length_take]; rfl)) ?_; (with_reducible refine (yb1.calls _ _ l0_0 _ _ y187 false _ ?side1 ?side2 ?side3 ?side4 A6.1).mono ?_); (case side1 => repeat (first | exact (Kd.C_below HR0_0.1 HB.1) | with_reducible first | refine Kd.C_alloc ?_ _ | refine Kd.C_drewN ?_ _ | refine Kd.C_drew ?_)); (case side2 => exact HC0_0.1); (case side3 => repeat (first | exact (Kd.R_reads' HO189.1).2.2 | (with_reducible refine Kd.C_alloc ?_ _) | (with_reducible refine Kd.C_drewN ?_ _) | (with_reducible refine Kd.C_drew ?_))); (case side4 => exact (Kd.R_reads' HO189.1).2.1); rintro e w23 ⟨rfl, hb⟩; refine ⟨_, rfl, ?_⟩; have n0_ := za0.mk (Kd.R_below (by (with_reducible repeat (first | apply Kd.R_alloc | apply Kd.R_drewN | apply Kd.R_drew)); exact HO189.1) hb); have n1_ := za0.mk (zm0 (g := gb185) (o := .cells #[.slice A0_0 l0_0.length c0_0] 29 (0, 0)) (by (with_reducible repeat (first | refine zg0 ?_ _ | refine zj0 ?_ | refine zf0 ?_ _)); exact BK185.1) hb); have n2_ := za0.mk (zm0 (g := gb186) (o := .cells #[.slice A1_0 l1_0.length c1_0, .int .i64 a1_1] 63 (0, 0)) (by (with_reducible repeat (first | refine zg0 ?_ _ | refine zj0 ?_ | refine zf0 ?_ _)); exact BK186.1) hb); have n3_ := za0.mk (zi0 (by repeat (first | exact HB.1 | apply zc0 | apply zb0 | apply zd0 | refine ze0 ?_ GE185.1 | refine ze0 ?_ GE186.1)) hb); clear HO189; clear BK185; clear BK186; clear HB; have HO189 := n0_; have BK185 := n1_; have BK186 := n2_; have HB := n3_; clear n0_ n1_ n2_ n3_; (try clear hb); (try clear hb2); (try clear hk); (try clear hi)))
  go_meet
  case rel => exact ⟨_, (true), (by first | rfl | (simp; done) | (simp [*]; done)), H', ⟨by first | omega | exact Nat.le_refl _⟩, ⟨by (with_reducible repeat (first | refine zg0 ?_ _ | refine zj0 ?_ | refine zf0 ?_ _)); exact BK185.1⟩, ⟨by (with_reducible repeat (first | refine zg0 ?_ _ | refine zj0 ?_ | refine zf0 ?_ _)); exact BK186.1⟩, ⟨by repeat (first | exact HB.1 | apply zc0 | apply zb0 | apply zd0 | refine ze0 ?_ GE185.1 | refine ze0 ?_ GE186.1)⟩⟩
 case rest =>
  clear HC3
  try clear c1
  try clear p2
  try clear c3
  try clear c7
  try clear c8
  try clear c17
  try clear hcz10_0
  try clear hcz10_1
  try clear hcz15_0
  try clear hcz15_1
  try clear hcz16_0
  try clear hcz18_0
  try clear hcz19_0
  try clear hcz19_1
  try clear hcz9_0
  try clear hfz10_0
  try clear hfz10_1
  try clear hfz15_0
  try clear hfz15_1
  try clear hfz16_0
  try clear hfz18_0
  try clear hfz19_0
  try clear hfz19_1
  try clear hfz9_0
  obtain ⟨kq, x21_2, rfl, HA, HJ2, BK185, BK186, HB⟩ := hcut
  cases kq with
  | zero => exact absurd HA.1 (by simp [yf0.j0])
  | succ kj2 =>
   have H := HA.1
   clear HA
   simp only [yf0.j0] at H
   by_cases c24 : x21_2 = true
   ·subst c24
    have H1 : (some false) = some r := by rw [if_pos rfl] at H; exact H
    clear H
    have H := H1
    clear H1
    obtain rfl := Option.some.inj H
    go_wp2
    go_ret
    exact ⟨by first | rfl | (simp [errW_none, errW_some] <;> rfl) | (simp [*, errW_none, errW_some] <;> rfl), by repeat (first | exact HB.1 | apply zc0 | apply zb0 | apply zd0 | refine ze0 ?_ GE185.1 | refine ze0 ?_ GE186.1)⟩
   replace c24 := Bool.eq_false_iff.mpr c24
   subst c24
   have H1 : (yf0.l0 kj2 l1_0 (l1_0.length : Int) 0 l0_0) = some r := by rw [if_neg (show ¬ (false = true) by decide)] at H; exact H
   clear H
   have H := H1
   clear H1
   have H' := za0.mk H
   clear H
   have hnb25 := NB186_185.1
   have hnc25 := NB185_186.1
   have hcz26_0 : wc.cell? ⟨gb186, 0, none⟩ = some (.slice A1_0 l1_0.length c1_0) := (zl0 BK186.1 0).trans rfl
   have hcz26_1 : wc.cell? ⟨gb186, 1, none⟩ = some (.int .i64 a1_1) := (zl0 BK186.1 1).trans rfl
   have hfz26_0 := zk0 BK186.1 0
   have hfz26_1 := zk0 BK186.1 1
   go_wp2
   go_loopg [25] kj2 (fun kq v25 w' => ∃ (x25_2 : Int), v25 = .int .i64 x25_2 ∧ za0 (yf0.l0 kq l1_0 (l1_0.length : Int) x25_2 l0_0 = some r) ∧ za0 (kq ≤ kj2) ∧ za0 (w'.heap[gb185]? = some (.cells #[(.slice A0_0 l0_0.length c0_0)] 29 (0, 0))) ∧ za0 (w'.heap[gb186]? = some (.cells #[(.slice A1_0 l1_0.length c1_0), .int .i64 a1_1] 63 (0, 0))) ∧ za0 (Below w.heap.size w w'))
   case atStart => exact ⟨(0), (by first | rfl | (simp; done) | (simp [*]; done)), H', ⟨Nat.le_refl _⟩, ⟨by (with_reducible repeat (first | refine zg0 ?_ _ | refine zj0 ?_ | refine zf0 ?_ _)); exact BK185.1⟩, ⟨by (with_reducible repeat (first | refine zg0 ?_ _ | refine zj0 ?_ | refine zf0 ?_ _)); exact BK186.1⟩, ⟨by repeat (first | exact HB.1 | apply zc0 | apply zb0 | apply zd0 | refine ze0 ?_ GE185.1 | refine ze0 ?_ GE186.1)⟩⟩
   case round =>
    clear H'
    try clear c1
    try clear c2
    try clear p2
    try clear c3
    try clear c7
    try clear c8
    try clear c17
    try clear c24
    try clear c25
    try clear hcz10_0
    try clear hcz10_1
    try clear hcz15_0
    try clear hcz15_1
    try clear hcz16_0
    try clear hcz18_0
    try clear hcz19_0
    try clear hcz19_1
    try clear hcz26_0
    try clear hcz26_1
    try clear hcz9_0
    try clear hfz10_0
    try clear hfz10_1
    try clear hfz15_0
    try clear hfz15_1
    try clear hfz16_0
    try clear hfz18_0
    try clear hfz19_0
    try clear hfz19_1
    try clear hfz26_0
    try clear hfz26_1
    try clear hfz9_0
    try clear p2
    obtain ⟨x25_2, rfl, HA, HK2, BK185, BK186, HB⟩ := hrel
    obtain _ | k2 := gk
    ·exact absurd HA.1 (by simp [yf0.l0])
    have H := HA.1
    clear HA
    simp only [yf0.l0] at H
    by_cases c27 : x25_2 < (l1_0.length : Int)
    rotate_left
    ·rw [if_neg c27] at H
     have c27b0 : decide (x25_2 < (l1_0.length : Int)) = false := decide_eq_false c27
     clear c27
     obtain rfl := Option.some.inj H
     go_wp2
     go_ret
     exact ⟨by first | rfl | (simp [errW_none, errW_some] <;> rfl) | (simp [*, errW_none, errW_some] <;> rfl), by repeat (first | exact HB.1 | apply zc0 | apply zb0 | apply zd0 | refine ze0 ?_ GE185.1 | refine ze0 ?_ GE186.1)⟩
    rw [if_pos c27] at H
    have c27b0 : decide (x25_2 < (l1_0.length : Int)) = true := decide_eq_true c27
    clear c27
    by_cases c28 : 0 ≤ x25_2
    rotate_left
    ·rw [if_neg c28] at H
     exact absurd H (by simp)
    rw [if_pos c28] at H
    have c28b0 : decide (0 ≤ x25_2) = true := decide_eq_true c28
    clear c28
    by_cases c29 : x25_2 < (l1_0.length : Int)
    rotate_left
    ·rw [if_neg c29] at H
     exact absurd H (by simp)
    rw [if_pos c29] at H
    have c29b0 : decide (x25_2 < (l1_0.length : Int)) = true := decide_eq_true c29
    clear c29
    by_cases c30 : x25_2 < (l0_0.length : Int)
    rotate_left
    ·rw [if_neg c30] at H
     exact absurd H (by simp)
    rw [if_pos c30] at H
    have c30b0 : decide (x25_2 < (l0_0.length : Int)) = true := decide_eq_true c30
    clear c30
    obtain ⟨ji31, hji31⟩ : ∃ j_ : Int, (mx (wrap64 (((rd_L1 l0_0 x25_2).length : Int) - 1)) 0) = j_ := ⟨_, rfl⟩
    replace H : ((yc1.f (rd l1_0 x25_2) 0 (ji31)).bind fun t193 => (if t193 = true then (yf0.l0 k2 l1_0 (l1_0.length : Int) (wrap64 (x25_2 + 1)) l0_0) else (some false))) = some r := by first | (rw [hji31] at H; exact H) | (simp only [hji31] at H ⊢; exact H)
    have hji31_ : (if (wrap64 (((rd_L1 l0_0 x25_2).length : Int) - 1)) < 0 then 0 else (wrap64 (((rd_L1 l0_0 x25_2).length : Int) - 1))) = ji31 := hji31
    replace H := Option.bind_eq_some_iff.mp H
    obtain ⟨t193, A320, H⟩ := H
    replace H : (if t193 = true then (yf0.l0 k2 l1_0 (l1_0.length : Int) (wrap64 (x25_2 + 1)) l0_0) else (some false)) = some r := H
    have A32 := za0.mk A320
    clear A320
    by_cases c33 : t193 = true
    rotate_left
    ·replace c33 := Bool.eq_false_iff.mpr c33
     subst c33
     have H1 : (some false) = some r := by rw [if_neg (show ¬ (false = true) by decide)] at H; exact H
     clear H
     have H := H1
     clear H1
     obtain rfl := Option.some.inj H
     have p191 : 0 ≤ (x25_2 : Int) := of_decide_eq_true (by assumption)
     have q191 : x25_2 < (l1_0.length : Int) := of_decide_eq_true (by assumption)
     obtain ⟨ad191, e191, hx191_0⟩ := Kd.at_int HR1_0.1 x25_2 p191 q191
     cases e191
     replace hx191_0 := (HB.1.cell (World.block_lt_of_cell? w _ hx191_0)).trans hx191_0
     replace p191 := eq_true p191
     replace q191 := eq_true q191
     have hnb36 := NB185_186.1
     have hnc36 := NB186_185.1
     have hcz37_0 : wr.cell? ⟨gb185, 0, none⟩ = some (.slice A0_0 l0_0.length c0_0) := (zl0 BK185.1 0).trans rfl
     have hfz37_0 := zk0 BK185.1 0
     have p192 : 0 ≤ (x25_2 : Int) := of_decide_eq_true (by assumption)
     have q192 : x25_2 < (l0_0.length : Int) := of_decide_eq_true (by assumption)
     obtain ⟨ad192, A192_0, c192_0, e192, hx192_0, hl192_0, hi192_0⟩ := at_L1 HR0_0.1 x25_2 p192 q192
     cases e192
     replace hx192_0 := (HB.1.cell (World.block_lt_of_cell? w _ hx192_0)).trans hx192_0
     have HR192_0 := za0.mk hi192_0
     have HC192_0 := za0.mk hl192_0
     clear hi192_0 hl192_0
     replace p192 := eq_true p192
     replace q192 := eq_true q192
     go_wp2_with (first | ((with_reducible refine zn0 (f := 54) rfl ?_); refine za1 (some 39) rfl rfl Try.func54 (by kernel_rfl) rfl #[.int .i64 (rd l1_0 x25_2), .int .i64 0, .int .i64 ji31] rfl (by (try simp only [List.map_toArray, List.map_cons, List.map_nil]); first | done | (simp only [hji31]; rfl) | rfl | (simp only [List.length_drop, List.length_take]; rfl)) ?_; (with_reducible refine (yc1.calls (rd l1_0 x25_2) 0 ji31 false _ A32.1).mono ?_); rintro e w' ⟨rfl, ⟨nd, rfl⟩⟩; refine ⟨_, rfl, ?_⟩))
     go_ret
     exact ⟨by first | rfl | (simp [errW_none, errW_some] <;> rfl) | (simp only [← hji31]; first | rfl | (simp [errW_none, errW_some] <;> rfl)) | (simp [*, errW_none, errW_some] <;> rfl), by repeat (first | exact HB.1 | apply zc0 | apply zb0 | apply zd0 | refine ze0 ?_ GE185.1 | refine ze0 ?_ GE186.1)⟩
    subst c33
    have H1 : (yf0.l0 k2 l1_0 (l1_0.length : Int) (wrap64 (x25_2 + 1)) l0_0) = some r := by rw [if_pos rfl] at H; exact H
    clear H
    have H := H1
    clear H1
    have H' := za0.mk H
    clear H
    have p191 : 0 ≤ (x25_2 : Int) := of_decide_eq_true (by assumption)
    have q191 : x25_2 < (l1_0.length : Int) := of_decide_eq_true (by assumption)
    obtain ⟨ad191, e191, hx191_0⟩ := Kd.at_int HR1_0.1 x25_2 p191 q191
    cases e191
    replace hx191_0 := (HB.1.cell (World.block_lt_of_cell? w _ hx191_0)).trans hx191_0
    replace p191 := eq_true p191
    replace q191 := eq_true q191
    have hnb34 := NB185_186.1
    have hnc34 := NB186_185.1
    have hcz35_0 : wr.cell? ⟨gb185, 0, none⟩ = some (.slice A0_0 l0_0.length c0_0) := (zl0 BK185.1 0).trans rfl
    have hfz35_0 := zk0 BK185.1 0
    have p192 : 0 ≤ (x25_2 : Int) := of_decide_eq_true (by assumption)
    have q192 : x25_2 < (l0_0.length : Int) := of_decide_eq_true (by assumption)
    obtain ⟨ad192, A192_0, c192_0, e192, hx192_0, hl192_0, hi192_0⟩ := at_L1 HR0_0.1 x25_2 p192 q192
    cases e192
    replace hx192_0 := (HB.1.cell (World.block_lt_of_cell? w _ hx192_0)).trans hx192_0
    have HR192_0 := za0.mk hi192_0
    have HC192_0 := za0.mk hl192_0
    clear hi192_0 hl192_0
    replace p192 := eq_true p192
    replace q192 := eq_true q192
    go_wp2_with (first | ((with_reducible refine zn0 (f := 54) rfl ?_); refine za1 (some 39) rfl rfl Try.func54 (by kernel_rfl) rfl #[.int .i64 (rd l1_0 x25_2), .int .i64 0, .int .i64 ji31] rfl (by (try simp only [List.map_toArray, List.map_cons, List.map_nil]); first | done | (simp only [hji31]; rfl) | rfl | (simp only [List.length_drop, List.length_take]; rfl)) ?_; (with_reducible refine (yc1.calls (rd l1_0 x25_2) 0 ji31 true _ A32.1).mono ?_); rintro e w' ⟨rfl, ⟨nd, rfl⟩⟩; refine ⟨_, rfl, ?_⟩))
    go_roundg k2
    case measure => have := HJ2.1; have := HK2.1; omega
    case rel => exact ⟨(wrap64 (x25_2 + 1)), (by first | rfl | (simp; done) | (simp [*]; done)), H', ⟨by have := HJ2.1; have := HK2.1; omega⟩, ⟨by (with_reducible repeat (first | refine zg0 ?_ _ | refine zj0 ?_ | refine zf0 ?_ _)); exact BK185.1⟩, ⟨by (with_reducible repeat (first | refine zg0 ?_ _ | refine zj0 ?_ | refine zf0 ?_ _)); exact BK186.1⟩, ⟨by repeat (first | exact HB.1 | apply zc0 | apply zb0 | apply zd0 | refine ze0 ?_ GE185.1 | refine ze0 ?_ GE186.1)⟩⟩
def yg1.f (k : Nat) (l0_0 : List (List Int)) (l1 : List Int) : Option (Bool) := (yf0.f k l0_0 l1 0).bind fun t195 => (some t195)
theorem yg1.mono : ∀ a0 a1 k, LeO (yg1.f k a0 a1) (yg1.f (k + 1) a0 a1) := by
 intro a0 a1 k
 unfold yg1.f
 repeat' (with_reducible first | exact yf0.mono _ _ _ _ | exact LeO.refl _ | exact LeO.none _ | refine LeO.ite ?_ ?_ | refine LeO.bind ?_ (fun _ => ?_))
theorem yg1.calls (k : Nat) (A0_0 : Option Addr) (c0_0 : Nat) (l0_0 : List (List Int)) (A1 : Option Addr) (c1 : Nat) (l1 : List Int) (r : Bool) (w : World) (hr0_0 : Kd.C (Kd.slice 3 (Kd.int .i64)) w A0_0 l0_0.length l0_0) (hc0_0 : l0_0.length ≤ c0_0) (hr1 : Kd.C (Kd.int .i64) w A1 l1.length l1) (hc1 : l1.length ≤ c1) (h : yg1.f k l0_0 l1 = some r) :
  Calls Try.prog 81 #[.agg #[.slice A0_0 l0_0.length c0_0], .slice A1 l1.length c1] w fun e w' => e = .returned (.bool r) ∧ Below w.heap.size w w' := by
 have hu29 := Try.underlying29
 have hu63 := Try.underlying63
 have HR0_0 := za0.mk hr0_0
 have HC0_0 := za0.mk hc0_0
 clear hr0_0 hc0_0
 have HR1 := za0.mk hr1
 have HC1 := za0.mk hc1
 clear hr1 hc1
 have HB := za0.mk (Below.refl w.heap.size w)
 have H : ((yf0.f k l0_0 l1 0).bind fun t195 => (some t195)) = some r := h
 clear h
 replace H := Option.bind_eq_some_iff.mp H
 obtain ⟨t195, A30, H⟩ := H
 replace H : (some t195) = some r := H
 have A3 := za0.mk A30
 clear A30
 obtain rfl := Option.some.inj H
 go_enter Try.func81, Try.ntmps81
 go_wp2_with (first | ((with_reducible refine zo0 (N := 2) rfl ?_); refine zp0 ?hg (N := 2) ?hd (cs := #[.slice A0_0 l0_0.length c0_0]) (t := 29) ?hr ?_; (case hd | hg => rfl); (case hr => go_simp <;> rfl); intro gb194 hg w4 hbox hb; have n0_ := za0.mk (zi0 (by repeat (first | exact HB.1 | apply zc0 | apply zb0 | apply zd0)) hb); have n1_ := za0.mk (hbox); have n2_ := za0.mk ((by rw [hg]; exact (zh0 (by repeat (first | exact HB.1 | apply zc0 | apply zb0 | apply zd0))) : w.heap.size ≤ gb194)); have n3_ := za0.mk ((by rw [hg]; exact (zh0 (by repeat (first | exact HB.1 | apply zc0 | apply zb0 | apply zd0))) : w.heap.size ≤ gb194)); clear HB; have HB := n0_; have BK194 := n1_; have GW194 := n2_; have GE194 := n3_; clear n0_ n1_ n2_ n3_; clear hb hbox hg; have hcz5_0 : w4.cell? ⟨gb194, 0, none⟩ = some (.slice A0_0 l0_0.length c0_0) := (zl0 BK194.1 0).trans rfl; have hfz5_0 := zk0 BK194.1 0) | ((with_reducible refine zn0 (f := 86) rfl ?_); refine za1 (some 8) rfl rfl Try.func86 (by kernel_rfl) rfl #[.agg #[.slice A0_0 l0_0.length c0_0], .agg #[.slice A1 l1.length c1, .int .i64 0]] rfl (by (try simp only [List.map_toArray, List.map_cons, List.map_nil]); first | done | rfl | (simp only [List.length_drop, List.length_take]; rfl)) ?_; (with_reducible refine (yf0.calls k _ _ l0_0 _ _ l1 0 t195 _ ?side1 ?side2 ?side3 ?side4 A3.1).mono ?_); (case side1 => repeat (first | exact (Kd.C_below HR0_0.1 HB.1) | with_reducible first | refine Kd.C_alloc ?_ _ | refine Kd.C_drewN ?_ _ | refine Kd.C_drew ?_)); (case side2 => exact HC0_0.1); (case side3 => repeat (first | exact (Kd.C_below HR1.1 HB.1) | with_reducible first | refine Kd.C_alloc ?_ _ | refine Kd.C_drewN ?_ _ | refine Kd.C_drew ?_)); (case side4 => exact HC1.1); rintro e w6 ⟨rfl, hb⟩; refine ⟨_, rfl, ?_⟩; have n0_ := za0.mk (zm0 (g := gb194) (o := .cells #[.slice A0_0 l0_0.length c0_0] 29 (0, 0)) (by (with_reducible repeat (first | refine zg0 ?_ _ | refine zj0 ?_ | refine zf0 ?_ _)); exact BK194.1) hb); have n1_ := za0.mk (zi0 (by repeat (first | exact HB.1 | apply zc0 | apply zb0 | apply zd0 | refine ze0 ?_ GE194.1)) hb); clear BK194; clear HB; have BK194 := n0_; have HB := n1_; clear n0_ n1_; (try clear hb); (try clear hb2); (try clear hk); (try clear hi)))
 go_ret
 exact ⟨by first | rfl | (simp [errW_none, errW_some] <;> rfl) | (simp [*, errW_none, errW_some] <;> rfl), by repeat (first | exact HB.1 | apply zc0 | apply zb0 | apply zd0 | refine ze0 ?_ GE194.1)⟩
def yq1.f (k : Nat) (l0_0 : List (List Int)) (a1 : Int) (l2 : List Int) : Option (Bool) := (yb1.f l0_0 (([a1] : List Int))).bind fun t200 => (if t200 = true then ((yg1.f k l0_0 l2).bind fun t201 => (if t201 = true then (if 0 ≤ a1 then (if a1 < (l2.length : Int) then (some ((rd l2 a1) == 0)) else (none)) else (none)) else (some false))) else (some false))
theorem yq1.mono : ∀ a0 a1 a2 k, LeO (yq1.f k a0 a1 a2) (yq1.f (k + 1) a0 a1 a2) := by
 intro a0 a1 a2 k
 unfold yq1.f
 repeat' (with_reducible first | exact yg1.mono _ _ _ | exact LeO.refl _ | exact LeO.none _ | refine LeO.ite ?_ ?_ | refine LeO.bind ?_ (fun _ => ?_))
theorem yq1.calls (k : Nat) (A0_0 : Option Addr) (c0_0 : Nat) (l0_0 : List (List Int)) (a1 : Int) (A2 : Option Addr) (c2 : Nat) (l2 : List Int) (r : Bool) (w : World) (hr0_0 : Kd.C (Kd.slice 3 (Kd.int .i64)) w A0_0 l0_0.length l0_0) (hc0_0 : l0_0.length ≤ c0_0) (hr2 : Kd.C (Kd.int .i64) w A2 l2.length l2) (hc2 : l2.length ≤ c2) (h : yq1.f k l0_0 a1 l2 = some r) :
  Calls Try.prog 69 #[.agg #[.slice A0_0 l0_0.length c0_0], .int .i64 a1, .slice A2 l2.length c2] w fun e w' => e = .returned (.bool r) ∧ Below w.heap.size w w' := by
 have hu29 := Try.underlying29
 have HR0_0 := za0.mk hr0_0
 have HC0_0 := za0.mk hc0_0
 clear hr0_0 hc0_0
 have HR2 := za0.mk hr2
 have HC2 := za0.mk hc2
 clear hr2 hc2
 have HB := za0.mk (Below.refl w.heap.size w)
 have H : ((yb1.f l0_0 (([a1] : List Int))).bind fun t200 => (if t200 = true then ((yg1.f k l0_0 l2).bind fun t201 => (if t201 = true then (if 0 ≤ a1 then (if a1 < (l2.length : Int) then (some ((rd l2 a1) == 0)) else (none)) else (none)) else (some false))) else (some false))) = some r := h
 clear h
 obtain ⟨y197, hy197⟩ : ∃ y_ : List Int, y_ = (([a1] : List Int)) := ⟨_, rfl⟩
 replace H : ((yb1.f l0_0 y197).bind fun t200 => (if t200 = true then ((yg1.f k l0_0 l2).bind fun t201 => (if t201 = true then (if 0 ≤ a1 then (if a1 < (l2.length : Int) then (some ((rd l2 a1) == 0)) else (none)) else (none)) else (some false))) else (some false))) = some r := by first | (rw [hy197]; with_reducible exact H) | (have H2_ := (Option.bind_some _ _).symm.trans H; rw [hy197]; with_reducible exact H2_) | (have H2_ := (Option.bind_some _ _).symm.trans H; with_reducible exact H2_) | with_reducible exact H | (rw [hy197]; exact H) | exact H
 have Ny197 := za0.mk hy197
 clear hy197
 replace H := Option.bind_eq_some_iff.mp H
 obtain ⟨t200, A40, H⟩ := H
 replace H : (if t200 = true then ((yg1.f k l0_0 l2).bind fun t201 => (if t201 = true then (if 0 ≤ a1 then (if a1 < (l2.length : Int) then (some ((rd l2 a1) == 0)) else (none)) else (none)) else (some false))) else (some false)) = some r := H
 have A4 := za0.mk A40
 clear A40
 by_cases c5 : t200 = true
 rotate_left
 ·replace c5 := Bool.eq_false_iff.mpr c5
  subst c5
  have H1 : (some false) = some r := by rw [if_neg (show ¬ (false = true) by decide)] at H; exact H
  clear H
  have H := H1
  clear H1
  obtain rfl := Option.some.inj H
  go_enter Try.func69, Try.ntmps69
  go_wp2_with (first | ((with_reducible refine zo0 (N := 3) rfl ?_); refine zp0 ?hg (N := 3) ?hd (cs := #[.slice A0_0 l0_0.length c0_0]) (t := 29) ?hr ?_; (case hd | hg => rfl); (case hr => go_simp <;> rfl); intro gb196 hg w26 hbox hb; have n0_ := za0.mk (zi0 (by repeat (first | exact HB.1 | apply zc0 | apply zb0 | apply zd0)) hb); have n1_ := za0.mk (hbox); have n2_ := za0.mk ((by rw [hg]; exact (zh0 (by repeat (first | exact HB.1 | apply zc0 | apply zb0 | apply zd0))) : w.heap.size ≤ gb196)); have n3_ := za0.mk ((by rw [hg]; exact (zh0 (by repeat (first | exact HB.1 | apply zc0 | apply zb0 | apply zd0))) : w.heap.size ≤ gb196)); clear HB; have HB := n0_; have BK196 := n1_; have GW196 := n2_; have GE196 := n3_; clear n0_ n1_ n2_ n3_; clear hb hbox hg; have hcz27_0 : w26.cell? ⟨gb196, 0, none⟩ = some (.slice A0_0 l0_0.length c0_0) := (zl0 BK196.1 0).trans rfl; have hfz27_0 := zk0 BK196.1 0) | ((with_reducible refine zo0 (N := 9) rfl ?_); refine Kd.R_lit (Kd.int .i64) _ 3 ?hg (N := 9) ?hd (xs := ([a1] : List Int)) (inner := [.int .i64 a1]) (ok := fun _ => True) (okp := fun _ => True) ?hr ?hp (fun _ hk => hk) trivial (Below.refl _ _) (Nat.le_refl _) (by simp) ?_; (case hd | hg => rfl); (case hr => go_simp <;> rfl); (case hp => exact (Reps.one (show Kd.M (Kd.int .i64) _ _ _ a1 [.int .i64 a1] from rfl) (Reps.none _ _))); intro v198 w28 ho29 hb hg_ hnew_; clear hg_ hnew_; (first | rw [← Ny197.1] at ho29 | (simp only [Int.reduceToNat] at ho29; rw [← Ny197.1] at ho29)); have n0_ := za0.mk (Kd.R_lower ho29 (zh0 (by repeat (first | exact HB.1 | apply zc0 | apply zb0 | apply zd0 | refine ze0 ?_ GE196.1)))); have n1_ := za0.mk (zm0 (g := gb196) (o := .cells #[.slice A0_0 l0_0.length c0_0] 29 (0, 0)) (by (with_reducible repeat (first | refine zg0 ?_ _ | refine zj0 ?_ | refine zf0 ?_ _)); exact BK196.1) hb); have n2_ := za0.mk (zi0 (by repeat (first | exact HB.1 | apply zc0 | apply zb0 | apply zd0 | refine ze0 ?_ GE196.1)) hb); clear BK196; clear HB; have HO199 := n0_; have BK196 := n1_; have HB := n2_; clear n0_ n1_ n2_; clear hb ho29; obtain ⟨Ao30, co30, eo30⟩ := Kd.R_slice HO199.1; subst eo30) | ((with_reducible refine zn0 (f := 32) rfl ?_); refine za1 (some 10) rfl rfl Try.func32 (by kernel_rfl) rfl #[.agg #[.slice A0_0 l0_0.length c0_0], .slice Ao30 y197.length co30] rfl (by (try simp only [List.map_toArray, List.map_cons, List.map_nil]); first | done | rfl | (simp only [List.length_drop, List.length_take]; rfl)) ?_; (with_reducible refine (yb1.calls _ _ l0_0 _ _ y197 false _ ?side1 ?side2 ?side3 ?side4 A4.1).mono ?_); (case side1 => repeat (first | exact (Kd.C_below HR0_0.1 HB.1) | with_reducible first | refine Kd.C_alloc ?_ _ | refine Kd.C_drewN ?_ _ | refine Kd.C_drew ?_)); (case side2 => exact HC0_0.1); (case side3 => repeat (first | exact (Kd.R_reads' HO199.1).2.2 | (with_reducible refine Kd.C_alloc ?_ _) | (with_reducible refine Kd.C_drewN ?_ _) | (with_reducible refine Kd.C_drew ?_))); (case side4 => exact (Kd.R_reads' HO199.1).2.1); rintro e w31 ⟨rfl, hb⟩; refine ⟨_, rfl, ?_⟩; have n0_ := za0.mk (Kd.R_below (by (with_reducible repeat (first | apply Kd.R_alloc | apply Kd.R_drewN | apply Kd.R_drew)); exact HO199.1) hb); have n1_ := za0.mk (zm0 (g := gb196) (o := .cells #[.slice A0_0 l0_0.length c0_0] 29 (0, 0)) (by (with_reducible repeat (first | refine zg0 ?_ _ | refine zj0 ?_ | refine zf0 ?_ _)); exact BK196.1) hb); have n2_ := za0.mk (zi0 (by repeat (first | exact HB.1 | apply zc0 | apply zb0 | apply zd0 | refine ze0 ?_ GE196.1)) hb); clear HO199; clear BK196; clear HB; have HO199 := n0_; have BK196 := n1_; have HB := n2_; clear n0_ n1_ n2_; (try clear hb); (try clear hb2); (try clear hk); (try clear hi)))
  go_ret
  exact ⟨by first | rfl | (simp [errW_none, errW_some] <;> rfl) | (simp [*, errW_none, errW_some] <;> rfl), by repeat (first | exact HB.1 | apply zc0 | apply zb0 | apply zd0 | refine ze0 ?_ GE196.1)⟩
 subst c5
 have H1 : ((yg1.f k l0_0 l2).bind fun t201 => (if t201 = true then (if 0 ≤ a1 then (if a1 < (l2.length : Int) then (some ((rd l2 a1) == 0)) else (none)) else (none)) else (some false))) = some r := by rw [if_pos rfl] at H; exact H
 clear H
 have H := H1
 clear H1
 replace H := Option.bind_eq_some_iff.mp H
 obtain ⟨t201, A60, H⟩ := H
 replace H : (if t201 = true then (if 0 ≤ a1 then (if a1 < (l2.length : Int) then (some ((rd l2 a1) == 0)) else (none)) else (none)) else (some false)) = some r := H
 have A6 := za0.mk A60
 clear A60
 by_cases c7 : t201 = true
 rotate_left
 ·replace c7 := Bool.eq_false_iff.mpr c7
  subst c7
  have H1 : (some false) = some r := by rw [if_neg (show ¬ (false = true) by decide)] at H; exact H
  clear H
  have H := H1
  clear H1
  obtain rfl := Option.some.inj H
  go_enter Try.func69, Try.ntmps69
  go_wp2_with (first | ((with_reducible refine zo0 (N := 3) rfl ?_); refine zp0 ?hg (N := 3) ?hd (cs := #[.slice A0_0 l0_0.length c0_0]) (t := 29) ?hr ?_; (case hd | hg => rfl); (case hr => go_simp <;> rfl); intro gb196 hg w18 hbox hb; have n0_ := za0.mk (zi0 (by repeat (first | exact HB.1 | apply zc0 | apply zb0 | apply zd0)) hb); have n1_ := za0.mk (hbox); have n2_ := za0.mk ((by rw [hg]; exact (zh0 (by repeat (first | exact HB.1 | apply zc0 | apply zb0 | apply zd0))) : w.heap.size ≤ gb196)); have n3_ := za0.mk ((by rw [hg]; exact (zh0 (by repeat (first | exact HB.1 | apply zc0 | apply zb0 | apply zd0))) : w.heap.size ≤ gb196)); clear HB; have HB := n0_; have BK196 := n1_; have GW196 := n2_; have GE196 := n3_; clear n0_ n1_ n2_ n3_; clear hb hbox hg; have hcz19_0 : w18.cell? ⟨gb196, 0, none⟩ = some (.slice A0_0 l0_0.length c0_0) := (zl0 BK196.1 0).trans rfl; have hfz19_0 := zk0 BK196.1 0) | ((with_reducible refine zo0 (N := 9) rfl ?_); refine Kd.R_lit (Kd.int .i64) _ 3 ?hg (N := 9) ?hd (xs := ([a1] : List Int)) (inner := [.int .i64 a1]) (ok := fun _ => True) (okp := fun _ => True) ?hr ?hp (fun _ hk => hk) trivial (Below.refl _ _) (Nat.le_refl _) (by simp) ?_; (case hd | hg => rfl); (case hr => go_simp <;> rfl); (case hp => exact (Reps.one (show Kd.M (Kd.int .i64) _ _ _ a1 [.int .i64 a1] from rfl) (Reps.none _ _))); intro v198 w20 ho21 hb hg_ hnew_; clear hg_ hnew_; (first | rw [← Ny197.1] at ho21 | (simp only [Int.reduceToNat] at ho21; rw [← Ny197.1] at ho21)); have n0_ := za0.mk (Kd.R_lower ho21 (zh0 (by repeat (first | exact HB.1 | apply zc0 | apply zb0 | apply zd0 | refine ze0 ?_ GE196.1)))); have n1_ := za0.mk (zm0 (g := gb196) (o := .cells #[.slice A0_0 l0_0.length c0_0] 29 (0, 0)) (by (with_reducible repeat (first | refine zg0 ?_ _ | refine zj0 ?_ | refine zf0 ?_ _)); exact BK196.1) hb); have n2_ := za0.mk (zi0 (by repeat (first | exact HB.1 | apply zc0 | apply zb0 | apply zd0 | refine ze0 ?_ GE196.1)) hb); clear BK196; clear HB; have HO199 := n0_; have BK196 := n1_; have HB := n2_; clear n0_ n1_ n2_; clear hb ho21; obtain ⟨Ao22, co22, eo22⟩ := Kd.R_slice HO199.1; subst eo22) | ((with_reducible refine zn0 (f := 32) rfl ?_); refine za1 (some 10) rfl rfl Try.func32 (by kernel_rfl) rfl #[.agg #[.slice A0_0 l0_0.length c0_0], .slice Ao22 y197.length co22] rfl (by (try simp only [List.map_toArray, List.map_cons, List.map_nil]); first | done | rfl | (simp only [List.length_drop, List.length_take]; rfl)) ?_; (with_reducible refine (yb1.calls _ _ l0_0 _ _ y197 true _ ?side1 ?side2 ?side3 ?side4 A4.1).mono ?_); (case side1 => repeat (first | exact (Kd.C_below HR0_0.1 HB.1) | with_reducible first | refine Kd.C_alloc ?_ _ | refine Kd.C_drewN ?_ _ | refine Kd.C_drew ?_)); (case side2 => exact HC0_0.1); (case side3 => repeat (first | exact (Kd.R_reads' HO199.1).2.2 | (with_reducible refine Kd.C_alloc ?_ _) | (with_reducible refine Kd.C_drewN ?_ _) | (with_reducible refine Kd.C_drew ?_))); (case side4 => exact (Kd.R_reads' HO199.1).2.1); rintro e w23 ⟨rfl, hb⟩; refine ⟨_, rfl, ?_⟩; have n0_ := za0.mk (Kd.R_below (by (with_reducible repeat (first | apply Kd.R_alloc | apply Kd.R_drewN | apply Kd.R_drew)); exact HO199.1) hb); have n1_ := za0.mk (zm0 (g := gb196) (o := .cells #[.slice A0_0 l0_0.length c0_0] 29 (0, 0)) (by (with_reducible repeat (first | refine zg0 ?_ _ | refine zj0 ?_ | refine zf0 ?_ _)); exact BK196.1) hb); have n2_ := za0.mk (zi0 (by repeat (first | exact HB.1 | apply zc0 | apply zb0 | apply zd0 | refine ze0 ?_ GE196.1)) hb); clear HO199; clear BK196; clear HB; have HO199 := n0_; have BK196 := n1_; have HB := n2_; clear n0_ n1_ n2_; (try clear hb); (try clear hb2); (try clear hk); (try clear hi); have hcz24_0 : w23.cell? ⟨gb196, 0, none⟩ = some (.slice A0_0 l0_0.length c0_0) := (zl0 BK196.1 0).trans rfl; have hfz24_0 := zk0 BK196.1 0) | (go_at_call 81; (with_reducible refine (yg1.calls k _ _ l0_0 _ _ l2 false _ ?side1 ?side2 ?side3 ?side4 A6.1).mono ?_); (case side1 => repeat (first | exact (Kd.C_below HR0_0.1 HB.1) | with_reducible first | refine Kd.C_alloc ?_ _ | refine Kd.C_drewN ?_ _ | refine Kd.C_drew ?_)); (case side2 => exact HC0_0.1); (case side3 => repeat (first | exact (Kd.C_below HR2.1 HB.1) | with_reducible first | refine Kd.C_alloc ?_ _ | refine Kd.C_drewN ?_ _ | refine Kd.C_drew ?_)); (case side4 => exact HC2.1); rintro e w25 ⟨rfl, hb⟩; have n0_ := za0.mk (Kd.R_below (by (with_reducible repeat (first | apply Kd.R_alloc | apply Kd.R_drewN | apply Kd.R_drew)); exact HO199.1) hb); have n1_ := za0.mk (zm0 (g := gb196) (o := .cells #[.slice A0_0 l0_0.length c0_0] 29 (0, 0)) (by (with_reducible repeat (first | refine zg0 ?_ _ | refine zj0 ?_ | refine zf0 ?_ _)); exact BK196.1) hb); have n2_ := za0.mk (zi0 (by repeat (first | exact HB.1 | apply zc0 | apply zb0 | apply zd0 | refine ze0 ?_ GE196.1)) hb); clear HO199; clear BK196; clear HB; have HO199 := n0_; have BK196 := n1_; have HB := n2_; clear n0_ n1_ n2_; (try clear hb); (try clear hb2); (try clear hk); (try clear hi)))
  go_ret
  exact ⟨by first | rfl | (simp [errW_none, errW_some] <;> rfl) | (simp [*, errW_none, errW_some] <;> rfl), by repeat (first | exact HB.1 | apply zc0 | apply zb0 | apply zd0 | refine ze0 ?_ GE196.1)⟩
 subst c7
 have H1 : (if 0 ≤ a1 then (if a1 < (l2.length : Int) then (some ((rd l2 a1) == 0)) else (none)) else (none)) = some r := by rw [if_pos rfl] at H; exact H
 clear H
 have H := H1
 clear H1
 by_cases c8 : 0 ≤ a1
 rotate_left
 ·rw [if_neg c8] at H
  exact absurd H (by simp)
 rw [if_pos c8] at H
 have c8b0 : decide (0 ≤ a1) = true := decide_eq_true c8
 clear c8
 by_cases c9 : a1 < (l2.length : Int)
 rotate_left
 ·rw [if_neg c9] at H
  exact absurd H (by simp)
 rw [if_pos c9] at H
 have c9b0 : decide (a1 < (l2.length : Int)) = true := decide_eq_true c9
 clear c9
 obtain rfl := Option.some.inj H
 go_enter Try.func69, Try.ntmps69
 go_wp2_with (first | ((with_reducible refine zo0 (N := 3) rfl ?_); refine zp0 ?hg (N := 3) ?hd (cs := #[.slice A0_0 l0_0.length c0_0]) (t := 29) ?hr ?_; (case hd | hg => rfl); (case hr => go_simp <;> rfl); intro gb196 hg w10 hbox hb; have n0_ := za0.mk (zi0 (by repeat (first | exact HB.1 | apply zc0 | apply zb0 | apply zd0)) hb); have n1_ := za0.mk (hbox); have n2_ := za0.mk ((by rw [hg]; exact (zh0 (by repeat (first | exact HB.1 | apply zc0 | apply zb0 | apply zd0))) : w.heap.size ≤ gb196)); have n3_ := za0.mk ((by rw [hg]; exact (zh0 (by repeat (first | exact HB.1 | apply zc0 | apply zb0 | apply zd0))) : w.heap.size ≤ gb196)); clear HB; have HB := n0_; have BK196 := n1_; have GW196 := n2_; have GE196 := n3_; clear n0_ n1_ n2_ n3_; clear hb hbox hg; have hcz11_0 : w10.cell? ⟨gb196, 0, none⟩ = some (.slice A0_0 l0_0.length c0_0) := (zl0 BK196.1 0).trans rfl; have hfz11_0 := zk0 BK196.1 0) | ((with_reducible refine zo0 (N := 9) rfl ?_); refine Kd.R_lit (Kd.int .i64) _ 3 ?hg (N := 9) ?hd (xs := ([a1] : List Int)) (inner := [.int .i64 a1]) (ok := fun _ => True) (okp := fun _ => True) ?hr ?hp (fun _ hk => hk) trivial (Below.refl _ _) (Nat.le_refl _) (by simp) ?_; (case hd | hg => rfl); (case hr => go_simp <;> rfl); (case hp => exact (Reps.one (show Kd.M (Kd.int .i64) _ _ _ a1 [.int .i64 a1] from rfl) (Reps.none _ _))); intro v198 w12 ho13 hb hg_ hnew_; clear hg_ hnew_; (first | rw [← Ny197.1] at ho13 | (simp only [Int.reduceToNat] at ho13; rw [← Ny197.1] at ho13)); have n0_ := za0.mk (Kd.R_lower ho13 (zh0 (by repeat (first | exact HB.1 | apply zc0 | apply zb0 | apply zd0 | refine ze0 ?_ GE196.1)))); have n1_ := za0.mk (zm0 (g := gb196) (o := .cells #[.slice A0_0 l0_0.length c0_0] 29 (0, 0)) (by (with_reducible repeat (first | refine zg0 ?_ _ | refine zj0 ?_ | refine zf0 ?_ _)); exact BK196.1) hb); have n2_ := za0.mk (zi0 (by repeat (first | exact HB.1 | apply zc0 | apply zb0 | apply zd0 | refine ze0 ?_ GE196.1)) hb); clear BK196; clear HB; have HO199 := n0_; have BK196 := n1_; have HB := n2_; clear n0_ n1_ n2_; clear hb ho13; obtain ⟨Ao14, co14, eo14⟩ := Kd.R_slice HO199.1; subst eo14) | ((with_reducible refine zn0 (f := 32) rfl ?_); refine za1 (some 10) rfl rfl Try.func32 (by kernel_rfl) rfl #[.agg #[.slice A0_0 l0_0.length c0_0], .slice Ao14 y197.length co14] rfl (by (try simp only [List.map_toArray, List.map_cons, List.map_nil]); first | done | rfl | (simp only [List.length_drop, List.length_take]; rfl)) ?_; (with_reducible refine (yb1.calls _ _ l0_0 _ _ y197 true _ ?side1 ?side2 ?side3 ?side4 A4.1).mono ?_); (case side1 => repeat (first | exact (Kd.C_below HR0_0.1 HB.1) | with_reducible first | refine Kd.C_alloc ?_ _ | refine Kd.C_drewN ?_ _ | refine Kd.C_drew ?_)); (case side2 => exact HC0_0.1); (case side3 => repeat (first | exact (Kd.R_reads' HO199.1).2.2 | (with_reducible refine Kd.C_alloc ?_ _) | (with_reducible refine Kd.C_drewN ?_ _) | (with_reducible refine Kd.C_drew ?_))); (case side4 => exact (Kd.R_reads' HO199.1).2.1); rintro e w15 ⟨rfl, hb⟩; refine ⟨_, rfl, ?_⟩; have n0_ := za0.mk (Kd.R_below (by (with_reducible repeat (first | apply Kd.R_alloc | apply Kd.R_drewN | apply Kd.R_drew)); exact HO199.1) hb); have n1_ := za0.mk (zm0 (g := gb196) (o := .cells #[.slice A0_0 l0_0.length c0_0] 29 (0, 0)) (by (with_reducible repeat (first | refine zg0 ?_ _ | refine zj0 ?_ | refine zf0 ?_ _)); exact BK196.1) hb); have n2_ := za0.mk (zi0 (by repeat (first | exact HB.1 | apply zc0 | apply zb0 | apply zd0 | refine ze0 ?_ GE196.1)) hb); clear HO199; clear BK196; clear HB; have HO199 := n0_; have BK196 := n1_; have HB := n2_; clear n0_ n1_ n2_; (try clear hb); (try clear hb2); (try clear hk); (try clear hi); have hcz16_0 : w15.cell? ⟨gb196, 0, none⟩ = some (.slice A0_0 l0_0.length c0_0) := (zl0 BK196.1 0).trans rfl; have hfz16_0 := zk0 BK196.1 0) | (go_at_call 81; (with_reducible refine (yg1.calls k _ _ l0_0 _ _ l2 true _ ?side1 ?side2 ?side3 ?side4 A6.1).mono ?_); (case side1 => repeat (first | exact (Kd.C_below HR0_0.1 HB.1) | with_reducible first | refine Kd.C_alloc ?_ _ | refine Kd.C_drewN ?_ _ | refine Kd.C_drew ?_)); (case side2 => exact HC0_0.1); (case side3 => repeat (first | exact (Kd.C_below HR2.1 HB.1) | with_reducible first | refine Kd.C_alloc ?_ _ | refine Kd.C_drewN ?_ _ | refine Kd.C_drew ?_)); (case side4 => exact HC2.1); rintro e w17 ⟨rfl, hb⟩; have n0_ := za0.mk (Kd.R_below (by (with_reducible repeat (first | apply Kd.R_alloc | apply Kd.R_drewN | apply Kd.R_drew)); exact HO199.1) hb); have n1_ := za0.mk (zm0 (g := gb196) (o := .cells #[.slice A0_0 l0_0.length c0_0] 29 (0, 0)) (by (with_reducible repeat (first | refine zg0 ?_ _ | refine zj0 ?_ | refine zf0 ?_ _)); exact BK196.1) hb); have n2_ := za0.mk (zi0 (by repeat (first | exact HB.1 | apply zc0 | apply zb0 | apply zd0 | refine ze0 ?_ GE196.1)) hb); clear HO199; clear BK196; clear HB; have HO199 := n0_; have BK196 := n1_; have HB := n2_; clear n0_ n1_ n2_; (try clear hb); (try clear hb2); (try clear hk); (try clear hi); have p202 : 0 ≤ (a1 : Int) := of_decide_eq_true (by assumption); have q202 : a1 < (l2.length : Int) := of_decide_eq_true (by assumption); obtain ⟨ad202, e202, hx202_0⟩ := Kd.at_int HR2.1 a1 p202 q202; cases e202; replace hx202_0 := (HB.1.cell (World.block_lt_of_cell? w _ hx202_0)).trans hx202_0; replace p202 := eq_true p202; replace q202 := eq_true q202))
 go_ret
 exact ⟨by first | rfl | (simp [errW_none, errW_some] <;> rfl) | (simp [*, errW_none, errW_some] <;> rfl), by repeat (first | exact HB.1 | apply zc0 | apply zb0 | apply zd0 | refine ze0 ?_ GE196.1)⟩
def yc2.f (l0_0 : List (List Int)) (l1 : List Int) (a2 : Int) : Option (Int) := if 0 ≤ a2 then (if a2 < (l0_0.length : Int) then (if ((rd_L1 l0_0 a2).length : Int) = 0 then (some (-1)) else (if a2 < (l1.length : Int) then (if 0 ≤ (rd l1 a2) then (if (rd l1 a2) < ((rd_L1 l0_0 a2).length : Int) then (some (rd (rd_L1 l0_0 a2) (rd l1 a2))) else (none)) else (none)) else (none))) else (none)) else (none)
theorem yc2.calls (A0_0 : Option Addr) (c0_0 : Nat) (l0_0 : List (List Int)) (A1 : Option Addr) (c1 : Nat) (l1 : List Int) (a2 : Int) (r : Int) (w : World) (hr0_0 : Kd.C (Kd.slice 3 (Kd.int .i64)) w A0_0 l0_0.length l0_0) (hc0_0 : l0_0.length ≤ c0_0) (hr1 : Kd.C (Kd.int .i64) w A1 l1.length l1) (hc1 : l1.length ≤ c1) (h : yc2.f l0_0 l1 a2 = some r) :
  Calls Try.prog 87 #[.agg #[.slice A0_0 l0_0.length c0_0], .slice A1 l1.length c1, .int .i64 a2] w fun e w' => e = .returned (.int .i64 r) ∧ Below w.heap.size w w' := by
 have hu29 := Try.underlying29
 have HR0_0 := za0.mk hr0_0
 have HC0_0 := za0.mk hc0_0
 clear hr0_0 hc0_0
 have HR1 := za0.mk hr1
 have HC1 := za0.mk hc1
 clear hr1 hc1
 have HB := za0.mk (Below.refl w.heap.size w)
 have H : (if 0 ≤ a2 then (if a2 < (l0_0.length : Int) then (if ((rd_L1 l0_0 a2).length : Int) = 0 then (some (-1)) else (if a2 < (l1.length : Int) then (if 0 ≤ (rd l1 a2) then (if (rd l1 a2) < ((rd_L1 l0_0 a2).length : Int) then (some (rd (rd_L1 l0_0 a2) (rd l1 a2))) else (none)) else (none)) else (none))) else (none)) else (none)) = some r := h
 clear h
 by_cases c4 : 0 ≤ a2
 rotate_left
 ·rw [if_neg c4] at H
  exact absurd H (by simp)
 rw [if_pos c4] at H
 have c4b0 : decide (0 ≤ a2) = true := decide_eq_true c4
 clear c4
 by_cases c5 : a2 < (l0_0.length : Int)
 rotate_left
 ·rw [if_neg c5] at H
  exact absurd H (by simp)
 rw [if_pos c5] at H
 have c5b0 : decide (a2 < (l0_0.length : Int)) = true := decide_eq_true c5
 clear c5
 by_cases c6 : ((rd_L1 l0_0 a2).length : Int) = 0
 ·rw [if_pos c6] at H
  have c6b0 : (((rd_L1 l0_0 a2).length : Int) == 0) = true := beq_iff_eq.mpr c6
  have c6b1 : (((rd_L1 l0_0 a2).length : Int) != 0) = false := bne_eq_false_iff_eq.mpr c6
  clear c6
  obtain rfl := Option.some.inj H
  go_enter Try.func87, Try.ntmps87
  go_wp2_with (first | ((with_reducible refine zo0 (N := 3) rfl ?_); refine zp0 ?hg (N := 3) ?hd (cs := #[.slice A0_0 l0_0.length c0_0]) (t := 29) ?hr ?_; (case hd | hg => rfl); (case hr => go_simp <;> rfl); intro gb203 hg w7 hbox hb; have n0_ := za0.mk (zi0 (by repeat (first | exact HB.1 | apply zc0 | apply zb0 | apply zd0)) hb); have n1_ := za0.mk (hbox); have n2_ := za0.mk ((by rw [hg]; exact (zh0 (by repeat (first | exact HB.1 | apply zc0 | apply zb0 | apply zd0))) : w.heap.size ≤ gb203)); have n3_ := za0.mk ((by rw [hg]; exact (zh0 (by repeat (first | exact HB.1 | apply zc0 | apply zb0 | apply zd0))) : w.heap.size ≤ gb203)); clear HB; have HB := n0_; have BK203 := n1_; have GW203 := n2_; have GE203 := n3_; clear n0_ n1_ n2_ n3_; clear hb hbox hg; have hcz8_0 : w7.cell? ⟨gb203, 0, none⟩ = some (.slice A0_0 l0_0.length c0_0) := (zl0 BK203.1 0).trans rfl; have hfz8_0 := zk0 BK203.1 0; have p204 : 0 ≤ (a2 : Int) := of_decide_eq_true (by assumption); have q204 : a2 < (l0_0.length : Int) := of_decide_eq_true (by assumption); obtain ⟨ad204, A204_0, c204_0, e204, hx204_0, hl204_0, hi204_0⟩ := at_L1 HR0_0.1 a2 p204 q204; cases e204; replace hx204_0 := (HB.1.cell (World.block_lt_of_cell? w _ hx204_0)).trans hx204_0; have HR204_0 := za0.mk hi204_0; have HC204_0 := za0.mk hl204_0; clear hi204_0 hl204_0; replace p204 := eq_true p204; replace q204 := eq_true q204))
  repeat (go_quiet (first | ((with_reducible refine zo0 (N := 3) rfl ?_); refine zp0 ?hg (N := 3) ?hd (cs := #[.slice A0_0 l0_0.length c0_0]) (t := 29) ?hr ?_; (case hd | hg => rfl); (case hr => go_simp <;> rfl); intro gb203 hg w7 hbox hb; have n0_ := za0.mk (zi0 (by repeat (first | exact HB.1 | apply zc0 | apply zb0 | apply zd0)) hb); have n1_ := za0.mk (hbox); have n2_ := za0.mk ((by rw [hg]; exact (zh0 (by repeat (first | exact HB.1 | apply zc0 | apply zb0 | apply zd0))) : w.heap.size ≤ gb203)); have n3_ := za0.mk ((by rw [hg]; exact (zh0 (by repeat (first | exact HB.1 | apply zc0 | apply zb0 | apply zd0))) : w.heap.size ≤ gb203)); clear HB; have HB := n0_; have BK203 := n1_; have GW203 := n2_; have GE203 := n3_; clear n0_ n1_ n2_ n3_; clear hb hbox hg; have hcz8_0 : w7.cell? ⟨gb203, 0, none⟩ = some (.slice A0_0 l0_0.length c0_0) := (zl0 BK203.1 0).trans rfl; have hfz8_0 := zk0 BK203.1 0; have p204 : 0 ≤ (a2 : Int) := of_decide_eq_true (by assumption); have q204 : a2 < (l0_0.length : Int) := of_decide_eq_true (by assumption); obtain ⟨ad204, A204_0, c204_0, e204, hx204_0, hl204_0, hi204_0⟩ := at_L1 HR0_0.1 a2 p204 q204; cases e204; replace hx204_0 := (HB.1.cell (World.block_lt_of_cell? w _ hx204_0)).trans hx204_0; have HR204_0 := za0.mk hi204_0; have HC204_0 := za0.mk hl204_0; clear hi204_0 hl204_0; replace p204 := eq_true p204; replace q204 := eq_true q204)); try go_wp2_with (first | ((with_reducible refine zo0 (N := 3) rfl ?_); refine zp0 ?hg (N := 3) ?hd (cs := #[.slice A0_0 l0_0.length c0_0]) (t := 29) ?hr ?_; (case hd | hg => rfl); (case hr => go_simp <;> rfl); intro gb203 hg w7 hbox hb; have n0_ := za0.mk (zi0 (by repeat (first | exact HB.1 | apply zc0 | apply zb0 | apply zd0)) hb); have n1_ := za0.mk (hbox); have n2_ := za0.mk ((by rw [hg]; exact (zh0 (by repeat (first | exact HB.1 | apply zc0 | apply zb0 | apply zd0))) : w.heap.size ≤ gb203)); have n3_ := za0.mk ((by rw [hg]; exact (zh0 (by repeat (first | exact HB.1 | apply zc0 | apply zb0 | apply zd0))) : w.heap.size ≤ gb203)); clear HB; have HB := n0_; have BK203 := n1_; have GW203 := n2_; have GE203 := n3_; clear n0_ n1_ n2_ n3_; clear hb hbox hg; have hcz8_0 : w7.cell? ⟨gb203, 0, none⟩ = some (.slice A0_0 l0_0.length c0_0) := (zl0 BK203.1 0).trans rfl; have hfz8_0 := zk0 BK203.1 0; have p204 : 0 ≤ (a2 : Int) := of_decide_eq_true (by assumption); have q204 : a2 < (l0_0.length : Int) := of_decide_eq_true (by assumption); obtain ⟨ad204, A204_0, c204_0, e204, hx204_0, hl204_0, hi204_0⟩ := at_L1 HR0_0.1 a2 p204 q204; cases e204; replace hx204_0 := (HB.1.cell (World.block_lt_of_cell? w _ hx204_0)).trans hx204_0; have HR204_0 := za0.mk hi204_0; have HC204_0 := za0.mk hl204_0; clear hi204_0 hl204_0; replace p204 := eq_true p204; replace q204 := eq_true q204)))
  go_ret
  exact ⟨by first | rfl | (simp [errW_none, errW_some] <;> rfl) | (simp [*, errW_none, errW_some] <;> rfl), by repeat (first | exact HB.1 | apply zc0 | apply zb0 | apply zd0 | refine ze0 ?_ GE203.1)⟩
 rw [if_neg c6] at H
 have c6b0 : (((rd_L1 l0_0 a2).length : Int) == 0) = false := beq_eq_false_iff_ne.mpr c6
 have c6b1 : (((rd_L1 l0_0 a2).length : Int) != 0) = true := bne_iff_ne.mpr c6
 have c6b2 : ¬ ((rd_L1 l0_0 a2) = []) := fun h_ => c6 (by rw [h_]; rfl)
 by_cases c9 : a2 < (l1.length : Int)
 rotate_left
 ·rw [if_neg c9] at H
  exact absurd H (by simp)
 rw [if_pos c9] at H
 have c9b0 : decide (a2 < (l1.length : Int)) = true := decide_eq_true c9
 clear c9
 by_cases c10 : 0 ≤ (rd l1 a2)
 rotate_left
 ·rw [if_neg c10] at H
  exact absurd H (by simp)
 rw [if_pos c10] at H
 have c10b0 : decide (0 ≤ (rd l1 a2)) = true := decide_eq_true c10
 clear c10
 by_cases c11 : (rd l1 a2) < ((rd_L1 l0_0 a2).length : Int)
 rotate_left
 ·rw [if_neg c11] at H
  exact absurd H (by simp)
 rw [if_pos c11] at H
 have c11b0 : decide ((rd l1 a2) < ((rd_L1 l0_0 a2).length : Int)) = true := decide_eq_true c11
 clear c11
 obtain rfl := Option.some.inj H
 go_enter Try.func87, Try.ntmps87
 go_wp2_with (first | ((with_reducible refine zo0 (N := 3) rfl ?_); refine zp0 ?hg (N := 3) ?hd (cs := #[.slice A0_0 l0_0.length c0_0]) (t := 29) ?hr ?_; (case hd | hg => rfl); (case hr => go_simp <;> rfl); intro gb203 hg w12 hbox hb; have n0_ := za0.mk (zi0 (by repeat (first | exact HB.1 | apply zc0 | apply zb0 | apply zd0)) hb); have n1_ := za0.mk (hbox); have n2_ := za0.mk ((by rw [hg]; exact (zh0 (by repeat (first | exact HB.1 | apply zc0 | apply zb0 | apply zd0))) : w.heap.size ≤ gb203)); have n3_ := za0.mk ((by rw [hg]; exact (zh0 (by repeat (first | exact HB.1 | apply zc0 | apply zb0 | apply zd0))) : w.heap.size ≤ gb203)); clear HB; have HB := n0_; have BK203 := n1_; have GW203 := n2_; have GE203 := n3_; clear n0_ n1_ n2_ n3_; clear hb hbox hg; have hcz13_0 : w12.cell? ⟨gb203, 0, none⟩ = some (.slice A0_0 l0_0.length c0_0) := (zl0 BK203.1 0).trans rfl; have hfz13_0 := zk0 BK203.1 0; have p204 : 0 ≤ (a2 : Int) := of_decide_eq_true (by assumption); have q204 : a2 < (l0_0.length : Int) := of_decide_eq_true (by assumption); obtain ⟨ad204, A204_0, c204_0, e204, hx204_0, hl204_0, hi204_0⟩ := at_L1 HR0_0.1 a2 p204 q204; cases e204; replace hx204_0 := (HB.1.cell (World.block_lt_of_cell? w _ hx204_0)).trans hx204_0; have HR204_0 := za0.mk hi204_0; have HC204_0 := za0.mk hl204_0; clear hi204_0 hl204_0; replace p204 := eq_true p204; replace q204 := eq_true q204; have p205 : 0 ≤ (a2 : Int) := of_decide_eq_true (by assumption); have q205 : a2 < (l0_0.length : Int) := of_decide_eq_true (by assumption); obtain ⟨ad205, A205_0, c205_0, e205, hx205_0, hl205_0, hi205_0⟩ := at_L1 HR0_0.1 a2 p205 q205; obtain rfl : ad204 = ad205 := (by injection e205); replace hx205_0 := (HB.1.cell (World.block_lt_of_cell? w _ hx205_0)).trans hx205_0; have HR205_0 := za0.mk hi205_0; have HC205_0 := za0.mk hl205_0; clear hi205_0 hl205_0; replace p205 := eq_true p205; replace q205 := eq_true q205; have ea_ := Option.some.inj (hx204_0.symm.trans hx205_0); injection ea_ with ea_ en_ ec_; subst ea_; subst ec_; clear en_; have p206 : 0 ≤ (a2 : Int) := of_decide_eq_true (by assumption); have q206 : a2 < (l1.length : Int) := of_decide_eq_true (by assumption); obtain ⟨ad206, e206, hx206_0⟩ := Kd.at_int HR1.1 a2 p206 q206; cases e206; replace hx206_0 := (HB.1.cell (World.block_lt_of_cell? w _ hx206_0)).trans hx206_0; replace p206 := eq_true p206; replace q206 := eq_true q206; have p207 : 0 ≤ ((rd l1 a2) : Int) := of_decide_eq_true (by assumption); have q207 : (rd l1 a2) < ((rd_L1 l0_0 a2).length : Int) := of_decide_eq_true (by assumption); obtain ⟨ad207, e207, hx207_0⟩ := Kd.at_int HR205_0.1 (rd l1 a2) p207 q207; cases e207; replace hx207_0 := (HB.1.cell (World.block_lt_of_cell? w _ hx207_0)).trans hx207_0; replace p207 := eq_true p207; replace q207 := eq_true q207))
 repeat (go_quiet (first | ((with_reducible refine zo0 (N := 3) rfl ?_); refine zp0 ?hg (N := 3) ?hd (cs := #[.slice A0_0 l0_0.length c0_0]) (t := 29) ?hr ?_; (case hd | hg => rfl); (case hr => go_simp <;> rfl); intro gb203 hg w12 hbox hb; have n0_ := za0.mk (zi0 (by repeat (first | exact HB.1 | apply zc0 | apply zb0 | apply zd0)) hb); have n1_ := za0.mk (hbox); have n2_ := za0.mk ((by rw [hg]; exact (zh0 (by repeat (first | exact HB.1 | apply zc0 | apply zb0 | apply zd0))) : w.heap.size ≤ gb203)); have n3_ := za0.mk ((by rw [hg]; exact (zh0 (by repeat (first | exact HB.1 | apply zc0 | apply zb0 | apply zd0))) : w.heap.size ≤ gb203)); clear HB; have HB := n0_; have BK203 := n1_; have GW203 := n2_; have GE203 := n3_; clear n0_ n1_ n2_ n3_; clear hb hbox hg; have hcz13_0 : w12.cell? ⟨gb203, 0, none⟩ = some (.slice A0_0 l0_0.length c0_0) := (zl0 BK203.1 0).trans rfl; have hfz13_0 := zk0 BK203.1 0; have p204 : 0 ≤ (a2 : Int) := of_decide_eq_true (by assumption); have q204 : a2 < (l0_0.length : Int) := of_decide_eq_true (by assumption); obtain ⟨ad204, A204_0, c204_0, e204, hx204_0, hl204_0, hi204_0⟩ := at_L1 HR0_0.1 a2 p204 q204; cases e204; replace hx204_0 := (HB.1.cell (World.block_lt_of_cell? w _ hx204_0)).trans hx204_0; have HR204_0 := za0.mk hi204_0; have HC204_0 := za0.mk hl204_0; clear hi204_0 hl204_0; replace p204 := eq_true p204; replace q204 := eq_true q204; have p205 : 0 ≤ (a2 : Int) := of_decide_eq_true (by assumption); have q205 : a2 < (l0_0.length : Int) := of_decide_eq_true (by assumption); obtain ⟨ad205, A205_0, c205_0, e205, hx205_0, hl205_0, hi205_0⟩ := at_L1 HR0_0.1 a2 p205 q205; obtain rfl : ad204 = ad205 := (by injection e205); replace hx205_0 := (HB.1.cell (World.block_lt_of_cell? w _ hx205_0)).trans hx205_0; have HR205_0 := za0.mk hi205_0; have HC205_0 := za0.mk hl205_0; clear hi205_0 hl205_0; replace p205 := eq_true p205; replace q205 := eq_true q205; have ea_ := Option.some.inj (hx204_0.symm.trans hx205_0); injection ea_ with ea_ en_ ec_; subst ea_; subst ec_; clear en_; have p206 : 0 ≤ (a2 : Int) := of_decide_eq_true (by assumption); have q206 : a2 < (l1.length : Int) := of_decide_eq_true (by assumption); obtain ⟨ad206, e206, hx206_0⟩ := Kd.at_int HR1.1 a2 p206 q206; cases e206; replace hx206_0 := (HB.1.cell (World.block_lt_of_cell? w _ hx206_0)).trans hx206_0; replace p206 := eq_true p206; replace q206 := eq_true q206; have p207 : 0 ≤ ((rd l1 a2) : Int) := of_decide_eq_true (by assumption); have q207 : (rd l1 a2) < ((rd_L1 l0_0 a2).length : Int) := of_decide_eq_true (by assumption); obtain ⟨ad207, e207, hx207_0⟩ := Kd.at_int HR205_0.1 (rd l1 a2) p207 q207; cases e207; replace hx207_0 := (HB.1.cell (World.block_lt_of_cell? w _ hx207_0)).trans hx207_0; replace p207 := eq_true p207; replace q207 := eq_true q207)); try go_wp2_with (first | ((with_reducible refine zo0 (N := 3) rfl ?_); refine zp0 ?hg (N := 3) ?hd (cs := #[.slice A0_0 l0_0.length c0_0]) (t := 29) ?hr ?_; (case hd | hg => rfl); (case hr => go_simp <;> rfl); intro gb203 hg w12 hbox hb; have n0_ := za0.mk (zi0 (by repeat (first | exact HB.1 | apply zc0 | apply zb0 | apply zd0)) hb); have n1_ := za0.mk (hbox); have n2_ := za0.mk ((by rw [hg]; exact (zh0 (by repeat (first | exact HB.1 | apply zc0 | apply zb0 | apply zd0))) : w.heap.size ≤ gb203)); have n3_ := za0.mk ((by rw [hg]; exact (zh0 (by repeat (first | exact HB.1 | apply zc0 | apply zb0 | apply zd0))) : w.heap.size ≤ gb203)); clear HB; have HB := n0_; have BK203 := n1_; have GW203 := n2_; have GE203 := n3_; clear n0_ n1_ n2_ n3_; clear hb hbox hg; have hcz13_0 : w12.cell? ⟨gb203, 0, none⟩ = some (.slice A0_0 l0_0.length c0_0) := (zl0 BK203.1 0).trans rfl; have hfz13_0 := zk0 BK203.1 0; have p204 : 0 ≤ (a2 : Int) := of_decide_eq_true (by assumption); have q204 : a2 < (l0_0.length : Int) := of_decide_eq_true (by assumption); obtain ⟨ad204, A204_0, c204_0, e204, hx204_0, hl204_0, hi204_0⟩ := at_L1 HR0_0.1 a2 p204 q204; cases e204; replace hx204_0 := (HB.1.cell (World.block_lt_of_cell? w _ hx204_0)).trans hx204_0; have HR204_0 := za0.mk hi204_0; have HC204_0 := za0.mk hl204_0; clear hi204_0 hl204_0; replace p204 := eq_true p204; replace q204 := eq_true q204; have p205 : 0 ≤ (a2 : Int) := of_decide_eq_true (by assumption); have q205 : a2 < (l0_0.length : Int) := of_decide_eq_true (by assumption); obtain ⟨ad205, A205_0, c205_0, e205, hx205_0, hl205_0, hi205_0⟩ := at_L1 HR0_0.1 a2 p205 q205; obtain rfl : ad204 = ad205 := (by injection e205); replace hx205_0 := (HB.1.cell (World.block_lt_of_cell? w _ hx205_0)).trans hx205_0; have HR205_0 := za0.mk hi205_0; have HC205_0 := za0.mk hl205_0; clear hi205_0 hl205_0; replace p205 := eq_true p205; replace q205 := eq_true q205; have ea_ := Option.some.inj (hx204_0.symm.trans hx205_0); injection ea_ with ea_ en_ ec_; subst ea_; subst ec_; clear en_; have p206 : 0 ≤ (a2 : Int) := of_decide_eq_true (by assumption); have q206 : a2 < (l1.length : Int) := of_decide_eq_true (by assumption); obtain ⟨ad206, e206, hx206_0⟩ := Kd.at_int HR1.1 a2 p206 q206; cases e206; replace hx206_0 := (HB.1.cell (World.block_lt_of_cell? w _ hx206_0)).trans hx206_0; replace p206 := eq_true p206; replace q206 := eq_true q206; have p207 : 0 ≤ ((rd l1 a2) : Int) := of_decide_eq_true (by assumption); have q207 : (rd l1 a2) < ((rd_L1 l0_0 a2).length : Int) := of_decide_eq_true (by assumption); obtain ⟨ad207, e207, hx207_0⟩ := Kd.at_int HR205_0.1 (rd l1 a2) p207 q207; cases e207; replace hx207_0 := (HB.1.cell (World.block_lt_of_cell? w _ hx207_0)).trans hx207_0; replace p207 := eq_true p207; replace q207 := eq_true q207)))
 go_ret
 exact ⟨by first | rfl | (simp [errW_none, errW_some] <;> rfl) | (simp [*, errW_none, errW_some] <;> rfl), by repeat (first | exact HB.1 | apply zc0 | apply zb0 | apply zd0 | refine ze0 ?_ GE203.1)⟩
mutual
def yh0.l0 : Nat → Int → List Int → List Int → Int → Int → List (List Int) → Option (List Int × Bool)
 | 0, _, _, _, _, _, _ => none
 | k + 1, x1, x2, x8, x15, x16, x209000 => if x16 < x15 then (yh0.l1 k x1 x2 x8 0 x16 x15 x16 x209000) else (some (x8, true))
def yh0.l1 : Nat → Int → List Int → List Int → Int → Int → Int → Int → List (List Int) → Option (List Int × Bool)
 | 0, _, _, _, _, _, _, _, _ => none
 | k + 1, x1, x2, x8, x10, x11, x15, x16, x209000 => if x11 = x1 then (if x8.length < 17592186044416 then (yh0.l0 k x1 x2 (x8 ++ [x10]) x15 (wrap64 (x16 + 1)) x209000) else (none)) else ((yc2.f x209000 x2 x11).bind fun t215 => (if t215 < 0 then (some (([] : List Int), false)) else (if x10 > (x209000.length : Int) then (some (([] : List Int), false)) else (yh0.l1 k x1 x2 x8 (wrap64 (x10 + 1)) t215 x15 x16 x209000))))
end
def yh0.f (k : Nat) (l0_0 : List (List Int)) (a1 : Int) (l2 : List Int) : Option (List Int × Bool) := yh0.l0 k a1 l2 (([] : List Int)) (l0_0.length : Int) 0 l0_0
theorem yh0.mono_l : ∀ k, (∀ y0 y1 y2 y3 y4 y5, LeO (yh0.l0 k y0 y1 y2 y3 y4 y5) (yh0.l0 (k + 1) y0 y1 y2 y3 y4 y5)) ∧ (∀ y0 y1 y2 y3 y4 y5 y6 y7, LeO (yh0.l1 k y0 y1 y2 y3 y4 y5 y6 y7) (yh0.l1 (k + 1) y0 y1 y2 y3 y4 y5 y6 y7))
 | 0 => ⟨fun _ _ _ _ _ _ r h => by simp [yh0.l0] at h, fun _ _ _ _ _ _ _ _ r h => by simp [yh0.l1] at h⟩
 | k + 1 => by
  obtain ⟨ih0, ih1⟩ := yh0.mono_l k
  refine ⟨?_, ?_⟩
  ·intro y0 y1 y2 y3 y4 y5
   unfold yh0.l0
   repeat' (with_reducible first | exact ih0 _ _ _ _ _ _ | exact ih1 _ _ _ _ _ _ _ _ | exact LeO.refl _ | exact LeO.none _ | refine LeO.ite ?_ ?_ | refine LeO.bind ?_ (fun _ => ?_))
  ·intro y0 y1 y2 y3 y4 y5 y6 y7
   unfold yh0.l1
   repeat' (with_reducible first | exact ih0 _ _ _ _ _ _ | exact ih1 _ _ _ _ _ _ _ _ | exact LeO.refl _ | exact LeO.none _ | refine LeO.ite ?_ ?_ | refine LeO.bind ?_ (fun _ => ?_))
theorem yh0.mono : ∀ a0 a1 a2 k, LeO (yh0.f k a0 a1 a2) (yh0.f (k + 1) a0 a1 a2) := by
 intro a0 a1 a2 k
 obtain ⟨ih0, ih1⟩ := yh0.mono_l k
 unfold yh0.f
 repeat' (with_reducible first | exact ih0 _ _ _ _ _ _ | exact ih1 _ _ _ _ _ _ _ _ | exact LeO.refl _ | exact LeO.none _ | refine LeO.ite ?_ ?_ | refine LeO.bind ?_ (fun _ => ?_))
theorem yh0.calls (k : Nat) (A0_0 : Option Addr) (c0_0 : Nat) (l0_0 : List (List Int)) (a1 : Int) (A2 : Option Addr) (c2 : Nat) (l2 : List Int) (r1 : List Int) (r2 : Bool) (w : World) (hr0_0 : Kd.C (Kd.slice 3 (Kd.int .i64)) w A0_0 l0_0.length l0_0) (hc0_0 : l0_0.length ≤ c0_0) (hr2 : Kd.C (Kd.int .i64) w A2 l2.length l2) (hc2 : l2.length ≤ c2) (h : yh0.f k l0_0 a1 l2 = some (r1, r2)) :
  Calls Try.prog 82 #[.agg #[.slice A0_0 l0_0.length c0_0], .int .i64 a1, .slice A2 l2.length c2] w fun e w' => ∃ v0_ : Value, e = .returned (.tuple #[v0_, .bool r2]) ∧ Kd.R (Kd.int .i64) 3 w' w.heap.size (fun _ => True) v0_ r1 ∧ Below w.heap.size w w' := by
 have hu29 := Try.underlying29
 have HR0_0 := za0.mk hr0_0
 have HC0_0 := za0.mk hc0_0
 clear hr0_0 hc0_0
 have HR2 := za0.mk hr2
 have HC2 := za0.mk hc2
 clear hr2 hc2
 have HB := za0.mk (Below.refl w.heap.size w)
 have H : (yh0.l0 k a1 l2 (([] : List Int)) (l0_0.length : Int) 0 l0_0) = some (r1, r2) := h
 clear h
 obtain ⟨y209, hy209⟩ : ∃ y_ : List Int, y_ = (([] : List Int)) := ⟨_, rfl⟩
 replace H : (yh0.l0 k a1 l2 y209 (l0_0.length : Int) 0 l0_0) = some (r1, r2) := by first | (rw [hy209]; with_reducible exact H) | (have H2_ := (Option.bind_some _ _).symm.trans H; rw [hy209]; with_reducible exact H2_) | (have H2_ := (Option.bind_some _ _).symm.trans H; with_reducible exact H2_) | with_reducible exact H | (rw [hy209]; exact H) | exact H
 have Ny209 := za0.mk hy209
 clear hy209
 have H' := za0.mk H
 clear H
 go_enter Try.func82, Try.ntmps82
 go_wp2_with (first | ((with_reducible refine zo0 (N := 3) rfl ?_); (try (refine gate_guard (by rfl) ?_; dsimp only)); refine zp0 ?hg (N := 3) ?hd (cs := #[.slice A0_0 l0_0.length c0_0]) (t := 29) ?hr ?_; (case hd | hg => rfl); (case hr => go_simp <;> rfl); intro gb208 hg w4 hbox hb; have n0_ := za0.mk (zi0 (by repeat (first | exact HB.1 | apply zc0 | apply zb0 | apply zd0)) hb); have n1_ := za0.mk (hbox); have n2_ := za0.mk ((by rw [hg]; exact (zh0 (by repeat (first | exact HB.1 | apply zc0 | apply zb0 | apply zd0))) : w.heap.size ≤ gb208)); have n3_ := za0.mk ((by rw [hg]; exact (zh0 (by repeat (first | exact HB.1 | apply zc0 | apply zb0 | apply zd0))) : w.heap.size ≤ gb208)); clear HB; have HB := n0_; have BK208 := n1_; have GW208 := n2_; have GE208 := n3_; clear n0_ n1_ n2_ n3_; clear hb hbox hg) | ((with_reducible refine zo0 (N := 12) rfl ?_); (try (refine gate_guard (by rfl) ?_; dsimp only)); refine Kd.R_lit (Kd.int .i64) _ 3 ?hg (N := 12) ?hd (xs := ([] : List Int)) (inner := []) (ok := fun _ => True) (okp := fun _ => True) ?hr ?hp (fun _ hk => hk) trivial (Below.refl _ _) (Nat.le_refl _) (by simp) ?_; (case hd | hg => rfl); (case hr => go_simp <;> rfl); (case hp => exact (Reps.none _ _)); intro v210 w5 ho6 hb hg_ hnew_; clear hg_ hnew_; (first | rw [← Ny209.1] at ho6 | (simp only [Int.reduceToNat] at ho6; rw [← Ny209.1] at ho6)); have n0_ := za0.mk (Kd.R_lower ho6 (zh0 (by repeat (first | exact HB.1 | apply zc0 | apply zb0 | apply zd0 | refine ze0 ?_ GE208.1)))); have n1_ := za0.mk (zm0 (g := gb208) (o := .cells #[.slice A0_0 l0_0.length c0_0] 29 (0, 0)) (by (with_reducible repeat (first | refine zg0 ?_ _ | refine zj0 ?_ | refine zf0 ?_ _)); exact BK208.1) hb); have n2_ := za0.mk (zi0 (by repeat (first | exact HB.1 | apply zc0 | apply zb0 | apply zd0 | refine ze0 ?_ GE208.1)) hb); clear BK208; clear HB; have HO211 := n0_; have BK208 := n1_; have HB := n2_; clear n0_ n1_ n2_; clear hb ho6; have hcz7_0 : w5.cell? ⟨gb208, 0, none⟩ = some (.slice A0_0 l0_0.length c0_0) := (zl0 BK208.1 0).trans rfl; have hfz7_0 := zk0 BK208.1 0))
 go_loopg [8, 16] k (fun kq v8 v16 w' => ∃ (x8_1 : List Int) (x16_1 : Int), v16 = .int .i64 x16_1 ∧ za0 (yh0.l0 kq a1 l2 x8_1 (l0_0.length : Int) x16_1 l0_0 = some (r1, r2)) ∧ za0 (kq ≤ k) ∧ za0 (Kd.R (Kd.int .i64) 3 w' w.heap.size (fun _ => True) v8 x8_1) ∧ za0 (w'.heap[gb208]? = some (.cells #[(.slice A0_0 l0_0.length c0_0)] 29 (0, 0))) ∧ za0 (Below w.heap.size w w'))
 case atStart => exact ⟨(y209), (0), (by first | rfl | (simp; done) | (simp [*]; done)), H', ⟨Nat.le_refl _⟩, ⟨by (with_reducible repeat (first | apply Kd.R_alloc | apply Kd.R_drewN | apply Kd.R_drew)); exact HO211.1⟩, ⟨by (with_reducible repeat (first | refine zg0 ?_ _ | refine zj0 ?_ | refine zf0 ?_ _)); exact BK208.1⟩, ⟨by repeat (first | exact HB.1 | apply zc0 | apply zb0 | apply zd0 | refine ze0 ?_ GE208.1)⟩⟩
 case round =>
  clear H'
  try clear c2
  try clear p2
  try clear hcz7_0
  try clear hfz7_0
  obtain ⟨x8_1, x16_1, rfl, HA, HK1, HO_8, BK208, HB⟩ := hrel
  obtain _ | k1 := gk
  ·exact absurd HA.1 (by simp [yh0.l0])
  have H := HA.1
  clear HA
  simp only [yh0.l0] at H
  by_cases c8 : x16_1 < (l0_0.length : Int)
  rotate_left
  ·rw [if_neg c8] at H
   have c8b0 : decide (x16_1 < (l0_0.length : Int)) = false := decide_eq_false c8
   clear c8
   simp only [Option.some.injEq, Prod.mk.injEq] at H
   obtain ⟨rfl, rfl⟩ := H
   go_wp2
   go_ret2
   exact ⟨_, by first | rfl | (simp [errW_none, errW_some] <;> rfl) | (simp [*, errW_none, errW_some] <;> rfl), by (with_reducible repeat (first | apply Kd.R_alloc | apply Kd.R_drewN | apply Kd.R_drew)); exact HO_8.1, by repeat (first | exact HB.1 | apply zc0 | apply zb0 | apply zd0 | refine ze0 ?_ GE208.1)⟩
  rw [if_pos c8] at H
  have c8b0 : decide (x16_1 < (l0_0.length : Int)) = true := decide_eq_true c8
  clear c8
  have H' := za0.mk H
  clear H
  go_wp2
  go_loopg [10, 11] k1 (fun kq v10 v11 w' => ∃ (x10_2 : Int) (x11_2 : Int), v10 = .int .i64 x10_2 ∧ v11 = .int .i64 x11_2 ∧ za0 (yh0.l1 kq a1 l2 x8_1 x10_2 x11_2 (l0_0.length : Int) x16_1 l0_0 = some (r1, r2)) ∧ za0 (kq ≤ k1) ∧ za0 (Kd.R (Kd.int .i64) 3 w' w.heap.size (fun _ => True) u8 x8_1) ∧ za0 (w'.heap[gb208]? = some (.cells #[(.slice A0_0 l0_0.length c0_0)] 29 (0, 0))) ∧ za0 (Below w.heap.size w w'))
  case atStart => exact ⟨(0), (x16_1), (by first | rfl | (simp; done) | (simp [*]; done)), (by first | rfl | (simp; done) | (simp [*]; done)), H', ⟨Nat.le_refl _⟩, ⟨by (with_reducible repeat (first | apply Kd.R_alloc | apply Kd.R_drewN | apply Kd.R_drew)); exact HO_8.1⟩, ⟨by (with_reducible repeat (first | refine zg0 ?_ _ | refine zj0 ?_ | refine zf0 ?_ _)); exact BK208.1⟩, ⟨by repeat (first | exact HB.1 | apply zc0 | apply zb0 | apply zd0 | refine ze0 ?_ GE208.1)⟩⟩
  case round =>
   clear H'
   try clear c2
   try clear p2
   try clear c8
   try clear c8b0
   try clear hcz7_0
   try clear hfz7_0
   try clear p2
   obtain ⟨x10_2, x11_2, rfl, rfl, HA, HK2, HO_8, BK208, HB⟩ := hrel
   obtain _ | k2 := gk
   ·exact absurd HA.1 (by simp [yh0.l1])
   have H := HA.1
   clear HA
   simp only [yh0.l1] at H
   by_cases c9 : x11_2 = a1
   ·rw [if_pos c9] at H
    have c9b0 : (x11_2 == a1) = true := beq_iff_eq.mpr c9
    have c9b1 : (x11_2 != a1) = false := bne_eq_false_iff_eq.mpr c9
    clear c9
    by_cases c10 : x8_1.length < 17592186044416
    rotate_left
    ·rw [if_neg c10] at H
     exact absurd H (by simp)
    rw [if_pos c10] at H
    have LMc10 := za0.mk c10
    clear c10
    obtain ⟨y212, hy212⟩ : ∃ y_ : List Int, y_ = (x8_1 ++ [x10_2]) := ⟨_, rfl⟩
    replace H : (yh0.l0 k2 a1 l2 y212 (l0_0.length : Int) (wrap64 (x16_1 + 1)) l0_0) = some (r1, r2) := by first | (rw [hy212]; with_reducible exact H) | (have H2_ := (Option.bind_some _ _).symm.trans H; rw [hy212]; with_reducible exact H2_) | (have H2_ := (Option.bind_some _ _).symm.trans H; with_reducible exact H2_) | with_reducible exact H | (rw [hy212]; exact H) | exact H
    have Ny212 := za0.mk hy212
    clear hy212
    have H' := za0.mk H
    clear H
    go_wp2_with (first | ((with_reducible refine gate_builtin (b := .append) (xs := #[.tmp 38, .tmp 40]) rfl ?_); (try (refine gate_guard (by rfl) ?_; dsimp only)); at_builtin; refine Kd.R_append (Kd.int .i64) (w0 := w) w.heap.size rfl (.tmp 38) (.tmp 40) 25 3 (.int .i64 0) 8 rfl Try.underlying25 info3 rfl (by decide) (by omega) u8 x8_1 x10_2 [.int .i64 x10_2] (fun _ => True) (fun _ => False) rfl rfl ?aP (fun _ hk => hk.elim) ?aF ?aO ?aB ?aS ?aL ?_; (case aP => exact rfl); (case aB => exact (by repeat (first | exact HB.1 | apply zc0 | apply zb0 | apply zd0 | refine ze0 ?_ GE208.1))); (case aF => exact (fun _ _ => trivial)); (case aO => exact (by (with_reducible repeat (first | apply Kd.R_alloc | apply Kd.R_drewN | apply Kd.R_drew)); first | exact HO_8.1 | exact Kd.R_mono HO_8.1 (fun _ hk => ⟨hk.2, hk.1⟩))); (case aS => exact (zh0 (by repeat (first | exact HB.1 | apply zc0 | apply zb0 | apply zd0 | refine ze0 ?_ GE208.1)))); (case aL => have := LMc10.1; omega); intro v213 w11 ho hb hg hat; rw [← Ny212.1] at ho; have n0_ := za0.mk (blk_grown (g := gb208) (o := .cells #[.slice A0_0 l0_0.length c0_0] 29 (0, 0)) (by (with_reducible repeat (first | refine zg0 ?_ _ | refine zj0 ?_ | refine zf0 ?_ _)); exact BK208.1) hg (Kd.R_ne HO_8.1 BK208.1 (by decide))); have n1_ := za0.mk (hb); have n2_ := za0.mk (ho); clear BK208; clear HB; clear HO_8; have BK208 := n0_; have HB := n1_; have HO214 := n2_; clear n0_ n1_ n2_; clear ho hb hg hat))
    go_roundg k2
    case measure => have := HK1.1; have := HK2.1; omega
    case rel => exact ⟨(y212), (wrap64 (x16_1 + 1)), (by first | rfl | (simp; done) | (simp [*]; done)), H', ⟨by have := HK1.1; have := HK2.1; omega⟩, ⟨by (with_reducible repeat (first | apply Kd.R_alloc | apply Kd.R_drewN | apply Kd.R_drew)); exact HO214.1⟩, ⟨by (with_reducible repeat (first | refine zg0 ?_ _ | refine zj0 ?_ | refine zf0 ?_ _)); exact BK208.1⟩, ⟨by repeat (first | exact HB.1 | apply zc0 | apply zb0 | apply zd0 | refine ze0 ?_ GE208.1)⟩⟩
   rw [if_neg c9] at H
   have c9b0 : (x11_2 == a1) = false := beq_eq_false_iff_ne.mpr c9
   have c9b1 : (x11_2 != a1) = true := bne_iff_ne.mpr c9
   replace H := Option.bind_eq_some_iff.mp H
   obtain ⟨t215, A120, H⟩ := H
   replace H : (if t215 < 0 then (some (([] : List Int), false)) else (if x10_2 > (l0_0.length : Int) then (some (([] : List Int), false)) else (yh0.l1 k2 a1 l2 x8_1 (wrap64 (x10_2 + 1)) t215 (l0_0.length : Int) x16_1 l0_0))) = some (r1, r2) := H
   have A12 := za0.mk A120
   clear A120
   by_cases c13 : t215 < 0
   ·rw [if_pos c13] at H
    have c13b0 : decide (t215 < 0) = true := decide_eq_true c13
    clear c13
    simp only [Option.some.injEq, Prod.mk.injEq] at H
    obtain ⟨rfl, rfl⟩ := H
    have hcz14_0 : wr.cell? ⟨gb208, 0, none⟩ = some (.slice A0_0 l0_0.length c0_0) := (zl0 BK208.1 0).trans rfl
    have hfz14_0 := zk0 BK208.1 0
    go_wp2_with (first | ((with_reducible refine zn0 (f := 87) rfl ?_); refine za1 (some 28) rfl rfl Try.func87 (by kernel_rfl) rfl #[.agg #[.slice A0_0 l0_0.length c0_0], .slice A2 l2.length c2, .int .i64 x11_2] rfl (by (try simp only [List.map_toArray, List.map_cons, List.map_nil]); first | done | rfl | (simp only [List.length_drop, List.length_take]; rfl)) ?_; (with_reducible refine (yc2.calls _ _ l0_0 _ _ l2 x11_2 t215 _ ?side1 ?side2 ?side3 ?side4 A12.1).mono ?_); (case side1 => repeat (first | exact (Kd.C_below HR0_0.1 HB.1) | with_reducible first | refine Kd.C_alloc ?_ _ | refine Kd.C_drewN ?_ _ | refine Kd.C_drew ?_)); (case side2 => exact HC0_0.1); (case side3 => repeat (first | exact (Kd.C_below HR2.1 HB.1) | with_reducible first | refine Kd.C_alloc ?_ _ | refine Kd.C_drewN ?_ _ | refine Kd.C_drew ?_)); (case side4 => exact HC2.1); rintro e w15 ⟨rfl, hb⟩; refine ⟨_, rfl, ?_⟩; have n0_ := za0.mk (Kd.R_below (by (with_reducible repeat (first | apply Kd.R_alloc | apply Kd.R_drewN | apply Kd.R_drew)); exact HO_8.1) hb); have n1_ := za0.mk (zm0 (g := gb208) (o := .cells #[.slice A0_0 l0_0.length c0_0] 29 (0, 0)) (by (with_reducible repeat (first | refine zg0 ?_ _ | refine zj0 ?_ | refine zf0 ?_ _)); exact BK208.1) hb); have n2_ := za0.mk (zi0 (by repeat (first | exact HB.1 | apply zc0 | apply zb0 | apply zd0 | refine ze0 ?_ GE208.1)) hb); clear HO_8; clear BK208; clear HB; have HO_8 := n0_; have BK208 := n1_; have HB := n2_; clear n0_ n1_ n2_; (try clear hb); (try clear hb2); (try clear hk); (try clear hi)))
    go_ret2
    exact ⟨_, by first | rfl | (simp [errW_none, errW_some] <;> rfl) | (simp [*, errW_none, errW_some] <;> rfl), by first | exact Kd.R_nil _ _ _ _ _ | exact Kd.N_nil _ _ _ _ _ | exact Kd.V_nil _ _ _ _ _ | exact Kd.Q_nil _ _ _ _ _ | exact Kd.S_nil _ _ _ _ _, by repeat (first | exact HB.1 | apply zc0 | apply zb0 | apply zd0 | refine ze0 ?_ GE208.1)⟩
   rw [if_neg c13] at H
   have c13b0 : decide (t215 < 0) = false := decide_eq_false c13
   clear c13
   by_cases c16 : x10_2 > (l0_0.length : Int)
   ·rw [if_pos c16] at H
    have c16b0 : decide ((l0_0.length : Int) < x10_2) = true := decide_eq_true c16
    clear c16
    simp only [Option.some.injEq, Prod.mk.injEq] at H
    obtain ⟨rfl, rfl⟩ := H
    have hcz17_0 : wr.cell? ⟨gb208, 0, none⟩ = some (.slice A0_0 l0_0.length c0_0) := (zl0 BK208.1 0).trans rfl
    have hfz17_0 := zk0 BK208.1 0
    go_wp2_with (first | ((with_reducible refine zn0 (f := 87) rfl ?_); refine za1 (some 28) rfl rfl Try.func87 (by kernel_rfl) rfl #[.agg #[.slice A0_0 l0_0.length c0_0], .slice A2 l2.length c2, .int .i64 x11_2] rfl (by (try simp only [List.map_toArray, List.map_cons, List.map_nil]); first | done | rfl | (simp only [List.length_drop, List.length_take]; rfl)) ?_; (with_reducible refine (yc2.calls _ _ l0_0 _ _ l2 x11_2 t215 _ ?side1 ?side2 ?side3 ?side4 A12.1).mono ?_); (case side1 => repeat (first | exact (Kd.C_below HR0_0.1 HB.1) | with_reducible first | refine Kd.C_alloc ?_ _ | refine Kd.C_drewN ?_ _ | refine Kd.C_drew ?_)); (case side2 => exact HC0_0.1); (case side3 => repeat (first | exact (Kd.C_below HR2.1 HB.1) | with_reducible first | refine Kd.C_alloc ?_ _ | refine Kd.C_drewN ?_ _ | refine Kd.C_drew ?_)); (case side4 => exact HC2.1); rintro e w18 ⟨rfl, hb⟩; refine ⟨_, rfl, ?_⟩; have n0_ := za0.mk (Kd.R_below (by (with_reducible repeat (first | apply Kd.R_alloc | apply Kd.R_drewN | apply Kd.R_drew)); exact HO_8.1) hb); have n1_ := za0.mk (zm0 (g := gb208) (o := .cells #[.slice A0_0 l0_0.length c0_0] 29 (0, 0)) (by (with_reducible repeat (first | refine zg0 ?_ _ | refine zj0 ?_ | refine zf0 ?_ _)); exact BK208.1) hb); have n2_ := za0.mk (zi0 (by repeat (first | exact HB.1 | apply zc0 | apply zb0 | apply zd0 | refine ze0 ?_ GE208.1)) hb); clear HO_8; clear BK208; clear HB; have HO_8 := n0_; have BK208 := n1_; have HB := n2_; clear n0_ n1_ n2_; (try clear hb); (try clear hb2); (try clear hk); (try clear hi); have hcz19_0 : w18.cell? ⟨gb208, 0, none⟩ = some (.slice A0_0 l0_0.length c0_0) := (zl0 BK208.1 0).trans rfl; have hfz19_0 := zk0 BK208.1 0))
    go_ret2
    exact ⟨_, by first | rfl | (simp [errW_none, errW_some] <;> rfl) | (simp [*, errW_none, errW_some] <;> rfl), by first | exact Kd.R_nil _ _ _ _ _ | exact Kd.N_nil _ _ _ _ _ | exact Kd.V_nil _ _ _ _ _ | exact Kd.Q_nil _ _ _ _ _ | exact Kd.S_nil _ _ _ _ _, by repeat (first | exact HB.1 | apply zc0 | apply zb0 | apply zd0 | refine ze0 ?_ GE208.1)⟩
   rw [if_neg c16] at H
   have c16b0 : decide ((l0_0.length : Int) < x10_2) = false := decide_eq_false c16
   clear c16
   have H' := za0.mk H
   clear H
   have hcz20_0 : wr.cell? ⟨gb208, 0, none⟩ = some (.slice A0_0 l0_0.length c0_0) := (zl0 BK208.1 0).trans rfl
   have hfz20_0 := zk0 BK208.1 0
   go_wp2_with (first | ((with_reducible refine zn0 (f := 87) rfl ?_); refine za1 (some 28) rfl rfl Try.func87 (by kernel_rfl) rfl #[.agg #[.slice A0_0 l0_0.length c0_0], .slice A2 l2.length c2, .int .i64 x11_2] rfl (by (try simp only [List.map_toArray, List.map_cons, List.map_nil]); first | done | rfl | (simp only [List.length_drop, List.length_take]; rfl)) ?_; (with_reducible refine (yc2.calls _ _ l0_0 _ _ l2 x11_2 t215 _ ?side1 ?side2 ?side3 ?side4 A12.1).mono ?_); (case side1 => repeat (first | exact (Kd.C_below HR0_0.1 HB.1) | with_reducible first | refine Kd.C_alloc ?_ _ | refine Kd.C_drewN ?_ _ | refine Kd.C_drew ?_)); (case side2 => exact HC0_0.1); (case side3 => repeat (first | exact (Kd.C_below HR2.1 HB.1) | with_reducible first | refine Kd.C_alloc ?_ _ | refine Kd.C_drewN ?_ _ | refine Kd.C_drew ?_)); (case side4 => exact HC2.1); rintro e w21 ⟨rfl, hb⟩; refine ⟨_, rfl, ?_⟩; have n0_ := za0.mk (Kd.R_below (by (with_reducible repeat (first | apply Kd.R_alloc | apply Kd.R_drewN | apply Kd.R_drew)); exact HO_8.1) hb); have n1_ := za0.mk (zm0 (g := gb208) (o := .cells #[.slice A0_0 l0_0.length c0_0] 29 (0, 0)) (by (with_reducible repeat (first | refine zg0 ?_ _ | refine zj0 ?_ | refine zf0 ?_ _)); exact BK208.1) hb); have n2_ := za0.mk (zi0 (by repeat (first | exact HB.1 | apply zc0 | apply zb0 | apply zd0 | refine ze0 ?_ GE208.1)) hb); clear HO_8; clear BK208; clear HB; have HO_8 := n0_; have BK208 := n1_; have HB := n2_; clear n0_ n1_ n2_; (try clear hb); (try clear hb2); (try clear hk); (try clear hi); have hcz22_0 : w21.cell? ⟨gb208, 0, none⟩ = some (.slice A0_0 l0_0.length c0_0) := (zl0 BK208.1 0).trans rfl; have hfz22_0 := zk0 BK208.1 0))
   go_roundg k2
   case measure => have := HK1.1; have := HK2.1; omega
   case rel => exact ⟨(wrap64 (x10_2 + 1)), (t215), (by first | rfl | (simp; done) | (simp [*]; done)), (by first | rfl | (simp; done) | (simp [*]; done)), H', ⟨by have := HK1.1; have := HK2.1; omega⟩, ⟨by (with_reducible repeat (first | apply Kd.R_alloc | apply Kd.R_drewN | apply Kd.R_drew)); exact HO_8.1⟩, ⟨by (with_reducible repeat (first | refine zg0 ?_ _ | refine zj0 ?_ | refine zf0 ?_ _)); exact BK208.1⟩, ⟨by repeat (first | exact HB.1 | apply zc0 | apply zb0 | apply zd0 | refine ze0 ?_ GE208.1)⟩⟩
def yu1.f (k : Nat) (l0_0 : List (List Int)) (a1 : Int) (l2 : List Int) : Option (Bool) := (yh0.f k l0_0 a1 l2).bind fun bt217 => (some bt217.2)
theorem yu1.mono : ∀ a0 a1 a2 k, LeO (yu1.f k a0 a1 a2) (yu1.f (k + 1) a0 a1 a2) := by
 intro a0 a1 a2 k
 unfold yu1.f
 repeat' (with_reducible first | exact yh0.mono _ _ _ _ | exact LeO.refl _ | exact LeO.none _ | refine LeO.ite ?_ ?_ | refine LeO.bind ?_ (fun _ => ?_))
theorem yu1.calls (k : Nat) (A0_0 : Option Addr) (c0_0 : Nat) (l0_0 : List (List Int)) (a1 : Int) (A2 : Option Addr) (c2 : Nat) (l2 : List Int) (r : Bool) (w : World) (hr0_0 : Kd.C (Kd.slice 3 (Kd.int .i64)) w A0_0 l0_0.length l0_0) (hc0_0 : l0_0.length ≤ c0_0) (hr2 : Kd.C (Kd.int .i64) w A2 l2.length l2) (hc2 : l2.length ≤ c2) (h : yu1.f k l0_0 a1 l2 = some r) :
  Calls Try.prog 70 #[.agg #[.slice A0_0 l0_0.length c0_0], .int .i64 a1, .slice A2 l2.length c2] w fun e w' => e = .returned (.bool r) ∧ Below w.heap.size w w' := by
 have hu29 := Try.underlying29
 have HR0_0 := za0.mk hr0_0
 have HC0_0 := za0.mk hc0_0
 clear hr0_0 hc0_0
 have HR2 := za0.mk hr2
 have HC2 := za0.mk hc2
 clear hr2 hc2
 have HB := za0.mk (Below.refl w.heap.size w)
 have H : ((yh0.f k l0_0 a1 l2).bind fun bt217 => (some bt217.2)) = some r := h
 clear h
 replace H := Option.bind_eq_some_iff.mp H
 obtain ⟨⟨t217, t220⟩, A40, H⟩ := H
 replace H : (some t220) = some r := H
 have A4 := za0.mk A40
 clear A40
 obtain rfl := Option.some.inj H
 go_enter Try.func70, Try.ntmps70
 go_wp2_with (first | ((with_reducible refine zo0 (N := 3) rfl ?_); refine zp0 ?hg (N := 3) ?hd (cs := #[.slice A0_0 l0_0.length c0_0]) (t := 29) ?hr ?_; (case hd | hg => rfl); (case hr => go_simp <;> rfl); intro gb216 hg w5 hbox hb; have n0_ := za0.mk (zi0 (by repeat (first | exact HB.1 | apply zc0 | apply zb0 | apply zd0)) hb); have n1_ := za0.mk (hbox); have n2_ := za0.mk ((by rw [hg]; exact (zh0 (by repeat (first | exact HB.1 | apply zc0 | apply zb0 | apply zd0))) : w.heap.size ≤ gb216)); have n3_ := za0.mk ((by rw [hg]; exact (zh0 (by repeat (first | exact HB.1 | apply zc0 | apply zb0 | apply zd0))) : w.heap.size ≤ gb216)); clear HB; have HB := n0_; have BK216 := n1_; have GW216 := n2_; have GE216 := n3_; clear n0_ n1_ n2_ n3_; clear hb hbox hg; have hcz6_0 : w5.cell? ⟨gb216, 0, none⟩ = some (.slice A0_0 l0_0.length c0_0) := (zl0 BK216.1 0).trans rfl; have hfz6_0 := zk0 BK216.1 0) | ((with_reducible refine zn0 (f := 82) rfl ?_); refine za1 (some 13) rfl rfl Try.func82 (by kernel_rfl) rfl #[.agg #[.slice A0_0 l0_0.length c0_0], .int .i64 a1, .slice A2 l2.length c2] rfl (by (try simp only [List.map_toArray, List.map_cons, List.map_nil]); first | done | rfl | (simp only [List.length_drop, List.length_take]; rfl)) ?_; (with_reducible refine (yh0.calls k _ _ l0_0 a1 _ _ l2 t217 t220 _ ?side1 ?side2 ?side3 ?side4 A4.1).mono ?_); (case side1 => repeat (first | exact (Kd.C_below HR0_0.1 HB.1) | with_reducible first | refine Kd.C_alloc ?_ _ | refine Kd.C_drewN ?_ _ | refine Kd.C_drew ?_)); (case side2 => exact HC0_0.1); (case side3 => repeat (first | exact (Kd.C_below HR2.1 HB.1) | with_reducible first | refine Kd.C_alloc ?_ _ | refine Kd.C_drewN ?_ _ | refine Kd.C_drew ?_)); (case side4 => exact HC2.1); rintro e w7 ⟨v218, rfl, ho0, hb⟩; refine ⟨_, rfl, ?_⟩; have n0_ := za0.mk (Kd.R_lower ho0 (zh0 (by repeat (first | exact HB.1 | apply zc0 | apply zb0 | apply zd0 | refine ze0 ?_ GE216.1)))); have n1_ := za0.mk (zm0 (g := gb216) (o := .cells #[.slice A0_0 l0_0.length c0_0] 29 (0, 0)) (by (with_reducible repeat (first | refine zg0 ?_ _ | refine zj0 ?_ | refine zf0 ?_ _)); exact BK216.1) hb); have n2_ := za0.mk (zi0 (by repeat (first | exact HB.1 | apply zc0 | apply zb0 | apply zd0 | refine ze0 ?_ GE216.1)) hb); clear BK216; clear HB; have HO219 := n0_; have BK216 := n1_; have HB := n2_; clear n0_ n1_ n2_; (try clear hb); (try clear hb2); (try clear hk); (try clear hi); (try clear ho0)))
 go_ret
 exact ⟨by first | rfl | (simp [errW_none, errW_some] <;> rfl) | (simp [*, errW_none, errW_some] <;> rfl), by repeat (first | exact HB.1 | apply zc0 | apply zb0 | apply zd0 | refine ze0 ?_ GE216.1)⟩
def treeL (k : Nat) (l : List (List Int)) (s : Int) (rot : List Int) : Option Bool := (yq1.f k l s rot).bind fun a => if a = true then yu1.f k l s rot else some false
theorem treeL_mono (l : List (List Int)) (s : Int) (rot : List Int) (k : Nat) : LeO (treeL k l s rot) (treeL (k + 1) l s rot) := by
 unfold treeL
 exact LeO.bind (yq1.mono _ _ _ _) (fun b => LeO.ite (yu1.mono _ _ _ _) (LeO.refl _))
theorem yo2.calls (k : Nat) (l : List (List Int)) (s : Int) (A0 : Option Addr) (c0 Ba : Nat) (A2 : Option Addr) (c2 : Nat) (rot : List Int) (b : Bool) (w : World) (hr0 : Kd.C (Kd.slice 3 (Kd.int .i64)) w A0 l.length l) (hc0 : l.length ≤ c0)
  (ba : w.heap[Ba]? = some (.cells #[.slice A0 l.length c0, .int .i64 s] 71 (0, 0))) (hr2 : Kd.C (Kd.int .i64) w A2 rot.length rot) (hc2 : rot.length ≤ c2) (h : treeL k l s rot = some b) :
  Calls Try.prog 50 #[.pointer (some ⟨Ba, 0, none⟩), .slice A2 rot.length c2] w fun e w' => e = .returned (.bool b) ∧ Below w.heap.size w w' := by
 have hu1 := Try.underlying29
 have hu3 := Try.underlying71
 have HR0 := za0.mk hr0
 have HC0 := za0.mk hc0
 have HR2 := za0.mk hr2
 have HC2 := za0.mk hc2
 have HB := za0.mk (below_drew (Below.refl w.heap.size w))
 have BA := za0.mk (show w.drew.heap[Ba]? = _ from ba)
 have hcg : w.drew.cell? ⟨Ba, 0, none⟩ = some (.slice A0 l.length c0) := (zl0 BA.1 0).trans rfl
 have hcs : w.drew.cell? ⟨Ba, 1, none⟩ = some (.int .i64 s) := (zl0 BA.1 1).trans rfl
 unfold treeL at h
 obtain ⟨a, h1, h⟩ := Option.bind_eq_some_iff.mp h
 have A1 := za0.mk h1
 clear hr0 hc0 hr2 hc2 ba h1
 cases a with
 | false =>
  rw [if_neg (by decide)] at h
  obtain rfl := Option.some.inj h
  go_enter Try.func50, Try.ntmps50
  go_wp2
  refine start_ (n := 23) (S := fun w' => w'.cell? ⟨Ba, 0, none⟩ = some (.slice A0 l.length c0) ∧ w'.cell? ⟨Ba, 1, none⟩ = some (.int .i64 s)) (ds := []) #[false, false, false, false, false, false, false, false, false, false, false, false, false, false, false, false, false, false, false, false, false, false, false] (by kernel_rfl) rfl rfl ⟨hcg, hcs⟩ (fun hHeld => ?_)
  generalize w.drew = w1 at HB BA hcg hcs hHeld ⊢
  refine pu 0 (some 5) (v := ?_) (a' := ?_) (bf 23 1) ?_ ?_ ?_
  rotate_left
  ·intro w'; go_simp; with_reducible rfl
  rotate_left
  ·simp only [Act.put, zA, zB, zC, i64_w, i32_w]; rfl
  refine pu 1 (some 6) (v := ?_) (a' := ?_) (bf 23 3) ?_ ?_ ?_
  rotate_left
  ·intro w'; go_simp; with_reducible rfl
  rotate_left
  ·simp only [Act.put, zA, zB, zC, i64_w, i32_w]; rfl
  refine pu 2 (some 7) (v := ?_) (a' := ?_) (bf 23 7) ?_ ?_ ?_
  rotate_left
  ·intro w'; go_simp; with_reducible rfl
  rotate_left
  ·simp only [Act.put, zA, zB, zC, i64_w, i32_w]; rfl
  refine take_ (i := 3) (N := some 8) (v := ?_) (a' := ?_) (bf 23 15) rfl rfl (by kernel_rfl) (fun _ _ _ h => h) (Or.inl ⟨by rfl, ?_⟩) hHeld ?_ ?_
  rotate_left
  ·rintro w' ⟨s0, s1⟩; go_simp; with_reducible rfl
  rotate_left
  ·simp only [Act.put, zA, zB, zC, i64_w, i32_w]; rfl
  refine pu 4 (some 9) (v := ?_) (a' := ?_) (bf 23 31) ?_ ?_ ?_
  rotate_left
  ·intro w'; go_simp; with_reducible rfl
  rotate_left
  ·simp only [Act.put, zA, zB, zC, i64_w, i32_w]; rfl
  refine pu 5 (some 10) (v := ?_) (a' := ?_) (bf 23 63) ?_ ?_ ?_
  rotate_left
  ·intro w'; go_simp; with_reducible rfl
  rotate_left
  ·simp only [Act.put, zA, zB, zC, i64_w, i32_w]; rfl
  refine pu 6 (some 11) (v := ?_) (a' := ?_) (bf 23 127) ?_ ?_ ?_
  rotate_left
  ·intro w'; go_simp; with_reducible rfl
  rotate_left
  ·simp only [Act.put, zA, zB, zC, i64_w, i32_w]; rfl
  refine take_ (i := 7) (N := some 12) (v := ?_) (a' := ?_) (bf 23 255) rfl rfl (by kernel_rfl) (fun _ _ _ h => h) (Or.inl ⟨by rfl, ?_⟩) hHeld ?_ ?_
  rotate_left
  ·rintro w' ⟨s0, s1⟩; go_simp; with_reducible rfl
  rotate_left
  ·simp only [Act.put, zA, zB, zC, i64_w, i32_w]; rfl
  refine pu 8 (some 13) (v := ?_) (a' := ?_) (bf 23 511) ?_ ?_ ?_
  rotate_left
  ·intro w'; go_simp; with_reducible rfl
  rotate_left
  ·simp only [Act.put, zA, zB, zC, i64_w, i32_w]; rfl
  refine one_ (i := 9) (N := some 14) (bf 23 1023) rfl rfl (by kernel_rfl) (by decide) (fun K hK => ?_)
  refine goes_ Try.func69 (by kernel_rfl) rfl #[.agg #[.slice A0 l.length c0], .int .i64 s, .slice A2 rot.length c2] (by rfl) rfl rfl (by (try simp only [List.map_toArray, List.map_cons, List.map_nil]); first | done | rfl) ?_
  refine (yq1.calls k _ _ l s _ _ rot false _ (Kd.C_below HR0.1 HB.1) HC0.1 (Kd.C_below HR2.1 HB.1) HC2.1 A1.1).mono ?_
  rintro e w2 ⟨rfl, hb⟩
  refine ⟨_, rfl, ?_⟩
  have n0_ := za0.mk (zi0 HB.1 hb)
  have n1_ := za0.mk (zm0 BA.1 hb)
  clear HB BA hb
  have HB := n0_
  have BA := n1_
  clear n0_ n1_
  refine hK.out _ _ ⟨(zl0 BA.1 0).trans rfl, (zl0 BA.1 1).trans rfl⟩ (fun hHeld => ?_)
  clear hK K
  refine norm_ (a' := ?_) ?_ ?_
  rotate_left
  ·show Act.put _ (some 14) _ = _; simp only [Act.put, zA, zB, zC, i64_w, i32_w]; rfl
  refine pu 10 (some 15) (v := ?_) (a' := ?_) (bf 23 2047) ?_ ?_ ?_
  rotate_left
  ·intro w'; go_simp; with_reducible rfl
  rotate_left
  ·simp only [Act.put, zA, zB, zC, i64_w, i32_w]; rfl
  refine pure_ (i := 11) (N := some 16) (v := undef) (a' := ?_) (bf 23 4095) rfl rfl (by kernel_rfl) (fun _ _ _ h => h) (Or.inr ⟨by rfl, rfl⟩) ?_ ?_
  rotate_left
  ·simp only [Act.put, zA, zB, zC, i64_w, i32_w]; rfl
  refine pure_ (i := 12) (N := some 17) (v := undef) (a' := ?_) (bf 23 8191) rfl rfl (by kernel_rfl) (fun _ _ _ h => h) (Or.inr ⟨by rfl, rfl⟩) ?_ ?_
  rotate_left
  ·simp only [Act.put, zA, zB, zC, i64_w, i32_w]; rfl
  refine pure_ (i := 13) (N := some 18) (v := undef) (a' := ?_) (bf 23 16383) rfl rfl (by kernel_rfl) (fun _ _ _ h => h) (Or.inr ⟨by rfl, rfl⟩) ?_ ?_
  rotate_left
  ·simp only [Act.put, zA, zB, zC, i64_w, i32_w]; rfl
  refine pure_ (i := 14) (N := some 19) (v := undef) (a' := ?_) (bf 23 32767) rfl rfl (by kernel_rfl) (fun _ _ _ h => h) (Or.inr ⟨by rfl, rfl⟩) ?_ ?_
  rotate_left
  ·simp only [Act.put, zA, zB, zC, i64_w, i32_w]; rfl
  refine pure_ (i := 15) (N := some 20) (v := undef) (a' := ?_) (bf 23 65535) rfl rfl (by kernel_rfl) (fun _ _ _ h => h) (Or.inr ⟨by rfl, rfl⟩) ?_ ?_
  rotate_left
  ·simp only [Act.put, zA, zB, zC, i64_w, i32_w]; rfl
  refine pure_ (i := 16) (N := some 21) (v := undef) (a' := ?_) (bf 23 131071) rfl rfl (by kernel_rfl) (fun _ _ _ h => h) (Or.inr ⟨by rfl, rfl⟩) ?_ ?_
  rotate_left
  ·simp only [Act.put, zA, zB, zC, i64_w, i32_w]; rfl
  refine pure_ (i := 17) (N := some 22) (v := undef) (a' := ?_) (bf 23 262143) rfl rfl (by kernel_rfl) (fun _ _ _ h => h) (Or.inr ⟨by rfl, rfl⟩) ?_ ?_
  rotate_left
  ·simp only [Act.put, zA, zB, zC, i64_w, i32_w]; rfl
  refine pure_ (i := 18) (N := some 23) (v := undef) (a' := ?_) (bf 23 524287) rfl rfl (by kernel_rfl) (fun _ _ _ h => h) (Or.inr ⟨by rfl, rfl⟩) ?_ ?_
  rotate_left
  ·simp only [Act.put, zA, zB, zC, i64_w, i32_w]; rfl
  refine pure_ (i := 19) (N := some 24) (v := undef) (a' := ?_) (bf 23 1048575) rfl rfl (by kernel_rfl) (fun _ _ _ h => h) (Or.inr ⟨by rfl, rfl⟩) ?_ ?_
  rotate_left
  ·simp only [Act.put, zA, zB, zC, i64_w, i32_w]; rfl
  refine pure_ (i := 20) (N := some 25) (v := undef) (a' := ?_) (bf 23 2097151) rfl rfl (by kernel_rfl) (fun _ _ _ h => h) (Or.inr ⟨by rfl, rfl⟩) ?_ ?_
  rotate_left
  ·simp only [Act.put, zA, zB, zC, i64_w, i32_w]; rfl
  refine pu 21 (some 26) (v := ?_) (a' := ?_) (bf 23 4194303) ?_ ?_ ?_
  rotate_left
  ·intro w'; go_simp; with_reducible rfl
  rotate_left
  ·simp only [Act.put, zA, zB, zC, i64_w, i32_w]; rfl
  refine pu 22 (some 4) (v := ?_) (a' := ?_) (bf 23 8388607) ?_ ?_ ?_
  rotate_left
  ·intro w'; go_simp; with_reducible rfl
  rotate_left
  ·simp only [Act.put, zA, zB, zC, i64_w, i32_w]; rfl
  refine done_ (by kernel_rfl) ?_
  go_wp2
  go_ret
  exact ⟨rfl, HB.1⟩
 | true =>
  rw [if_pos rfl] at h
  have A2' := za0.mk h
  clear h
  go_enter Try.func50, Try.ntmps50
  go_wp2
  refine start_ (n := 23) (S := fun w' => w'.cell? ⟨Ba, 0, none⟩ = some (.slice A0 l.length c0) ∧ w'.cell? ⟨Ba, 1, none⟩ = some (.int .i64 s)) (ds := []) #[false, false, false, false, false, false, false, false, false, false, false, false, false, false, false, false, false, false, false, false, false, false, false] (by kernel_rfl) rfl rfl ⟨hcg, hcs⟩ (fun hHeld => ?_)
  generalize w.drew = w1 at HB BA hcg hcs hHeld ⊢
  refine pu 0 (some 5) (v := ?_) (a' := ?_) (bf 23 1) ?_ ?_ ?_
  rotate_left
  ·intro w'; go_simp; with_reducible rfl
  rotate_left
  ·simp only [Act.put, zA, zB, zC, i64_w, i32_w]; rfl
  refine pu 1 (some 6) (v := ?_) (a' := ?_) (bf 23 3) ?_ ?_ ?_
  rotate_left
  ·intro w'; go_simp; with_reducible rfl
  rotate_left
  ·simp only [Act.put, zA, zB, zC, i64_w, i32_w]; rfl
  refine pu 2 (some 7) (v := ?_) (a' := ?_) (bf 23 7) ?_ ?_ ?_
  rotate_left
  ·intro w'; go_simp; with_reducible rfl
  rotate_left
  ·simp only [Act.put, zA, zB, zC, i64_w, i32_w]; rfl
  refine take_ (i := 3) (N := some 8) (v := ?_) (a' := ?_) (bf 23 15) rfl rfl (by kernel_rfl) (fun _ _ _ h => h) (Or.inl ⟨by rfl, ?_⟩) hHeld ?_ ?_
  rotate_left
  ·rintro w' ⟨s0, s1⟩; go_simp; with_reducible rfl
  rotate_left
  ·simp only [Act.put, zA, zB, zC, i64_w, i32_w]; rfl
  refine pu 4 (some 9) (v := ?_) (a' := ?_) (bf 23 31) ?_ ?_ ?_
  rotate_left
  ·intro w'; go_simp; with_reducible rfl
  rotate_left
  ·simp only [Act.put, zA, zB, zC, i64_w, i32_w]; rfl
  refine pu 5 (some 10) (v := ?_) (a' := ?_) (bf 23 63) ?_ ?_ ?_
  rotate_left
  ·intro w'; go_simp; with_reducible rfl
  rotate_left
  ·simp only [Act.put, zA, zB, zC, i64_w, i32_w]; rfl
  refine pu 6 (some 11) (v := ?_) (a' := ?_) (bf 23 127) ?_ ?_ ?_
  rotate_left
  ·intro w'; go_simp; with_reducible rfl
  rotate_left
  ·simp only [Act.put, zA, zB, zC, i64_w, i32_w]; rfl
  refine take_ (i := 7) (N := some 12) (v := ?_) (a' := ?_) (bf 23 255) rfl rfl (by kernel_rfl) (fun _ _ _ h => h) (Or.inl ⟨by rfl, ?_⟩) hHeld ?_ ?_
  rotate_left
  ·rintro w' ⟨s0, s1⟩; go_simp; with_reducible rfl
  rotate_left
  ·simp only [Act.put, zA, zB, zC, i64_w, i32_w]; rfl
  refine pu 8 (some 13) (v := ?_) (a' := ?_) (bf 23 511) ?_ ?_ ?_
  rotate_left
  ·intro w'; go_simp; with_reducible rfl
  rotate_left
  ·simp only [Act.put, zA, zB, zC, i64_w, i32_w]; rfl
  refine one_ (i := 9) (N := some 14) (bf 23 1023) rfl rfl (by kernel_rfl) (by decide) (fun K hK => ?_)
  refine goes_ Try.func69 (by kernel_rfl) rfl #[.agg #[.slice A0 l.length c0], .int .i64 s, .slice A2 rot.length c2] (by rfl) rfl rfl (by (try simp only [List.map_toArray, List.map_cons, List.map_nil]); first | done | rfl) ?_
  refine (yq1.calls k _ _ l s _ _ rot true _ (Kd.C_below HR0.1 HB.1) HC0.1 (Kd.C_below HR2.1 HB.1) HC2.1 A1.1).mono ?_
  rintro e w2 ⟨rfl, hb⟩
  refine ⟨_, rfl, ?_⟩
  have n0_ := za0.mk (zi0 HB.1 hb)
  have n1_ := za0.mk (zm0 BA.1 hb)
  clear HB BA hb
  have HB := n0_
  have BA := n1_
  clear n0_ n1_
  refine hK.out _ _ ⟨(zl0 BA.1 0).trans rfl, (zl0 BA.1 1).trans rfl⟩ (fun hHeld => ?_)
  clear hK K
  refine norm_ (a' := ?_) ?_ ?_
  rotate_left
  ·show Act.put _ (some 14) _ = _; simp only [Act.put, zA, zB, zC, i64_w, i32_w]; rfl
  refine pu 10 (some 15) (v := ?_) (a' := ?_) (bf 23 2047) ?_ ?_ ?_
  rotate_left
  ·intro w'; go_simp; with_reducible rfl
  rotate_left
  ·simp only [Act.put, zA, zB, zC, i64_w, i32_w]; rfl
  refine pu 11 (some 16) (v := ?_) (a' := ?_) (bf 23 4095) ?_ ?_ ?_
  rotate_left
  ·intro w'; go_simp; with_reducible rfl
  rotate_left
  ·simp only [Act.put, zA, zB, zC, i64_w, i32_w]; rfl
  refine pu 12 (some 17) (v := ?_) (a' := ?_) (bf 23 8191) ?_ ?_ ?_
  rotate_left
  ·intro w'; go_simp; with_reducible rfl
  rotate_left
  ·simp only [Act.put, zA, zB, zC, i64_w, i32_w]; rfl
  refine pu 13 (some 18) (v := ?_) (a' := ?_) (bf 23 16383) ?_ ?_ ?_
  rotate_left
  ·intro w'; go_simp; with_reducible rfl
  rotate_left
  ·simp only [Act.put, zA, zB, zC, i64_w, i32_w]; rfl
  refine take_ (i := 14) (N := some 19) (v := ?_) (a' := ?_) (bf 23 32767) rfl rfl (by kernel_rfl) (fun _ _ _ h => h) (Or.inl ⟨by rfl, ?_⟩) hHeld ?_ ?_
  rotate_left
  ·rintro w' ⟨s0, s1⟩; go_simp; with_reducible rfl
  rotate_left
  ·simp only [Act.put, zA, zB, zC, i64_w, i32_w]; rfl
  refine pu 15 (some 20) (v := ?_) (a' := ?_) (bf 23 65535) ?_ ?_ ?_
  rotate_left
  ·intro w'; go_simp; with_reducible rfl
  rotate_left
  ·simp only [Act.put, zA, zB, zC, i64_w, i32_w]; rfl
  refine pu 16 (some 21) (v := ?_) (a' := ?_) (bf 23 131071) ?_ ?_ ?_
  rotate_left
  ·intro w'; go_simp; with_reducible rfl
  rotate_left
  ·simp only [Act.put, zA, zB, zC, i64_w, i32_w]; rfl
  refine pu 17 (some 22) (v := ?_) (a' := ?_) (bf 23 262143) ?_ ?_ ?_
  rotate_left
  ·intro w'; go_simp; with_reducible rfl
  rotate_left
  ·simp only [Act.put, zA, zB, zC, i64_w, i32_w]; rfl
  refine take_ (i := 18) (N := some 23) (v := ?_) (a' := ?_) (bf 23 524287) rfl rfl (by kernel_rfl) (fun _ _ _ h => h) (Or.inl ⟨by rfl, ?_⟩) hHeld ?_ ?_
  rotate_left
  ·rintro w' ⟨s0, s1⟩; go_simp; with_reducible rfl
  rotate_left
  ·simp only [Act.put, zA, zB, zC, i64_w, i32_w]; rfl
  refine pu 19 (some 24) (v := ?_) (a' := ?_) (bf 23 1048575) ?_ ?_ ?_
  rotate_left
  ·intro w'; go_simp; with_reducible rfl
  rotate_left
  ·simp only [Act.put, zA, zB, zC, i64_w, i32_w]; rfl
  refine one_ (i := 20) (N := some 25) (bf 23 2097151) rfl rfl (by kernel_rfl) (by decide) (fun K hK => ?_)
  refine goes_ Try.func70 (by kernel_rfl) rfl #[.agg #[.slice A0 l.length c0], .int .i64 s, .slice A2 rot.length c2] (by rfl) rfl rfl (by (try simp only [List.map_toArray, List.map_cons, List.map_nil]); first | done | rfl) ?_
  refine (yu1.calls k _ _ l s _ _ rot b _ (Kd.C_below HR0.1 HB.1) HC0.1 (Kd.C_below HR2.1 HB.1) HC2.1 A2'.1).mono ?_
  rintro e w3 ⟨rfl, hb⟩
  refine ⟨_, rfl, ?_⟩
  have n0_ := za0.mk (zi0 HB.1 hb)
  have n1_ := za0.mk (zm0 BA.1 hb)
  clear HB BA hb
  have HB := n0_
  have BA := n1_
  clear n0_ n1_
  refine hK.out _ _ ⟨(zl0 BA.1 0).trans rfl, (zl0 BA.1 1).trans rfl⟩ (fun hHeld => ?_)
  clear hK K
  refine norm_ (a' := ?_) ?_ ?_
  rotate_left
  ·show Act.put _ (some 25) _ = _; simp only [Act.put, zA, zB, zC, i64_w, i32_w]; rfl
  refine pu 21 (some 26) (v := ?_) (a' := ?_) (bf 23 4194303) ?_ ?_ ?_
  rotate_left
  ·intro w'; go_simp; with_reducible rfl
  rotate_left
  ·simp only [Act.put, zA, zB, zC, i64_w, i32_w]; rfl
  refine pu 22 (some 4) (v := ?_) (a' := ?_) (bf 23 8388607) ?_ ?_ ?_
  rotate_left
  ·intro w'; go_simp; with_reducible rfl
  rotate_left
  ·simp only [Act.put, zA, zB, zC, i64_w, i32_w]; rfl
  refine done_ (by kernel_rfl) ?_
  go_wp2
  go_ret
  exact ⟨rfl, HB.1⟩
structure WkSt (w0 w1 w : World) (B nb n cap : Nat) (rot : List Int) (p : Int) : Prop where
 hb : Below w0.heap.size w0 w
 hk : Kept w1 w (fun k => k = nb ∨ k = B)
 hn : n = rot.length
 cap_ : n ≤ cap
 bk : w.heap[B]? = some (.cells #[.slice (some ⟨nb, 0, none⟩) n cap, .int .i64 p] 63 (0, 0))
 rt : Kd.R (Kd.int .i64) 3 w w0.heap.size (fun k => k = nb) (.slice (some ⟨nb, 0, none⟩) n cap) rot
 ge : w0.heap.size ≤ B
section
variable {w0 w1 w w2 : World} {B nb n cap : Nat} {rot : List Int} {p : Int}
theorem WkSt.ne (h : WkSt w0 w1 w B nb n cap rot p) : B ≠ nb := fun e => Kd.R_ne h.rt h.bk (by decide) (by rw [e]; rfl)
theorem WkSt.below (h : WkSt w0 w1 w B nb n cap rot p) (hb : Below w.heap.size w w2) : WkSt w0 w1 w2 B nb n cap rot p :=
 ⟨zi0 h.hb hb, h.hk.below hb, h.hn, h.cap_, zm0 h.bk hb, Kd.R_below h.rt hb, h.ge⟩
theorem WkSt.drew (h : WkSt w0 w1 w B nb n cap rot p) : WkSt w0 w1 w.drew B nb n cap rot p := h.below (below_drew (Below.refl _ _))
theorem WkSt.put (h : WkSt w0 w1 w B nb n cap rot p) (i x : Int) : WkSt w0 w1 (w.setCell ⟨nb, i.toNat, none⟩ (.int .i64 x)) B nb n cap (rot.set i.toNat x) p :=
 ⟨ze0 h.hb (Kd.R_base h.rt nb rfl), h.hk.setCell (.inl (.inl rfl)) _, by rw [List.length_set]; exact h.hn, h.cap_, (Below.heap_setCell w ⟨nb, i.toNat, none⟩ _ B h.ne).trans h.bk, (Kd.R_putg h.rt i x).1, h.ge⟩
theorem blk_putA {w : World} {B j t : Nat} {cs : Array Value} {u : Value} (h : w.heap[B]? = some (.cells cs t (0, 0))) : (w.setCell ⟨B, j, none⟩ u).heap[B]? = some (.cells (cs.setIfInBounds j u) t (0, 0)) := by
 simp only [World.setCell, Array.getElem?_modify, if_true, h, Option.map_some]
 rfl
theorem WkSt.at_ (h : WkSt w0 w1 w B nb n cap rot p) (q : Int) : WkSt w0 w1 (w.setCell ⟨B, 1, none⟩ (.int .i64 q)) B nb n cap rot q :=
 ⟨ze0 h.hb h.ge, h.hk.setCell (.inl (.inr rfl)) _, h.hn, h.cap_, (blk_putA h.bk).trans rfl, Kd.R_set h.rt h.bk (by decide) 1 _, h.ge⟩
end
theorem rd_set_self {o : List Int} {p x : Int} (h0 : 0 ≤ p) (h1 : p < (o.length : Int)) : rd (o.set p.toNat x) p = x := by
 simp only [rd, List.getD_eq_getElem?_getD]
 rw [List.getElem?_set_self (by omega)]; rfl
def stepL (l : List (List Int)) (rot : List Int) (p : Int) : Option (List Int × Int) :=
 if 0 ≤ p then (if p < (l.length : Int) then (if ((rd_L1 l p).length : Int) = 0 then none else (if p < (rot.length : Int) then (if 0 ≤ Int.tmod (wrap64 (rd rot p + 1)) ((rd_L1 l p).length : Int) then (if Int.tmod (wrap64 (rd rot p + 1)) ((rd_L1 l p).length : Int) < ((rd_L1 l p).length : Int) then some (rot.set p.toNat (Int.tmod (wrap64 (rd rot p + 1)) ((rd_L1 l p).length : Int)), rd (rd_L1 l p) (Int.tmod (wrap64 (rd rot p + 1)) ((rd_L1 l p).length : Int))) else none) else none) else none)) else none) else none
theorem yp2.calls (l : List (List Int)) (A0 : Option Addr) (c0 B nb n cap : Nat) (rot rot2 : List Int) (p p2 : Int) (w0 w1 w : World) (hr0 : Kd.C (Kd.slice 3 (Kd.int .i64)) w0 A0 l.length l) (hc0 : l.length ≤ c0) (st : WkSt w0 w1 w B nb n cap rot p) (h : stepL l rot p = some (rot2, p2)) :
  Calls Try.prog 56 #[.agg #[.slice A0 l.length c0], .pointer (some ⟨B, 0, none⟩)] w fun e w' => e = .returned (.bool true) ∧ WkSt w0 w1 w' B nb n cap rot2 p2 := by
 have hu1 := Try.underlying29
 have hu2 := Try.underlying63
 have hn := st.hn
 subst hn
 unfold stepL at h
 by_cases p0 : 0 ≤ p
 rotate_left
 ·rw [if_neg p0] at h; exact absurd h (by simp)
 rw [if_pos p0] at h
 by_cases p1 : p < (l.length : Int)
 rotate_left
 ·rw [if_neg p1] at h; exact absurd h (by simp)
 rw [if_pos p1] at h
 by_cases hz : ((rd_L1 l p).length : Int) = 0
 ·rw [if_pos hz] at h; exact absurd h (by simp)
 rw [if_neg hz] at h
 have hzb : (((rd_L1 l p).length : Int) == 0) = false := beq_eq_false_iff_ne.mpr hz
 have hzl : ¬ (rd_L1 l p) = [] := fun h_ => hz (by rw [h_]; rfl)
 by_cases p2 : p < (rot.length : Int)
 rotate_left
 ·rw [if_neg p2] at h; exact absurd h (by simp)
 rw [if_pos p2] at h
 obtain ⟨t, ht⟩ : ∃ t, Int.tmod (wrap64 (rd rot p + 1)) ((rd_L1 l p).length : Int) = t := ⟨_, rfl⟩
 rw [ht] at h
 by_cases t0 : 0 ≤ t
 rotate_left
 ·rw [if_neg t0] at h; exact absurd h (by simp)
 rw [if_pos t0] at h
 by_cases t1 : t < ((rd_L1 l p).length : Int)
 rotate_left
 ·rw [if_neg t1] at h; exact absurd h (by simp)
 rw [if_pos t1] at h
 simp only [Option.some.injEq, Prod.mk.injEq] at h
 obtain ⟨rfl, rfl⟩ := h
 have HR0 := za0.mk hr0
 have HC0 := za0.mk hc0
 have HT := za0.mk ht
 have ST := za0.mk st
 have HZ := za0.mk hz
 obtain ⟨ad0, A1, c1_, e1, hx1, hl1, hi1⟩ := at_L1 hr0 p p0 p1
 subst e1
 obtain ⟨adr, e2, hx3⟩ := Kd.at_int hi1 t t0 t1
 subst e2
 have HX1 := za0.mk hx1
 have HX3 := za0.mk hx3
 have HL1 := za0.mk hl1
 have HP := za0.mk (And.intro p0 (And.intro p1 p2))
 have HT01 := za0.mk (And.intro t0 t1)
 replace p0 := eq_true p0
 replace p1 := eq_true p1
 replace p2 := eq_true p2
 replace t0 := eq_true t0
 replace t1 := eq_true t1
 clear st hr0 hc0 ht hx1 hx3 hl1 hi1 hz
 go_enter Try.func56, Try.ntmps56
 go_wp2_with (((with_reducible refine zo0 (N := 2) rfl ?_); refine zp0 ?hg (N := 2) ?hd (cs := #[.slice (some ad0) l.length c0]) (t := 29) ?hr ?_; (case hd | hg => rfl); (case hr => go_simp <;> rfl); intro gb hg w6 hbox hb; have n0_ := za0.mk (ST.1.below hb); have BG := za0.mk hbox; clear ST hg hb hbox; have ST := n0_; clear n0_))
 have n0_ := za0.mk ST.1.drew
 have hcg : w6.drew.cell? ⟨gb, 0, none⟩ = some (.slice (some ad0) l.length c0) := (zl0 BG.1 0).trans rfl
 have hcr : w6.drew.cell? ⟨B, 0, none⟩ = some (.slice (some ⟨nb, 0, none⟩) rot.length cap) := (zl0 ST.1.bk 0).trans rfl
 have hcp : w6.drew.cell? ⟨B, 1, none⟩ = some (.int .i64 p) := (zl0 ST.1.bk 1).trans rfl
 have hfp : w6.drew.frozen? ⟨B, 1, none⟩ = false := zk0 n0_.out.bk 1
 have hx1 : w6.drew.cell? (ad0.add p.toNat) = some (.slice (some adr) (rd_L1 l p).length c1_) := (n0_.out.hb.cell (World.block_lt_of_cell? _ _ HX1.1)).trans HX1.1
 obtain ⟨hx2, hf2⟩ := Kd.R_celln 0 n0_.out.rt p HP.1.1 HP.1.2.2
 replace BG := za0.mk (show w6.drew.heap[gb]? = _ from BG.1)
 clear ST
 have ST := n0_
 clear n0_
 refine start_ (n := 9) (S := fun w' => w'.cell? ⟨gb, 0, none⟩ = some (.slice (some ad0) l.length c0) ∧ w'.cell? ⟨B, 1, none⟩ = some (.int .i64 p) ∧ w'.cell? (ad0.add p.toNat) = some (.slice (some adr) (rd_L1 l p).length c1_)) (ds := []) #[false, false, false, false, false, false, false, false, false] (by kernel_rfl) rfl rfl ⟨hcg, hcp, hx1⟩ (fun hHeld => ?_)
 generalize w6.drew = w7 at ST BG hcg hcp hcr hx1 hx2 hf2 hfp hHeld ⊢
 refine pu 0 (some 6) (v := ?_) (a' := ?_) (bf 9 1) ?_ ?_ ?_
 rotate_left
 ·intro w'; go_simp; with_reducible rfl
 rotate_left
 ·simp only [Act.put, zA, zB, zC, i64_w, i32_w]; rfl
 refine take_ (i := 1) (N := some 7) (v := ?_) (a' := ?_) (bf 9 3) rfl rfl (by kernel_rfl) (fun _ _ _ h => h) (Or.inl ⟨by rfl, ?_⟩) hHeld ?_ ?_
 rotate_left
 ·rintro w' ⟨s0, s1, s2⟩; go_simp; with_reducible rfl
 rotate_left
 ·simp only [Act.put, zA, zB, zC, i64_w, i32_w]; rfl
 refine pu 2 (some 8) (v := ?_) (a' := ?_) (bf 9 7) ?_ ?_ ?_
 rotate_left
 ·intro w'; go_simp; with_reducible rfl
 rotate_left
 ·simp only [Act.put, zA, zB, zC, i64_w, i32_w]; rfl
 refine pu 3 (some 9) (v := ?_) (a' := ?_) (bf 9 15) ?_ ?_ ?_
 rotate_left
 ·intro w'; go_simp; with_reducible rfl
 rotate_left
 ·simp only [Act.put, zA, zB, zC, i64_w, i32_w]; rfl
 refine pu 4 (some 10) (v := ?_) (a' := ?_) (bf 9 31) ?_ ?_ ?_
 rotate_left
 ·intro w'; go_simp; with_reducible rfl
 rotate_left
 ·simp only [Act.put, zA, zB, zC, i64_w, i32_w]; rfl
 refine take_ (i := 5) (N := some 11) (v := ?_) (a' := ?_) (bf 9 63) rfl rfl (by kernel_rfl) (fun _ _ _ h => h) (Or.inl ⟨by rfl, ?_⟩) hHeld ?_ ?_
 rotate_left
 ·rintro w' ⟨s0, s1, s2⟩; go_simp; with_reducible rfl
 rotate_left
 ·simp only [Act.put, zA, zB, zC, i64_w, i32_w]; rfl
 refine pu 6 (some 12) (v := ?_) (a' := ?_) (bf 9 127) ?_ ?_ ?_
 rotate_left
 ·intro w'; go_simp; with_reducible rfl
 rotate_left
 ·simp only [Act.put, zA, zB, zC, i64_w, i32_w]; rfl
 refine take_ (i := 7) (N := some 13) (v := ?_) (a' := ?_) (bf 9 255) rfl rfl (by kernel_rfl) (fun _ _ _ h => h) (Or.inl ⟨by rfl, ?_⟩) hHeld ?_ ?_
 rotate_left
 ·rintro w' ⟨s0, s1, s2⟩; go_simp; with_reducible rfl
 rotate_left
 ·simp only [Act.put, zA, zB, zC, i64_w, i32_w]; rfl
 refine pu 8 (some 5) (v := ?_) (a' := ?_) (bf 9 511) ?_ ?_ ?_
 rotate_left
 ·intro w'; go_simp; with_reducible rfl
 rotate_left
 ·simp only [Act.put, zA, zB, zC, i64_w, i32_w]; rfl
 refine done_ (by kernel_rfl) ?_
 go_wp2
 have n0_ := za0.mk ST.1.drew
 replace hcg := (show w7.drew.cell? _ = _ from hcg)
 replace hcr := (show w7.drew.cell? _ = _ from hcr)
 replace hcp := (show w7.drew.cell? _ = _ from hcp)
 replace hx1 := (show w7.drew.cell? _ = _ from hx1)
 replace hx2 := (show w7.drew.cell? _ = _ from hx2)
 replace hf2 := (show w7.drew.frozen? _ = _ from hf2)
 replace hfp := (show w7.drew.frozen? _ = _ from hfp)
 replace BG := za0.mk (show w7.drew.heap[gb]? = _ from BG.1)
 clear ST hHeld
 have ST := n0_
 clear n0_
 refine start_ (n := 24) (S := fun w' => w'.cell? ⟨B, 0, none⟩ = some (.slice (some ⟨nb, 0, none⟩) rot.length cap) ∧ w'.cell? ⟨B, 1, none⟩ = some (.int .i64 p) ∧ w'.cell? ⟨nb, p.toNat, none⟩ = some (.int .i64 (rd rot p))) (ds := [23]) #[false, false, false, false, false, false, false, false, false, false, false, false, false, false, false, false, false, false, false, false, false, false, false, false] (by kernel_rfl) rfl rfl ⟨hcr, hcp, hx2⟩ (fun hHeld => ?_)
 generalize w7.drew = w8 at ST BG hcg hcp hcr hx1 hx2 hf2 hfp hHeld ⊢
 refine pu 0 (some 17) (v := ?_) (a' := ?_) (bf 24 1) ?_ ?_ ?_
 rotate_left
 ·intro w'; go_simp; with_reducible rfl
 rotate_left
 ·simp only [Act.put, zA, zB, zC, i64_w, i32_w]; rfl
 refine pu 1 (some 18) (v := ?_) (a' := ?_) (bf 24 3) ?_ ?_ ?_
 rotate_left
 ·intro w'; go_simp; with_reducible rfl
 rotate_left
 ·simp only [Act.put, zA, zB, zC, i64_w, i32_w]; rfl
 refine pu 2 (some 19) (v := ?_) (a' := ?_) (bf 24 7) ?_ ?_ ?_
 rotate_left
 ·intro w'; go_simp; with_reducible rfl
 rotate_left
 ·simp only [Act.put, zA, zB, zC, i64_w, i32_w]; rfl
 refine take_ (i := 3) (N := some 20) (v := ?_) (a' := ?_) (bf 24 15) rfl rfl (by kernel_rfl) (fun _ _ _ h => h) (Or.inl ⟨by rfl, ?_⟩) hHeld ?_ ?_
 rotate_left
 ·rintro w' ⟨s0, s1, s2⟩; go_simp; with_reducible rfl
 rotate_left
 ·simp only [Act.put, zA, zB, zC, i64_w, i32_w]; rfl
 refine pu 4 (some 21) (v := ?_) (a' := ?_) (bf 24 31) ?_ ?_ ?_
 rotate_left
 ·intro w'; go_simp; with_reducible rfl
 rotate_left
 ·simp only [Act.put, zA, zB, zC, i64_w, i32_w]; rfl
 refine pu 5 (some 22) (v := ?_) (a' := ?_) (bf 24 63) ?_ ?_ ?_
 rotate_left
 ·intro w'; go_simp; with_reducible rfl
 rotate_left
 ·simp only [Act.put, zA, zB, zC, i64_w, i32_w]; rfl
 refine pu 6 (some 23) (v := ?_) (a' := ?_) (bf 24 127) ?_ ?_ ?_
 rotate_left
 ·intro w'; go_simp; with_reducible rfl
 rotate_left
 ·simp only [Act.put, zA, zB, zC, i64_w, i32_w]; rfl
 refine take_ (i := 7) (N := some 24) (v := ?_) (a' := ?_) (bf 24 255) rfl rfl (by kernel_rfl) (fun _ _ _ h => h) (Or.inl ⟨by rfl, ?_⟩) hHeld ?_ ?_
 rotate_left
 ·rintro w' ⟨s0, s1, s2⟩; go_simp; with_reducible rfl
 rotate_left
 ·simp only [Act.put, zA, zB, zC, i64_w, i32_w]; rfl
 refine pu 8 (some 25) (v := ?_) (a' := ?_) (bf 24 511) ?_ ?_ ?_
 rotate_left
 ·intro w'; go_simp; with_reducible rfl
 rotate_left
 ·simp only [Act.put, zA, zB, zC, i64_w, i32_w]; rfl
 refine pu 9 (some 26) (v := ?_) (a' := ?_) (bf 24 1023) ?_ ?_ ?_
 rotate_left
 ·intro w'; go_simp; with_reducible rfl
 rotate_left
 ·simp only [Act.put, zA, zB, zC, i64_w, i32_w]; rfl
 refine pu 10 (some 27) (v := ?_) (a' := ?_) (bf 24 2047) ?_ ?_ ?_
 rotate_left
 ·intro w'; go_simp; with_reducible rfl
 rotate_left
 ·simp only [Act.put, zA, zB, zC, i64_w, i32_w]; rfl
 refine take_ (i := 11) (N := some 28) (v := ?_) (a' := ?_) (bf 24 4095) rfl rfl (by kernel_rfl) (fun _ _ _ h => h) (Or.inl ⟨by rfl, ?_⟩) hHeld ?_ ?_
 rotate_left
 ·rintro w' ⟨s0, s1, s2⟩; go_simp; with_reducible rfl
 rotate_left
 ·simp only [Act.put, zA, zB, zC, i64_w, i32_w]; rfl
 refine pu 12 (some 29) (v := ?_) (a' := ?_) (bf 24 8191) ?_ ?_ ?_
 rotate_left
 ·intro w'; go_simp; with_reducible rfl
 rotate_left
 ·simp only [Act.put, zA, zB, zC, i64_w, i32_w]; rfl
 refine pu 13 (some 30) (v := ?_) (a' := ?_) (bf 24 16383) ?_ ?_ ?_
 rotate_left
 ·intro w'; go_simp; with_reducible rfl
 rotate_left
 ·simp only [Act.put, zA, zB, zC, i64_w, i32_w]; rfl
 refine pu 14 (some 31) (v := ?_) (a' := ?_) (bf 24 32767) ?_ ?_ ?_
 rotate_left
 ·intro w'; go_simp; with_reducible rfl
 rotate_left
 ·simp only [Act.put, zA, zB, zC, i64_w, i32_w]; rfl
 refine take_ (i := 15) (N := some 32) (v := ?_) (a' := ?_) (bf 24 65535) rfl rfl (by kernel_rfl) (fun _ _ _ h => h) (Or.inl ⟨by rfl, ?_⟩) hHeld ?_ ?_
 rotate_left
 ·rintro w' ⟨s0, s1, s2⟩; go_simp; with_reducible rfl
 rotate_left
 ·simp only [Act.put, zA, zB, zC, i64_w, i32_w]; rfl
 refine pu 16 (some 33) (v := ?_) (a' := ?_) (bf 24 131071) ?_ ?_ ?_
 rotate_left
 ·intro w'; go_simp; with_reducible rfl
 rotate_left
 ·simp only [Act.put, zA, zB, zC, i64_w, i32_w]; rfl
 refine take_ (i := 17) (N := some 34) (v := ?_) (a' := ?_) (bf 24 262143) rfl rfl (by kernel_rfl) (fun _ _ _ h => h) (Or.inl ⟨by rfl, ?_⟩) hHeld ?_ ?_
 rotate_left
 ·rintro w' ⟨s0, s1, s2⟩; go_simp; with_reducible rfl
 rotate_left
 ·simp only [Act.put, zA, zB, zC, i64_w, i32_w]; rfl
 refine pu 18 (some 35) (v := ?_) (a' := ?_) (bf 24 524287) ?_ ?_ ?_
 rotate_left
 ·intro w'; go_simp; with_reducible rfl
 rotate_left
 ·simp only [Act.put, zA, zB, zC, i64_w, i32_w]; rfl
 refine pu 19 (some 36) (v := ?_) (a' := ?_) (bf 24 1048575) ?_ ?_ ?_
 rotate_left
 ·intro w'; go_simp; with_reducible rfl
 rotate_left
 ·simp only [Act.put, zA, zB, zC, i64_w, i32_w]; rfl
 refine pu 20 (some 37) (v := ?_) (a' := ?_) (bf 24 2097151) ?_ ?_ ?_
 rotate_left
 ·intro w'; go_simp; with_reducible rfl
 rotate_left
 ·simp only [Act.put, zA, zB, zC, i64_w, i32_w]; rfl
 refine pu 21 (some 38) (v := ?_) (a' := ?_) (bf 24 4194303) ?_ ?_ ?_
 rotate_left
 ·intro w'; go_simp; with_reducible rfl
 rotate_left
 ·simp only [Act.put, zA, zB, zC, i64_w, i32_w]; rfl
 refine pu 22 (some 39) (v := ?_) (a' := ?_) (bf 24 8388607) ?_ ?_ ?_
 rotate_left
 ·intro w'; go_simp; with_reducible rfl
 rotate_left
 ·simp only [Act.put, zA, zB, zC, i64_w, i32_w]; rfl
 refine last_ (i := 23) (N := none) (bf 24 16777215) rfl rfl (by kernel_rfl) (by decide) (fun K hK => ?_)
 refine skip_ (w1 := ?_) (by rfl) rfl ?_ ?_
 rotate_left
 ·go_simp
  rfl
 refine hK.out _ _ ?_
 clear hK K
 refine done_ (by kernel_rfl) ?_
 rw [HT.1]
 have n0_ := za0.mk (ST.1.put p t)
 clear ST BG hcg hcp hcr hx1 hx2 hf2 hfp hHeld
 generalize w8.setCell ⟨nb, p.toNat, none⟩ (.int .i64 t) = w9 at n0_ ⊢
 go_wp2
 have ST := za0.mk n0_.out.drew
 have hcr : w9.drew.cell? ⟨B, 0, none⟩ = some (.slice (some ⟨nb, 0, none⟩) rot.length cap) := (zl0 ST.1.bk 0).trans rfl
 have hcp : w9.drew.cell? ⟨B, 1, none⟩ = some (.int .i64 p) := (zl0 ST.1.bk 1).trans rfl
 have hfp : w9.drew.frozen? ⟨B, 1, none⟩ = false := zk0 ST.1.bk 1
 obtain ⟨hx2, hf2⟩ := Kd.R_celln 0 ST.1.rt p HP.1.1 (by first | exact HP.1.2.2 | (rw [List.length_set]; exact HP.1.2.2))
 replace hx2 := hx2.trans (congrArg (fun z => some (Value.int .i64 z)) (show rdOf 0 (rot.set p.toNat t) p = t from rd_set_self HP.1.1 HP.1.2.2))
 have hx3 : w9.drew.cell? (adr.add t.toNat) = some (.int .i64 (rd (rd_L1 l p) t)) := (ST.1.hb.cell (World.block_lt_of_cell? _ _ HX3.1)).trans HX3.1
 clear n0_
 refine start_ (n := 17) (S := fun w' => w'.cell? ⟨B, 0, none⟩ = some (.slice (some ⟨nb, 0, none⟩) rot.length cap) ∧ w'.cell? ⟨B, 1, none⟩ = some (.int .i64 p) ∧ w'.cell? ⟨nb, p.toNat, none⟩ = some (.int .i64 t) ∧ w'.cell? (adr.add t.toNat) = some (.int .i64 (rd (rd_L1 l p) t))) (ds := [16]) #[false, false, false, false, false, false, false, false, false, false, false, false, false, false, false, false, false] (by kernel_rfl) rfl rfl ⟨hcr, hcp, hx2, hx3⟩ (fun hHeld => ?_)
 generalize w9.drew = w10 at ST hcp hcr hx2 hx3 hf2 hfp hHeld ⊢
 refine pu 0 (some 40) (v := ?_) (a' := ?_) (bf 17 1) ?_ ?_ ?_
 rotate_left
 ·intro w'; go_simp; with_reducible rfl
 rotate_left
 ·simp only [Act.put, zA, zB, zC, i64_w, i32_w]; rfl
 refine pu 1 (some 41) (v := ?_) (a' := ?_) (bf 17 3) ?_ ?_ ?_
 rotate_left
 ·intro w'; go_simp; with_reducible rfl
 rotate_left
 ·simp only [Act.put, zA, zB, zC, i64_w, i32_w]; rfl
 refine pu 2 (some 42) (v := ?_) (a' := ?_) (bf 17 7) ?_ ?_ ?_
 rotate_left
 ·intro w'; go_simp; with_reducible rfl
 rotate_left
 ·simp only [Act.put, zA, zB, zC, i64_w, i32_w]; rfl
 refine pu 3 (some 43) (v := ?_) (a' := ?_) (bf 17 15) ?_ ?_ ?_
 rotate_left
 ·intro w'; go_simp; with_reducible rfl
 rotate_left
 ·simp only [Act.put, zA, zB, zC, i64_w, i32_w]; rfl
 refine pu 4 (some 44) (v := ?_) (a' := ?_) (bf 17 31) ?_ ?_ ?_
 rotate_left
 ·intro w'; go_simp; with_reducible rfl
 rotate_left
 ·simp only [Act.put, zA, zB, zC, i64_w, i32_w]; rfl
 refine take_ (i := 5) (N := some 45) (v := ?_) (a' := ?_) (bf 17 63) rfl rfl (by kernel_rfl) (fun _ _ _ h => h) (Or.inl ⟨by rfl, ?_⟩) hHeld ?_ ?_
 rotate_left
 ·rintro w' ⟨s0, s1, s2, s3⟩; go_simp; with_reducible rfl
 rotate_left
 ·simp only [Act.put, zA, zB, zC, i64_w, i32_w]; rfl
 refine pu 6 (some 46) (v := ?_) (a' := ?_) (bf 17 127) ?_ ?_ ?_
 rotate_left
 ·intro w'; go_simp; with_reducible rfl
 rotate_left
 ·simp only [Act.put, zA, zB, zC, i64_w, i32_w]; rfl
 refine pu 7 (some 47) (v := ?_) (a' := ?_) (bf 17 255) ?_ ?_ ?_
 rotate_left
 ·intro w'; go_simp; with_reducible rfl
 rotate_left
 ·simp only [Act.put, zA, zB, zC, i64_w, i32_w]; rfl
 refine pu 8 (some 48) (v := ?_) (a' := ?_) (bf 17 511) ?_ ?_ ?_
 rotate_left
 ·intro w'; go_simp; with_reducible rfl
 rotate_left
 ·simp only [Act.put, zA, zB, zC, i64_w, i32_w]; rfl
 refine take_ (i := 9) (N := some 49) (v := ?_) (a' := ?_) (bf 17 1023) rfl rfl (by kernel_rfl) (fun _ _ _ h => h) (Or.inl ⟨by rfl, ?_⟩) hHeld ?_ ?_
 rotate_left
 ·rintro w' ⟨s0, s1, s2, s3⟩; go_simp; with_reducible rfl
 rotate_left
 ·simp only [Act.put, zA, zB, zC, i64_w, i32_w]; rfl
 refine pu 10 (some 50) (v := ?_) (a' := ?_) (bf 17 2047) ?_ ?_ ?_
 rotate_left
 ·intro w'; go_simp; with_reducible rfl
 rotate_left
 ·simp only [Act.put, zA, zB, zC, i64_w, i32_w]; rfl
 refine take_ (i := 11) (N := some 51) (v := ?_) (a' := ?_) (bf 17 4095) rfl rfl (by kernel_rfl) (fun _ _ _ h => h) (Or.inl ⟨by rfl, ?_⟩) hHeld ?_ ?_
 rotate_left
 ·rintro w' ⟨s0, s1, s2, s3⟩; go_simp; with_reducible rfl
 rotate_left
 ·simp only [Act.put, zA, zB, zC, i64_w, i32_w]; rfl
 refine pu 12 (some 52) (v := ?_) (a' := ?_) (bf 17 8191) ?_ ?_ ?_
 rotate_left
 ·intro w'; go_simp; with_reducible rfl
 rotate_left
 ·simp only [Act.put, zA, zB, zC, i64_w, i32_w]; rfl
 refine take_ (i := 13) (N := some 53) (v := ?_) (a' := ?_) (bf 17 16383) rfl rfl (by kernel_rfl) (fun _ _ _ h => h) (Or.inl ⟨by rfl, ?_⟩) hHeld ?_ ?_
 rotate_left
 ·rintro w' ⟨s0, s1, s2, s3⟩; go_simp; with_reducible rfl
 rotate_left
 ·simp only [Act.put, zA, zB, zC, i64_w, i32_w]; rfl
 refine pu 14 (some 54) (v := ?_) (a' := ?_) (bf 17 32767) ?_ ?_ ?_
 rotate_left
 ·intro w'; go_simp; with_reducible rfl
 rotate_left
 ·simp only [Act.put, zA, zB, zC, i64_w, i32_w]; rfl
 refine pu 15 (some 55) (v := ?_) (a' := ?_) (bf 17 65535) ?_ ?_ ?_
 rotate_left
 ·intro w'; go_simp; with_reducible rfl
 rotate_left
 ·simp only [Act.put, zA, zB, zC, i64_w, i32_w]; rfl
 refine last_ (i := 16) (N := none) (bf 17 131071) rfl rfl (by kernel_rfl) (by decide) (fun K hK => ?_)
 refine skip_ (w1 := ?_) (by rfl) rfl ?_ ?_
 rotate_left
 ·go_simp
  rfl
 refine hK.out _ _ ?_
 clear hK K
 refine done_ (by kernel_rfl) ?_
 have n0_ := za0.mk (ST.1.at_ (rd (rd_L1 l p) t))
 clear ST hcp hcr hx2 hx3 hf2 hfp hHeld
 go_wp2
 go_ret
 exact ⟨rfl, n0_.out⟩
theorem lit_row {w : World} {A2 : Option Addr} {c2 e : Nat} {rot : List Int} (hr2 : Kd.C (Kd.int .i64) w A2 rot.length rot) (hc2 : rot.length ≤ c2) : Kd.C (Kd.slice 3 (Kd.int .i64)) (w.alloc (.cells #[.slice A2 rot.length c2] e)) (some ⟨w.heap.size, 0, none⟩) 1 [rot] := by
 refine ⟨rfl, by omega, fun _ => ⟨_, rfl, fun j p hj => ?_⟩⟩
 cases j with
 | zero =>
  obtain rfl := Option.some.inj hj
  refine ⟨[.slice A2 rot.length c2], rfl, ⟨A2, c2, rfl, hc2, Kd.C_alloc hr2 _⟩, fun i u hi => ?_⟩
  cases i with
  | zero => obtain rfl := Option.some.inj hi; rw [add_plain]; exact (zl0 (blk_new w _) 0).trans rfl
  | succ i => simp at hi
 | succ j => simp at hj
def onL (k : Nat) (l : List (List Int)) (s : Int) (rot : List Int) : Option Bool := (actorL k l s).bind fun a => if a = true then treeL k l s rot else some false
theorem onL_mono (l : List (List Int)) (s : Int) (rot : List Int) (k : Nat) : LeO (onL k l s rot) (onL (k + 1) l s rot) := by
 unfold onL
 exact LeO.bind (actorL_mono _ _ _) (fun b => LeO.ite (treeL_mono _ _ _ _) (LeO.refl _))
theorem actorOn_1.calls (k : Nat) (l : List (List Int)) (s : Int) (A0 : Option Addr) (c0 Ba Bp : Nat) (A2 : Option Addr) (c2 : Nat) (rot : List Int) (b : Bool) (w : World) (hr0 : Kd.C (Kd.slice 3 (Kd.int .i64)) w A0 l.length l) (hc0 : l.length ≤ c0)
  (ba : w.heap[Ba]? = some (.cells #[.slice A0 l.length c0, .int .i64 s] 71 (0, 0))) (bp : w.heap[Bp]? = some (.cells #[.pointer (some ⟨Ba, 0, none⟩)] 49 (0, 0))) (hr2 : Kd.C (Kd.int .i64) w A2 rot.length rot) (hc2 : rot.length ≤ c2) (h : treeL k l s rot = some b) :
  Calls Try.prog 49 #[.slice A2 rot.length c2, .pointer (some ⟨Bp, 0, none⟩)] w fun e w' => e = .returned (.bool !b) ∧ Below w.heap.size w w' := by
 have HR0 := za0.mk hr0
 have HC0 := za0.mk hc0
 have HR2 := za0.mk hr2
 have HC2 := za0.mk hc2
 have BA := za0.mk ba
 have A1 := za0.mk h
 have hcp : w.cell? ⟨Bp, 0, none⟩ = some (.pointer (some ⟨Ba, 0, none⟩)) := (zl0 bp 0).trans rfl
 clear hr0 hc0 hr2 hc2 ba bp h
 go_enter Try.func49, Try.ntmps49
 go_wp2_with (go_at_call 50; refine (yo2.calls k l s A0 c0 Ba _ _ rot b _ HR0.1 HC0.1 BA.1 HR2.1 HC2.1 A1.1).mono ?_; rintro e w2 ⟨rfl, hb⟩; have HB := za0.mk hb; clear hb)
 go_ret
 exact ⟨rfl, HB.1⟩
theorem indexRow.calls (ad : Addr) (c : Nat) (A2 : Option Addr) (n2 c2 Bp : Nat) (b : Bool) (w : World) (hx : w.cell? ad = some (.slice A2 n2 c2)) (hp : ∀ W, Below w.heap.size w W → Calls Try.prog 49 #[.slice A2 n2 c2, .pointer (some ⟨Bp, 0, none⟩)] W fun e w' => e = .returned (.bool b) ∧ Below W.heap.size W w') :
  Calls Try.prog 68 #[.slice (some ad) 1 c, .func (.func 49) #[] #[.pointer (some ⟨Bp, 0, none⟩)]] w fun e w' => e = .returned (.int .i64 (if b then 0 else -1)) ∧ Below w.heap.size w w' := by
 have eg : ∀ args w, (callFunc 49 args).run Try.prog w = .ok (.enter 49 args) w := fun args w => rfl
 have HX := za0.mk hx
 have HP := za0.mk hp
 have HB := za0.mk (Below.refl w.heap.size w)
 clear hx hp
 go_enter Try.func68, Try.ntmps68
 go_wp2
 go_loopg [8] 1 (fun kq v8 w' => ((v8 = .int .i64 0 ∧ kq = 1) ∨ (v8 = .int .i64 1 ∧ b = false)) ∧ za0 (Below w.heap.size w w'))
 case atStart => exact ⟨.inl ⟨rfl, rfl⟩, HB⟩
 case round =>
  clear HB
  obtain ⟨hv, HB⟩ := hrel
  rcases hv with ⟨rfl, rfl⟩ | ⟨rfl, rfl⟩
  ·have hx := (HB.1.cell (World.block_lt_of_cell? _ _ HX.1)).trans HX.1
   have hcall := HP.1 wr HB.1
   cases b with
   | true =>
    go_wp2_with (fail)
    refine hcall.mono ?_
    rintro e w' ⟨rfl, hb'⟩
    go_wp2
    go_ret
    exact ⟨rfl, zi0 HB.1 hb'⟩
   | false =>
    go_wp2_with (fail)
    refine hcall.mono ?_
    rintro e w' ⟨rfl, hb'⟩
    go_wp2
    go_roundg 0
    case measure => omega
    case rel => exact ⟨by first | exact .inr ⟨rfl, rfl⟩ | exact .inr ⟨rfl, trivial⟩, ⟨zi0 HB.1 hb'⟩⟩
  ·go_wp2
   go_ret
   exact ⟨rfl, HB.1⟩
theorem containsRow.calls (ad : Addr) (c : Nat) (A2 : Option Addr) (n2 c2 Bp : Nat) (b : Bool) (w : World) (hx : w.cell? ad = some (.slice A2 n2 c2)) (hp : ∀ W, Below w.heap.size w W → Calls Try.prog 49 #[.slice A2 n2 c2, .pointer (some ⟨Bp, 0, none⟩)] W fun e w' => e = .returned (.bool b) ∧ Below W.heap.size W w') :
  Calls Try.prog 48 #[.slice (some ad) 1 c, .func (.func 49) #[] #[.pointer (some ⟨Bp, 0, none⟩)]] w fun e w' => e = .returned (.bool b) ∧ Below w.heap.size w w' := by
 have HX := za0.mk hx
 have HP := za0.mk hp
 clear hx hp
 cases b with
 | true =>
  go_enter Try.func48, Try.ntmps48
  go_wp2_with (go_at_call 68; refine (indexRow.calls ad c A2 n2 c2 Bp true _ HX.1 HP.1).mono ?_; rintro e w2 ⟨rfl, hb⟩; have HB := za0.mk hb; clear hb; simp only [if_true, if_false])
  go_ret
  exact ⟨rfl, HB.1⟩
 | false =>
  go_enter Try.func48, Try.ntmps48
  go_wp2_with (go_at_call 68; refine (indexRow.calls ad c A2 n2 c2 Bp false _ HX.1 HP.1).mono ?_; rintro e w2 ⟨rfl, hb⟩; have HB := za0.mk hb; clear hb; simp only [Bool.false_eq_true, if_false])
  go_ret
  exact ⟨rfl, HB.1⟩
theorem yl2.calls (k : Nat) (l : List (List Int)) (s : Int) (A0 : Option Addr) (c0 : Nat) (AT : Option Addr) (cT : Nat) (rot : List Int) (b : Bool) (w : World) (hr0 : Kd.C (Kd.slice 3 (Kd.int .i64)) w A0 l.length l) (hc0 : l.length ≤ c0) (hrT : Kd.C (Kd.slice 3 (Kd.int .i64)) w AT 1 [rot]) (h : onL k l s rot = some b) :
  Calls Try.prog 31 #[.agg #[.slice A0 l.length c0], .int .i64 s, .slice AT 1 cT] w fun e w' => ∃ Ba, e = .returned (.tuple #[.pointer (if b then some ⟨Ba, 0, none⟩ else none), .bool b]) ∧ (b = true → w.heap.size ≤ Ba ∧ w'.heap[Ba]? = some (.cells #[.slice A0 l.length c0, .int .i64 s] 71 (0, 0))) ∧ Below w.heap.size w w' := by
 have hu1 := Try.underlying29
 have hu3 := Try.underlying71
 obtain ⟨adT, A2, c2, e1, hx, hl2, hi2⟩ := at_L1 hrT 0 (by omega) (by omega)
 subst e1
 have er : rd_L1 [rot] 0 = rot := rfl
 rw [er] at hx hl2 hi2
 have e0 : adT.add (0 : Int).toNat = adT := by simp [Addr.add]
 rw [e0] at hx
 have HX := za0.mk hx
 have HR0 := za0.mk hr0
 have HC0 := za0.mk hc0
 have HR2 := za0.mk hi2
 have HC2 := za0.mk hl2
 unfold onL at h
 obtain ⟨a, h1, h⟩ := Option.bind_eq_some_iff.mp h
 have A1 := za0.mk h1
 clear hr0 hc0 hrT h1 hx hl2 hi2 er e0
 cases a with
 | false =>
  rw [if_neg (by decide)] at h
  obtain rfl := Option.some.inj h
  go_enter Try.func31, Try.ntmps31
  go_wp2_with (first | ((with_reducible refine zo0 (N := 3) rfl ?_); refine zp0 ?hg (N := 3) ?hd (cs := #[.slice A0 l.length c0]) (t := 29) ?hr ?_; (case hd | hg => rfl); (case hr => go_simp <;> rfl); intro gb hg w2 hbox hb; have HB := za0.mk (hb); have BG := za0.mk hbox; clear hb hbox hg; have hcg : w2.cell? ⟨gb, 0, none⟩ = some (.slice A0 l.length c0) := (zl0 BG.1 0).trans rfl) | (go_at_call 39; have HSZ := za0.mk (zh0 HB.1); refine (yk2.calls k l s _ _ false _ (Kd.C_below HR0.1 HB.1) HC0.1 A1.1).mono ?_; rintro e w3 ⟨Ba, rfl, hba, hb⟩; have n0_ := za0.mk (zi0 HB.1 hb); have n1_ := za0.mk (zm0 BG.1 hb); clear HB BG hb; have HB := n0_; have BG := n1_; clear n0_ n1_; clear hcg; clear hba) | ((with_reducible refine zo0 (N := 8) rfl ?_); refine zp0 ?hg (N := 8) ?hd (cs := #[.pointer none]) (t := 49) ?hr ?_; (case hd | hg => rfl); (case hr => go_simp <;> rfl); intro Bp hg w4 hbox hb; have GP := za0.mk (show w.heap.size ≤ Bp from by rw [hg]; exact zh0 HB.1); have BP := za0.mk hbox; have n0_ := za0.mk (zi0 HB.1 hb); clear HB; have HB := n0_; clear n0_; clear hb hbox hg; have hcp : w4.cell? ⟨Bp, 0, none⟩ = some (.pointer none) := (zl0 BP.1 0).trans rfl; have hfp := zk0 BP.1 0))
  go_ret2
  first | exact ⟨rfl, HB.1⟩ | exact ⟨0, rfl, fun h => (by cases h), HB.1⟩ | exact ⟨rfl, ze0 HB.1 GP.1⟩
 | true =>
  rw [if_pos rfl] at h
  have A3 := za0.mk h
  clear h
  cases b with
  | false =>
   go_enter Try.func31, Try.ntmps31
   go_wp2_with (first | ((with_reducible refine zo0 (N := 3) rfl ?_); refine zp0 ?hg (N := 3) ?hd (cs := #[.slice A0 l.length c0]) (t := 29) ?hr ?_; (case hd | hg => rfl); (case hr => go_simp <;> rfl); intro gb hg w2 hbox hb; have HB := za0.mk (hb); have BG := za0.mk hbox; clear hb hbox hg; have hcg : w2.cell? ⟨gb, 0, none⟩ = some (.slice A0 l.length c0) := (zl0 BG.1 0).trans rfl) | (go_at_call 39; have HSZ := za0.mk (zh0 HB.1); refine (yk2.calls k l s _ _ true _ (Kd.C_below HR0.1 HB.1) HC0.1 A1.1).mono ?_; rintro e w3 ⟨Ba, rfl, hba, hb⟩; have n0_ := za0.mk (zi0 HB.1 hb); have n1_ := za0.mk (zm0 BG.1 hb); clear HB BG hb; have HB := n0_; have BG := n1_; clear n0_ n1_; clear hcg; have BA := za0.mk (hba rfl).2; have GE := za0.mk (Nat.le_trans HSZ.1 (hba rfl).1); clear hba) | ((with_reducible refine zo0 (N := 8) rfl ?_); refine zp0 ?hg (N := 8) ?hd (cs := #[.pointer none]) (t := 49) ?hr ?_; (case hd | hg => rfl); (case hr => go_simp <;> rfl); intro Bp hg w4 hbox hb; have GP := za0.mk (show w.heap.size ≤ Bp from by rw [hg]; exact zh0 HB.1); have BP := za0.mk hbox; have n0_ := za0.mk (zi0 HB.1 hb); clear HB; have HB := n0_; clear n0_; have n1_ := za0.mk (zm0 BA.1 hb); clear BA; have BA := n1_; clear n1_; clear hb hbox hg; have hcp : w4.cell? ⟨Bp, 0, none⟩ = some (.pointer none) := (zl0 BP.1 0).trans rfl; have hfp := zk0 BP.1 0) | (go_at_call 48; have n0_ := za0.mk (ze0 (j := 0) (v := .pointer (some ⟨Ba, 0, none⟩)) HB.1 GP.1); have n1_ := za0.mk ((Below.heap_setCell w4 ⟨Bp, 0, none⟩ (.pointer (some ⟨Ba, 0, none⟩)) Ba (blk_ne BA.1 BP.1 (by decide))).trans BA.1); have n2_ := za0.mk (show (w4.setCell ⟨Bp, 0, none⟩ (.pointer (some ⟨Ba, 0, none⟩))).heap[Bp]? = some (.cells #[.pointer (some ⟨Ba, 0, none⟩)] 49 (0, 0)) from (blk_putA BP.1).trans rfl); clear HB BA BP hcp hfp BG; have HB := n0_; have BA := n1_; have BP := n2_; clear n0_ n1_ n2_; generalize w4.setCell ⟨Bp, 0, none⟩ (.pointer (some ⟨Ba, 0, none⟩)) = w5 at HB BA BP ⊢; refine (containsRow.calls adT cT A2 rot.length c2 Bp (!false) w5 ((HB.1.cell (World.block_lt_of_cell? _ _ HX.1)).trans HX.1) (fun W hW => actorOn_1.calls k l s A0 c0 Ba Bp A2 c2 rot false W (Kd.C_below HR0.1 (zi0 HB.1 hW)) HC0.1 (zm0 BA.1 hW) (zm0 BP.1 hW) (Kd.C_below HR2.1 (zi0 HB.1 hW)) HC2.1 A3.1)).mono ?_; rintro e w6 ⟨rfl, hb⟩; have n0_ := za0.mk (zi0 HB.1 hb); have n1_ := za0.mk (zm0 BA.1 hb); have hcp : w6.cell? ⟨Bp, 0, none⟩ = some (.pointer (some ⟨Ba, 0, none⟩)) := (zl0 (zm0 BP.1 hb) 0).trans rfl; clear HB BA hb; have HB := n0_; have BA := n1_; clear n0_ n1_; simp only [Bool.not_true, Bool.not_false]))
   go_ret2
   first | exact ⟨rfl, HB.1⟩ | exact ⟨0, rfl, fun h => (by cases h), HB.1⟩
  | true =>
   go_enter Try.func31, Try.ntmps31
   go_wp2_with (first | ((with_reducible refine zo0 (N := 3) rfl ?_); refine zp0 ?hg (N := 3) ?hd (cs := #[.slice A0 l.length c0]) (t := 29) ?hr ?_; (case hd | hg => rfl); (case hr => go_simp <;> rfl); intro gb hg w2 hbox hb; have HB := za0.mk (hb); have BG := za0.mk hbox; clear hb hbox hg; have hcg : w2.cell? ⟨gb, 0, none⟩ = some (.slice A0 l.length c0) := (zl0 BG.1 0).trans rfl) | (go_at_call 39; have HSZ := za0.mk (zh0 HB.1); refine (yk2.calls k l s _ _ true _ (Kd.C_below HR0.1 HB.1) HC0.1 A1.1).mono ?_; rintro e w3 ⟨Ba, rfl, hba, hb⟩; have n0_ := za0.mk (zi0 HB.1 hb); have n1_ := za0.mk (zm0 BG.1 hb); clear HB BG hb; have HB := n0_; have BG := n1_; clear n0_ n1_; clear hcg; have BA := za0.mk (hba rfl).2; have GE := za0.mk (Nat.le_trans HSZ.1 (hba rfl).1); clear hba) | ((with_reducible refine zo0 (N := 8) rfl ?_); refine zp0 ?hg (N := 8) ?hd (cs := #[.pointer none]) (t := 49) ?hr ?_; (case hd | hg => rfl); (case hr => go_simp <;> rfl); intro Bp hg w4 hbox hb; have GP := za0.mk (show w.heap.size ≤ Bp from by rw [hg]; exact zh0 HB.1); have BP := za0.mk hbox; have n0_ := za0.mk (zi0 HB.1 hb); clear HB; have HB := n0_; clear n0_; have n1_ := za0.mk (zm0 BA.1 hb); clear BA; have BA := n1_; clear n1_; clear hb hbox hg; have hcp : w4.cell? ⟨Bp, 0, none⟩ = some (.pointer none) := (zl0 BP.1 0).trans rfl; have hfp := zk0 BP.1 0) | (go_at_call 48; have n0_ := za0.mk (ze0 (j := 0) (v := .pointer (some ⟨Ba, 0, none⟩)) HB.1 GP.1); have n1_ := za0.mk ((Below.heap_setCell w4 ⟨Bp, 0, none⟩ (.pointer (some ⟨Ba, 0, none⟩)) Ba (blk_ne BA.1 BP.1 (by decide))).trans BA.1); have n2_ := za0.mk (show (w4.setCell ⟨Bp, 0, none⟩ (.pointer (some ⟨Ba, 0, none⟩))).heap[Bp]? = some (.cells #[.pointer (some ⟨Ba, 0, none⟩)] 49 (0, 0)) from (blk_putA BP.1).trans rfl); clear HB BA BP hcp hfp BG; have HB := n0_; have BA := n1_; have BP := n2_; clear n0_ n1_ n2_; generalize w4.setCell ⟨Bp, 0, none⟩ (.pointer (some ⟨Ba, 0, none⟩)) = w5 at HB BA BP ⊢; refine (containsRow.calls adT cT A2 rot.length c2 Bp (!true) w5 ((HB.1.cell (World.block_lt_of_cell? _ _ HX.1)).trans HX.1) (fun W hW => actorOn_1.calls k l s A0 c0 Ba Bp A2 c2 rot true W (Kd.C_below HR0.1 (zi0 HB.1 hW)) HC0.1 (zm0 BA.1 hW) (zm0 BP.1 hW) (Kd.C_below HR2.1 (zi0 HB.1 hW)) HC2.1 A3.1)).mono ?_; rintro e w6 ⟨rfl, hb⟩; have n0_ := za0.mk (zi0 HB.1 hb); have n1_ := za0.mk (zm0 BA.1 hb); have hcp : w6.cell? ⟨Bp, 0, none⟩ = some (.pointer (some ⟨Ba, 0, none⟩)) := (zl0 (zm0 BP.1 hb) 0).trans rfl; clear HB BA hb; have HB := n0_; have BA := n1_; clear n0_ n1_; simp only [Bool.not_true, Bool.not_false]))
   go_ret2
   exact ⟨Ba, rfl, ⟨GE.1, BA.1⟩, HB.1⟩
end Go.Proofs.Ytlbgajpbdbgmkaa.P
