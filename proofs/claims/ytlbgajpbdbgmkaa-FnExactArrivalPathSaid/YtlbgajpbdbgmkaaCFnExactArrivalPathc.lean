/- Texts of this session on the way to the law FnExactArrivalPath, part 3: words of the print, walks, plain laws; only what the law's proof uses. -/
import Derived.Test.YtlbgajpbdbgmkaaCFnExactArrivalPatha
import Derived.Test.YtlbgajpbdbgmkaaCFnExactArrivalPathb
namespace Go.Proofs.Ytlbgajpbdbgmkaa.P
open Go.RowKit Go.Proofs.YtlbgajpbdbgmkaaW.PrintWords Go.Proofs.YtlbgajpbdbgmkaaW.PrintLast Go.Proofs.YtlbgajpbdbgmkaaW.PrintMore
attribute [local go_sem] zu0 zw0 zz0 zy0 zs0 zq0 zv0 zt0
set_option linter.unusedVariables false
set_option linter.unusedSimpArgs false
mutual
def impl_determinant.l0 : Nat → Int → Int → Int → List (List Int) → List (List Int) → Int → Int → Option (Int)
 | 0, _, _, _, _, _, _, _ => none
 | k + 1, x3, x4, x5, x6, x16, x17, x18 => if x18 < x17 then (if 0 ≤ x18 then (if x18 < (x16.length : Int) then ((slices_Clone_int_int.f (rd_L1 x16 x18)).bind fun t160 => (if x6.length < 5864062014805 then (impl_determinant.l0 k x3 x4 x5 (x6 ++ [t160]) x16 x17 (wrap64 (x18 + 1))) else (none))) else (none)) else (none)) else (impl_determinant.l1 k x3 x4 x5 x6 x3 0)
def impl_determinant.l1 : Nat → Int → Int → Int → List (List Int) → Int → Int → Option (Int)
 | 0, _, _, _, _, _, _ => none
 | k + 1, x3, x4, x5, x6, x28, x29 => if x29 < x28 then (impl_determinant.l2 k x3 x4 x5 x6 x29 x29 x28 x29) else (some (wrap64 (x4 * x5)))
def impl_determinant.j3 : Nat → Int → Int → Int → List (List Int) → Int → Int → Int → Int → Option (Int)
 | 0, _, _, _, _, _, _, _, _ => none
 | k + 1, x3, x4, x5, x6, x9, x10, x28, x29 => if x10 = x3 then (some 0) else (if x10 = x9 then (impl_determinant.j4 k x3 x4 x5 x6 x9 x28 x29) else ((fake_swap.f x6 x10 x9).bind fun t168 => (impl_determinant.j4 k x3 (wrap64 (-x4)) x5 t168 x9 x28 x29)))
def impl_determinant.j4 : Nat → Int → Int → Int → List (List Int) → Int → Int → Int → Option (Int)
 | 0, _, _, _, _, _, _, _ => none
 | k + 1, x3, x4, x5, x6, x9, x28, x29 => impl_determinant.l3 k x3 x4 x5 x6 x9 (wrap64 (x9 + 1)) x28 x29
def impl_determinant.l3 : Nat → Int → Int → Int → List (List Int) → Int → Int → Int → Int → Option (Int)
 | 0, _, _, _, _, _, _, _, _ => none
 | k + 1, x3, x4, x5, x6, x9, x11, x28, x29 => if x11 < x3 then (impl_determinant.l4 k x3 x4 x5 x6 x9 x11 (wrap64 (x9 + 1)) x28 x29) else (if 0 ≤ x9 then (if x9 < (x6.length : Int) then (if x9 < ((rd_L1 x6 x9).length : Int) then (impl_determinant.l1 k x3 x4 (rd (rd_L1 x6 x9) x9) x6 x28 (wrap64 (x29 + 1))) else (none)) else (none)) else (none))
def impl_determinant.l4 : Nat → Int → Int → Int → List (List Int) → Int → Int → Int → Int → Int → Option (Int)
 | 0, _, _, _, _, _, _, _, _, _ => none
 | k + 1, x3, x4, x5, x6, x9, x11, x12, x28, x29 => if x12 < x3 then (if 0 ≤ x11 then (if x11 < (x6.length : Int) then (if 0 ≤ x12 then (if x12 < ((rd_L1 x6 x11).length : Int) then (if 0 ≤ x9 then (if x9 < (x6.length : Int) then (if x9 < ((rd_L1 x6 x9).length : Int) then (if x9 < ((rd_L1 x6 x11).length : Int) then (if x12 < ((rd_L1 x6 x9).length : Int) then (if x5 = 0 then (none) else (impl_determinant.l4 k x3 x4 x5 (x6.set (x11 : Int).toNat ((rd_L1 x6 x11).set (x12 : Int).toNat (wrap64 (Int.tdiv (wrap64 ((wrap64 ((rd (rd_L1 x6 x11) x12) * (rd (rd_L1 x6 x9) x9))) - (wrap64 ((rd (rd_L1 x6 x11) x9) * (rd (rd_L1 x6 x9) x12))))) x5)))) x9 x11 (wrap64 (x12 + 1)) x28 x29)) else (none)) else (none)) else (none)) else (none)) else (none)) else (none)) else (none)) else (none)) else (none)) else (impl_determinant.l3 k x3 x4 x5 x6 x9 (wrap64 (x11 + 1)) x28 x29)
def impl_determinant.l2 : Nat → Int → Int → Int → List (List Int) → Int → Int → Int → Int → Option (Int)
 | 0, _, _, _, _, _, _, _, _ => none
 | k + 1, x3, x4, x5, x6, x9, x10, x28, x29 => if x10 < x3 then (if 0 ≤ x10 then (if x10 < (x6.length : Int) then (if 0 ≤ x9 then (if x9 < ((rd_L1 x6 x10).length : Int) then (if (rd (rd_L1 x6 x10) x9) = 0 then (impl_determinant.l2 k x3 x4 x5 x6 x9 (wrap64 (x10 + 1)) x28 x29) else (impl_determinant.j3 k x3 x4 x5 x6 x9 x10 x28 x29)) else (none)) else (none)) else (none)) else (none)) else (impl_determinant.j3 k x3 x4 x5 x6 x9 x10 x28 x29)
end
def impl_determinant.f (k : Nat) (l0 : List (List Int)) : Option (Int) := impl_determinant.l0 k (l0.length : Int) 1 1 (([] : List (List Int))) l0 (l0.length : Int) 0
def impl_determinant.T25 : Bool × List (List Nat × List Nat) := (true, [([], []), ([], []), ([0, 1], [0, 1]), ([2], [2]), ([], []), ([], []), ([], []), ([5, 6], [5, 6]), ([7], [7]), ([], []), ([8, 9], [8, 9]), ([10], [10]), ([], []), ([], []), ([12, 13], [12, 13]), ([14], [14]), ([], []), ([15, 16], [15, 16]), ([17], [17]), ([11, 18], [11, 18]), ([], []), ([], []), ([20, 21], [20, 21]), ([22], [22]), ([], []), ([23, 24], [23, 24]), ([25], [25]), ([], []), ([], []), ([27, 28], [27, 28]), ([29], [29]), ([], []), ([30, 31], [30, 31]), ([32], [32]), ([26, 33], [26, 33]), ([19, 34], [19, 34]), ([], []), ([35, 36], [35, 36]), ([3, 4, 0, 1, 2, 3, 4, 5, 6, 7, 8, 9, 10, 11, 12, 13, 14, 15, 16, 17, 18, 19, 20, 21, 22, 23, 24, 25, 26, 27, 28, 29, 30, 31, 32, 33, 34, 35, 36, 37], [3, 4]), ([38, 37, 0, 1, 2, 3, 4, 5, 6, 7, 8, 9, 10, 11, 12, 13, 14, 15, 16, 17, 18, 19, 20, 21, 22, 23, 24, 25, 26, 27, 28, 29, 30, 31, 32, 33, 34, 35, 36, 37], [37, 38])])
def impl_determinant.B25 : List Nat := [0, 0, 3, 7, 0, 0, 0, 96, 224, 0, 992, 2016, 0, 0, 12288, 28672, 0, 126976, 258048, 524256, 0, 0, 3145728, 7340032, 0, 32505856, 66060288, 0, 0, 402653184, 939524096, 0, 4160749568, 8455716864, 17178820608, 34359738336, 0, 137438953440, 274877906943, 549755813887]
theorem impl_determinant.tab25 : rtab .any (opsOf Try.f62 25) = impl_determinant.T25 := by kernel_rfl
theorem impl_determinant.bits25 : waitsOk impl_determinant.T25.2 impl_determinant.B25 = true := by kernel_rfl
set_option maxHeartbeats 8000000 in
set_option maxRecDepth 100000 in
theorem impl_determinant.calls (k : Nat) (A0 : Option Addr) (c0 : Nat) (l0 : List (List Int)) (r : Int) (w : World) (hr0 : Kd.C (Kd.slice 3 (Kd.int .i64)) w A0 l0.length l0) (hc0 : l0.length ≤ c0) (h : impl_determinant.f k l0 = some r) :
  Calls Try.prog 62 #[.slice A0 l0.length c0] w fun e w' => e = .returned (.int .i64 r) ∧ Below w.heap.size w w' := by
 have HR0 := za0.mk hr0
 have HC0 := za0.mk hc0
 clear hr0 hc0
 have HB := za0.mk (Below.refl w.heap.size w)
 have H : (impl_determinant.l0 k (l0.length : Int) 1 1 (([] : List (List Int))) l0 (l0.length : Int) 0) = some r := h
 clear h
 obtain ⟨y156, hy156⟩ : ∃ y_ : List (List Int), y_ = (([] : List (List Int))) := ⟨_, rfl⟩
 replace H : (impl_determinant.l0 k (l0.length : Int) 1 1 y156 l0 (l0.length : Int) 0) = some r := by first | (rw [hy156]; with_reducible exact H) | (have H2_ := (Option.bind_some _ _).symm.trans H; rw [hy156]; with_reducible exact H2_) | (have H2_ := (Option.bind_some _ _).symm.trans H; with_reducible exact H2_) | with_reducible exact H | (rw [hy156]; exact H) | exact H
 have Ny156 := za0.mk hy156
 clear hy156
 have H' := za0.mk H
 clear H
 go_enter Try.func62, Try.ntmps62
 go_wp2_with (first | ((with_reducible refine zo0 (N := 15) rfl ?_); refine Kd.S_lit (Kd.slice 3 (Kd.int .i64)) _ 25 ?hg (N := 15) ?hd (xs := ([] : List (List Int))) (inner := []) (ok := fun _ => True) (okp := fun _ => True) ?hr ?hp (fun _ hk => hk) trivial (Below.refl _ _) (Nat.le_refl _) (by simp) ?_; (case hd => rfl); (case hg => rfl); (case hr => first | (go_simp; done) | (go_simp; rfl)); (case hp => exact (Reps.none _ _)); intro v157 w2 ho3 hb hg_ hnew_; clear hg_ hnew_; (first | rw [← Ny156.out] at ho3 | (simp only [Int.reduceToNat] at ho3; rw [← Ny156.out] at ho3)); have n0_ := za0.mk (Kd.S_lower ho3 (zj0 (by repeat (first | (with_reducible first | exact HB.out | apply zc0 | apply zb0 | apply zd0) | exact HB.out)))); have n1_ := za0.mk (zh0 (by repeat (first | (with_reducible first | exact HB.out | apply zc0 | apply zb0 | apply zd0) | exact HB.out)) hb); clear HB; have HO158 := n0_; have HB := n1_; clear n0_ n1_; clear hb ho3))
 go_loopg [6, 18] k (fun kq v6 v18 w' => ∃ (x6_1 : List (List Int)) (x18_1 : Int), v18 = .int .i64 x18_1 ∧ za0 (impl_determinant.l0 kq (l0.length : Int) 1 1 x6_1 l0 (l0.length : Int) x18_1 = some r) ∧ za0 (kq ≤ k) ∧ za0 (Kd.S (Kd.slice 3 (Kd.int .i64)) 25 w' w.heap.size (fun _ => True) v6 x6_1) ∧ za0 (Below w.heap.size w w'))
 case atStart => exact ⟨(y156), (0), (by first | rfl | (simp; done) | (simp [*]; done)), H', ⟨Nat.le_refl _⟩, ⟨by (with_reducible repeat (first | apply Kd.S_alloc | apply Kd.S_drewN | apply Kd.S_drew)); exact HO158.out⟩, ⟨by repeat (first | (with_reducible first | exact HB.out | apply zc0 | apply zb0 | apply zd0) | exact HB.out)⟩⟩
 case round =>
  clear H'
  try clear p2
  obtain ⟨x6_1, x18_1, rfl, HA, HK1, HO_6, HB⟩ := hrel
  cases gk with
  | zero => exact absurd HA.out (by simp [impl_determinant.l0])
  | succ k1 =>
   have H := HA.out
   clear HA
   simp only [impl_determinant.l0] at H
   by_cases c4 : x18_1 < (l0.length : Int)
   ·rw [if_pos c4] at H
    have c4b0 : decide (x18_1 < (l0.length : Int)) = true := decide_eq_true c4
    clear c4
    by_cases c5 : 0 ≤ x18_1
    ·rw [if_pos c5] at H
     have c5b0 : decide (0 ≤ x18_1) = true := decide_eq_true c5
     clear c5
     by_cases c6 : x18_1 < (l0.length : Int)
     ·rw [if_pos c6] at H
      have c6b0 : decide (x18_1 < (l0.length : Int)) = true := decide_eq_true c6
      clear c6
      replace H := Option.bind_eq_some_iff.mp H
      obtain ⟨t160, A70, H⟩ := H
      replace H : (if x6_1.length < 5864062014805 then (impl_determinant.l0 k1 (l0.length : Int) 1 1 (x6_1 ++ [t160]) l0 (l0.length : Int) (wrap64 (x18_1 + 1))) else (none)) = some r := H
      have A7 := za0.mk A70
      clear A70
      by_cases c8 : x6_1.length < 5864062014805
      ·rw [if_pos c8] at H
       have LMc8 := za0.mk c8
       clear c8
       obtain ⟨y163, hy163⟩ : ∃ y_ : List (List Int), y_ = (x6_1 ++ [t160]) := ⟨_, rfl⟩
       replace H : (impl_determinant.l0 k1 (l0.length : Int) 1 1 y163 l0 (l0.length : Int) (wrap64 (x18_1 + 1))) = some r := by first | (rw [hy163]; with_reducible exact H) | (have H2_ := (Option.bind_some _ _).symm.trans H; rw [hy163]; with_reducible exact H2_) | (have H2_ := (Option.bind_some _ _).symm.trans H; with_reducible exact H2_) | with_reducible exact H | (rw [hy163]; exact H) | exact H
       have Ny163 := za0.mk hy163
       clear hy163
       have H' := za0.mk H
       clear H
       have p159 : 0 ≤ (x18_1 : Int) := of_decide_eq_true (by first | (with_reducible assumption) | assumption)
       have q159 : x18_1 < (l0.length : Int) := of_decide_eq_true (by first | (with_reducible assumption) | assumption)
       obtain ⟨ad159, A159_0, c159_0, e159, hx159_0, hl159_0, hi159_0⟩ := at_L1 HR0.out x18_1 p159 q159
       cases e159
       replace hx159_0 := (HB.out.cell (World.block_lt_of_cell? w _ hx159_0)).trans hx159_0
       have HR159_0 := za0.mk hi159_0
       have HC159_0 := za0.mk hl159_0
       clear hi159_0 hl159_0
       replace p159 := eq_true p159
       replace q159 := eq_true q159
       go_wp2_with (first | ((with_reducible refine zn0 (f := 35) rfl ?_); refine goesL_ (some 24) rfl rfl Try.func35 (by kernel_rfl) rfl #[.slice A159_0 (rd_L1 l0 x18_1).length c159_0] rfl (by (try simp only [List.map_toArray, List.map_cons, List.map_nil]); first | done | rfl | (simp only [List.length_drop, List.length_take]; rfl)) ?_; (with_reducible refine (slices_Clone_int_int.calls _ _ (rd_L1 l0 x18_1) t160 _ ?side1 ?side2 A7.out).mono ?_); (case side1 => repeat (first | exact (Kd.C_below HR159_0.out HB.out) | (with_reducible refine Kd.C_alloc ?_ _) | (with_reducible refine Kd.C_drewN ?_ _) | (with_reducible refine Kd.C_drew ?_))); (case side2 => exact HC159_0.out); rintro e w9 ⟨v161, rfl, ho0, hb⟩; refine ⟨_, rfl, ?_⟩; have n0_ := za0.mk (Kd.S_elder' (by (with_reducible repeat (first | apply Kd.S_alloc | apply Kd.S_drewN | apply Kd.S_drew)); exact HO_6.out) (Kd.R_base ho0) hb); have n1_ := za0.mk (Kd.R_lower ho0 (zj0 (by repeat (first | (with_reducible first | exact HB.out | apply zc0 | apply zb0 | apply zd0) | exact HB.out)))); have n2_ := za0.mk (zh0 (by repeat (first | (with_reducible first | exact HB.out | apply zc0 | apply zb0 | apply zd0) | exact HB.out)) hb); clear HO_6; clear HB; have HO_6 := n0_; have HO162 := n1_; have HB := n2_; clear n0_ n1_ n2_; (try clear hb); (try clear hb2); (try clear hk); (try clear hi); (try clear ho0); obtain ⟨Ao11, co11, eo11⟩ := Kd.R_slice HO162.out; subst eo11) | ((with_reducible refine gate_builtin (b := .append) (xs := #[.tmp 22, .tmp 25]) rfl ?_); at_builtin; refine Kd.S_append (Kd.slice 3 (Kd.int .i64)) (w0 := w) w.heap.size rfl (.tmp 22) (.tmp 25) 22 25 (.slice none 0 0) 24 rfl Try.underlying22 info25 rfl (by decide) (by omega) u6 x6_1 t160 [.slice Ao11 t160.length co11] (fun _ => True) (fun k_ => some k_ = (.slice Ao11 t160.length co11 : Value).ownBlock) rfl rfl ?aP (fun k_ hk_ => ((Kd.R_mono (ok' := fun k_ => ((fun _ => True)) k_ ∧ some k_ ≠ (u6 : Value).ownBlock) (Kd.R_apart' (HO162.out) (Kd.S_typed HO_6.out) (by decide)) (fun k_ hk => ⟨trivial, hk.2⟩))).1 k_ hk_.symm) ?aF ?aO ?aB ?aS ?aL ?_; (case aP => exact Kd.M_row (Kd.R_mono (Kd.R_tight rfl (Kd.R_mono (ok' := fun k_ => ((fun _ => True)) k_ ∧ some k_ ≠ (u6 : Value).ownBlock) (Kd.R_apart' (HO162.out) (Kd.S_typed HO_6.out) (by decide)) (fun k_ hk => ⟨trivial, hk.2⟩))) (fun _ h_ => h_))); (case aB => exact (by repeat (first | (with_reducible first | exact HB.out | apply zc0 | apply zb0 | apply zd0) | exact HB.out))); (case aF => exact (fun _ _ => trivial)); (case aO => exact (by (with_reducible repeat (first | apply Kd.S_alloc | apply Kd.S_drewN | apply Kd.S_drew)); exact Kd.S_mono HO_6.out (fun k_ hk => ⟨trivial, fun e_ => hk.2 e_⟩))); (case aS => exact (zj0 (by repeat (first | (with_reducible first | exact HB.out | apply zc0 | apply zb0 | apply zd0) | exact HB.out)))); (case aL => have := LMc8.out; omega); intro v164 w10 ho hb hg hat; rw [← Ny163.out] at ho; have n0_ := za0.mk (hb); have n1_ := za0.mk (ho); clear HB; clear HO_6; clear HO162; have HB := n0_; have HO165 := n1_; clear n0_ n1_; clear ho hb hg hat))
       go_roundg k1
       case measure => have := HK1.out; omega
       case rel => exact ⟨(y163), (wrap64 (x18_1 + 1)), (by first | rfl | (simp; done) | (simp [*]; done)), H', ⟨by have := HK1.out; omega⟩, ⟨by (with_reducible repeat (first | apply Kd.S_alloc | apply Kd.S_drewN | apply Kd.S_drew)); exact HO165.out⟩, ⟨by repeat (first | (with_reducible first | exact HB.out | apply zc0 | apply zb0 | apply zd0) | exact HB.out)⟩⟩
      ·rw [if_neg c8] at H
       exact absurd H (by simp)
     ·rw [if_neg c6] at H
      exact absurd H (by simp)
    ·rw [if_neg c5] at H
     exact absurd H (by simp)
   ·rw [if_neg c4] at H
    have c4b0 : decide (x18_1 < (l0.length : Int)) = false := decide_eq_false c4
    clear c4
    have H' := za0.mk H
    clear H
    go_wp2
    go_loopg [4, 5, 29] k1 (fun kq v4 v5 v29 w' => ∃ (x4_2 : Int) (x5_2 : Int) (x6_2 : List (List Int)) (x29_2 : Int), v4 = .int .i64 x4_2 ∧ v5 = .int .i64 x5_2 ∧ v29 = .int .i64 x29_2 ∧ za0 (impl_determinant.l1 kq (l0.length : Int) x4_2 x5_2 x6_2 (l0.length : Int) x29_2 = some r) ∧ za0 (kq ≤ k1) ∧ za0 (Kd.S (Kd.slice 3 (Kd.int .i64)) 25 w' w.heap.size (fun _ => True) u6 x6_2) ∧ za0 (Below w.heap.size w w'))
    case atStart => exact ⟨(1), (1), (x6_1), (0), (by first | rfl | (simp; done) | (simp [*]; done)), (by first | rfl | (simp; done) | (simp [*]; done)), (by first | rfl | (simp; done) | (simp [*]; done)), H', ⟨Nat.le_refl _⟩, ⟨by (with_reducible repeat (first | apply Kd.S_alloc | apply Kd.S_drewN | apply Kd.S_drew)); exact HO_6.out⟩, ⟨by repeat (first | (with_reducible first | exact HB.out | apply zc0 | apply zb0 | apply zd0) | exact HB.out)⟩⟩
    case round =>
     clear H'
     try clear c1
     try clear p1
     try clear q1
     try clear hx1
     try clear p2
     try clear c3
     try clear c4
     try clear c4b0
     try clear c5
     try clear c5b0
     try clear c6
     try clear c6b0
     try clear p6
     try clear c8
     try clear hx159_0
     try clear p159
     try clear p2
     try clear q159
     obtain ⟨x4_2, x5_2, x6_2, x29_2, rfl, rfl, rfl, HA, HK2, HO_6, HB⟩ := hrel
     cases gk with
     | zero => exact absurd HA.out (by simp [impl_determinant.l1])
     | succ k2 =>
      have H := HA.out
      clear HA
      simp only [impl_determinant.l1] at H
      by_cases c12 : x29_2 < (l0.length : Int)
      ·rw [if_pos c12] at H
       have c12b0 : decide (x29_2 < (l0.length : Int)) = true := decide_eq_true c12
       clear c12
       have HC13 := za0.mk H
       clear H
       go_upto_block 4 with (fail)
       go_cut [10] (fun v10 wc => ∃ (kq : Nat) (x10_12 : Int), v10 = .int .i64 x10_12 ∧ za0 (impl_determinant.j3 kq (l0.length : Int) x4_2 x5_2 x6_2 x29_2 x10_12 (l0.length : Int) x29_2 = some r) ∧ za0 (kq ≤ k2) ∧ za0 (Kd.S (Kd.slice 3 (Kd.int .i64)) 25 wc w.heap.size (fun _ => True) u6 x6_2) ∧ za0 (Below w.heap.size w wc))
       case first =>
        have H := HC13.out
        clear HC13
        have H' := za0.mk H
        clear H
        go_wp2
        go_loopg [10] k2 (fun kq v10 w' => ∃ (x10_3 : Int), v10 = .int .i64 x10_3 ∧ za0 (impl_determinant.l2 kq (l0.length : Int) x4_2 x5_2 x6_2 x29_2 x10_3 (l0.length : Int) x29_2 = some r) ∧ za0 (kq ≤ k2) ∧ za0 (Kd.S (Kd.slice 3 (Kd.int .i64)) 25 w' w.heap.size (fun _ => True) u6 x6_2) ∧ za0 (Below w.heap.size w w'))
        case atStart => exact ⟨(x29_2), (by first | rfl | (simp; done) | (simp [*]; done)), H', ⟨Nat.le_refl _⟩, ⟨by (with_reducible repeat (first | apply Kd.S_alloc | apply Kd.S_drewN | apply Kd.S_drew)); exact HO_6.out⟩, ⟨by repeat (first | (with_reducible first | exact HB.out | apply zc0 | apply zb0 | apply zd0) | exact HB.out)⟩⟩
        case round =>
         clear H'
         try clear c1
         try clear p1
         try clear q1
         try clear hx1
         try clear p2
         try clear c3
         try clear c4
         try clear c4b0
         try clear c5
         try clear c5b0
         try clear c6
         try clear c6b0
         try clear p6
         try clear c8
         try clear c12
         try clear c12b0
         try clear hx159_0
         try clear p1
         try clear p159
         try clear p2
         try clear p6
         try clear q1
         try clear q159
         obtain ⟨x10_3, rfl, HA, HK3, HO_6, HB⟩ := hrel
         cases gk with
         | zero => exact absurd HA.out (by simp [impl_determinant.l2])
         | succ k3 =>
          have H := HA.out
          clear HA
          simp only [impl_determinant.l2] at H
          by_cases c14 : x10_3 < (l0.length : Int)
          ·rw [if_pos c14] at H
           have c14b0 : decide (x10_3 < (l0.length : Int)) = true := decide_eq_true c14
           clear c14
           (first | rw [c14b0] | (simp only [i64_w, i32_w]; rw [c14b0]) | skip)
           by_cases c15 : 0 ≤ x10_3
           ·rw [if_pos c15] at H
            have c15b0 : decide (0 ≤ x10_3) = true := decide_eq_true c15
            clear c15
            by_cases c16 : x10_3 < (x6_2.length : Int)
            ·rw [if_pos c16] at H
             have c16b0 : decide (x10_3 < (x6_2.length : Int)) = true := decide_eq_true c16
             clear c16
             by_cases c17 : 0 ≤ x29_2
             ·rw [if_pos c17] at H
              have c17b0 : decide (0 ≤ x29_2) = true := decide_eq_true c17
              clear c17
              by_cases c18 : x29_2 < ((rd_L1 x6_2 x10_3).length : Int)
              ·rw [if_pos c18] at H
               have c18b0 : decide (x29_2 < ((rd_L1 x6_2 x10_3).length : Int)) = true := decide_eq_true c18
               clear c18
               by_cases c19 : (rd (rd_L1 x6_2 x10_3) x29_2) = 0
               ·rw [if_pos c19] at H
                have c19b0 : ((rd (rd_L1 x6_2 x10_3) x29_2) == 0) = true := beq_iff_eq.mpr c19
                have c19b1 : ((rd (rd_L1 x6_2 x10_3) x29_2) != 0) = false := bne_eq_false_iff_eq.mpr c19
                clear c19
                have H' := za0.mk H
                clear H
                obtain ⟨Ao20, co20, eo20⟩ := Kd.S_slice HO_6.out
                subst eo20
                have p166 : 0 ≤ (x10_3 : Int) := of_decide_eq_true (by first | (with_reducible assumption) | assumption)
                have q166 : x10_3 < (x6_2.length : Int) := of_decide_eq_true (by first | (with_reducible assumption) | assumption)
                obtain ⟨ad166, A166_0, c166_0, e166, hx166_0, hl166_0, hi166_0⟩ := at_L1 (Kd.S_reads' HO_6.out).2.2 x10_3 p166 q166
                cases e166
                obtain ⟨ce166, hce166, hMe166, hcc166⟩ := Kd.S_get HO_6.out [] x10_3 p166 (by first | exact q166 | exact of_decide_eq_true (by first | (with_reducible assumption) | assumption) | (have e_ := (Kd.S_reads' HO_6.out).1; omega))
                obtain ⟨ve166_0, rfl, ge166_0⟩ := hMe166
                have hv166_0 := hcc166 0 _ rfl
                rw [Nat.add_zero, show ((Kd.slice 3 (Kd.int .i64))).sz = 1 from rfl, Nat.mul_one] at hv166_0
                replace hv166_0 := Option.some.inj (hv166_0.symm.trans hx166_0)
                rw [hv166_0] at ge166_0
                have HL166_0 := za0.mk (show Kd.R (Kd.int .i64) 3 _ _ _ _ (rd_L1 x6_2 x10_3) from ge166_0)
                clear hv166_0 ge166_0
                have HX166_0 := za0.mk hx166_0
                clear hcc166 hce166
                have HR166_0 := za0.mk hi166_0
                have HC166_0 := za0.mk hl166_0
                clear hi166_0 hl166_0
                replace p166 := eq_true p166
                replace q166 := eq_true q166
                have p167 : 0 ≤ (x29_2 : Int) := of_decide_eq_true (by first | (with_reducible assumption) | assumption)
                have q167 : x29_2 < ((rd_L1 x6_2 x10_3).length : Int) := of_decide_eq_true (by first | (with_reducible assumption) | assumption)
                obtain ⟨ad167, e167, hx167_0⟩ := Kd.at_int (by repeat (first | (with_reducible exact HR166_0.out) | (with_reducible refine Kd.C_alloc ?_ _) | (with_reducible refine Kd.C_drewN ?_ _) | (with_reducible refine Kd.C_drew ?_) | exact HR166_0.out)) x29_2 p167 q167
                cases e167
                replace p167 := eq_true p167
                replace q167 := eq_true q167
                go_wp2
                go_roundg k3
                case measure => have := HK1.out; have := HK2.out; have := HK3.out; omega
                case rel => exact ⟨(wrap64 (x10_3 + 1)), (by first | rfl | (simp; done) | (simp [*]; done)), H', ⟨by have := HK1.out; have := HK2.out; have := HK3.out; omega⟩, ⟨by (with_reducible repeat (first | apply Kd.S_alloc | apply Kd.S_drewN | apply Kd.S_drew)); exact HO_6.out⟩, ⟨by repeat (first | (with_reducible first | exact HB.out | apply zc0 | apply zb0 | apply zd0) | exact HB.out)⟩⟩
               ·rw [if_neg c19] at H
                have c19b0 : ((rd (rd_L1 x6_2 x10_3) x29_2) == 0) = false := beq_eq_false_iff_ne.mpr c19
                have c19b1 : ((rd (rd_L1 x6_2 x10_3) x29_2) != 0) = true := bne_iff_ne.mpr c19
                have H' := za0.mk H
                clear H
                obtain ⟨Ao21, co21, eo21⟩ := Kd.S_slice HO_6.out
                subst eo21
                have p166 : 0 ≤ (x10_3 : Int) := of_decide_eq_true (by first | (with_reducible assumption) | assumption)
                have q166 : x10_3 < (x6_2.length : Int) := of_decide_eq_true (by first | (with_reducible assumption) | assumption)
                obtain ⟨ad166, A166_0, c166_0, e166, hx166_0, hl166_0, hi166_0⟩ := at_L1 (Kd.S_reads' HO_6.out).2.2 x10_3 p166 q166
                cases e166
                obtain ⟨ce166, hce166, hMe166, hcc166⟩ := Kd.S_get HO_6.out [] x10_3 p166 (by first | exact q166 | exact of_decide_eq_true (by first | (with_reducible assumption) | assumption) | (have e_ := (Kd.S_reads' HO_6.out).1; omega))
                obtain ⟨ve166_0, rfl, ge166_0⟩ := hMe166
                have hv166_0 := hcc166 0 _ rfl
                rw [Nat.add_zero, show ((Kd.slice 3 (Kd.int .i64))).sz = 1 from rfl, Nat.mul_one] at hv166_0
                replace hv166_0 := Option.some.inj (hv166_0.symm.trans hx166_0)
                rw [hv166_0] at ge166_0
                have HL166_0 := za0.mk (show Kd.R (Kd.int .i64) 3 _ _ _ _ (rd_L1 x6_2 x10_3) from ge166_0)
                clear hv166_0 ge166_0
                have HX166_0 := za0.mk hx166_0
                clear hcc166 hce166
                have HR166_0 := za0.mk hi166_0
                have HC166_0 := za0.mk hl166_0
                clear hi166_0 hl166_0
                replace p166 := eq_true p166
                replace q166 := eq_true q166
                have p167 : 0 ≤ (x29_2 : Int) := of_decide_eq_true (by first | (with_reducible assumption) | assumption)
                have q167 : x29_2 < ((rd_L1 x6_2 x10_3).length : Int) := of_decide_eq_true (by first | (with_reducible assumption) | assumption)
                obtain ⟨ad167, e167, hx167_0⟩ := Kd.at_int (by repeat (first | (with_reducible exact HR166_0.out) | (with_reducible refine Kd.C_alloc ?_ _) | (with_reducible refine Kd.C_drewN ?_ _) | (with_reducible refine Kd.C_drew ?_) | exact HR166_0.out)) x29_2 p167 q167
                cases e167
                replace p167 := eq_true p167
                replace q167 := eq_true q167
                go_wp2
                go_meet
                case rel => exact ⟨_, (x10_3), (by first | rfl | (simp; done) | (simp [*]; done)), H', ⟨by have := HK1.out; have := HK2.out; have := HK3.out; first | omega | exact Nat.le_refl _⟩, ⟨by (with_reducible repeat (first | apply Kd.S_alloc | apply Kd.S_drewN | apply Kd.S_drew)); exact HO_6.out⟩, ⟨by repeat (first | (with_reducible first | exact HB.out | apply zc0 | apply zb0 | apply zd0) | exact HB.out)⟩⟩
              ·rw [if_neg c18] at H
               exact absurd H (by simp)
             ·rw [if_neg c17] at H
              exact absurd H (by simp)
            ·rw [if_neg c16] at H
             exact absurd H (by simp)
           ·rw [if_neg c15] at H
            exact absurd H (by simp)
          ·rw [if_neg c14] at H
           have c14b0 : decide (x10_3 < (l0.length : Int)) = false := decide_eq_false c14
           clear c14
           (first | rw [c14b0] | (simp only [i64_w, i32_w]; rw [c14b0]) | skip)
           have H' := za0.mk H
           clear H
           go_wp2
           go_meet
           case rel => exact ⟨_, (x10_3), (by first | rfl | (simp; done) | (simp [*]; done)), H', ⟨by have := HK1.out; have := HK2.out; have := HK3.out; first | omega | exact Nat.le_refl _⟩, ⟨by (with_reducible repeat (first | apply Kd.S_alloc | apply Kd.S_drewN | apply Kd.S_drew)); exact HO_6.out⟩, ⟨by repeat (first | (with_reducible first | exact HB.out | apply zc0 | apply zb0 | apply zd0) | exact HB.out)⟩⟩
       case rest =>
        clear HC13
        try clear c1
        try clear p1
        try clear q1
        try clear hx1
        try clear p2
        try clear c3
        try clear c4
        try clear c4b0
        try clear c5
        try clear c5b0
        try clear c6
        try clear c6b0
        try clear p6
        try clear c8
        try clear c12
        try clear c12b0
        try clear c14
        try clear c14b0
        try clear c15
        try clear c15b0
        try clear p15
        try clear q15
        try clear hx15
        try clear c16
        try clear c16b0
        try clear p16
        try clear q16
        try clear hx16
        try clear c17
        try clear c17b0
        try clear c18
        try clear c18b0
        try clear c19
        try clear c19b0
        try clear c19b1
        try clear hx159_0
        try clear hx166_0
        try clear hx167_0
        try clear p1
        try clear p159
        try clear p166
        try clear p167
        try clear p2
        try clear p6
        try clear q1
        try clear q159
        try clear q166
        try clear q167
        obtain ⟨kq, x10_12, rfl, HA, HJ12, HO_6, HB⟩ := hcut
        cases kq with
        | zero => exact absurd HA.out (by simp [impl_determinant.j3])
        | succ kj12 =>
         have H := HA.out
         clear HA
         simp only [impl_determinant.j3] at H
         by_cases c22 : x10_12 = (l0.length : Int)
         ·rw [if_pos c22] at H
          have c22b0 : (x10_12 == (l0.length : Int)) = true := beq_iff_eq.mpr c22
          have c22b1 : (x10_12 != (l0.length : Int)) = false := bne_eq_false_iff_eq.mpr c22
          clear c22
          obtain rfl := Option.some.inj H
          go_wp2
          go_ret
          exact ⟨by first | rfl | (simp [errW_none, errW_some] <;> rfl) | (simp [*, errW_none, errW_some] <;> rfl), by repeat (first | (with_reducible first | exact HB.out | apply zc0 | apply zb0 | apply zd0) | exact HB.out)⟩
         ·rw [if_neg c22] at H
          have c22b0 : (x10_12 == (l0.length : Int)) = false := beq_eq_false_iff_ne.mpr c22
          have c22b1 : (x10_12 != (l0.length : Int)) = true := bne_iff_ne.mpr c22
          have HC23 := za0.mk H
          clear H
          go_upto_if 53 with (fail)
          go_cut [4] (fun v4 wc => ∃ (kq : Nat) (x4_22 : Int) (x6_22 : List (List Int)), v4 = .int .i64 x4_22 ∧ za0 (impl_determinant.j4 kq (l0.length : Int) x4_22 x5_2 x6_22 x29_2 (l0.length : Int) x29_2 = some r) ∧ za0 (kq ≤ kj12) ∧ za0 (Kd.S (Kd.slice 3 (Kd.int .i64)) 25 wc w.heap.size (fun _ => True) u6 x6_22) ∧ za0 (Below w.heap.size w wc))
          case first =>
           have H := HC23.out
           clear HC23
           by_cases c24 : x10_12 = x29_2
           ·rw [if_pos c24] at H
            have c24b0 : (x10_12 == x29_2) = true := beq_iff_eq.mpr c24
            have c24b1 : (x10_12 != x29_2) = false := bne_eq_false_iff_eq.mpr c24
            clear c24
            (first | rw [c24b0] | (simp only [i64_w, i32_w]; rw [c24b0]) | skip)
            have H' := za0.mk H
            clear H
            go_wp2
            go_meet
            case rel => exact ⟨_, (x4_2), (x6_2), (by first | rfl | (simp; done) | (simp [*]; done)), H', ⟨by have := HK1.out; have := HK2.out; have := HJ12.out; first | omega | exact Nat.le_refl _⟩, ⟨by (with_reducible repeat (first | apply Kd.S_alloc | apply Kd.S_drewN | apply Kd.S_drew)); exact HO_6.out⟩, ⟨by repeat (first | (with_reducible first | exact HB.out | apply zc0 | apply zb0 | apply zd0) | exact HB.out)⟩⟩
           ·rw [if_neg c24] at H
            have c24b0 : (x10_12 == x29_2) = false := beq_eq_false_iff_ne.mpr c24
            have c24b1 : (x10_12 != x29_2) = true := bne_iff_ne.mpr c24
            (first | rw [c24b0] | (simp only [i64_w, i32_w]; rw [c24b0]) | skip)
            replace H := Option.bind_eq_some_iff.mp H
            obtain ⟨t168, A250, H⟩ := H
            replace H : (impl_determinant.j4 kj12 (l0.length : Int) (wrap64 (-x4_2)) x5_2 t168 x29_2 (l0.length : Int) x29_2) = some r := H
            have A25 := za0.mk A250
            clear A250
            have H' := za0.mk H
            clear H
            obtain ⟨b1, b2, b3, b4, hsw⟩ := fake_swap_some A25.out
            obtain ⟨go26, co26, eo26, gb26, _, cl26, HG26⟩ := Kd.S_form HO_6.out (by omega)
            subst eo26
            have hne_ : x10_12.toNat ≠ x29_2.toNat := by omega
            have HNE := za0.mk hne_
            clear hne_
            have HGB := za0.mk gb26
            clear gb26 HG26
            try go_wp2
            obtain ⟨ad1, A1, c1_, e1, hx1, _, _⟩ := at_L1 (Kd.S_reads' HO_6.out).2.2 x29_2 b3 b4
            cases e1
            rw [add_plain] at hx1
            obtain ⟨ad2, A2, c2_, e2, hx2, _, _⟩ := at_L1 (Kd.S_reads' HO_6.out).2.2 x10_12 b1 b2
            cases e2
            rw [add_plain] at hx2
            have hf1 : wc.frozen? ⟨go26, x10_12.toNat, none⟩ = false := by obtain ⟨_, _, _, _, hfr⟩ := Kd.R_elem (Kd.S_R HO_6.out) ([] : List Int) x10_12 b1 b2; have := hfr 0; simpa [Kd.slice] using this
            have hf2 : wc.frozen? ⟨go26, x29_2.toNat, none⟩ = false := by obtain ⟨_, _, _, _, hfr⟩ := Kd.R_elem (Kd.S_R HO_6.out) ([] : List Int) x29_2 b3 b4; have := hfr 0; simpa [Kd.slice] using this
            have HBB := za0.mk (And.intro (And.intro b1 b2) (And.intro b3 b4))
            replace b1 := eq_true b1
            replace b2 := eq_true b2
            replace b3 := eq_true b3
            replace b4 := eq_true b4
            have n0_ := za0.mk (Kd.S_drew HO_6.out)
            have n1_ := za0.mk (zd0 HB.out)
            clear HO_6 HB
            have HO_6 := n0_
            have HB := n1_
            clear n0_ n1_
            refine start_ (n := 16) (S := fun w' => w'.cell? ⟨go26, x29_2.toNat, none⟩ = some (.slice A1 (rd_L1 x6_2 x29_2).length c1_) ∧ w'.cell? ⟨go26, x10_12.toNat, none⟩ = some (.slice A2 (rd_L1 x6_2 x10_12).length c2_)) (ds := [13, 15]) #[false, false, false, false, false, false, false, false, false, false, false, false, false, false, false, false] (by kernel_rfl) rfl rfl ⟨hx1, hx2⟩ (fun hHeld => ?_)
            replace hx1 := (show wc.drew.cell? _ = _ from hx1)
            replace hx2 := (show wc.drew.cell? _ = _ from hx2)
            replace hf1 := (show wc.drew.frozen? _ = _ from hf1)
            replace hf2 := (show wc.drew.frozen? _ = _ from hf2)
            generalize wc.drew = w26 at HO_6 HB hx1 hx2 hf1 hf2 hHeld ⊢
            refine pure_ (i := 0) (N := some 54) (v := ?_) (a' := ?_) (bf 16 1) rfl rfl (by kernel_rfl) (fun _ _ _ h => h) (Or.inl ⟨by rfl, ?_⟩) ?_ ?_
            rotate_left
            ·intro w'; go_simp; with_reducible rfl
            rotate_left
            ·simp only [Act.put, zA, zB, zC, i64_w, i32_w]; rfl
            refine pure_ (i := 1) (N := some 55) (v := ?_) (a' := ?_) (bf 16 3) rfl rfl (by kernel_rfl) (fun _ _ _ h => h) (Or.inl ⟨by rfl, ?_⟩) ?_ ?_
            rotate_left
            ·intro w'; go_simp; with_reducible rfl
            rotate_left
            ·simp only [Act.put, zA, zB, zC, i64_w, i32_w]; rfl
            refine pure_ (i := 2) (N := some 56) (v := ?_) (a' := ?_) (bf 16 7) rfl rfl (by kernel_rfl) (fun _ _ _ h => h) (Or.inl ⟨by rfl, ?_⟩) ?_ ?_
            rotate_left
            ·intro w'; go_simp; with_reducible rfl
            rotate_left
            ·simp only [Act.put, zA, zB, zC, i64_w, i32_w]; rfl
            refine pure_ (i := 3) (N := some 57) (v := ?_) (a' := ?_) (bf 16 15) rfl rfl (by kernel_rfl) (fun _ _ _ h => h) (Or.inl ⟨by rfl, ?_⟩) ?_ ?_
            rotate_left
            ·intro w'; go_simp; with_reducible rfl
            rotate_left
            ·simp only [Act.put, zA, zB, zC, i64_w, i32_w]; rfl
            refine pure_ (i := 4) (N := some 58) (v := ?_) (a' := ?_) (bf 16 31) rfl rfl (by kernel_rfl) (fun _ _ _ h => h) (Or.inl ⟨by rfl, ?_⟩) ?_ ?_
            rotate_left
            ·intro w'; go_simp; with_reducible rfl
            rotate_left
            ·simp only [Act.put, zA, zB, zC, i64_w, i32_w]; rfl
            refine pure_ (i := 5) (N := some 59) (v := ?_) (a' := ?_) (bf 16 63) rfl rfl (by kernel_rfl) (fun _ _ _ h => h) (Or.inl ⟨by rfl, ?_⟩) ?_ ?_
            rotate_left
            ·intro w'; go_simp; with_reducible rfl
            rotate_left
            ·simp only [Act.put, zA, zB, zC, i64_w, i32_w]; rfl
            refine pure_ (i := 6) (N := some 60) (v := ?_) (a' := ?_) (bf 16 127) rfl rfl (by kernel_rfl) (fun _ _ _ h => h) (Or.inl ⟨by rfl, ?_⟩) ?_ ?_
            rotate_left
            ·intro w'; go_simp; with_reducible rfl
            rotate_left
            ·simp only [Act.put, zA, zB, zC, i64_w, i32_w]; rfl
            refine take_ (i := 7) (N := some 61) (v := ?_) (a' := ?_) (bf 16 255) rfl rfl (by kernel_rfl) (fun _ _ _ h => h) (Or.inl ⟨by rfl, ?_⟩) hHeld ?_ ?_
            rotate_left
            ·rintro w' ⟨s0, s1⟩; go_simp; with_reducible rfl
            rotate_left
            ·simp only [Act.put, zA, zB, zC, i64_w, i32_w]; rfl
            refine pure_ (i := 8) (N := some 62) (v := ?_) (a' := ?_) (bf 16 511) rfl rfl (by kernel_rfl) (fun _ _ _ h => h) (Or.inl ⟨by rfl, ?_⟩) ?_ ?_
            rotate_left
            ·intro w'; go_simp; with_reducible rfl
            rotate_left
            ·simp only [Act.put, zA, zB, zC, i64_w, i32_w]; rfl
            refine pure_ (i := 9) (N := some 63) (v := ?_) (a' := ?_) (bf 16 1023) rfl rfl (by kernel_rfl) (fun _ _ _ h => h) (Or.inl ⟨by rfl, ?_⟩) ?_ ?_
            rotate_left
            ·intro w'; go_simp; with_reducible rfl
            rotate_left
            ·simp only [Act.put, zA, zB, zC, i64_w, i32_w]; rfl
            refine pure_ (i := 10) (N := some 64) (v := ?_) (a' := ?_) (bf 16 2047) rfl rfl (by kernel_rfl) (fun _ _ _ h => h) (Or.inl ⟨by rfl, ?_⟩) ?_ ?_
            rotate_left
            ·intro w'; go_simp; with_reducible rfl
            rotate_left
            ·simp only [Act.put, zA, zB, zC, i64_w, i32_w]; rfl
            refine take_ (i := 11) (N := some 65) (v := ?_) (a' := ?_) (bf 16 4095) rfl rfl (by kernel_rfl) (fun _ _ _ h => h) (Or.inl ⟨by rfl, ?_⟩) hHeld ?_ ?_
            rotate_left
            ·rintro w' ⟨s0, s1⟩; go_simp; with_reducible rfl
            rotate_left
            ·simp only [Act.put, zA, zB, zC, i64_w, i32_w]; rfl
            refine pure_ (i := 12) (N := some 66) (v := ?_) (a' := ?_) (bf 16 8191) rfl rfl (by kernel_rfl) (fun _ _ _ h => h) (Or.inl ⟨by rfl, ?_⟩) ?_ ?_
            rotate_left
            ·intro w'; go_simp; with_reducible rfl
            rotate_left
            ·simp only [Act.put, zA, zB, zC, i64_w, i32_w]; rfl
            refine last_ (i := 13) (N := none) (bf 16 16383) rfl rfl (by kernel_rfl) (by decide) (fun K hK => ?_)
            refine skip_ (w1 := ?_) (by rfl) rfl ?_ ?_
            rotate_left
            ·go_simp
             rfl
            refine hK.out _ _ ?_
            clear hK K
            have hx3 := cell_off (v := .slice A1 (rd_L1 x6_2 x29_2).length c1_) hx1 HNE.out
            have hf3 := froz_off (i := x10_12.toNat) (v := .slice A1 (rd_L1 x6_2 x29_2).length c1_) hf2
            refine pure_ (i := 14) (N := some 67) (v := ?_) (a' := ?_) (bf 16 32767) rfl rfl (by kernel_rfl) (fun _ _ _ h => h) (Or.inl ⟨by rfl, ?_⟩) ?_ ?_
            rotate_left
            ·intro w'; go_simp; with_reducible rfl
            rotate_left
            ·simp only [Act.put, zA, zB, zC, i64_w, i32_w]; rfl
            refine last_ (i := 15) (N := none) (bf 16 65535) rfl rfl (by kernel_rfl) (by decide) (fun K hK => ?_)
            refine skip_ (w1 := ?_) (by rfl) rfl ?_ ?_
            rotate_left
            ·go_simp
             rfl
            refine hK.out _ _ ?_
            clear hK K
            refine done_ (by kernel_rfl) ?_
            have HO170 := za0.mk (S_swap rfl ([] : List Int) HO_6.out (i := x10_12.toNat) (j := x29_2.toNat) (by have := HBB.out; omega) (by have := HBB.out; omega) hx2 hx1)
            rw [hsw] at HO170
            have n1_ := za0.mk (ze0 (ze0 HB.out HGB.out) HGB.out : Below w.heap.size w ((w26.setCell ⟨go26, x10_12.toNat, none⟩ (.slice A1 (rd_L1 x6_2 x29_2).length c1_)).setCell ⟨go26, x29_2.toNat, none⟩ (.slice A2 (rd_L1 x6_2 x10_12).length c2_)))
            clear HB
            have HB := n1_
            clear n1_ hx1 hx2 hx3 hf1 hf2 hf3 hHeld
            try go_wp2
            go_meet
            case rel => exact ⟨_, (wrap64 (-x4_2)), (t168), (by first | rfl | (simp; done) | (simp [*]; done)), H', ⟨by have := HK1.out; have := HK2.out; have := HJ12.out; first | omega | exact Nat.le_refl _⟩, ⟨by (with_reducible repeat (first | apply Kd.S_alloc | apply Kd.S_drewN | apply Kd.S_drew)); exact Kd.S_mono HO170.out (fun _ hk => trivial)⟩, ⟨by repeat (first | (with_reducible first | exact HB.out | apply zc0 | apply zb0 | apply zd0) | exact HB.out)⟩⟩
          case rest =>
           clear HC23
           try clear c1
           try clear p1
           try clear q1
           try clear hx1
           try clear c2
           try clear p2
           try clear c3
           try clear c4
           try clear c4b0
           try clear c5
           try clear c5b0
           try clear c6
           try clear c6b0
           try clear p6
           try clear c8
           try clear c11
           try clear c12
           try clear c12b0
           try clear c14
           try clear c14b0
           try clear c15
           try clear c15b0
           try clear p15
           try clear q15
           try clear hx15
           try clear c16
           try clear c16b0
           try clear p16
           try clear q16
           try clear hx16
           try clear c17
           try clear c17b0
           try clear c18
           try clear c18b0
           try clear c19
           try clear c19b0
           try clear c19b1
           try clear c22
           try clear c22b0
           try clear c22b1
           try clear c24
           try clear c24b0
           try clear c24b1
           try clear hx159_0
           try clear hx166_0
           try clear hx167_0
           try clear p1
           try clear p15
           try clear p159
           try clear p16
           try clear p166
           try clear p167
           try clear p2
           try clear p6
           try clear q1
           try clear q15
           try clear q159
           try clear q16
           try clear q166
           try clear q167
           obtain ⟨kq, x4_22, x6_22, rfl, HA, HJ22, HO_6, HB⟩ := hcut
           cases kq with
           | zero => exact absurd HA.out (by simp [impl_determinant.j4])
           | succ kj22 =>
            have H := HA.out
            clear HA
            simp only [impl_determinant.j4] at H
            have H' := za0.mk H
            clear H
            go_wp2
            go_loopg [11] kj22 (fun kq v11 w' => ∃ (x6_5 : List (List Int)) (x11_5 : Int), v11 = .int .i64 x11_5 ∧ za0 (impl_determinant.l3 kq (l0.length : Int) x4_22 x5_2 x6_5 x29_2 x11_5 (l0.length : Int) x29_2 = some r) ∧ za0 (kq ≤ kj22) ∧ za0 (Kd.S (Kd.slice 3 (Kd.int .i64)) 25 w' w.heap.size (fun _ => True) u6 x6_5) ∧ za0 (Below w.heap.size w w'))
            case atStart => exact ⟨(x6_22), (wrap64 (x29_2 + 1)), (by first | rfl | (simp; done) | (simp [*]; done)), H', ⟨Nat.le_refl _⟩, ⟨by (with_reducible repeat (first | apply Kd.S_alloc | apply Kd.S_drewN | apply Kd.S_drew)); exact HO_6.out⟩, ⟨by repeat (first | (with_reducible first | exact HB.out | apply zc0 | apply zb0 | apply zd0) | exact HB.out)⟩⟩
            case round =>
             clear H'
             try clear c1
             try clear p1
             try clear q1
             try clear hx1
             try clear c2
             try clear p2
             try clear c3
             try clear c4
             try clear c4b0
             try clear c5
             try clear c5b0
             try clear c6
             try clear c6b0
             try clear p6
             try clear c8
             try clear c11
             try clear c12
             try clear c12b0
             try clear c14
             try clear c14b0
             try clear c15
             try clear c15b0
             try clear p15
             try clear q15
             try clear hx15
             try clear c16
             try clear c16b0
             try clear p16
             try clear q16
             try clear hx16
             try clear c17
             try clear c17b0
             try clear c18
             try clear c18b0
             try clear c19
             try clear c19b0
             try clear c19b1
             try clear c22
             try clear c22b0
             try clear c22b1
             try clear c24
             try clear c24b0
             try clear c24b1
             try clear hx159_0
             try clear hx166_0
             try clear hx167_0
             try clear p1
             try clear p15
             try clear p159
             try clear p16
             try clear p166
             try clear p167
             try clear p2
             try clear p6
             try clear q1
             try clear q15
             try clear q159
             try clear q16
             try clear q166
             try clear q167
             obtain ⟨x6_5, x11_5, rfl, HA, HK5, HO_6, HB⟩ := hrel
             cases gk with
             | zero => exact absurd HA.out (by simp [impl_determinant.l3])
             | succ k5 =>
              have H := HA.out
              clear HA
              simp only [impl_determinant.l3] at H
              by_cases c28 : x11_5 < (l0.length : Int)
              ·rw [if_pos c28] at H
               have c28b0 : decide (x11_5 < (l0.length : Int)) = true := decide_eq_true c28
               clear c28
               have H' := za0.mk H
               clear H
               go_wp2
               go_loopg [12] k5 (fun kq v12 w' => ∃ (x6_6 : List (List Int)) (x12_6 : Int), v12 = .int .i64 x12_6 ∧ za0 (impl_determinant.l4 kq (l0.length : Int) x4_22 x5_2 x6_6 x29_2 x11_5 x12_6 (l0.length : Int) x29_2 = some r) ∧ za0 (kq ≤ k5) ∧ za0 (Kd.S (Kd.slice 3 (Kd.int .i64)) 25 w' w.heap.size (fun _ => True) u6 x6_6) ∧ za0 (Below w.heap.size w w'))
               case atStart => exact ⟨(x6_5), (wrap64 (x29_2 + 1)), (by first | rfl | (simp; done) | (simp [*]; done)), H', ⟨Nat.le_refl _⟩, ⟨by (with_reducible repeat (first | apply Kd.S_alloc | apply Kd.S_drewN | apply Kd.S_drew)); exact HO_6.out⟩, ⟨by repeat (first | (with_reducible first | exact HB.out | apply zc0 | apply zb0 | apply zd0) | exact HB.out)⟩⟩
               case round =>
                clear H'
                try clear c1
                try clear p1
                try clear q1
                try clear hx1
                try clear c2
                try clear p2
                try clear c3
                try clear c4
                try clear c4b0
                try clear c5
                try clear c5b0
                try clear c6
                try clear c6b0
                try clear p6
                try clear c8
                try clear c11
                try clear c12
                try clear c12b0
                try clear c14
                try clear c14b0
                try clear c15
                try clear c15b0
                try clear p15
                try clear q15
                try clear hx15
                try clear c16
                try clear c16b0
                try clear p16
                try clear q16
                try clear hx16
                try clear c17
                try clear c17b0
                try clear c18
                try clear c18b0
                try clear c19
                try clear c19b0
                try clear c19b1
                try clear c22
                try clear c22b0
                try clear c22b1
                try clear c24
                try clear c24b0
                try clear c24b1
                try clear c28
                try clear c28b0
                try clear hx159_0
                try clear hx166_0
                try clear hx167_0
                try clear p1
                try clear p15
                try clear p159
                try clear p16
                try clear p166
                try clear p167
                try clear p2
                try clear p6
                try clear q1
                try clear q15
                try clear q159
                try clear q16
                try clear q166
                try clear q167
                obtain ⟨x6_6, x12_6, rfl, HA, HK6, HO_6, HB⟩ := hrel
                cases gk with
                | zero => exact absurd HA.out (by simp [impl_determinant.l4])
                | succ k6 =>
                 have H := HA.out
                 clear HA
                 simp only [impl_determinant.l4] at H
                 by_cases c29 : x12_6 < (l0.length : Int)
                 ·rw [if_pos c29] at H
                  have c29b0 : decide (x12_6 < (l0.length : Int)) = true := decide_eq_true c29
                  clear c29
                  by_cases c30 : 0 ≤ x11_5
                  ·rw [if_pos c30] at H
                   have c30b0 : decide (0 ≤ x11_5) = true := decide_eq_true c30
                   clear c30
                   by_cases c31 : x11_5 < (x6_6.length : Int)
                   ·rw [if_pos c31] at H
                    have c31b0 : decide (x11_5 < (x6_6.length : Int)) = true := decide_eq_true c31
                    clear c31
                    by_cases c32 : 0 ≤ x12_6
                    ·rw [if_pos c32] at H
                     have c32b0 : decide (0 ≤ x12_6) = true := decide_eq_true c32
                     clear c32
                     by_cases c33 : x12_6 < ((rd_L1 x6_6 x11_5).length : Int)
                     ·rw [if_pos c33] at H
                      have c33b0 : decide (x12_6 < ((rd_L1 x6_6 x11_5).length : Int)) = true := decide_eq_true c33
                      clear c33
                      by_cases c34 : 0 ≤ x29_2
                      ·rw [if_pos c34] at H
                       have c34b0 : decide (0 ≤ x29_2) = true := decide_eq_true c34
                       clear c34
                       by_cases c35 : x29_2 < (x6_6.length : Int)
                       ·rw [if_pos c35] at H
                        have c35b0 : decide (x29_2 < (x6_6.length : Int)) = true := decide_eq_true c35
                        clear c35
                        by_cases c36 : x29_2 < ((rd_L1 x6_6 x29_2).length : Int)
                        ·rw [if_pos c36] at H
                         have c36b0 : decide (x29_2 < ((rd_L1 x6_6 x29_2).length : Int)) = true := decide_eq_true c36
                         clear c36
                         by_cases c37 : x29_2 < ((rd_L1 x6_6 x11_5).length : Int)
                         ·rw [if_pos c37] at H
                          have c37b0 : decide (x29_2 < ((rd_L1 x6_6 x11_5).length : Int)) = true := decide_eq_true c37
                          clear c37
                          by_cases c38 : x12_6 < ((rd_L1 x6_6 x29_2).length : Int)
                          ·rw [if_pos c38] at H
                           have c38b0 : decide (x12_6 < ((rd_L1 x6_6 x29_2).length : Int)) = true := decide_eq_true c38
                           clear c38
                           by_cases c39 : x5_2 = 0
                           ·rw [if_pos c39] at H
                            exact absurd H (by simp)
                           ·rw [if_neg c39] at H
                            have c39b0 : (x5_2 == 0) = false := beq_eq_false_iff_ne.mpr c39
                            have c39b1 : (x5_2 != 0) = true := bne_iff_ne.mpr c39
                            obtain ⟨y182, hy182⟩ : ∃ y_ : List Int, y_ = ((rd_L1 x6_6 x11_5).set (x12_6 : Int).toNat (wrap64 (Int.tdiv (wrap64 ((wrap64 ((rd (rd_L1 x6_6 x11_5) x12_6) * (rd (rd_L1 x6_6 x29_2) x29_2))) - (wrap64 ((rd (rd_L1 x6_6 x11_5) x29_2) * (rd (rd_L1 x6_6 x29_2) x12_6))))) x5_2))) := ⟨_, rfl⟩
                            replace H : (impl_determinant.l4 k6 (l0.length : Int) x4_22 x5_2 (x6_6.set (x11_5 : Int).toNat y182) x29_2 x11_5 (wrap64 (x12_6 + 1)) (l0.length : Int) x29_2) = some r := by first | (rw [hy182]; with_reducible exact H) | (have H2_ := (Option.bind_some _ _).symm.trans H; rw [hy182]; with_reducible exact H2_) | (have H2_ := (Option.bind_some _ _).symm.trans H; with_reducible exact H2_) | with_reducible exact H | (rw [hy182]; exact H) | exact H
                            have Ny182 := za0.mk hy182
                            clear hy182
                            obtain ⟨y184, hy184⟩ : ∃ y_ : List (List Int), y_ = (x6_6.set (x11_5 : Int).toNat y182) := ⟨_, rfl⟩
                            replace H : (impl_determinant.l4 k6 (l0.length : Int) x4_22 x5_2 y184 x29_2 x11_5 (wrap64 (x12_6 + 1)) (l0.length : Int) x29_2) = some r := by first | (rw [hy184]; with_reducible exact H) | (have H2_ := (Option.bind_some _ _).symm.trans H; rw [hy184]; with_reducible exact H2_) | (have H2_ := (Option.bind_some _ _).symm.trans H; with_reducible exact H2_) | with_reducible exact H | (rw [hy184]; exact H) | exact H
                            have Ny184 := za0.mk hy184
                            clear hy184
                            have H' := za0.mk H
                            clear H
                            try go_wp2
                            have n0_ := za0.mk (Kd.S_drew HO_6.out)
                            have n1_ := za0.mk (zd0 HB.out)
                            clear HO_6
                            clear HB
                            have HO_6 := n0_
                            have HB := n1_
                            clear n0_ n1_
                            obtain ⟨Ao42, co42, eo42⟩ := Kd.S_slice HO_6.out
                            (first | subst eo42 | (injection eo42 with f1_ f2_ f3_; have f4_ := f1_.symm; have f5_ := f3_.symm; clear f1_ f2_ f3_; subst f4_; subst f5_))
                            have p173 : 0 ≤ (x11_5 : Int) := of_decide_eq_true (by first | (with_reducible assumption) | assumption)
                            have q173 : x11_5 < (x6_6.length : Int) := of_decide_eq_true (by first | (with_reducible assumption) | assumption)
                            obtain ⟨ad173, A173_0, c173_0, e173, hx173_0, hl173_0, hi173_0⟩ := at_L1 (Kd.S_reads' HO_6.out).2.2 x11_5 p173 q173
                            cases e173
                            obtain ⟨ce173, hce173, hMe173, hcc173⟩ := Kd.S_get HO_6.out [] x11_5 p173 (by first | exact q173 | exact of_decide_eq_true (by first | (with_reducible assumption) | assumption) | (have e_ := (Kd.S_reads' HO_6.out).1; omega))
                            obtain ⟨ve173_0, rfl, ge173_0⟩ := hMe173
                            have hv173_0 := hcc173 0 _ rfl
                            rw [Nat.add_zero, show ((Kd.slice 3 (Kd.int .i64))).sz = 1 from rfl, Nat.mul_one] at hv173_0
                            replace hv173_0 := Option.some.inj (hv173_0.symm.trans hx173_0)
                            rw [hv173_0] at ge173_0
                            have HL173_0 := za0.mk (show Kd.R (Kd.int .i64) 3 _ _ _ _ (rd_L1 x6_6 x11_5) from ge173_0)
                            clear hv173_0 ge173_0
                            have HX173_0 := za0.mk hx173_0
                            clear hcc173 hce173
                            have HR173_0 := za0.mk hi173_0
                            have HC173_0 := za0.mk hl173_0
                            clear hi173_0 hl173_0
                            replace p173 := eq_true p173
                            replace q173 := eq_true q173
                            have p174 : 0 ≤ (x11_5 : Int) := of_decide_eq_true (by first | (with_reducible assumption) | assumption)
                            have q174 : x11_5 < (x6_6.length : Int) := of_decide_eq_true (by first | (with_reducible assumption) | assumption)
                            obtain ⟨ad174, A174_0, c174_0, e174, hx174_0, hl174_0, hi174_0⟩ := at_L1 (Kd.S_reads' HO_6.out).2.2 x11_5 p174 q174
                            obtain rfl : ad173 = ad174 := (by injection e174)
                            obtain ⟨ce174, hce174, hMe174, hcc174⟩ := Kd.S_get HO_6.out [] x11_5 p174 (by first | exact q174 | exact of_decide_eq_true (by first | (with_reducible assumption) | assumption) | (have e_ := (Kd.S_reads' HO_6.out).1; omega))
                            obtain ⟨ve174_0, rfl, ge174_0⟩ := hMe174
                            have hv174_0 := hcc174 0 _ rfl
                            rw [Nat.add_zero, show ((Kd.slice 3 (Kd.int .i64))).sz = 1 from rfl, Nat.mul_one] at hv174_0
                            replace hv174_0 := Option.some.inj (hv174_0.symm.trans hx174_0)
                            rw [hv174_0] at ge174_0
                            have HL174_0 := za0.mk (show Kd.R (Kd.int .i64) 3 _ _ _ _ (rd_L1 x6_6 x11_5) from ge174_0)
                            clear hv174_0 ge174_0
                            have HX174_0 := za0.mk hx174_0
                            clear hcc174 hce174
                            have HR174_0 := za0.mk hi174_0
                            have HC174_0 := za0.mk hl174_0
                            clear hi174_0 hl174_0
                            replace p174 := eq_true p174
                            replace q174 := eq_true q174
                            have ea_ := Option.some.inj (hx173_0.symm.trans hx174_0)
                            injection ea_ with ea_ en_ ec_
                            subst ea_
                            subst ec_
                            clear en_
                            have p175 : 0 ≤ (x12_6 : Int) := of_decide_eq_true (by first | (with_reducible assumption) | assumption)
                            have q175 : x12_6 < ((rd_L1 x6_6 x11_5).length : Int) := of_decide_eq_true (by first | (with_reducible assumption) | assumption)
                            obtain ⟨ad175, e175, hx175_0⟩ := Kd.at_int (by repeat (first | (with_reducible exact HR174_0.out) | (with_reducible refine Kd.C_alloc ?_ _) | (with_reducible refine Kd.C_drewN ?_ _) | (with_reducible refine Kd.C_drew ?_) | exact HR174_0.out)) x12_6 p175 q175
                            cases e175
                            replace p175 := eq_true p175
                            replace q175 := eq_true q175
                            have p176 : 0 ≤ (x29_2 : Int) := of_decide_eq_true (by first | (with_reducible assumption) | assumption)
                            have q176 : x29_2 < (x6_6.length : Int) := of_decide_eq_true (by first | (with_reducible assumption) | assumption)
                            obtain ⟨ad176, A176_0, c176_0, e176, hx176_0, hl176_0, hi176_0⟩ := at_L1 (Kd.S_reads' HO_6.out).2.2 x29_2 p176 q176
                            obtain rfl : ad173 = ad176 := (by injection e176)
                            obtain ⟨ce176, hce176, hMe176, hcc176⟩ := Kd.S_get HO_6.out [] x29_2 p176 (by first | exact q176 | exact of_decide_eq_true (by first | (with_reducible assumption) | assumption) | (have e_ := (Kd.S_reads' HO_6.out).1; omega))
                            obtain ⟨ve176_0, rfl, ge176_0⟩ := hMe176
                            have hv176_0 := hcc176 0 _ rfl
                            rw [Nat.add_zero, show ((Kd.slice 3 (Kd.int .i64))).sz = 1 from rfl, Nat.mul_one] at hv176_0
                            replace hv176_0 := Option.some.inj (hv176_0.symm.trans hx176_0)
                            rw [hv176_0] at ge176_0
                            have HL176_0 := za0.mk (show Kd.R (Kd.int .i64) 3 _ _ _ _ (rd_L1 x6_6 x29_2) from ge176_0)
                            clear hv176_0 ge176_0
                            have HX176_0 := za0.mk hx176_0
                            clear hcc176 hce176
                            have HR176_0 := za0.mk hi176_0
                            have HC176_0 := za0.mk hl176_0
                            clear hi176_0 hl176_0
                            replace p176 := eq_true p176
                            replace q176 := eq_true q176
                            have p177 : 0 ≤ (x29_2 : Int) := of_decide_eq_true (by first | (with_reducible assumption) | assumption)
                            have q177 : x29_2 < ((rd_L1 x6_6 x29_2).length : Int) := of_decide_eq_true (by first | (with_reducible assumption) | assumption)
                            obtain ⟨ad177, e177, hx177_0⟩ := Kd.at_int (by repeat (first | (with_reducible exact HR176_0.out) | (with_reducible refine Kd.C_alloc ?_ _) | (with_reducible refine Kd.C_drewN ?_ _) | (with_reducible refine Kd.C_drew ?_) | exact HR176_0.out)) x29_2 p177 q177
                            cases e177
                            replace p177 := eq_true p177
                            replace q177 := eq_true q177
                            have p178 : 0 ≤ (x11_5 : Int) := of_decide_eq_true (by first | (with_reducible assumption) | assumption)
                            have q178 : x11_5 < (x6_6.length : Int) := of_decide_eq_true (by first | (with_reducible assumption) | assumption)
                            obtain ⟨ad178, A178_0, c178_0, e178, hx178_0, hl178_0, hi178_0⟩ := at_L1 (Kd.S_reads' HO_6.out).2.2 x11_5 p178 q178
                            obtain rfl : ad173 = ad178 := (by injection e178)
                            obtain ⟨ce178, hce178, hMe178, hcc178⟩ := Kd.S_get HO_6.out [] x11_5 p178 (by first | exact q178 | exact of_decide_eq_true (by first | (with_reducible assumption) | assumption) | (have e_ := (Kd.S_reads' HO_6.out).1; omega))
                            obtain ⟨ve178_0, rfl, ge178_0⟩ := hMe178
                            have hv178_0 := hcc178 0 _ rfl
                            rw [Nat.add_zero, show ((Kd.slice 3 (Kd.int .i64))).sz = 1 from rfl, Nat.mul_one] at hv178_0
                            replace hv178_0 := Option.some.inj (hv178_0.symm.trans hx178_0)
                            rw [hv178_0] at ge178_0
                            have HL178_0 := za0.mk (show Kd.R (Kd.int .i64) 3 _ _ _ _ (rd_L1 x6_6 x11_5) from ge178_0)
                            clear hv178_0 ge178_0
                            have HX178_0 := za0.mk hx178_0
                            clear hcc178 hce178
                            have HR178_0 := za0.mk hi178_0
                            have HC178_0 := za0.mk hl178_0
                            clear hi178_0 hl178_0
                            replace p178 := eq_true p178
                            replace q178 := eq_true q178
                            have ea_ := Option.some.inj (hx173_0.symm.trans hx178_0)
                            injection ea_ with ea_ en_ ec_
                            subst ea_
                            subst ec_
                            clear en_
                            have p179 : 0 ≤ (x29_2 : Int) := of_decide_eq_true (by first | (with_reducible assumption) | assumption)
                            have q179 : x29_2 < ((rd_L1 x6_6 x11_5).length : Int) := of_decide_eq_true (by first | (with_reducible assumption) | assumption)
                            obtain ⟨ad179, e179, hx179_0⟩ := Kd.at_int (by repeat (first | (with_reducible exact HR178_0.out) | (with_reducible refine Kd.C_alloc ?_ _) | (with_reducible refine Kd.C_drewN ?_ _) | (with_reducible refine Kd.C_drew ?_) | exact HR178_0.out)) x29_2 p179 q179
                            cases e179
                            replace p179 := eq_true p179
                            replace q179 := eq_true q179
                            have p180 : 0 ≤ (x29_2 : Int) := of_decide_eq_true (by first | (with_reducible assumption) | assumption)
                            have q180 : x29_2 < (x6_6.length : Int) := of_decide_eq_true (by first | (with_reducible assumption) | assumption)
                            obtain ⟨ad180, A180_0, c180_0, e180, hx180_0, hl180_0, hi180_0⟩ := at_L1 (Kd.S_reads' HO_6.out).2.2 x29_2 p180 q180
                            obtain rfl : ad173 = ad180 := (by injection e180)
                            obtain ⟨ce180, hce180, hMe180, hcc180⟩ := Kd.S_get HO_6.out [] x29_2 p180 (by first | exact q180 | exact of_decide_eq_true (by first | (with_reducible assumption) | assumption) | (have e_ := (Kd.S_reads' HO_6.out).1; omega))
                            obtain ⟨ve180_0, rfl, ge180_0⟩ := hMe180
                            have hv180_0 := hcc180 0 _ rfl
                            rw [Nat.add_zero, show ((Kd.slice 3 (Kd.int .i64))).sz = 1 from rfl, Nat.mul_one] at hv180_0
                            replace hv180_0 := Option.some.inj (hv180_0.symm.trans hx180_0)
                            rw [hv180_0] at ge180_0
                            have HL180_0 := za0.mk (show Kd.R (Kd.int .i64) 3 _ _ _ _ (rd_L1 x6_6 x29_2) from ge180_0)
                            clear hv180_0 ge180_0
                            have HX180_0 := za0.mk hx180_0
                            clear hcc180 hce180
                            have HR180_0 := za0.mk hi180_0
                            have HC180_0 := za0.mk hl180_0
                            clear hi180_0 hl180_0
                            replace p180 := eq_true p180
                            replace q180 := eq_true q180
                            have ea_ := Option.some.inj (hx176_0.symm.trans hx180_0)
                            injection ea_ with ea_ en_ ec_
                            subst ea_
                            subst ec_
                            clear en_
                            have p181 : 0 ≤ (x12_6 : Int) := of_decide_eq_true (by first | (with_reducible assumption) | assumption)
                            have q181 : x12_6 < ((rd_L1 x6_6 x29_2).length : Int) := of_decide_eq_true (by first | (with_reducible assumption) | assumption)
                            obtain ⟨ad181, e181, hx181_0⟩ := Kd.at_int (by repeat (first | (with_reducible exact HR180_0.out) | (with_reducible refine Kd.C_alloc ?_ _) | (with_reducible refine Kd.C_drewN ?_ _) | (with_reducible refine Kd.C_drew ?_) | exact HR180_0.out)) x12_6 p181 q181
                            cases e181
                            replace p181 := eq_true p181
                            replace q181 := eq_true q181
                            have p40 : 0 ≤ (x12_6 : Int) := of_decide_eq_true (by first | (with_reducible assumption) | assumption)
                            have q40 : (x12_6 : Int) < (((rd_L1 x6_6 x11_5).length : Int) : Int) := of_decide_eq_true (by first | (with_reducible assumption) | assumption)
                            obtain ⟨go40, co40, eo40, gb40, gl40, cl40, HG40⟩ := Kd.R_form HL173_0.out (by omega)
                            (first | cases eo40 | (injection eo40 with ea_ en_ ec_; (first | subst ea_ | (injection ea_ with ea_; subst ea_)); subst ec_; clear en_))
                            have GB40 := za0.mk gb40
                            have GG40 := za0.mk HG40
                            clear gb40 gl40 HG40
                            (first | simp only [add_plain] at hx179_0 | skip)
                            obtain ⟨hx40_0, hf40_0⟩ := Kd.R_celln 0 HL173_0.out (x12_6 : Int) p40 q40
                            replace p40 := eq_true p40
                            replace q40 := eq_true q40
                            have hq43 : (x11_5 : Int) < (x6_6.length : Int) := (by have h_ : (x11_5 : Int) < ((x6_6.length : Int) : Int) := of_decide_eq_true (by first | (with_reducible assumption) | assumption); first | exact h_ | (have e_ := (Kd.S_reads' HO_6.out).1; omega) | simpa only [List.length_set, List.length_set] using h_)
                            obtain ⟨oki43, ce43, hcl43, hM43, hcc43, hok43, hbk43⟩ := Kd.S_borrow HO_6.out [] (x11_5 : Int) (of_decide_eq_true (by first | (with_reducible assumption) | assumption)) hq43
                            obtain ⟨ve43_0, rfl, ge43_0⟩ := hM43
                            have hv43 := hcc43 0 _ rfl
                            rw [Nat.add_zero, show ((Kd.slice 3 (Kd.int .i64))).sz = 1 from rfl, Nat.mul_one] at hv43
                            replace hv43 := Option.some.inj (hv43.symm.trans HX173_0.out)
                            subst hv43
                            clear hcc43 hcl43
                            replace ge43_0 := (show Kd.R (Kd.int .i64) 3 _ _ _ _ (rd_L1 x6_6 x11_5) from ge43_0)
                            have HP43 := Kd.R_putg ge43_0 (x12_6 : Int) (wrap64 (Int.tdiv (wrap64 ((wrap64 ((rd (rd_L1 x6_6 x11_5) x12_6) * (rd (rd_L1 x6_6 x29_2) x29_2))) - (wrap64 ((rd (rd_L1 x6_6 x11_5) x29_2) * (rd (rd_L1 x6_6 x29_2) x12_6))))) x5_2))
                            rw [← Ny182.out] at HP43
                            have HS43 := hbk43 HP43.2 (fun k_ e_ => by injection e_ with e_; subst e_; exact ge43_0.1 _ rfl) (x' := y182) (Kd.M_row HP43.1)
                            rw [← Ny184.out] at HS43
                            have HQ43 := za0.mk HS43
                            clear HP43 HS43 hbk43 hok43
                            (try simp only [add_plain] at hx175_0)
                            refine start_ (n := 40) (S := fun w' => w'.cell? (ad173.add (x11_5).toNat) = some (.slice (some ⟨go40, 0, none⟩) (rd_L1 x6_6 x11_5).length c173_0) ∧ w'.cell? (ad173.add (x11_5).toNat) = some (.slice (some ⟨go40, 0, none⟩) (rd_L1 x6_6 x11_5).length c173_0) ∧ w'.cell? ⟨go40, (x12_6).toNat, none⟩ = some (.int .i64 (rd (rd_L1 x6_6 x11_5) x12_6)) ∧ w'.cell? (ad173.add (x29_2).toNat) = some (.slice (some ad177) (rd_L1 x6_6 x29_2).length c176_0) ∧ w'.cell? (ad177.add (x29_2).toNat) = some (.int .i64 (rd (rd_L1 x6_6 x29_2) x29_2)) ∧ w'.cell? (ad173.add (x11_5).toNat) = some (.slice (some ⟨go40, 0, none⟩) (rd_L1 x6_6 x11_5).length c173_0) ∧ w'.cell? ⟨go40, (x29_2).toNat, none⟩ = some (.int .i64 (rd (rd_L1 x6_6 x11_5) x29_2)) ∧ w'.cell? (ad173.add (x29_2).toNat) = some (.slice (some ad177) (rd_L1 x6_6 x29_2).length c176_0) ∧ w'.cell? (ad177.add (x12_6).toNat) = some (.int .i64 (rd (rd_L1 x6_6 x29_2) x12_6))) (ds := [39]) #[false, false, false, false, false, false, false, false, false, false, false, false, false, false, false, false, false, false, false, false, false, false, false, false, false, false, false, false, false, false, false, false, false, false, false, false, false, false, false, false] (by kernel_rfl) rfl rfl ⟨hx173_0, hx174_0, hx175_0, hx176_0, hx177_0, hx178_0, hx179_0, hx180_0, hx181_0⟩ (fun hHeld => ?_); refine with_tabW impl_determinant.tab25 impl_determinant.bits25 (fun HT_ HW_ => ?_)
                            generalize wr.drew = w41 at HO_6 HB GG40 HL173_0 HL174_0 HL176_0 HL178_0 HL180_0 HQ43 HR173_0 HR174_0 HR176_0 HR178_0 HR180_0 HX173_0 HX174_0 HX176_0 HX178_0 HX180_0 hf40_0 hx173_0 hx174_0 hx175_0 hx176_0 hx177_0 hx178_0 hx179_0 hx180_0 hx181_0 hx40_0 hHeld ⊢
                            refine pure_ (i := 0) (N := some 84) (v := ?_) (a' := ?_) (bf 40 1) rfl rfl (any_of HT_.out (by kernel_rfl)) (fun _ _ _ h => h) (Or.inl ⟨by rfl, ?_⟩) ?_ ?_
                            rotate_left
                            ·intro w'; go_simp; with_reducible rfl
                            rotate_left
                            ·simp only [Act.put, zA, zB, zC, i64_w, i32_w]; rfl
                            refine pure_ (i := 1) (N := some 85) (v := ?_) (a' := ?_) (bf 40 3) rfl rfl (any_of HT_.out (by kernel_rfl)) (fun _ _ _ h => h) (Or.inl ⟨by rfl, ?_⟩) ?_ ?_
                            rotate_left
                            ·intro w'; go_simp; with_reducible rfl
                            rotate_left
                            ·simp only [Act.put, zA, zB, zC, i64_w, i32_w]; rfl
                            refine pure_ (i := 2) (N := some 86) (v := ?_) (a' := ?_) (bf 40 7) rfl rfl (any_of HT_.out (by kernel_rfl)) (fun _ _ _ h => h) (Or.inl ⟨by rfl, ?_⟩) ?_ ?_
                            rotate_left
                            ·intro w'; go_simp; with_reducible rfl
                            rotate_left
                            ·simp only [Act.put, zA, zB, zC, i64_w, i32_w]; rfl
                            refine pure_ (i := 4) (N := some 88) (v := ?_) (a' := ?_) (bf 40 23) rfl rfl (any_of HT_.out (by kernel_rfl)) (fun _ _ _ h => h) (Or.inl ⟨by rfl, ?_⟩) ?_ ?_
                            rotate_left
                            ·intro w'; go_simp; with_reducible rfl
                            rotate_left
                            ·simp only [Act.put, zA, zB, zC, i64_w, i32_w]; rfl
                            refine pure_ (i := 5) (N := some 89) (v := ?_) (a' := ?_) (bf 40 55) rfl rfl (any_of HT_.out (by kernel_rfl)) (fun _ _ _ h => h) (Or.inl ⟨by rfl, ?_⟩) ?_ ?_
                            rotate_left
                            ·intro w'; go_simp; with_reducible rfl
                            rotate_left
                            ·simp only [Act.put, zA, zB, zC, i64_w, i32_w]; rfl
                            refine pure_ (i := 6) (N := some 90) (v := ?_) (a' := ?_) (bf 40 119) rfl rfl (any_of HT_.out (by kernel_rfl)) (fun _ _ _ h => h) (Or.inl ⟨by rfl, ?_⟩) ?_ ?_
                            rotate_left
                            ·intro w'; go_simp; with_reducible rfl
                            rotate_left
                            ·simp only [Act.put, zA, zB, zC, i64_w, i32_w]; rfl
                            refine pure_ (i := 7) (N := some 91) (v := ?_) (a' := ?_) (bf 40 247) rfl rfl (any_of HT_.out (by kernel_rfl)) (fun _ _ _ h => h) (Or.inl ⟨by rfl, ?_⟩) ?_ ?_
                            rotate_left
                            ·intro w'; go_simp; with_reducible rfl
                            rotate_left
                            ·simp only [Act.put, zA, zB, zC, i64_w, i32_w]; rfl
                            refine pure_ (i := 9) (N := some 93) (v := ?_) (a' := ?_) (bf 40 759) rfl rfl (any_of HT_.out (by kernel_rfl)) (fun _ _ _ h => h) (Or.inl ⟨by rfl, ?_⟩) ?_ ?_
                            rotate_left
                            ·intro w'; go_simp; with_reducible rfl
                            rotate_left
                            ·simp only [Act.put, zA, zB, zC, i64_w, i32_w]; rfl
                            refine pure_ (i := 12) (N := some 96) (v := ?_) (a' := ?_) (bf 40 4855) rfl rfl (any_of HT_.out (by kernel_rfl)) (fun _ _ _ h => h) (Or.inl ⟨by rfl, ?_⟩) ?_ ?_
                            rotate_left
                            ·intro w'; go_simp; with_reducible rfl
                            rotate_left
                            ·simp only [Act.put, zA, zB, zC, i64_w, i32_w]; rfl
                            refine pure_ (i := 13) (N := some 97) (v := ?_) (a' := ?_) (bf 40 13047) rfl rfl (any_of HT_.out (by kernel_rfl)) (fun _ _ _ h => h) (Or.inl ⟨by rfl, ?_⟩) ?_ ?_
                            rotate_left
                            ·intro w'; go_simp; with_reducible rfl
                            rotate_left
                            ·simp only [Act.put, zA, zB, zC, i64_w, i32_w]; rfl
                            refine pure_ (i := 14) (N := some 98) (v := ?_) (a' := ?_) (bf 40 29431) rfl rfl (any_of HT_.out (by kernel_rfl)) (fun _ _ _ h => h) (Or.inl ⟨by rfl, ?_⟩) ?_ ?_
                            rotate_left
                            ·intro w'; go_simp; with_reducible rfl
                            rotate_left
                            ·simp only [Act.put, zA, zB, zC, i64_w, i32_w]; rfl
                            refine pure_ (i := 16) (N := some 100) (v := ?_) (a' := ?_) (bf 40 94967) rfl rfl (any_of HT_.out (by kernel_rfl)) (fun _ _ _ h => h) (Or.inl ⟨by rfl, ?_⟩) ?_ ?_
                            rotate_left
                            ·intro w'; go_simp; with_reducible rfl
                            rotate_left
                            ·simp only [Act.put, zA, zB, zC, i64_w, i32_w]; rfl
                            refine pure_ (i := 20) (N := some 104) (v := ?_) (a' := ?_) (bf 40 1143543) rfl rfl (any_of HT_.out (by kernel_rfl)) (fun _ _ _ h => h) (Or.inl ⟨by rfl, ?_⟩) ?_ ?_
                            rotate_left
                            ·intro w'; go_simp; with_reducible rfl
                            rotate_left
                            ·simp only [Act.put, zA, zB, zC, i64_w, i32_w]; rfl
                            refine pure_ (i := 21) (N := some 105) (v := ?_) (a' := ?_) (bf 40 3240695) rfl rfl (any_of HT_.out (by kernel_rfl)) (fun _ _ _ h => h) (Or.inl ⟨by rfl, ?_⟩) ?_ ?_
                            rotate_left
                            ·intro w'; go_simp; with_reducible rfl
                            rotate_left
                            ·simp only [Act.put, zA, zB, zC, i64_w, i32_w]; rfl
                            refine pure_ (i := 22) (N := some 106) (v := ?_) (a' := ?_) (bf 40 7434999) rfl rfl (any_of HT_.out (by kernel_rfl)) (fun _ _ _ h => h) (Or.inl ⟨by rfl, ?_⟩) ?_ ?_
                            rotate_left
                            ·intro w'; go_simp; with_reducible rfl
                            rotate_left
                            ·simp only [Act.put, zA, zB, zC, i64_w, i32_w]; rfl
                            refine pure_ (i := 24) (N := some 108) (v := ?_) (a' := ?_) (bf 40 24212215) rfl rfl (any_of HT_.out (by kernel_rfl)) (fun _ _ _ h => h) (Or.inl ⟨by rfl, ?_⟩) ?_ ?_
                            rotate_left
                            ·intro w'; go_simp; with_reducible rfl
                            rotate_left
                            ·simp only [Act.put, zA, zB, zC, i64_w, i32_w]; rfl
                            refine pure_ (i := 27) (N := some 111) (v := ?_) (a' := ?_) (bf 40 158429943) rfl rfl (any_of HT_.out (by kernel_rfl)) (fun _ _ _ h => h) (Or.inl ⟨by rfl, ?_⟩) ?_ ?_
                            rotate_left
                            ·intro w'; go_simp; with_reducible rfl
                            rotate_left
                            ·simp only [Act.put, zA, zB, zC, i64_w, i32_w]; rfl
                            refine pure_ (i := 28) (N := some 112) (v := ?_) (a' := ?_) (bf 40 426865399) rfl rfl (any_of HT_.out (by kernel_rfl)) (fun _ _ _ h => h) (Or.inl ⟨by rfl, ?_⟩) ?_ ?_
                            rotate_left
                            ·intro w'; go_simp; with_reducible rfl
                            rotate_left
                            ·simp only [Act.put, zA, zB, zC, i64_w, i32_w]; rfl
                            refine pure_ (i := 29) (N := some 113) (v := ?_) (a' := ?_) (bf 40 963736311) rfl rfl (any_of HT_.out (by kernel_rfl)) (fun _ _ _ h => h) (Or.inl ⟨by rfl, ?_⟩) ?_ ?_
                            rotate_left
                            ·intro w'; go_simp; with_reducible rfl
                            rotate_left
                            ·simp only [Act.put, zA, zB, zC, i64_w, i32_w]; rfl
                            refine pure_ (i := 31) (N := some 115) (v := ?_) (a' := ?_) (bf 40 3111219959) rfl rfl (any_of HT_.out (by kernel_rfl)) (fun _ _ _ h => h) (Or.inl ⟨by rfl, ?_⟩) ?_ ?_
                            rotate_left
                            ·intro w'; go_simp; with_reducible rfl
                            rotate_left
                            ·simp only [Act.put, zA, zB, zC, i64_w, i32_w]; rfl
                            refine pure_ (i := 36) (N := some 120) (v := ?_) (a' := ?_) (bf 40 71830696695) rfl rfl (any_of HT_.out (by kernel_rfl)) (fun _ _ _ h => h) (Or.inl ⟨by rfl, ?_⟩) ?_ ?_
                            rotate_left
                            ·intro w'; go_simp; with_reducible rfl
                            rotate_left
                            ·simp only [Act.put, zA, zB, zC, i64_w, i32_w]; rfl
                            refine take_ (i := 3) (N := some 87) (v := ?_) (a' := ?_) (bf 40 71830696703) rfl rfl (take_ofW HT_.out HW_.out (by kernel_rfl)) (fun _ _ _ h => h) (Or.inl ⟨by rfl, ?_⟩) hHeld ?_ ?_
                            rotate_left
                            ·rintro w' ⟨s0, s1, s2, s3, s4, s5, s6, s7, s8⟩; go_simp; with_reducible rfl
                            rotate_left
                            ·simp only [Act.put, zA, zB, zC, i64_w, i32_w]; rfl
                            refine take_ (i := 8) (N := some 92) (v := ?_) (a' := ?_) (bf 40 71830696959) rfl rfl (take_ofW HT_.out HW_.out (by kernel_rfl)) (fun _ _ _ h => h) (Or.inl ⟨by rfl, ?_⟩) hHeld ?_ ?_
                            rotate_left
                            ·rintro w' ⟨s0, s1, s2, s3, s4, s5, s6, s7, s8⟩; go_simp; with_reducible rfl
                            rotate_left
                            ·simp only [Act.put, zA, zB, zC, i64_w, i32_w]; rfl
                            refine pure_ (i := 10) (N := some 94) (v := ?_) (a' := ?_) (bf 40 71830697983) rfl rfl (any_of HT_.out (by kernel_rfl)) (fun _ _ _ h => h) (Or.inl ⟨by rfl, ?_⟩) ?_ ?_
                            rotate_left
                            ·intro w'; go_simp; with_reducible rfl
                            rotate_left
                            ·simp only [Act.put, zA, zB, zC, i64_w, i32_w]; rfl
                            refine take_ (i := 11) (N := some 95) (v := ?_) (a' := ?_) (bf 40 71830700031) rfl rfl (take_ofW HT_.out HW_.out (by kernel_rfl)) (fun _ _ _ h => h) (Or.inl ⟨by rfl, ?_⟩) hHeld ?_ ?_
                            rotate_left
                            ·rintro w' ⟨s0, s1, s2, s3, s4, s5, s6, s7, s8⟩; go_simp; with_reducible rfl
                            rotate_left
                            ·simp only [Act.put, zA, zB, zC, i64_w, i32_w]; rfl
                            refine take_ (i := 15) (N := some 99) (v := ?_) (a' := ?_) (bf 40 71830732799) rfl rfl (take_ofW HT_.out HW_.out (by kernel_rfl)) (fun _ _ _ h => h) (Or.inl ⟨by rfl, ?_⟩) hHeld ?_ ?_
                            rotate_left
                            ·rintro w' ⟨s0, s1, s2, s3, s4, s5, s6, s7, s8⟩; go_simp; with_reducible rfl
                            rotate_left
                            ·simp only [Act.put, zA, zB, zC, i64_w, i32_w]; rfl
                            refine pure_ (i := 17) (N := some 101) (v := ?_) (a' := ?_) (bf 40 71830863871) rfl rfl (any_of HT_.out (by kernel_rfl)) (fun _ _ _ h => h) (Or.inl ⟨by rfl, ?_⟩) ?_ ?_
                            rotate_left
                            ·intro w'; go_simp; with_reducible rfl
                            rotate_left
                            ·simp only [Act.put, zA, zB, zC, i64_w, i32_w]; rfl
                            refine take_ (i := 18) (N := some 102) (v := ?_) (a' := ?_) (bf 40 71831126015) rfl rfl (take_ofW HT_.out HW_.out (by kernel_rfl)) (fun _ _ _ h => h) (Or.inl ⟨by rfl, ?_⟩) hHeld ?_ ?_
                            rotate_left
                            ·rintro w' ⟨s0, s1, s2, s3, s4, s5, s6, s7, s8⟩; go_simp; with_reducible rfl
                            rotate_left
                            ·simp only [Act.put, zA, zB, zC, i64_w, i32_w]; rfl
                            refine pure_ (i := 19) (N := some 103) (v := ?_) (a' := ?_) (bf 40 71831650303) rfl rfl (any_of HT_.out (by kernel_rfl)) (fun _ _ _ h => h) (Or.inl ⟨by rfl, ?_⟩) ?_ ?_
                            rotate_left
                            ·intro w'; go_simp; with_reducible rfl
                            rotate_left
                            ·simp only [Act.put, zA, zB, zC, i64_w, i32_w]; rfl
                            refine take_ (i := 23) (N := some 107) (v := ?_) (a' := ?_) (bf 40 71840038911) rfl rfl (take_ofW HT_.out HW_.out (by kernel_rfl)) (fun _ _ _ h => h) (Or.inl ⟨by rfl, ?_⟩) hHeld ?_ ?_
                            rotate_left
                            ·rintro w' ⟨s0, s1, s2, s3, s4, s5, s6, s7, s8⟩; go_simp; with_reducible rfl
                            rotate_left
                            ·simp only [Act.put, zA, zB, zC, i64_w, i32_w]; rfl
                            refine pure_ (i := 25) (N := some 109) (v := ?_) (a' := ?_) (bf 40 71873593343) rfl rfl (any_of HT_.out (by kernel_rfl)) (fun _ _ _ h => h) (Or.inl ⟨by rfl, ?_⟩) ?_ ?_
                            rotate_left
                            ·intro w'; go_simp; with_reducible rfl
                            rotate_left
                            ·simp only [Act.put, zA, zB, zC, i64_w, i32_w]; rfl
                            refine take_ (i := 26) (N := some 110) (v := ?_) (a' := ?_) (bf 40 71940702207) rfl rfl (take_ofW HT_.out HW_.out (by kernel_rfl)) (fun _ _ _ h => h) (Or.inl ⟨by rfl, ?_⟩) hHeld ?_ ?_
                            rotate_left
                            ·rintro w' ⟨s0, s1, s2, s3, s4, s5, s6, s7, s8⟩; go_simp; with_reducible rfl
                            rotate_left
                            ·simp only [Act.put, zA, zB, zC, i64_w, i32_w]; rfl
                            refine take_ (i := 30) (N := some 114) (v := ?_) (a' := ?_) (bf 40 73014444031) rfl rfl (take_ofW HT_.out HW_.out (by kernel_rfl)) (fun _ _ _ h => h) (Or.inl ⟨by rfl, ?_⟩) hHeld ?_ ?_
                            rotate_left
                            ·rintro w' ⟨s0, s1, s2, s3, s4, s5, s6, s7, s8⟩; go_simp; with_reducible rfl
                            rotate_left
                            ·simp only [Act.put, zA, zB, zC, i64_w, i32_w]; rfl
                            refine pure_ (i := 32) (N := some 116) (v := ?_) (a' := ?_) (bf 40 77309411327) rfl rfl (any_of HT_.out (by kernel_rfl)) (fun _ _ _ h => h) (Or.inl ⟨by rfl, ?_⟩) ?_ ?_
                            rotate_left
                            ·intro w'; go_simp; with_reducible rfl
                            rotate_left
                            ·simp only [Act.put, zA, zB, zC, i64_w, i32_w]; rfl
                            refine take_ (i := 33) (N := some 117) (v := ?_) (a' := ?_) (bf 40 85899345919) rfl rfl (take_ofW HT_.out HW_.out (by kernel_rfl)) (fun _ _ _ h => h) (Or.inl ⟨by rfl, ?_⟩) hHeld ?_ ?_
                            rotate_left
                            ·rintro w' ⟨s0, s1, s2, s3, s4, s5, s6, s7, s8⟩; go_simp; with_reducible rfl
                            rotate_left
                            ·simp only [Act.put, zA, zB, zC, i64_w, i32_w]; rfl
                            refine pure_ (i := 34) (N := some 118) (v := ?_) (a' := ?_) (bf 40 103079215103) rfl rfl (any_of HT_.out (by kernel_rfl)) (fun _ _ _ h => h) (Or.inl ⟨by rfl, ?_⟩) ?_ ?_
                            rotate_left
                            ·intro w'; go_simp; with_reducible rfl
                            rotate_left
                            ·simp only [Act.put, zA, zB, zC, i64_w, i32_w]; rfl
                            refine pure_ (i := 35) (N := some 119) (v := ?_) (a' := ?_) (bf 40 137438953471) rfl rfl (any_of HT_.out (by kernel_rfl)) (fun _ _ _ h => h) (Or.inl ⟨by rfl, ?_⟩) ?_ ?_
                            rotate_left
                            ·intro w'; go_simp; with_reducible rfl
                            rotate_left
                            ·simp only [Act.put, zA, zB, zC, i64_w, i32_w]; rfl
                            refine pure_ (i := 37) (N := some 121) (v := ?_) (a' := ?_) (bf 40 274877906943) rfl rfl (any_of HT_.out (by kernel_rfl)) (fun _ _ _ h => h) (Or.inl ⟨by rfl, ?_⟩) ?_ ?_
                            rotate_left
                            ·intro w'; go_simp; with_reducible rfl
                            rotate_left
                            ·simp only [Act.put, zA, zB, zC, i64_w, i32_w]; rfl
                            refine pure_ (i := 38) (N := some 122) (v := ?_) (a' := ?_) (bf 40 549755813887) rfl rfl (any_of HT_.out (by kernel_rfl)) (fun _ _ _ h => h) (Or.inl ⟨by rfl, ?_⟩) ?_ ?_
                            rotate_left
                            ·intro w'; go_simp; with_reducible rfl
                            rotate_left
                            ·simp only [Act.put, zA, zB, zC, i64_w, i32_w]; rfl
                            refine last_ (i := 39) (N := none) (bf 40 1099511627775) rfl rfl (one_of HT_.out (by kernel_rfl)) (by decide) (fun K hK => ?_)
                            refine skip_ (w1 := ?_) (by rfl) rfl ?_ ?_
                            rotate_left
                            ·go_simp
                             rfl
                            refine hK.out _ _ ?_
                            clear hK K
                            refine done_ (done_of HT_.out (by kernel_rfl)) ?_
                            try go_wp2
                            go_roundg k6
                            case measure => have := HK1.out; have := HK2.out; have := HJ12.out; have := HJ22.out; have := HK5.out; have := HK6.out; omega
                            case rel => exact ⟨(y184), (wrap64 (x12_6 + 1)), (by first | rfl | (simp; done) | (simp [*]; done)), H', ⟨by have := HK1.out; have := HK2.out; have := HJ12.out; have := HJ22.out; have := HK5.out; have := HK6.out; omega⟩, ⟨by (with_reducible repeat (first | apply Kd.S_alloc | apply Kd.S_drewN | apply Kd.S_drew)); exact HQ43.out⟩, ⟨by repeat (first | (with_reducible first | exact HB.out | apply zc0 | apply zb0 | apply zd0 | refine ze0 ?_ GB40.out) | exact HB.out)⟩⟩
                          ·rw [if_neg c38] at H
                           exact absurd H (by simp)
                         ·rw [if_neg c37] at H
                          exact absurd H (by simp)
                        ·rw [if_neg c36] at H
                         exact absurd H (by simp)
                       ·rw [if_neg c35] at H
                        exact absurd H (by simp)
                      ·rw [if_neg c34] at H
                       exact absurd H (by simp)
                     ·rw [if_neg c33] at H
                      exact absurd H (by simp)
                    ·rw [if_neg c32] at H
                     exact absurd H (by simp)
                   ·rw [if_neg c31] at H
                    exact absurd H (by simp)
                  ·rw [if_neg c30] at H
                   exact absurd H (by simp)
                 ·rw [if_neg c29] at H
                  have c29b0 : decide (x12_6 < (l0.length : Int)) = false := decide_eq_false c29
                  clear c29
                  have H' := za0.mk H
                  clear H
                  go_wp2
                  go_roundg k6
                  case measure => have := HK1.out; have := HK2.out; have := HJ12.out; have := HJ22.out; have := HK5.out; have := HK6.out; omega
                  case rel => exact ⟨(x6_6), (wrap64 (x11_5 + 1)), (by first | rfl | (simp; done) | (simp [*]; done)), H', ⟨by have := HK1.out; have := HK2.out; have := HJ12.out; have := HJ22.out; have := HK5.out; have := HK6.out; omega⟩, ⟨by (with_reducible repeat (first | apply Kd.S_alloc | apply Kd.S_drewN | apply Kd.S_drew)); exact HO_6.out⟩, ⟨by repeat (first | (with_reducible first | exact HB.out | apply zc0 | apply zb0 | apply zd0) | exact HB.out)⟩⟩
              ·rw [if_neg c28] at H
               have c28b0 : decide (x11_5 < (l0.length : Int)) = false := decide_eq_false c28
               clear c28
               by_cases c45 : 0 ≤ x29_2
               ·rw [if_pos c45] at H
                have c45b0 : decide (0 ≤ x29_2) = true := decide_eq_true c45
                clear c45
                by_cases c46 : x29_2 < (x6_5.length : Int)
                ·rw [if_pos c46] at H
                 have c46b0 : decide (x29_2 < (x6_5.length : Int)) = true := decide_eq_true c46
                 clear c46
                 by_cases c47 : x29_2 < ((rd_L1 x6_5 x29_2).length : Int)
                 ·rw [if_pos c47] at H
                  have c47b0 : decide (x29_2 < ((rd_L1 x6_5 x29_2).length : Int)) = true := decide_eq_true c47
                  clear c47
                  have H' := za0.mk H
                  clear H
                  obtain ⟨Ao48, co48, eo48⟩ := Kd.S_slice HO_6.out
                  subst eo48
                  have p171 : 0 ≤ (x29_2 : Int) := of_decide_eq_true (by first | (with_reducible assumption) | assumption)
                  have q171 : x29_2 < (x6_5.length : Int) := of_decide_eq_true (by first | (with_reducible assumption) | assumption)
                  obtain ⟨ad171, A171_0, c171_0, e171, hx171_0, hl171_0, hi171_0⟩ := at_L1 (Kd.S_reads' HO_6.out).2.2 x29_2 p171 q171
                  cases e171
                  obtain ⟨ce171, hce171, hMe171, hcc171⟩ := Kd.S_get HO_6.out [] x29_2 p171 (by first | exact q171 | exact of_decide_eq_true (by first | (with_reducible assumption) | assumption) | (have e_ := (Kd.S_reads' HO_6.out).1; omega))
                  obtain ⟨ve171_0, rfl, ge171_0⟩ := hMe171
                  have hv171_0 := hcc171 0 _ rfl
                  rw [Nat.add_zero, show ((Kd.slice 3 (Kd.int .i64))).sz = 1 from rfl, Nat.mul_one] at hv171_0
                  replace hv171_0 := Option.some.inj (hv171_0.symm.trans hx171_0)
                  rw [hv171_0] at ge171_0
                  have HL171_0 := za0.mk (show Kd.R (Kd.int .i64) 3 _ _ _ _ (rd_L1 x6_5 x29_2) from ge171_0)
                  clear hv171_0 ge171_0
                  have HX171_0 := za0.mk hx171_0
                  clear hcc171 hce171
                  have HR171_0 := za0.mk hi171_0
                  have HC171_0 := za0.mk hl171_0
                  clear hi171_0 hl171_0
                  replace p171 := eq_true p171
                  replace q171 := eq_true q171
                  have p172 : 0 ≤ (x29_2 : Int) := of_decide_eq_true (by first | (with_reducible assumption) | assumption)
                  have q172 : x29_2 < ((rd_L1 x6_5 x29_2).length : Int) := of_decide_eq_true (by first | (with_reducible assumption) | assumption)
                  obtain ⟨ad172, e172, hx172_0⟩ := Kd.at_int (by repeat (first | (with_reducible exact HR171_0.out) | (with_reducible refine Kd.C_alloc ?_ _) | (with_reducible refine Kd.C_drewN ?_ _) | (with_reducible refine Kd.C_drew ?_) | exact HR171_0.out)) x29_2 p172 q172
                  cases e172
                  replace p172 := eq_true p172
                  replace q172 := eq_true q172
                  go_wp2
                  go_roundg k5
                  case measure => have := HK1.out; have := HK2.out; have := HJ12.out; have := HJ22.out; have := HK5.out; omega
                  case rel => exact ⟨(x4_22), (rd (rd_L1 x6_5 x29_2) x29_2), (x6_5), (wrap64 (x29_2 + 1)), (by first | rfl | (simp; done) | (simp [*]; done)), (by first | rfl | (simp; done) | (simp [*]; done)), (by first | rfl | (simp; done) | (simp [*]; done)), H', ⟨by have := HK1.out; have := HK2.out; have := HJ12.out; have := HJ22.out; have := HK5.out; omega⟩, ⟨by (with_reducible repeat (first | apply Kd.S_alloc | apply Kd.S_drewN | apply Kd.S_drew)); exact HO_6.out⟩, ⟨by repeat (first | (with_reducible first | exact HB.out | apply zc0 | apply zb0 | apply zd0) | exact HB.out)⟩⟩
                 ·rw [if_neg c47] at H
                  exact absurd H (by simp)
                ·rw [if_neg c46] at H
                 exact absurd H (by simp)
               ·rw [if_neg c45] at H
                exact absurd H (by simp)
      ·rw [if_neg c12] at H
       have c12b0 : decide (x29_2 < (l0.length : Int)) = false := decide_eq_false c12
       clear c12
       obtain rfl := Option.some.inj H
       go_wp2
       go_ret
       exact ⟨by first | rfl | (simp [errW_none, errW_some] <;> rfl) | (simp [*, errW_none, errW_some] <;> rfl), by repeat (first | (with_reducible first | exact HB.out | apply zc0 | apply zb0 | apply zd0) | exact HB.out)⟩
def actorL (k : Nat) (l : List (List Int)) (s : Int) : Option Bool := (impl_hasSink.f k l s).bind fun a => if a = true then ((impl_laplace.f k l s).bind fun m => (impl_determinant.f k m).bind fun d => some (decide (d ≤ 60))) else some false
set_option maxHeartbeats 8000000 in
set_option maxRecDepth 100000 in
theorem impl_actorOf.calls (k : Nat) (l : List (List Int)) (s : Int) (A0 : Option Addr) (c0 : Nat) (b : Bool) (w : World) (hr0 : Kd.C (Kd.slice 3 (Kd.int .i64)) w A0 l.length l) (hc0 : l.length ≤ c0) (h : actorL k l s = some b) :
  Calls Try.prog 39 #[.agg #[.slice A0 l.length c0], .int .i64 s] w fun e w' => ∃ Ba, e = .returned (.tuple #[.pointer (if b then some ⟨Ba, 0, none⟩ else none), .bool b]) ∧ (b = true → w.heap.size ≤ Ba ∧ w'.heap[Ba]? = some (.cells #[.slice A0 l.length c0, .int .i64 s] 71 (0, 0))) ∧ Below w.heap.size w w' := by
 have hu1 := Try.underlying29
 have hu3 := Try.underlying71
 have HR0 := za0.mk hr0
 have HC0 := za0.mk hc0
 unfold actorL at h
 obtain ⟨a, h1, h⟩ := Option.bind_eq_some_iff.mp h
 have A1 := za0.mk h1
 clear hr0 hc0 h1
 cases a with
 | false =>
  rw [if_neg (by decide)] at h
  obtain rfl := Option.some.inj h
  go_enter Try.func39, Try.ntmps39
  go_wp2_with (first | ((with_reducible refine zo0 (N := 2) rfl ?_); refine zp0 ?hg (N := 2) ?hd (cs := #[.slice A0 l.length c0]) (t := 29) ?hr ?_; (case hd => rfl); (case hg => rfl); (case hr => first | (go_simp; done) | (go_simp; rfl)); intro gb hg w2 hbox hb; have HB := za0.mk (hb); have BG := za0.mk hbox; clear hb hbox hg; have hcg : w2.cell? ⟨gb, 0, none⟩ = some (.slice A0 l.length c0) := (zl0 BG.out 0).trans rfl) | (go_at_call 61; refine (impl_hasSink.calls k _ _ l s false _ (Kd.C_below HR0.out HB.out) HC0.out A1.out).mono ?_; rintro e w3 ⟨rfl, hb⟩; have n0_ := za0.mk (zh0 HB.out hb); have n1_ := za0.mk (zm0 BG.out hb); clear HB BG hb; have HB := n0_; have BG := n1_; clear n0_ n1_; clear hcg; have hcg : w3.cell? ⟨gb, 0, none⟩ = some (.slice A0 l.length c0) := (zl0 BG.out 0).trans rfl))
  go_ret2
  first | exact ⟨rfl, HB.out⟩ | exact ⟨0, rfl, fun h => (by cases h), HB.out⟩
 | true =>
  rw [if_pos rfl] at h
  obtain ⟨m, h2, h⟩ := Option.bind_eq_some_iff.mp h
  obtain ⟨d, h3, h⟩ := Option.bind_eq_some_iff.mp h
  have A2 := za0.mk h2
  have A3 := za0.mk h3
  clear h2 h3
  obtain rfl := Option.some.inj h
  clear h
  by_cases hd : d ≤ 60
  ·rw [decide_eq_true hd]
   have hdb : decide (60 < d) = false := decide_eq_false (by omega)
   clear hd
   go_enter Try.func39, Try.ntmps39
   go_wp2_with (first | ((with_reducible refine zo0 (N := 2) rfl ?_); refine zp0 ?hg (N := 2) ?hd (cs := #[.slice A0 l.length c0]) (t := 29) ?hr ?_; (case hd => rfl); (case hg => rfl); (case hr => first | (go_simp; done) | (go_simp; rfl)); intro gb hg w2 hbox hb; have HB := za0.mk (hb); have BG := za0.mk hbox; clear hb hbox hg; have hcg : w2.cell? ⟨gb, 0, none⟩ = some (.slice A0 l.length c0) := (zl0 BG.out 0).trans rfl) | (go_at_call 61; refine (impl_hasSink.calls k _ _ l s true _ (Kd.C_below HR0.out HB.out) HC0.out A1.out).mono ?_; rintro e w3 ⟨rfl, hb⟩; have n0_ := za0.mk (zh0 HB.out hb); have n1_ := za0.mk (zm0 BG.out hb); clear HB BG hb; have HB := n0_; have BG := n1_; clear n0_ n1_; clear hcg; have hcg : w3.cell? ⟨gb, 0, none⟩ = some (.slice A0 l.length c0) := (zl0 BG.out 0).trans rfl) | (go_at_call 63; refine (impl_laplace.calls k _ _ l s m _ (Kd.C_below HR0.out HB.out) HC0.out A2.out).mono ?_; rintro e w4 ⟨v4, rfl, ho, hb⟩; have HM := za0.mk ho; clear ho; have n0_ := za0.mk (zh0 HB.out hb); have n1_ := za0.mk (zm0 BG.out hb); clear HB BG hb; have HB := n0_; have BG := n1_; clear n0_ n1_; clear hcg; have hcg : w4.cell? ⟨gb, 0, none⟩ = some (.slice A0 l.length c0) := (zl0 BG.out 0).trans rfl; obtain ⟨Am, cm, em⟩ := Kd.S_slice HM.out; subst em) | (go_at_call 62; refine (impl_determinant.calls k _ _ m d _ (Kd.S_reads' HM.out).2.2 (Kd.S_reads' HM.out).2.1 A3.out).mono ?_; rintro e w5 ⟨rfl, hb⟩; have n0_ := za0.mk (zh0 HB.out hb); have n1_ := za0.mk (zm0 BG.out hb); clear HB BG hb; have HB := n0_; have BG := n1_; clear n0_ n1_; clear hcg; have hcg : w5.cell? ⟨gb, 0, none⟩ = some (.slice A0 l.length c0) := (zl0 BG.out 0).trans rfl) | ((with_reducible refine zo0 (N := 20) rfl ?_); refine zp0 ?hg (N := 20) ?hd (cs := #[.slice A0 l.length c0, .int .i64 s]) (t := 71) ?hr ?_; (case hd => rfl); (case hg => rfl); (case hr => first | (go_simp; done) | (go_simp; rfl)); intro B hg w6 hbox hb; have GE := za0.mk (show w.heap.size ≤ B from by rw [hg]; exact zj0 HB.out); have BX := za0.mk hbox; have n0_ := za0.mk (zh0 HB.out hb); clear HB hb hbox hg; have HB := n0_; clear n0_))
   go_ret2
   exact ⟨B, rfl, ⟨GE.out, BX.out⟩, HB.out⟩
  ·rw [decide_eq_false hd]
   have hdb : decide (60 < d) = true := decide_eq_true (by omega)
   clear hd
   go_enter Try.func39, Try.ntmps39
   go_wp2_with (first | ((with_reducible refine zo0 (N := 2) rfl ?_); refine zp0 ?hg (N := 2) ?hd (cs := #[.slice A0 l.length c0]) (t := 29) ?hr ?_; (case hd => rfl); (case hg => rfl); (case hr => first | (go_simp; done) | (go_simp; rfl)); intro gb hg w2 hbox hb; have HB := za0.mk (hb); have BG := za0.mk hbox; clear hb hbox hg; have hcg : w2.cell? ⟨gb, 0, none⟩ = some (.slice A0 l.length c0) := (zl0 BG.out 0).trans rfl) | (go_at_call 61; refine (impl_hasSink.calls k _ _ l s true _ (Kd.C_below HR0.out HB.out) HC0.out A1.out).mono ?_; rintro e w3 ⟨rfl, hb⟩; have n0_ := za0.mk (zh0 HB.out hb); have n1_ := za0.mk (zm0 BG.out hb); clear HB BG hb; have HB := n0_; have BG := n1_; clear n0_ n1_; clear hcg; have hcg : w3.cell? ⟨gb, 0, none⟩ = some (.slice A0 l.length c0) := (zl0 BG.out 0).trans rfl) | (go_at_call 63; refine (impl_laplace.calls k _ _ l s m _ (Kd.C_below HR0.out HB.out) HC0.out A2.out).mono ?_; rintro e w4 ⟨v4, rfl, ho, hb⟩; have HM := za0.mk ho; clear ho; have n0_ := za0.mk (zh0 HB.out hb); have n1_ := za0.mk (zm0 BG.out hb); clear HB BG hb; have HB := n0_; have BG := n1_; clear n0_ n1_; clear hcg; have hcg : w4.cell? ⟨gb, 0, none⟩ = some (.slice A0 l.length c0) := (zl0 BG.out 0).trans rfl; obtain ⟨Am, cm, em⟩ := Kd.S_slice HM.out; subst em) | (go_at_call 62; refine (impl_determinant.calls k _ _ m d _ (Kd.S_reads' HM.out).2.2 (Kd.S_reads' HM.out).2.1 A3.out).mono ?_; rintro e w5 ⟨rfl, hb⟩; have n0_ := za0.mk (zh0 HB.out hb); have n1_ := za0.mk (zm0 BG.out hb); clear HB BG hb; have HB := n0_; have BG := n1_; clear n0_ n1_; clear hcg; have hcg : w5.cell? ⟨gb, 0, none⟩ = some (.slice A0 l.length c0) := (zl0 BG.out 0).trans rfl))
   go_ret2
   first | exact ⟨rfl, HB.out⟩ | exact ⟨0, rfl, fun h => (by cases h), HB.out⟩
mutual
def impl_isWalk.j0 : Nat → Bool → List (List Int) → List Int → Int → Option (Bool)
 | 0, _, _, _, _ => none
 | k + 1, x21, x186000, x187000, x187001 => if x21 = true then (some false) else (impl_isWalk.l0 k x187000 (x187000.length : Int) 0 x186000)
def impl_isWalk.l0 : Nat → List Int → Int → Int → List (List Int) → Option (Bool)
 | 0, _, _, _, _ => none
 | k + 1, x23, x24, x25, x186000 => if x25 < x24 then (if 0 ≤ x25 then (if x25 < (x23.length : Int) then (if x25 < (x186000.length : Int) then ((impl_in.f (rd x23 x25) 0 (mx (wrap64 (((rd_L1 x186000 x25).length : Int) - 1)) 0)).bind fun t193 => (if t193 = true then (impl_isWalk.l0 k x23 x24 (wrap64 (x25 + 1)) x186000) else (some false))) else (none)) else (none)) else (none)) else (some true)
end
def impl_isWalk.f (k : Nat) (l0_0 : List (List Int)) (l1_0 : List Int) (a1_1 : Int) : Option (Bool) := (impl_has.f l0_0 (([a1_1] : List Int))).bind fun t190 => (if t190 = true then (impl_isWalk.j0 k ((l1_0.length : Int) != (l0_0.length : Int)) l0_0 l1_0 a1_1) else (impl_isWalk.j0 k true l0_0 l1_0 a1_1))
set_option maxHeartbeats 8000000 in
set_option maxRecDepth 100000 in
theorem impl_isWalk.calls (k : Nat) (A0_0 : Option Addr) (c0_0 : Nat) (l0_0 : List (List Int)) (A1_0 : Option Addr) (c1_0 : Nat) (l1_0 : List Int) (a1_1 : Int) (r : Bool) (w : World) (hr0_0 : Kd.C (Kd.slice 3 (Kd.int .i64)) w A0_0 l0_0.length l0_0) (hc0_0 : l0_0.length ≤ c0_0) (hr1_0 : Kd.C (Kd.int .i64) w A1_0 l1_0.length l1_0) (hc1_0 : l1_0.length ≤ c1_0) (h : impl_isWalk.f k l0_0 l1_0 a1_1 = some r) :
  Calls Try.prog 86 #[.agg #[.slice A0_0 l0_0.length c0_0], .agg #[.slice A1_0 l1_0.length c1_0, .int .i64 a1_1]] w fun e w' => e = .returned (.bool r) ∧ Below w.heap.size w w' := by
 have hu29 := Try.underlying29
 have hu63 := Try.underlying63
 have HR0_0 := za0.mk hr0_0
 have HC0_0 := za0.mk hc0_0
 clear hr0_0 hc0_0
 have HR1_0 := za0.mk hr1_0
 have HC1_0 := za0.mk hc1_0
 clear hr1_0 hc1_0
 have HB := za0.mk (Below.refl w.heap.size w)
 have H : ((impl_has.f l0_0 (([a1_1] : List Int))).bind fun t190 => (if t190 = true then (impl_isWalk.j0 k ((l1_0.length : Int) != (l0_0.length : Int)) l0_0 l1_0 a1_1) else (impl_isWalk.j0 k true l0_0 l1_0 a1_1))) = some r := h
 clear h
 have HC3 := za0.mk H
 clear H
 go_enter Try.func86, Try.ntmps86
 go_upto_region 1 with (first | ((with_reducible refine zo0 (N := 2) rfl ?_); (try (refine gate_guard (by rfl) ?_; dsimp only)); refine zp0 ?hg (N := 2) ?hd (cs := #[.slice A0_0 l0_0.length c0_0]) (t := 29) ?hr ?_; (case hd => rfl); (case hg => rfl); (case hr => first | (go_simp; done) | (go_simp; rfl)); intro gb185 hg w4 hbox hb; have n0_ := za0.mk (zh0 (by repeat (first | (with_reducible first | exact HB.out | apply zc0 | apply zb0 | apply zd0) | exact HB.out)) hb); have n1_ := za0.mk (hbox); have n2_ := za0.mk ((by rw [hg]; exact (zj0 (by repeat (first | (with_reducible first | exact HB.out | apply zc0 | apply zb0 | apply zd0) | exact HB.out))) : w.heap.size ≤ gb185)); have n3_ := za0.mk ((by rw [hg]; exact (zj0 (by repeat (first | (with_reducible first | exact HB.out | apply zc0 | apply zb0 | apply zd0) | exact HB.out))) : w.heap.size ≤ gb185)); clear HB; have HB := n0_; have BK185 := n1_; have GW185 := n2_; have GE185 := n3_; clear n0_ n1_ n2_ n3_; clear hb hbox hg) | ((with_reducible refine zo0 (N := 3) rfl ?_); (try (refine gate_guard (by rfl) ?_; dsimp only)); refine zp0 ?hg (N := 3) ?hd (cs := #[.slice A1_0 l1_0.length c1_0, .int .i64 a1_1]) (t := 63) ?hr ?_; (case hd => rfl); (case hg => rfl); (case hr => first | (go_simp; done) | (go_simp; rfl)); intro gb186 hg w5 hbox hb; have n0_ := za0.mk (zm0 (g := gb185) (o := .cells #[.slice A0_0 l0_0.length c0_0] 29 (0, 0)) (by (with_reducible repeat (first | refine zg0 ?_ _ | refine zi0 ?_ | refine zf0 ?_ _)); exact BK185.out) hb); have n1_ := za0.mk (zh0 (by repeat (first | (with_reducible first | exact HB.out | apply zc0 | apply zb0 | apply zd0 | refine ze0 ?_ GE185.out) | exact HB.out)) hb); have n2_ := za0.mk (hbox); have n3_ := za0.mk ((by rw [hg]; exact (zj0 (by repeat (first | (with_reducible first | exact HB.out | apply zc0 | apply zb0 | apply zd0 | refine ze0 ?_ GE185.out) | exact HB.out))) : w.heap.size ≤ gb186)); have n4_ := za0.mk ((by rw [hg]; exact (zj0 (by repeat (first | (with_reducible first | exact HB.out | apply zc0 | apply zb0 | apply zd0 | refine ze0 ?_ GE185.out) | exact HB.out))) : w.heap.size ≤ gb186)); have n5_ := za0.mk ((by rw [hg]; exact Nat.ne_of_lt (blk_lt (g := gb185) (o := .cells #[.slice A0_0 l0_0.length c0_0] 29 (0, 0)) (by (with_reducible repeat (first | refine zg0 ?_ _ | refine zi0 ?_ | refine zf0 ?_ _)); exact BK185.out)) : gb185 ≠ gb186)); have n6_ := za0.mk ((by rw [hg]; exact Nat.ne_of_gt (blk_lt (g := gb185) (o := .cells #[.slice A0_0 l0_0.length c0_0] 29 (0, 0)) (by (with_reducible repeat (first | refine zg0 ?_ _ | refine zi0 ?_ | refine zf0 ?_ _)); exact BK185.out)) : gb186 ≠ gb185)); clear BK185; clear HB; have BK185 := n0_; have HB := n1_; have BK186 := n2_; have GW186 := n3_; have GE186 := n4_; have NB185_186 := n5_; have NB186_185 := n6_; clear n0_ n1_ n2_ n3_ n4_ n5_ n6_; clear hb hbox hg))
 (try simp only [Act.put, zA, zB, zC])
 go_cut [21] (fun v21 wc => ∃ (kq : Nat) (x21_2 : Bool), v21 = .bool x21_2 ∧ za0 (impl_isWalk.j0 kq x21_2 l0_0 l1_0 a1_1 = some r) ∧ za0 (kq ≤ k) ∧ za0 (wc.heap[gb185]? = some (.cells #[(.slice A0_0 l0_0.length c0_0)] 29 (0, 0))) ∧ za0 (wc.heap[gb186]? = some (.cells #[(.slice A1_0 l1_0.length c1_0), .int .i64 a1_1] 63 (0, 0))) ∧ za0 (Below w.heap.size w wc))
 case first =>
  have H := HC3.out
  clear HC3
  obtain ⟨y187, hy187⟩ : ∃ y_ : List Int, y_ = (([a1_1] : List Int)) := ⟨_, rfl⟩
  replace H : ((impl_has.f l0_0 y187).bind fun t190 => (if t190 = true then (impl_isWalk.j0 k ((l1_0.length : Int) != (l0_0.length : Int)) l0_0 l1_0 a1_1) else (impl_isWalk.j0 k true l0_0 l1_0 a1_1))) = some r := by first | (rw [hy187]; with_reducible exact H) | (have H2_ := (Option.bind_some _ _).symm.trans H; rw [hy187]; with_reducible exact H2_) | (have H2_ := (Option.bind_some _ _).symm.trans H; with_reducible exact H2_) | with_reducible exact H | (rw [hy187]; exact H) | exact H
  have Ny187 := za0.mk hy187
  clear hy187
  replace H := Option.bind_eq_some_iff.mp H
  obtain ⟨t190, A60, H⟩ := H
  replace H : (if t190 = true then (impl_isWalk.j0 k ((l1_0.length : Int) != (l0_0.length : Int)) l0_0 l1_0 a1_1) else (impl_isWalk.j0 k true l0_0 l1_0 a1_1)) = some r := H
  have A6 := za0.mk A60
  clear A60
  by_cases c7 : t190 = true
  ·subst c7
   have H1 : (impl_isWalk.j0 k ((l1_0.length : Int) != (l0_0.length : Int)) l0_0 l1_0 a1_1) = some r := by rw [if_pos rfl] at H; exact H
   clear H
   have H := H1
   clear H1
   have H' := za0.mk H
   clear H
   have hnb8 := NB185_186.out
   have hnc8 := NB186_185.out
   have hcz9_0 : w5.cell? ⟨gb185, 0, none⟩ = some (.slice A0_0 l0_0.length c0_0) := (zl0 BK185.out 0).trans rfl
   have hfz9_0 := zk0 BK185.out 0
   have hcz10_0 : w5.cell? ⟨gb186, 0, none⟩ = some (.slice A1_0 l1_0.length c1_0) := (zl0 BK186.out 0).trans rfl
   have hcz10_1 : w5.cell? ⟨gb186, 1, none⟩ = some (.int .i64 a1_1) := (zl0 BK186.out 1).trans rfl
   have hfz10_0 := zk0 BK186.out 0
   have hfz10_1 := zk0 BK186.out 1
   go_wp2_with (first | ((with_reducible refine zo0 (N := 10) rfl ?_); (try (refine gate_guard (by rfl) ?_; dsimp only)); refine Kd.R_lit (Kd.int .i64) _ 3 ?hg (N := 10) ?hd (xs := ([a1_1] : List Int)) (inner := [.int .i64 a1_1]) (ok := fun _ => True) (okp := fun _ => True) ?hr ?hp (fun _ hk => hk) trivial (Below.refl _ _) (Nat.le_refl _) (by simp) ?_; (case hd => rfl); (case hg => rfl); (case hr => first | (go_simp; done) | (go_simp; rfl)); (case hp => exact (Reps.one (show Kd.M (Kd.int .i64) _ _ _ a1_1 [.int .i64 a1_1] from rfl) (Reps.none _ _))); intro v188 w11 ho12 hb hg_ hnew_; clear hg_ hnew_; (first | rw [← Ny187.out] at ho12 | (simp only [Int.reduceToNat] at ho12; rw [← Ny187.out] at ho12)); have n0_ := za0.mk (Kd.R_lower ho12 (zj0 (by repeat (first | (with_reducible first | exact HB.out | apply zc0 | apply zb0 | apply zd0 | refine ze0 ?_ GE185.out | refine ze0 ?_ GE186.out) | exact HB.out)))); have n1_ := za0.mk (zm0 (g := gb185) (o := .cells #[.slice A0_0 l0_0.length c0_0] 29 (0, 0)) (by (with_reducible repeat (first | refine zg0 ?_ _ | refine zi0 ?_ | refine zf0 ?_ _)); exact BK185.out) hb); have n2_ := za0.mk (zm0 (g := gb186) (o := .cells #[.slice A1_0 l1_0.length c1_0, .int .i64 a1_1] 63 (0, 0)) (by (with_reducible repeat (first | refine zg0 ?_ _ | refine zi0 ?_ | refine zf0 ?_ _)); exact BK186.out) hb); have n3_ := za0.mk (zh0 (by repeat (first | (with_reducible first | exact HB.out | apply zc0 | apply zb0 | apply zd0 | refine ze0 ?_ GE185.out | refine ze0 ?_ GE186.out) | exact HB.out)) hb); clear BK185; clear BK186; clear HB; have HO189 := n0_; have BK185 := n1_; have BK186 := n2_; have HB := n3_; clear n0_ n1_ n2_ n3_; clear hb ho12; obtain ⟨Ao13, co13, eo13⟩ := Kd.R_slice HO189.out; subst eo13) | ((with_reducible refine zn0 (f := 32) rfl ?_); refine goesL_ (some 11) rfl rfl Try.func32 (by kernel_rfl) rfl #[.agg #[.slice A0_0 l0_0.length c0_0], .slice Ao13 y187.length co13] rfl (by (try simp only [List.map_toArray, List.map_cons, List.map_nil]); first | done | rfl | (simp only [List.length_drop, List.length_take]; rfl)) ?_; (with_reducible refine (impl_has.calls _ _ l0_0 _ _ y187 true _ ?side1 ?side2 ?side3 ?side4 A6.out).mono ?_); (case side1 => repeat (first | exact (Kd.C_below HR0_0.out HB.out) | (with_reducible refine Kd.C_alloc ?_ _) | (with_reducible refine Kd.C_drewN ?_ _) | (with_reducible refine Kd.C_drew ?_))); (case side2 => exact HC0_0.out); (case side3 => repeat (first | exact (Kd.R_reads' HO189.out).2.2 | (with_reducible refine Kd.C_alloc ?_ _) | (with_reducible refine Kd.C_drewN ?_ _) | (with_reducible refine Kd.C_drew ?_))); (case side4 => exact (Kd.R_reads' HO189.out).2.1); rintro e w14 ⟨rfl, hb⟩; refine ⟨_, rfl, ?_⟩; have n0_ := za0.mk (Kd.R_below (by (with_reducible repeat (first | apply Kd.R_alloc | apply Kd.R_drewN | apply Kd.R_drew)); exact HO189.out) hb); have n1_ := za0.mk (zm0 (g := gb185) (o := .cells #[.slice A0_0 l0_0.length c0_0] 29 (0, 0)) (by (with_reducible repeat (first | refine zg0 ?_ _ | refine zi0 ?_ | refine zf0 ?_ _)); exact BK185.out) hb); have n2_ := za0.mk (zm0 (g := gb186) (o := .cells #[.slice A1_0 l1_0.length c1_0, .int .i64 a1_1] 63 (0, 0)) (by (with_reducible repeat (first | refine zg0 ?_ _ | refine zi0 ?_ | refine zf0 ?_ _)); exact BK186.out) hb); have n3_ := za0.mk (zh0 (by repeat (first | (with_reducible first | exact HB.out | apply zc0 | apply zb0 | apply zd0 | refine ze0 ?_ GE185.out | refine ze0 ?_ GE186.out) | exact HB.out)) hb); clear HO189; clear BK185; clear BK186; clear HB; have HO189 := n0_; have BK185 := n1_; have BK186 := n2_; have HB := n3_; clear n0_ n1_ n2_ n3_; (try clear hb); (try clear hb2); (try clear hk); (try clear hi); have hcz15_0 : w14.cell? ⟨gb186, 0, none⟩ = some (.slice A1_0 l1_0.length c1_0) := (zl0 BK186.out 0).trans rfl; have hcz15_1 : w14.cell? ⟨gb186, 1, none⟩ = some (.int .i64 a1_1) := (zl0 BK186.out 1).trans rfl; have hfz15_0 := zk0 BK186.out 0; have hfz15_1 := zk0 BK186.out 1; have hcz16_0 : w14.cell? ⟨gb185, 0, none⟩ = some (.slice A0_0 l0_0.length c0_0) := (zl0 BK185.out 0).trans rfl; have hfz16_0 := zk0 BK185.out 0))
   go_meet
   case rel => exact ⟨_, (((l1_0.length : Int) != (l0_0.length : Int))), (by first | rfl | (simp; done) | (simp [*]; done)), H', ⟨by first | omega | exact Nat.le_refl _⟩, ⟨by (with_reducible repeat (first | refine zg0 ?_ _ | refine zi0 ?_ | refine zf0 ?_ _)); exact BK185.out⟩, ⟨by (with_reducible repeat (first | refine zg0 ?_ _ | refine zi0 ?_ | refine zf0 ?_ _)); exact BK186.out⟩, ⟨by repeat (first | (with_reducible first | exact HB.out | apply zc0 | apply zb0 | apply zd0 | refine ze0 ?_ GE185.out | refine ze0 ?_ GE186.out) | exact HB.out)⟩⟩
  ·replace c7 := Bool.eq_false_iff.mpr c7
   subst c7
   have H1 : (impl_isWalk.j0 k true l0_0 l1_0 a1_1) = some r := by rw [if_neg (show ¬ (false = true) by decide)] at H; exact H
   clear H
   have H := H1
   clear H1
   have H' := za0.mk H
   clear H
   have hnb17 := NB185_186.out
   have hnc17 := NB186_185.out
   have hcz18_0 : w5.cell? ⟨gb185, 0, none⟩ = some (.slice A0_0 l0_0.length c0_0) := (zl0 BK185.out 0).trans rfl
   have hfz18_0 := zk0 BK185.out 0
   have hcz19_0 : w5.cell? ⟨gb186, 0, none⟩ = some (.slice A1_0 l1_0.length c1_0) := (zl0 BK186.out 0).trans rfl
   have hcz19_1 : w5.cell? ⟨gb186, 1, none⟩ = some (.int .i64 a1_1) := (zl0 BK186.out 1).trans rfl
   have hfz19_0 := zk0 BK186.out 0
   have hfz19_1 := zk0 BK186.out 1
   go_wp2_with (first | ((with_reducible refine zo0 (N := 10) rfl ?_); (try (refine gate_guard (by rfl) ?_; dsimp only)); refine Kd.R_lit (Kd.int .i64) _ 3 ?hg (N := 10) ?hd (xs := ([a1_1] : List Int)) (inner := [.int .i64 a1_1]) (ok := fun _ => True) (okp := fun _ => True) ?hr ?hp (fun _ hk => hk) trivial (Below.refl _ _) (Nat.le_refl _) (by simp) ?_; (case hd => rfl); (case hg => rfl); (case hr => first | (go_simp; done) | (go_simp; rfl)); (case hp => exact (Reps.one (show Kd.M (Kd.int .i64) _ _ _ a1_1 [.int .i64 a1_1] from rfl) (Reps.none _ _))); intro v188 w20 ho21 hb hg_ hnew_; clear hg_ hnew_; (first | rw [← Ny187.out] at ho21 | (simp only [Int.reduceToNat] at ho21; rw [← Ny187.out] at ho21)); have n0_ := za0.mk (Kd.R_lower ho21 (zj0 (by repeat (first | (with_reducible first | exact HB.out | apply zc0 | apply zb0 | apply zd0 | refine ze0 ?_ GE185.out | refine ze0 ?_ GE186.out) | exact HB.out)))); have n1_ := za0.mk (zm0 (g := gb185) (o := .cells #[.slice A0_0 l0_0.length c0_0] 29 (0, 0)) (by (with_reducible repeat (first | refine zg0 ?_ _ | refine zi0 ?_ | refine zf0 ?_ _)); exact BK185.out) hb); have n2_ := za0.mk (zm0 (g := gb186) (o := .cells #[.slice A1_0 l1_0.length c1_0, .int .i64 a1_1] 63 (0, 0)) (by (with_reducible repeat (first | refine zg0 ?_ _ | refine zi0 ?_ | refine zf0 ?_ _)); exact BK186.out) hb); have n3_ := za0.mk (zh0 (by repeat (first | (with_reducible first | exact HB.out | apply zc0 | apply zb0 | apply zd0 | refine ze0 ?_ GE185.out | refine ze0 ?_ GE186.out) | exact HB.out)) hb); clear BK185; clear BK186; clear HB; have HO189 := n0_; have BK185 := n1_; have BK186 := n2_; have HB := n3_; clear n0_ n1_ n2_ n3_; clear hb ho21; obtain ⟨Ao22, co22, eo22⟩ := Kd.R_slice HO189.out; subst eo22) | ((with_reducible refine zn0 (f := 32) rfl ?_); refine goesL_ (some 11) rfl rfl Try.func32 (by kernel_rfl) rfl #[.agg #[.slice A0_0 l0_0.length c0_0], .slice Ao22 y187.length co22] rfl (by (try simp only [List.map_toArray, List.map_cons, List.map_nil]); first | done | rfl | (simp only [List.length_drop, List.length_take]; rfl)) ?_; (with_reducible refine (impl_has.calls _ _ l0_0 _ _ y187 false _ ?side1 ?side2 ?side3 ?side4 A6.out).mono ?_); (case side1 => repeat (first | exact (Kd.C_below HR0_0.out HB.out) | (with_reducible refine Kd.C_alloc ?_ _) | (with_reducible refine Kd.C_drewN ?_ _) | (with_reducible refine Kd.C_drew ?_))); (case side2 => exact HC0_0.out); (case side3 => repeat (first | exact (Kd.R_reads' HO189.out).2.2 | (with_reducible refine Kd.C_alloc ?_ _) | (with_reducible refine Kd.C_drewN ?_ _) | (with_reducible refine Kd.C_drew ?_))); (case side4 => exact (Kd.R_reads' HO189.out).2.1); rintro e w23 ⟨rfl, hb⟩; refine ⟨_, rfl, ?_⟩; have n0_ := za0.mk (Kd.R_below (by (with_reducible repeat (first | apply Kd.R_alloc | apply Kd.R_drewN | apply Kd.R_drew)); exact HO189.out) hb); have n1_ := za0.mk (zm0 (g := gb185) (o := .cells #[.slice A0_0 l0_0.length c0_0] 29 (0, 0)) (by (with_reducible repeat (first | refine zg0 ?_ _ | refine zi0 ?_ | refine zf0 ?_ _)); exact BK185.out) hb); have n2_ := za0.mk (zm0 (g := gb186) (o := .cells #[.slice A1_0 l1_0.length c1_0, .int .i64 a1_1] 63 (0, 0)) (by (with_reducible repeat (first | refine zg0 ?_ _ | refine zi0 ?_ | refine zf0 ?_ _)); exact BK186.out) hb); have n3_ := za0.mk (zh0 (by repeat (first | (with_reducible first | exact HB.out | apply zc0 | apply zb0 | apply zd0 | refine ze0 ?_ GE185.out | refine ze0 ?_ GE186.out) | exact HB.out)) hb); clear HO189; clear BK185; clear BK186; clear HB; have HO189 := n0_; have BK185 := n1_; have BK186 := n2_; have HB := n3_; clear n0_ n1_ n2_ n3_; (try clear hb); (try clear hb2); (try clear hk); (try clear hi)))
   go_meet
   case rel => exact ⟨_, (true), (by first | rfl | (simp; done) | (simp [*]; done)), H', ⟨by first | omega | exact Nat.le_refl _⟩, ⟨by (with_reducible repeat (first | refine zg0 ?_ _ | refine zi0 ?_ | refine zf0 ?_ _)); exact BK185.out⟩, ⟨by (with_reducible repeat (first | refine zg0 ?_ _ | refine zi0 ?_ | refine zf0 ?_ _)); exact BK186.out⟩, ⟨by repeat (first | (with_reducible first | exact HB.out | apply zc0 | apply zb0 | apply zd0 | refine ze0 ?_ GE185.out | refine ze0 ?_ GE186.out) | exact HB.out)⟩⟩
 case rest =>
  clear HC3
  try clear c1
  try clear p2
  try clear c3
  try clear c7
  try clear c8
  try clear c17
  try clear hcz10_0
  try clear hcz10_1
  try clear hcz15_0
  try clear hcz15_1
  try clear hcz16_0
  try clear hcz18_0
  try clear hcz19_0
  try clear hcz19_1
  try clear hcz9_0
  try clear hfz10_0
  try clear hfz10_1
  try clear hfz15_0
  try clear hfz15_1
  try clear hfz16_0
  try clear hfz18_0
  try clear hfz19_0
  try clear hfz19_1
  try clear hfz9_0
  obtain ⟨kq, x21_2, rfl, HA, HJ2, BK185, BK186, HB⟩ := hcut
  cases kq with
  | zero => exact absurd HA.out (by simp [impl_isWalk.j0])
  | succ kj2 =>
   have H := HA.out
   clear HA
   simp only [impl_isWalk.j0] at H
   by_cases c24 : x21_2 = true
   ·subst c24
    have H1 : (some false) = some r := by rw [if_pos rfl] at H; exact H
    clear H
    have H := H1
    clear H1
    obtain rfl := Option.some.inj H
    go_wp2
    go_ret
    exact ⟨by first | rfl | (simp [errW_none, errW_some] <;> rfl) | (simp [*, errW_none, errW_some] <;> rfl), by repeat (first | (with_reducible first | exact HB.out | apply zc0 | apply zb0 | apply zd0 | refine ze0 ?_ GE185.out | refine ze0 ?_ GE186.out) | exact HB.out)⟩
   ·replace c24 := Bool.eq_false_iff.mpr c24
    subst c24
    have H1 : (impl_isWalk.l0 kj2 l1_0 (l1_0.length : Int) 0 l0_0) = some r := by rw [if_neg (show ¬ (false = true) by decide)] at H; exact H
    clear H
    have H := H1
    clear H1
    have H' := za0.mk H
    clear H
    have hnb25 := NB186_185.out
    have hnc25 := NB185_186.out
    have hcz26_0 : wc.cell? ⟨gb186, 0, none⟩ = some (.slice A1_0 l1_0.length c1_0) := (zl0 BK186.out 0).trans rfl
    have hcz26_1 : wc.cell? ⟨gb186, 1, none⟩ = some (.int .i64 a1_1) := (zl0 BK186.out 1).trans rfl
    have hfz26_0 := zk0 BK186.out 0
    have hfz26_1 := zk0 BK186.out 1
    go_wp2
    go_loopg [25] kj2 (fun kq v25 w' => ∃ (x25_2 : Int), v25 = .int .i64 x25_2 ∧ za0 (impl_isWalk.l0 kq l1_0 (l1_0.length : Int) x25_2 l0_0 = some r) ∧ za0 (kq ≤ kj2) ∧ za0 (w'.heap[gb185]? = some (.cells #[(.slice A0_0 l0_0.length c0_0)] 29 (0, 0))) ∧ za0 (w'.heap[gb186]? = some (.cells #[(.slice A1_0 l1_0.length c1_0), .int .i64 a1_1] 63 (0, 0))) ∧ za0 (Below w.heap.size w w'))
    case atStart => exact ⟨(0), (by first | rfl | (simp; done) | (simp [*]; done)), H', ⟨Nat.le_refl _⟩, ⟨by (with_reducible repeat (first | refine zg0 ?_ _ | refine zi0 ?_ | refine zf0 ?_ _)); exact BK185.out⟩, ⟨by (with_reducible repeat (first | refine zg0 ?_ _ | refine zi0 ?_ | refine zf0 ?_ _)); exact BK186.out⟩, ⟨by repeat (first | (with_reducible first | exact HB.out | apply zc0 | apply zb0 | apply zd0 | refine ze0 ?_ GE185.out | refine ze0 ?_ GE186.out) | exact HB.out)⟩⟩
    case round =>
     clear H'
     try clear c1
     try clear c2
     try clear p2
     try clear c3
     try clear c7
     try clear c8
     try clear c17
     try clear c24
     try clear c25
     try clear hcz10_0
     try clear hcz10_1
     try clear hcz15_0
     try clear hcz15_1
     try clear hcz16_0
     try clear hcz18_0
     try clear hcz19_0
     try clear hcz19_1
     try clear hcz26_0
     try clear hcz26_1
     try clear hcz9_0
     try clear hfz10_0
     try clear hfz10_1
     try clear hfz15_0
     try clear hfz15_1
     try clear hfz16_0
     try clear hfz18_0
     try clear hfz19_0
     try clear hfz19_1
     try clear hfz26_0
     try clear hfz26_1
     try clear hfz9_0
     try clear p2
     obtain ⟨x25_2, rfl, HA, HK2, BK185, BK186, HB⟩ := hrel
     cases gk with
     | zero => exact absurd HA.out (by simp [impl_isWalk.l0])
     | succ k2 =>
      have H := HA.out
      clear HA
      simp only [impl_isWalk.l0] at H
      by_cases c27 : x25_2 < (l1_0.length : Int)
      ·rw [if_pos c27] at H
       have c27b0 : decide (x25_2 < (l1_0.length : Int)) = true := decide_eq_true c27
       clear c27
       by_cases c28 : 0 ≤ x25_2
       ·rw [if_pos c28] at H
        have c28b0 : decide (0 ≤ x25_2) = true := decide_eq_true c28
        clear c28
        by_cases c29 : x25_2 < (l1_0.length : Int)
        ·rw [if_pos c29] at H
         have c29b0 : decide (x25_2 < (l1_0.length : Int)) = true := decide_eq_true c29
         clear c29
         by_cases c30 : x25_2 < (l0_0.length : Int)
         ·rw [if_pos c30] at H
          have c30b0 : decide (x25_2 < (l0_0.length : Int)) = true := decide_eq_true c30
          clear c30
          obtain ⟨ji31, hji31⟩ : ∃ j_ : Int, (mx (wrap64 (((rd_L1 l0_0 x25_2).length : Int) - 1)) 0) = j_ := ⟨_, rfl⟩
          replace H : ((impl_in.f (rd l1_0 x25_2) 0 (ji31)).bind fun t193 => (if t193 = true then (impl_isWalk.l0 k2 l1_0 (l1_0.length : Int) (wrap64 (x25_2 + 1)) l0_0) else (some false))) = some r := by first | (rw [hji31] at H; exact H) | (simp only [hji31] at H ⊢; exact H)
          have hji31_ : (if (wrap64 (((rd_L1 l0_0 x25_2).length : Int) - 1)) < 0 then 0 else (wrap64 (((rd_L1 l0_0 x25_2).length : Int) - 1))) = ji31 := hji31
          replace H := Option.bind_eq_some_iff.mp H
          obtain ⟨t193, A320, H⟩ := H
          replace H : (if t193 = true then (impl_isWalk.l0 k2 l1_0 (l1_0.length : Int) (wrap64 (x25_2 + 1)) l0_0) else (some false)) = some r := H
          have A32 := za0.mk A320
          clear A320
          by_cases c33 : t193 = true
          ·subst c33
           have H1 : (impl_isWalk.l0 k2 l1_0 (l1_0.length : Int) (wrap64 (x25_2 + 1)) l0_0) = some r := by rw [if_pos rfl] at H; exact H
           clear H
           have H := H1
           clear H1
           have H' := za0.mk H
           clear H
           have p191 : 0 ≤ (x25_2 : Int) := of_decide_eq_true (by first | (with_reducible assumption) | assumption)
           have q191 : x25_2 < (l1_0.length : Int) := of_decide_eq_true (by first | (with_reducible assumption) | assumption)
           obtain ⟨ad191, e191, hx191_0⟩ := Kd.at_int HR1_0.out x25_2 p191 q191
           cases e191
           replace hx191_0 := (HB.out.cell (World.block_lt_of_cell? w _ hx191_0)).trans hx191_0
           replace p191 := eq_true p191
           replace q191 := eq_true q191
           have hnb34 := NB185_186.out
           have hnc34 := NB186_185.out
           have hcz35_0 : wr.cell? ⟨gb185, 0, none⟩ = some (.slice A0_0 l0_0.length c0_0) := (zl0 BK185.out 0).trans rfl
           have hfz35_0 := zk0 BK185.out 0
           have p192 : 0 ≤ (x25_2 : Int) := of_decide_eq_true (by first | (with_reducible assumption) | assumption)
           have q192 : x25_2 < (l0_0.length : Int) := of_decide_eq_true (by first | (with_reducible assumption) | assumption)
           obtain ⟨ad192, A192_0, c192_0, e192, hx192_0, hl192_0, hi192_0⟩ := at_L1 HR0_0.out x25_2 p192 q192
           cases e192
           replace hx192_0 := (HB.out.cell (World.block_lt_of_cell? w _ hx192_0)).trans hx192_0
           have HR192_0 := za0.mk hi192_0
           have HC192_0 := za0.mk hl192_0
           clear hi192_0 hl192_0
           replace p192 := eq_true p192
           replace q192 := eq_true q192
           go_wp2_with (first | ((with_reducible refine zn0 (f := 54) rfl ?_); refine goesL_ (some 39) rfl rfl Try.func54 (by kernel_rfl) rfl #[.int .i64 (rd l1_0 x25_2), .int .i64 0, .int .i64 ji31] rfl (by (try simp only [List.map_toArray, List.map_cons, List.map_nil]); first | done | (simp only [hji31]; rfl) | rfl | (simp only [List.length_drop, List.length_take]; rfl)) ?_; (with_reducible refine (impl_in.calls (rd l1_0 x25_2) 0 ji31 true _ A32.out).mono ?_); rintro e w' ⟨rfl, ⟨nd, rfl⟩⟩; refine ⟨_, rfl, ?_⟩))
           go_roundg k2
           case measure => have := HJ2.out; have := HK2.out; omega
           case rel => exact ⟨(wrap64 (x25_2 + 1)), (by first | rfl | (simp; done) | (simp [*]; done)), H', ⟨by have := HJ2.out; have := HK2.out; omega⟩, ⟨by (with_reducible repeat (first | refine zg0 ?_ _ | refine zi0 ?_ | refine zf0 ?_ _)); exact BK185.out⟩, ⟨by (with_reducible repeat (first | refine zg0 ?_ _ | refine zi0 ?_ | refine zf0 ?_ _)); exact BK186.out⟩, ⟨by repeat (first | (with_reducible first | exact HB.out | apply zc0 | apply zb0 | apply zd0 | refine ze0 ?_ GE185.out | refine ze0 ?_ GE186.out) | exact HB.out)⟩⟩
          ·replace c33 := Bool.eq_false_iff.mpr c33
           subst c33
           have H1 : (some false) = some r := by rw [if_neg (show ¬ (false = true) by decide)] at H; exact H
           clear H
           have H := H1
           clear H1
           obtain rfl := Option.some.inj H
           have p191 : 0 ≤ (x25_2 : Int) := of_decide_eq_true (by first | (with_reducible assumption) | assumption)
           have q191 : x25_2 < (l1_0.length : Int) := of_decide_eq_true (by first | (with_reducible assumption) | assumption)
           obtain ⟨ad191, e191, hx191_0⟩ := Kd.at_int HR1_0.out x25_2 p191 q191
           cases e191
           replace hx191_0 := (HB.out.cell (World.block_lt_of_cell? w _ hx191_0)).trans hx191_0
           replace p191 := eq_true p191
           replace q191 := eq_true q191
           have hnb36 := NB185_186.out
           have hnc36 := NB186_185.out
           have hcz37_0 : wr.cell? ⟨gb185, 0, none⟩ = some (.slice A0_0 l0_0.length c0_0) := (zl0 BK185.out 0).trans rfl
           have hfz37_0 := zk0 BK185.out 0
           have p192 : 0 ≤ (x25_2 : Int) := of_decide_eq_true (by first | (with_reducible assumption) | assumption)
           have q192 : x25_2 < (l0_0.length : Int) := of_decide_eq_true (by first | (with_reducible assumption) | assumption)
           obtain ⟨ad192, A192_0, c192_0, e192, hx192_0, hl192_0, hi192_0⟩ := at_L1 HR0_0.out x25_2 p192 q192
           cases e192
           replace hx192_0 := (HB.out.cell (World.block_lt_of_cell? w _ hx192_0)).trans hx192_0
           have HR192_0 := za0.mk hi192_0
           have HC192_0 := za0.mk hl192_0
           clear hi192_0 hl192_0
           replace p192 := eq_true p192
           replace q192 := eq_true q192
           go_wp2_with (first | ((with_reducible refine zn0 (f := 54) rfl ?_); refine goesL_ (some 39) rfl rfl Try.func54 (by kernel_rfl) rfl #[.int .i64 (rd l1_0 x25_2), .int .i64 0, .int .i64 ji31] rfl (by (try simp only [List.map_toArray, List.map_cons, List.map_nil]); first | done | (simp only [hji31]; rfl) | rfl | (simp only [List.length_drop, List.length_take]; rfl)) ?_; (with_reducible refine (impl_in.calls (rd l1_0 x25_2) 0 ji31 false _ A32.out).mono ?_); rintro e w' ⟨rfl, ⟨nd, rfl⟩⟩; refine ⟨_, rfl, ?_⟩))
           go_ret
           exact ⟨by first | rfl | (simp [errW_none, errW_some] <;> rfl) | (simp only [← hji31]; first | rfl | (simp [errW_none, errW_some] <;> rfl)) | (simp [*, errW_none, errW_some] <;> rfl), by repeat (first | (with_reducible first | exact HB.out | apply zc0 | apply zb0 | apply zd0 | refine ze0 ?_ GE185.out | refine ze0 ?_ GE186.out) | exact HB.out)⟩
         ·rw [if_neg c30] at H
          exact absurd H (by simp)
        ·rw [if_neg c29] at H
         exact absurd H (by simp)
       ·rw [if_neg c28] at H
        exact absurd H (by simp)
      ·rw [if_neg c27] at H
       have c27b0 : decide (x25_2 < (l1_0.length : Int)) = false := decide_eq_false c27
       clear c27
       obtain rfl := Option.some.inj H
       go_wp2
       go_ret
       exact ⟨by first | rfl | (simp [errW_none, errW_some] <;> rfl) | (simp [*, errW_none, errW_some] <;> rfl), by repeat (first | (with_reducible first | exact HB.out | apply zc0 | apply zb0 | apply zd0 | refine ze0 ?_ GE185.out | refine ze0 ?_ GE186.out) | exact HB.out)⟩
def impl_areRotors.f (k : Nat) (l0_0 : List (List Int)) (l1 : List Int) : Option (Bool) := (impl_isWalk.f k l0_0 l1 0).bind fun t195 => (some t195)
set_option maxHeartbeats 8000000 in
set_option maxRecDepth 100000 in
theorem impl_areRotors.calls (k : Nat) (A0_0 : Option Addr) (c0_0 : Nat) (l0_0 : List (List Int)) (A1 : Option Addr) (c1 : Nat) (l1 : List Int) (r : Bool) (w : World) (hr0_0 : Kd.C (Kd.slice 3 (Kd.int .i64)) w A0_0 l0_0.length l0_0) (hc0_0 : l0_0.length ≤ c0_0) (hr1 : Kd.C (Kd.int .i64) w A1 l1.length l1) (hc1 : l1.length ≤ c1) (h : impl_areRotors.f k l0_0 l1 = some r) :
  Calls Try.prog 81 #[.agg #[.slice A0_0 l0_0.length c0_0], .slice A1 l1.length c1] w fun e w' => e = .returned (.bool r) ∧ Below w.heap.size w w' := by
 have hu29 := Try.underlying29
 have hu63 := Try.underlying63
 have HR0_0 := za0.mk hr0_0
 have HC0_0 := za0.mk hc0_0
 clear hr0_0 hc0_0
 have HR1 := za0.mk hr1
 have HC1 := za0.mk hc1
 clear hr1 hc1
 have HB := za0.mk (Below.refl w.heap.size w)
 have H : ((impl_isWalk.f k l0_0 l1 0).bind fun t195 => (some t195)) = some r := h
 clear h
 replace H := Option.bind_eq_some_iff.mp H
 obtain ⟨t195, A30, H⟩ := H
 replace H : (some t195) = some r := H
 have A3 := za0.mk A30
 clear A30
 obtain rfl := Option.some.inj H
 go_enter Try.func81, Try.ntmps81
 go_wp2_with (first | ((with_reducible refine zo0 (N := 2) rfl ?_); refine zp0 ?hg (N := 2) ?hd (cs := #[.slice A0_0 l0_0.length c0_0]) (t := 29) ?hr ?_; (case hd => rfl); (case hg => rfl); (case hr => first | (go_simp; done) | (go_simp; rfl)); intro gb194 hg w4 hbox hb; have n0_ := za0.mk (zh0 (by repeat (first | (with_reducible first | exact HB.out | apply zc0 | apply zb0 | apply zd0) | exact HB.out)) hb); have n1_ := za0.mk (hbox); have n2_ := za0.mk ((by rw [hg]; exact (zj0 (by repeat (first | (with_reducible first | exact HB.out | apply zc0 | apply zb0 | apply zd0) | exact HB.out))) : w.heap.size ≤ gb194)); have n3_ := za0.mk ((by rw [hg]; exact (zj0 (by repeat (first | (with_reducible first | exact HB.out | apply zc0 | apply zb0 | apply zd0) | exact HB.out))) : w.heap.size ≤ gb194)); clear HB; have HB := n0_; have BK194 := n1_; have GW194 := n2_; have GE194 := n3_; clear n0_ n1_ n2_ n3_; clear hb hbox hg; have hcz5_0 : w4.cell? ⟨gb194, 0, none⟩ = some (.slice A0_0 l0_0.length c0_0) := (zl0 BK194.out 0).trans rfl; have hfz5_0 := zk0 BK194.out 0) | ((with_reducible refine zn0 (f := 86) rfl ?_); refine goesL_ (some 8) rfl rfl Try.func86 (by kernel_rfl) rfl #[.agg #[.slice A0_0 l0_0.length c0_0], .agg #[.slice A1 l1.length c1, .int .i64 0]] rfl (by (try simp only [List.map_toArray, List.map_cons, List.map_nil]); first | done | rfl | (simp only [List.length_drop, List.length_take]; rfl)) ?_; (with_reducible refine (impl_isWalk.calls k _ _ l0_0 _ _ l1 0 t195 _ ?side1 ?side2 ?side3 ?side4 A3.out).mono ?_); (case side1 => repeat (first | exact (Kd.C_below HR0_0.out HB.out) | (with_reducible refine Kd.C_alloc ?_ _) | (with_reducible refine Kd.C_drewN ?_ _) | (with_reducible refine Kd.C_drew ?_))); (case side2 => exact HC0_0.out); (case side3 => repeat (first | exact (Kd.C_below HR1.out HB.out) | (with_reducible refine Kd.C_alloc ?_ _) | (with_reducible refine Kd.C_drewN ?_ _) | (with_reducible refine Kd.C_drew ?_))); (case side4 => exact HC1.out); rintro e w6 ⟨rfl, hb⟩; refine ⟨_, rfl, ?_⟩; have n0_ := za0.mk (zm0 (g := gb194) (o := .cells #[.slice A0_0 l0_0.length c0_0] 29 (0, 0)) (by (with_reducible repeat (first | refine zg0 ?_ _ | refine zi0 ?_ | refine zf0 ?_ _)); exact BK194.out) hb); have n1_ := za0.mk (zh0 (by repeat (first | (with_reducible first | exact HB.out | apply zc0 | apply zb0 | apply zd0 | refine ze0 ?_ GE194.out) | exact HB.out)) hb); clear BK194; clear HB; have BK194 := n0_; have HB := n1_; clear n0_ n1_; (try clear hb); (try clear hb2); (try clear hk); (try clear hi)))
 go_ret
 exact ⟨by first | rfl | (simp [errW_none, errW_some] <;> rfl) | (simp [*, errW_none, errW_some] <;> rfl), by repeat (first | (with_reducible first | exact HB.out | apply zc0 | apply zb0 | apply zd0 | refine ze0 ?_ GE194.out) | exact HB.out)⟩
def impl_areSinkRotors.f (k : Nat) (l0_0 : List (List Int)) (a1 : Int) (l2 : List Int) : Option (Bool) := (impl_has.f l0_0 (([a1] : List Int))).bind fun t200 => (if t200 = true then ((impl_areRotors.f k l0_0 l2).bind fun t201 => (if t201 = true then (if 0 ≤ a1 then (if a1 < (l2.length : Int) then (some ((rd l2 a1) == 0)) else (none)) else (none)) else (some false))) else (some false))
set_option maxHeartbeats 8000000 in
set_option maxRecDepth 100000 in
theorem impl_areSinkRotors.calls (k : Nat) (A0_0 : Option Addr) (c0_0 : Nat) (l0_0 : List (List Int)) (a1 : Int) (A2 : Option Addr) (c2 : Nat) (l2 : List Int) (r : Bool) (w : World) (hr0_0 : Kd.C (Kd.slice 3 (Kd.int .i64)) w A0_0 l0_0.length l0_0) (hc0_0 : l0_0.length ≤ c0_0) (hr2 : Kd.C (Kd.int .i64) w A2 l2.length l2) (hc2 : l2.length ≤ c2) (h : impl_areSinkRotors.f k l0_0 a1 l2 = some r) :
  Calls Try.prog 69 #[.agg #[.slice A0_0 l0_0.length c0_0], .int .i64 a1, .slice A2 l2.length c2] w fun e w' => e = .returned (.bool r) ∧ Below w.heap.size w w' := by
 have hu29 := Try.underlying29
 have HR0_0 := za0.mk hr0_0
 have HC0_0 := za0.mk hc0_0
 clear hr0_0 hc0_0
 have HR2 := za0.mk hr2
 have HC2 := za0.mk hc2
 clear hr2 hc2
 have HB := za0.mk (Below.refl w.heap.size w)
 have H : ((impl_has.f l0_0 (([a1] : List Int))).bind fun t200 => (if t200 = true then ((impl_areRotors.f k l0_0 l2).bind fun t201 => (if t201 = true then (if 0 ≤ a1 then (if a1 < (l2.length : Int) then (some ((rd l2 a1) == 0)) else (none)) else (none)) else (some false))) else (some false))) = some r := h
 clear h
 obtain ⟨y197, hy197⟩ : ∃ y_ : List Int, y_ = (([a1] : List Int)) := ⟨_, rfl⟩
 replace H : ((impl_has.f l0_0 y197).bind fun t200 => (if t200 = true then ((impl_areRotors.f k l0_0 l2).bind fun t201 => (if t201 = true then (if 0 ≤ a1 then (if a1 < (l2.length : Int) then (some ((rd l2 a1) == 0)) else (none)) else (none)) else (some false))) else (some false))) = some r := by first | (rw [hy197]; with_reducible exact H) | (have H2_ := (Option.bind_some _ _).symm.trans H; rw [hy197]; with_reducible exact H2_) | (have H2_ := (Option.bind_some _ _).symm.trans H; with_reducible exact H2_) | with_reducible exact H | (rw [hy197]; exact H) | exact H
 have Ny197 := za0.mk hy197
 clear hy197
 replace H := Option.bind_eq_some_iff.mp H
 obtain ⟨t200, A40, H⟩ := H
 replace H : (if t200 = true then ((impl_areRotors.f k l0_0 l2).bind fun t201 => (if t201 = true then (if 0 ≤ a1 then (if a1 < (l2.length : Int) then (some ((rd l2 a1) == 0)) else (none)) else (none)) else (some false))) else (some false)) = some r := H
 have A4 := za0.mk A40
 clear A40
 by_cases c5 : t200 = true
 ·subst c5
  have H1 : ((impl_areRotors.f k l0_0 l2).bind fun t201 => (if t201 = true then (if 0 ≤ a1 then (if a1 < (l2.length : Int) then (some ((rd l2 a1) == 0)) else (none)) else (none)) else (some false))) = some r := by rw [if_pos rfl] at H; exact H
  clear H
  have H := H1
  clear H1
  replace H := Option.bind_eq_some_iff.mp H
  obtain ⟨t201, A60, H⟩ := H
  replace H : (if t201 = true then (if 0 ≤ a1 then (if a1 < (l2.length : Int) then (some ((rd l2 a1) == 0)) else (none)) else (none)) else (some false)) = some r := H
  have A6 := za0.mk A60
  clear A60
  by_cases c7 : t201 = true
  ·subst c7
   have H1 : (if 0 ≤ a1 then (if a1 < (l2.length : Int) then (some ((rd l2 a1) == 0)) else (none)) else (none)) = some r := by rw [if_pos rfl] at H; exact H
   clear H
   have H := H1
   clear H1
   by_cases c8 : 0 ≤ a1
   ·rw [if_pos c8] at H
    have c8b0 : decide (0 ≤ a1) = true := decide_eq_true c8
    clear c8
    by_cases c9 : a1 < (l2.length : Int)
    ·rw [if_pos c9] at H
     have c9b0 : decide (a1 < (l2.length : Int)) = true := decide_eq_true c9
     clear c9
     obtain rfl := Option.some.inj H
     go_enter Try.func69, Try.ntmps69
     go_wp2_with (first | ((with_reducible refine zo0 (N := 3) rfl ?_); refine zp0 ?hg (N := 3) ?hd (cs := #[.slice A0_0 l0_0.length c0_0]) (t := 29) ?hr ?_; (case hd => rfl); (case hg => rfl); (case hr => first | (go_simp; done) | (go_simp; rfl)); intro gb196 hg w10 hbox hb; have n0_ := za0.mk (zh0 (by repeat (first | (with_reducible first | exact HB.out | apply zc0 | apply zb0 | apply zd0) | exact HB.out)) hb); have n1_ := za0.mk (hbox); have n2_ := za0.mk ((by rw [hg]; exact (zj0 (by repeat (first | (with_reducible first | exact HB.out | apply zc0 | apply zb0 | apply zd0) | exact HB.out))) : w.heap.size ≤ gb196)); have n3_ := za0.mk ((by rw [hg]; exact (zj0 (by repeat (first | (with_reducible first | exact HB.out | apply zc0 | apply zb0 | apply zd0) | exact HB.out))) : w.heap.size ≤ gb196)); clear HB; have HB := n0_; have BK196 := n1_; have GW196 := n2_; have GE196 := n3_; clear n0_ n1_ n2_ n3_; clear hb hbox hg; have hcz11_0 : w10.cell? ⟨gb196, 0, none⟩ = some (.slice A0_0 l0_0.length c0_0) := (zl0 BK196.out 0).trans rfl; have hfz11_0 := zk0 BK196.out 0) | ((with_reducible refine zo0 (N := 9) rfl ?_); refine Kd.R_lit (Kd.int .i64) _ 3 ?hg (N := 9) ?hd (xs := ([a1] : List Int)) (inner := [.int .i64 a1]) (ok := fun _ => True) (okp := fun _ => True) ?hr ?hp (fun _ hk => hk) trivial (Below.refl _ _) (Nat.le_refl _) (by simp) ?_; (case hd => rfl); (case hg => rfl); (case hr => first | (go_simp; done) | (go_simp; rfl)); (case hp => exact (Reps.one (show Kd.M (Kd.int .i64) _ _ _ a1 [.int .i64 a1] from rfl) (Reps.none _ _))); intro v198 w12 ho13 hb hg_ hnew_; clear hg_ hnew_; (first | rw [← Ny197.out] at ho13 | (simp only [Int.reduceToNat] at ho13; rw [← Ny197.out] at ho13)); have n0_ := za0.mk (Kd.R_lower ho13 (zj0 (by repeat (first | (with_reducible first | exact HB.out | apply zc0 | apply zb0 | apply zd0 | refine ze0 ?_ GE196.out) | exact HB.out)))); have n1_ := za0.mk (zm0 (g := gb196) (o := .cells #[.slice A0_0 l0_0.length c0_0] 29 (0, 0)) (by (with_reducible repeat (first | refine zg0 ?_ _ | refine zi0 ?_ | refine zf0 ?_ _)); exact BK196.out) hb); have n2_ := za0.mk (zh0 (by repeat (first | (with_reducible first | exact HB.out | apply zc0 | apply zb0 | apply zd0 | refine ze0 ?_ GE196.out) | exact HB.out)) hb); clear BK196; clear HB; have HO199 := n0_; have BK196 := n1_; have HB := n2_; clear n0_ n1_ n2_; clear hb ho13; obtain ⟨Ao14, co14, eo14⟩ := Kd.R_slice HO199.out; subst eo14) | ((with_reducible refine zn0 (f := 32) rfl ?_); refine goesL_ (some 10) rfl rfl Try.func32 (by kernel_rfl) rfl #[.agg #[.slice A0_0 l0_0.length c0_0], .slice Ao14 y197.length co14] rfl (by (try simp only [List.map_toArray, List.map_cons, List.map_nil]); first | done | rfl | (simp only [List.length_drop, List.length_take]; rfl)) ?_; (with_reducible refine (impl_has.calls _ _ l0_0 _ _ y197 true _ ?side1 ?side2 ?side3 ?side4 A4.out).mono ?_); (case side1 => repeat (first | exact (Kd.C_below HR0_0.out HB.out) | (with_reducible refine Kd.C_alloc ?_ _) | (with_reducible refine Kd.C_drewN ?_ _) | (with_reducible refine Kd.C_drew ?_))); (case side2 => exact HC0_0.out); (case side3 => repeat (first | exact (Kd.R_reads' HO199.out).2.2 | (with_reducible refine Kd.C_alloc ?_ _) | (with_reducible refine Kd.C_drewN ?_ _) | (with_reducible refine Kd.C_drew ?_))); (case side4 => exact (Kd.R_reads' HO199.out).2.1); rintro e w15 ⟨rfl, hb⟩; refine ⟨_, rfl, ?_⟩; have n0_ := za0.mk (Kd.R_below (by (with_reducible repeat (first | apply Kd.R_alloc | apply Kd.R_drewN | apply Kd.R_drew)); exact HO199.out) hb); have n1_ := za0.mk (zm0 (g := gb196) (o := .cells #[.slice A0_0 l0_0.length c0_0] 29 (0, 0)) (by (with_reducible repeat (first | refine zg0 ?_ _ | refine zi0 ?_ | refine zf0 ?_ _)); exact BK196.out) hb); have n2_ := za0.mk (zh0 (by repeat (first | (with_reducible first | exact HB.out | apply zc0 | apply zb0 | apply zd0 | refine ze0 ?_ GE196.out) | exact HB.out)) hb); clear HO199; clear BK196; clear HB; have HO199 := n0_; have BK196 := n1_; have HB := n2_; clear n0_ n1_ n2_; (try clear hb); (try clear hb2); (try clear hk); (try clear hi); have hcz16_0 : w15.cell? ⟨gb196, 0, none⟩ = some (.slice A0_0 l0_0.length c0_0) := (zl0 BK196.out 0).trans rfl; have hfz16_0 := zk0 BK196.out 0) | (go_at_call 81; (with_reducible refine (impl_areRotors.calls k _ _ l0_0 _ _ l2 true _ ?side1 ?side2 ?side3 ?side4 A6.out).mono ?_); (case side1 => repeat (first | exact (Kd.C_below HR0_0.out HB.out) | (with_reducible refine Kd.C_alloc ?_ _) | (with_reducible refine Kd.C_drewN ?_ _) | (with_reducible refine Kd.C_drew ?_))); (case side2 => exact HC0_0.out); (case side3 => repeat (first | exact (Kd.C_below HR2.out HB.out) | (with_reducible refine Kd.C_alloc ?_ _) | (with_reducible refine Kd.C_drewN ?_ _) | (with_reducible refine Kd.C_drew ?_))); (case side4 => exact HC2.out); rintro e w17 ⟨rfl, hb⟩; have n0_ := za0.mk (Kd.R_below (by (with_reducible repeat (first | apply Kd.R_alloc | apply Kd.R_drewN | apply Kd.R_drew)); exact HO199.out) hb); have n1_ := za0.mk (zm0 (g := gb196) (o := .cells #[.slice A0_0 l0_0.length c0_0] 29 (0, 0)) (by (with_reducible repeat (first | refine zg0 ?_ _ | refine zi0 ?_ | refine zf0 ?_ _)); exact BK196.out) hb); have n2_ := za0.mk (zh0 (by repeat (first | (with_reducible first | exact HB.out | apply zc0 | apply zb0 | apply zd0 | refine ze0 ?_ GE196.out) | exact HB.out)) hb); clear HO199; clear BK196; clear HB; have HO199 := n0_; have BK196 := n1_; have HB := n2_; clear n0_ n1_ n2_; (try clear hb); (try clear hb2); (try clear hk); (try clear hi); have p202 : 0 ≤ (a1 : Int) := of_decide_eq_true (by first | (with_reducible assumption) | assumption); have q202 : a1 < (l2.length : Int) := of_decide_eq_true (by first | (with_reducible assumption) | assumption); obtain ⟨ad202, e202, hx202_0⟩ := Kd.at_int HR2.out a1 p202 q202; cases e202; replace hx202_0 := (HB.out.cell (World.block_lt_of_cell? w _ hx202_0)).trans hx202_0; replace p202 := eq_true p202; replace q202 := eq_true q202))
     go_ret
     exact ⟨by first | rfl | (simp [errW_none, errW_some] <;> rfl) | (simp [*, errW_none, errW_some] <;> rfl), by repeat (first | (with_reducible first | exact HB.out | apply zc0 | apply zb0 | apply zd0 | refine ze0 ?_ GE196.out) | exact HB.out)⟩
    ·rw [if_neg c9] at H
     exact absurd H (by simp)
   ·rw [if_neg c8] at H
    exact absurd H (by simp)
  ·replace c7 := Bool.eq_false_iff.mpr c7
   subst c7
   have H1 : (some false) = some r := by rw [if_neg (show ¬ (false = true) by decide)] at H; exact H
   clear H
   have H := H1
   clear H1
   obtain rfl := Option.some.inj H
   go_enter Try.func69, Try.ntmps69
   go_wp2_with (first | ((with_reducible refine zo0 (N := 3) rfl ?_); refine zp0 ?hg (N := 3) ?hd (cs := #[.slice A0_0 l0_0.length c0_0]) (t := 29) ?hr ?_; (case hd => rfl); (case hg => rfl); (case hr => first | (go_simp; done) | (go_simp; rfl)); intro gb196 hg w18 hbox hb; have n0_ := za0.mk (zh0 (by repeat (first | (with_reducible first | exact HB.out | apply zc0 | apply zb0 | apply zd0) | exact HB.out)) hb); have n1_ := za0.mk (hbox); have n2_ := za0.mk ((by rw [hg]; exact (zj0 (by repeat (first | (with_reducible first | exact HB.out | apply zc0 | apply zb0 | apply zd0) | exact HB.out))) : w.heap.size ≤ gb196)); have n3_ := za0.mk ((by rw [hg]; exact (zj0 (by repeat (first | (with_reducible first | exact HB.out | apply zc0 | apply zb0 | apply zd0) | exact HB.out))) : w.heap.size ≤ gb196)); clear HB; have HB := n0_; have BK196 := n1_; have GW196 := n2_; have GE196 := n3_; clear n0_ n1_ n2_ n3_; clear hb hbox hg; have hcz19_0 : w18.cell? ⟨gb196, 0, none⟩ = some (.slice A0_0 l0_0.length c0_0) := (zl0 BK196.out 0).trans rfl; have hfz19_0 := zk0 BK196.out 0) | ((with_reducible refine zo0 (N := 9) rfl ?_); refine Kd.R_lit (Kd.int .i64) _ 3 ?hg (N := 9) ?hd (xs := ([a1] : List Int)) (inner := [.int .i64 a1]) (ok := fun _ => True) (okp := fun _ => True) ?hr ?hp (fun _ hk => hk) trivial (Below.refl _ _) (Nat.le_refl _) (by simp) ?_; (case hd => rfl); (case hg => rfl); (case hr => first | (go_simp; done) | (go_simp; rfl)); (case hp => exact (Reps.one (show Kd.M (Kd.int .i64) _ _ _ a1 [.int .i64 a1] from rfl) (Reps.none _ _))); intro v198 w20 ho21 hb hg_ hnew_; clear hg_ hnew_; (first | rw [← Ny197.out] at ho21 | (simp only [Int.reduceToNat] at ho21; rw [← Ny197.out] at ho21)); have n0_ := za0.mk (Kd.R_lower ho21 (zj0 (by repeat (first | (with_reducible first | exact HB.out | apply zc0 | apply zb0 | apply zd0 | refine ze0 ?_ GE196.out) | exact HB.out)))); have n1_ := za0.mk (zm0 (g := gb196) (o := .cells #[.slice A0_0 l0_0.length c0_0] 29 (0, 0)) (by (with_reducible repeat (first | refine zg0 ?_ _ | refine zi0 ?_ | refine zf0 ?_ _)); exact BK196.out) hb); have n2_ := za0.mk (zh0 (by repeat (first | (with_reducible first | exact HB.out | apply zc0 | apply zb0 | apply zd0 | refine ze0 ?_ GE196.out) | exact HB.out)) hb); clear BK196; clear HB; have HO199 := n0_; have BK196 := n1_; have HB := n2_; clear n0_ n1_ n2_; clear hb ho21; obtain ⟨Ao22, co22, eo22⟩ := Kd.R_slice HO199.out; subst eo22) | ((with_reducible refine zn0 (f := 32) rfl ?_); refine goesL_ (some 10) rfl rfl Try.func32 (by kernel_rfl) rfl #[.agg #[.slice A0_0 l0_0.length c0_0], .slice Ao22 y197.length co22] rfl (by (try simp only [List.map_toArray, List.map_cons, List.map_nil]); first | done | rfl | (simp only [List.length_drop, List.length_take]; rfl)) ?_; (with_reducible refine (impl_has.calls _ _ l0_0 _ _ y197 true _ ?side1 ?side2 ?side3 ?side4 A4.out).mono ?_); (case side1 => repeat (first | exact (Kd.C_below HR0_0.out HB.out) | (with_reducible refine Kd.C_alloc ?_ _) | (with_reducible refine Kd.C_drewN ?_ _) | (with_reducible refine Kd.C_drew ?_))); (case side2 => exact HC0_0.out); (case side3 => repeat (first | exact (Kd.R_reads' HO199.out).2.2 | (with_reducible refine Kd.C_alloc ?_ _) | (with_reducible refine Kd.C_drewN ?_ _) | (with_reducible refine Kd.C_drew ?_))); (case side4 => exact (Kd.R_reads' HO199.out).2.1); rintro e w23 ⟨rfl, hb⟩; refine ⟨_, rfl, ?_⟩; have n0_ := za0.mk (Kd.R_below (by (with_reducible repeat (first | apply Kd.R_alloc | apply Kd.R_drewN | apply Kd.R_drew)); exact HO199.out) hb); have n1_ := za0.mk (zm0 (g := gb196) (o := .cells #[.slice A0_0 l0_0.length c0_0] 29 (0, 0)) (by (with_reducible repeat (first | refine zg0 ?_ _ | refine zi0 ?_ | refine zf0 ?_ _)); exact BK196.out) hb); have n2_ := za0.mk (zh0 (by repeat (first | (with_reducible first | exact HB.out | apply zc0 | apply zb0 | apply zd0 | refine ze0 ?_ GE196.out) | exact HB.out)) hb); clear HO199; clear BK196; clear HB; have HO199 := n0_; have BK196 := n1_; have HB := n2_; clear n0_ n1_ n2_; (try clear hb); (try clear hb2); (try clear hk); (try clear hi); have hcz24_0 : w23.cell? ⟨gb196, 0, none⟩ = some (.slice A0_0 l0_0.length c0_0) := (zl0 BK196.out 0).trans rfl; have hfz24_0 := zk0 BK196.out 0) | (go_at_call 81; (with_reducible refine (impl_areRotors.calls k _ _ l0_0 _ _ l2 false _ ?side1 ?side2 ?side3 ?side4 A6.out).mono ?_); (case side1 => repeat (first | exact (Kd.C_below HR0_0.out HB.out) | (with_reducible refine Kd.C_alloc ?_ _) | (with_reducible refine Kd.C_drewN ?_ _) | (with_reducible refine Kd.C_drew ?_))); (case side2 => exact HC0_0.out); (case side3 => repeat (first | exact (Kd.C_below HR2.out HB.out) | (with_reducible refine Kd.C_alloc ?_ _) | (with_reducible refine Kd.C_drewN ?_ _) | (with_reducible refine Kd.C_drew ?_))); (case side4 => exact HC2.out); rintro e w25 ⟨rfl, hb⟩; have n0_ := za0.mk (Kd.R_below (by (with_reducible repeat (first | apply Kd.R_alloc | apply Kd.R_drewN | apply Kd.R_drew)); exact HO199.out) hb); have n1_ := za0.mk (zm0 (g := gb196) (o := .cells #[.slice A0_0 l0_0.length c0_0] 29 (0, 0)) (by (with_reducible repeat (first | refine zg0 ?_ _ | refine zi0 ?_ | refine zf0 ?_ _)); exact BK196.out) hb); have n2_ := za0.mk (zh0 (by repeat (first | (with_reducible first | exact HB.out | apply zc0 | apply zb0 | apply zd0 | refine ze0 ?_ GE196.out) | exact HB.out)) hb); clear HO199; clear BK196; clear HB; have HO199 := n0_; have BK196 := n1_; have HB := n2_; clear n0_ n1_ n2_; (try clear hb); (try clear hb2); (try clear hk); (try clear hi)))
   go_ret
   exact ⟨by first | rfl | (simp [errW_none, errW_some] <;> rfl) | (simp [*, errW_none, errW_some] <;> rfl), by repeat (first | (with_reducible first | exact HB.out | apply zc0 | apply zb0 | apply zd0 | refine ze0 ?_ GE196.out) | exact HB.out)⟩
 ·replace c5 := Bool.eq_false_iff.mpr c5
  subst c5
  have H1 : (some false) = some r := by rw [if_neg (show ¬ (false = true) by decide)] at H; exact H
  clear H
  have H := H1
  clear H1
  obtain rfl := Option.some.inj H
  go_enter Try.func69, Try.ntmps69
  go_wp2_with (first | ((with_reducible refine zo0 (N := 3) rfl ?_); refine zp0 ?hg (N := 3) ?hd (cs := #[.slice A0_0 l0_0.length c0_0]) (t := 29) ?hr ?_; (case hd => rfl); (case hg => rfl); (case hr => first | (go_simp; done) | (go_simp; rfl)); intro gb196 hg w26 hbox hb; have n0_ := za0.mk (zh0 (by repeat (first | (with_reducible first | exact HB.out | apply zc0 | apply zb0 | apply zd0) | exact HB.out)) hb); have n1_ := za0.mk (hbox); have n2_ := za0.mk ((by rw [hg]; exact (zj0 (by repeat (first | (with_reducible first | exact HB.out | apply zc0 | apply zb0 | apply zd0) | exact HB.out))) : w.heap.size ≤ gb196)); have n3_ := za0.mk ((by rw [hg]; exact (zj0 (by repeat (first | (with_reducible first | exact HB.out | apply zc0 | apply zb0 | apply zd0) | exact HB.out))) : w.heap.size ≤ gb196)); clear HB; have HB := n0_; have BK196 := n1_; have GW196 := n2_; have GE196 := n3_; clear n0_ n1_ n2_ n3_; clear hb hbox hg; have hcz27_0 : w26.cell? ⟨gb196, 0, none⟩ = some (.slice A0_0 l0_0.length c0_0) := (zl0 BK196.out 0).trans rfl; have hfz27_0 := zk0 BK196.out 0) | ((with_reducible refine zo0 (N := 9) rfl ?_); refine Kd.R_lit (Kd.int .i64) _ 3 ?hg (N := 9) ?hd (xs := ([a1] : List Int)) (inner := [.int .i64 a1]) (ok := fun _ => True) (okp := fun _ => True) ?hr ?hp (fun _ hk => hk) trivial (Below.refl _ _) (Nat.le_refl _) (by simp) ?_; (case hd => rfl); (case hg => rfl); (case hr => first | (go_simp; done) | (go_simp; rfl)); (case hp => exact (Reps.one (show Kd.M (Kd.int .i64) _ _ _ a1 [.int .i64 a1] from rfl) (Reps.none _ _))); intro v198 w28 ho29 hb hg_ hnew_; clear hg_ hnew_; (first | rw [← Ny197.out] at ho29 | (simp only [Int.reduceToNat] at ho29; rw [← Ny197.out] at ho29)); have n0_ := za0.mk (Kd.R_lower ho29 (zj0 (by repeat (first | (with_reducible first | exact HB.out | apply zc0 | apply zb0 | apply zd0 | refine ze0 ?_ GE196.out) | exact HB.out)))); have n1_ := za0.mk (zm0 (g := gb196) (o := .cells #[.slice A0_0 l0_0.length c0_0] 29 (0, 0)) (by (with_reducible repeat (first | refine zg0 ?_ _ | refine zi0 ?_ | refine zf0 ?_ _)); exact BK196.out) hb); have n2_ := za0.mk (zh0 (by repeat (first | (with_reducible first | exact HB.out | apply zc0 | apply zb0 | apply zd0 | refine ze0 ?_ GE196.out) | exact HB.out)) hb); clear BK196; clear HB; have HO199 := n0_; have BK196 := n1_; have HB := n2_; clear n0_ n1_ n2_; clear hb ho29; obtain ⟨Ao30, co30, eo30⟩ := Kd.R_slice HO199.out; subst eo30) | ((with_reducible refine zn0 (f := 32) rfl ?_); refine goesL_ (some 10) rfl rfl Try.func32 (by kernel_rfl) rfl #[.agg #[.slice A0_0 l0_0.length c0_0], .slice Ao30 y197.length co30] rfl (by (try simp only [List.map_toArray, List.map_cons, List.map_nil]); first | done | rfl | (simp only [List.length_drop, List.length_take]; rfl)) ?_; (with_reducible refine (impl_has.calls _ _ l0_0 _ _ y197 false _ ?side1 ?side2 ?side3 ?side4 A4.out).mono ?_); (case side1 => repeat (first | exact (Kd.C_below HR0_0.out HB.out) | (with_reducible refine Kd.C_alloc ?_ _) | (with_reducible refine Kd.C_drewN ?_ _) | (with_reducible refine Kd.C_drew ?_))); (case side2 => exact HC0_0.out); (case side3 => repeat (first | exact (Kd.R_reads' HO199.out).2.2 | (with_reducible refine Kd.C_alloc ?_ _) | (with_reducible refine Kd.C_drewN ?_ _) | (with_reducible refine Kd.C_drew ?_))); (case side4 => exact (Kd.R_reads' HO199.out).2.1); rintro e w31 ⟨rfl, hb⟩; refine ⟨_, rfl, ?_⟩; have n0_ := za0.mk (Kd.R_below (by (with_reducible repeat (first | apply Kd.R_alloc | apply Kd.R_drewN | apply Kd.R_drew)); exact HO199.out) hb); have n1_ := za0.mk (zm0 (g := gb196) (o := .cells #[.slice A0_0 l0_0.length c0_0] 29 (0, 0)) (by (with_reducible repeat (first | refine zg0 ?_ _ | refine zi0 ?_ | refine zf0 ?_ _)); exact BK196.out) hb); have n2_ := za0.mk (zh0 (by repeat (first | (with_reducible first | exact HB.out | apply zc0 | apply zb0 | apply zd0 | refine ze0 ?_ GE196.out) | exact HB.out)) hb); clear HO199; clear BK196; clear HB; have HO199 := n0_; have BK196 := n1_; have HB := n2_; clear n0_ n1_ n2_; (try clear hb); (try clear hb2); (try clear hk); (try clear hi)))
  go_ret
  exact ⟨by first | rfl | (simp [errW_none, errW_some] <;> rfl) | (simp [*, errW_none, errW_some] <;> rfl), by repeat (first | (with_reducible first | exact HB.out | apply zc0 | apply zb0 | apply zd0 | refine ze0 ?_ GE196.out) | exact HB.out)⟩
def impl_Graph_next.f (l0_0 : List (List Int)) (l1 : List Int) (a2 : Int) : Option (Int) := if 0 ≤ a2 then (if a2 < (l0_0.length : Int) then (if ((rd_L1 l0_0 a2).length : Int) = 0 then (some (-1)) else (if a2 < (l1.length : Int) then (if 0 ≤ (rd l1 a2) then (if (rd l1 a2) < ((rd_L1 l0_0 a2).length : Int) then (some (rd (rd_L1 l0_0 a2) (rd l1 a2))) else (none)) else (none)) else (none))) else (none)) else (none)
set_option maxHeartbeats 8000000 in
set_option maxRecDepth 100000 in
theorem impl_Graph_next.calls (A0_0 : Option Addr) (c0_0 : Nat) (l0_0 : List (List Int)) (A1 : Option Addr) (c1 : Nat) (l1 : List Int) (a2 : Int) (r : Int) (w : World) (hr0_0 : Kd.C (Kd.slice 3 (Kd.int .i64)) w A0_0 l0_0.length l0_0) (hc0_0 : l0_0.length ≤ c0_0) (hr1 : Kd.C (Kd.int .i64) w A1 l1.length l1) (hc1 : l1.length ≤ c1) (h : impl_Graph_next.f l0_0 l1 a2 = some r) :
  Calls Try.prog 87 #[.agg #[.slice A0_0 l0_0.length c0_0], .slice A1 l1.length c1, .int .i64 a2] w fun e w' => e = .returned (.int .i64 r) ∧ Below w.heap.size w w' := by
 have hu29 := Try.underlying29
 have HR0_0 := za0.mk hr0_0
 have HC0_0 := za0.mk hc0_0
 clear hr0_0 hc0_0
 have HR1 := za0.mk hr1
 have HC1 := za0.mk hc1
 clear hr1 hc1
 have HB := za0.mk (Below.refl w.heap.size w)
 have H : (if 0 ≤ a2 then (if a2 < (l0_0.length : Int) then (if ((rd_L1 l0_0 a2).length : Int) = 0 then (some (-1)) else (if a2 < (l1.length : Int) then (if 0 ≤ (rd l1 a2) then (if (rd l1 a2) < ((rd_L1 l0_0 a2).length : Int) then (some (rd (rd_L1 l0_0 a2) (rd l1 a2))) else (none)) else (none)) else (none))) else (none)) else (none)) = some r := h
 clear h
 by_cases c4 : 0 ≤ a2
 ·rw [if_pos c4] at H
  have c4b0 : decide (0 ≤ a2) = true := decide_eq_true c4
  clear c4
  by_cases c5 : a2 < (l0_0.length : Int)
  ·rw [if_pos c5] at H
   have c5b0 : decide (a2 < (l0_0.length : Int)) = true := decide_eq_true c5
   clear c5
   by_cases c6 : ((rd_L1 l0_0 a2).length : Int) = 0
   ·rw [if_pos c6] at H
    have c6b0 : (((rd_L1 l0_0 a2).length : Int) == 0) = true := beq_iff_eq.mpr c6
    have c6b1 : (((rd_L1 l0_0 a2).length : Int) != 0) = false := bne_eq_false_iff_eq.mpr c6
    clear c6
    obtain rfl := Option.some.inj H
    go_enter Try.func87, Try.ntmps87
    go_wp2_with (first | ((with_reducible refine zo0 (N := 3) rfl ?_); refine zp0 ?hg (N := 3) ?hd (cs := #[.slice A0_0 l0_0.length c0_0]) (t := 29) ?hr ?_; (case hd => rfl); (case hg => rfl); (case hr => first | (go_simp; done) | (go_simp; rfl)); intro gb203 hg w7 hbox hb; have n0_ := za0.mk (zh0 (by repeat (first | (with_reducible first | exact HB.out | apply zc0 | apply zb0 | apply zd0) | exact HB.out)) hb); have n1_ := za0.mk (hbox); have n2_ := za0.mk ((by rw [hg]; exact (zj0 (by repeat (first | (with_reducible first | exact HB.out | apply zc0 | apply zb0 | apply zd0) | exact HB.out))) : w.heap.size ≤ gb203)); have n3_ := za0.mk ((by rw [hg]; exact (zj0 (by repeat (first | (with_reducible first | exact HB.out | apply zc0 | apply zb0 | apply zd0) | exact HB.out))) : w.heap.size ≤ gb203)); clear HB; have HB := n0_; have BK203 := n1_; have GW203 := n2_; have GE203 := n3_; clear n0_ n1_ n2_ n3_; clear hb hbox hg; have hcz8_0 : w7.cell? ⟨gb203, 0, none⟩ = some (.slice A0_0 l0_0.length c0_0) := (zl0 BK203.out 0).trans rfl; have hfz8_0 := zk0 BK203.out 0; have p204 : 0 ≤ (a2 : Int) := of_decide_eq_true (by first | (with_reducible assumption) | assumption); have q204 : a2 < (l0_0.length : Int) := of_decide_eq_true (by first | (with_reducible assumption) | assumption); obtain ⟨ad204, A204_0, c204_0, e204, hx204_0, hl204_0, hi204_0⟩ := at_L1 HR0_0.out a2 p204 q204; cases e204; replace hx204_0 := (HB.out.cell (World.block_lt_of_cell? w _ hx204_0)).trans hx204_0; have HR204_0 := za0.mk hi204_0; have HC204_0 := za0.mk hl204_0; clear hi204_0 hl204_0; replace p204 := eq_true p204; replace q204 := eq_true q204))
    repeat (go_quiet (first | ((with_reducible refine zo0 (N := 3) rfl ?_); refine zp0 ?hg (N := 3) ?hd (cs := #[.slice A0_0 l0_0.length c0_0]) (t := 29) ?hr ?_; (case hd => rfl); (case hg => rfl); (case hr => first | (go_simp; done) | (go_simp; rfl)); intro gb203 hg w7 hbox hb; have n0_ := za0.mk (zh0 (by repeat (first | (with_reducible first | exact HB.out | apply zc0 | apply zb0 | apply zd0) | exact HB.out)) hb); have n1_ := za0.mk (hbox); have n2_ := za0.mk ((by rw [hg]; exact (zj0 (by repeat (first | (with_reducible first | exact HB.out | apply zc0 | apply zb0 | apply zd0) | exact HB.out))) : w.heap.size ≤ gb203)); have n3_ := za0.mk ((by rw [hg]; exact (zj0 (by repeat (first | (with_reducible first | exact HB.out | apply zc0 | apply zb0 | apply zd0) | exact HB.out))) : w.heap.size ≤ gb203)); clear HB; have HB := n0_; have BK203 := n1_; have GW203 := n2_; have GE203 := n3_; clear n0_ n1_ n2_ n3_; clear hb hbox hg; have hcz8_0 : w7.cell? ⟨gb203, 0, none⟩ = some (.slice A0_0 l0_0.length c0_0) := (zl0 BK203.out 0).trans rfl; have hfz8_0 := zk0 BK203.out 0; have p204 : 0 ≤ (a2 : Int) := of_decide_eq_true (by first | (with_reducible assumption) | assumption); have q204 : a2 < (l0_0.length : Int) := of_decide_eq_true (by first | (with_reducible assumption) | assumption); obtain ⟨ad204, A204_0, c204_0, e204, hx204_0, hl204_0, hi204_0⟩ := at_L1 HR0_0.out a2 p204 q204; cases e204; replace hx204_0 := (HB.out.cell (World.block_lt_of_cell? w _ hx204_0)).trans hx204_0; have HR204_0 := za0.mk hi204_0; have HC204_0 := za0.mk hl204_0; clear hi204_0 hl204_0; replace p204 := eq_true p204; replace q204 := eq_true q204)); try go_wp2_with (first | ((with_reducible refine zo0 (N := 3) rfl ?_); refine zp0 ?hg (N := 3) ?hd (cs := #[.slice A0_0 l0_0.length c0_0]) (t := 29) ?hr ?_; (case hd => rfl); (case hg => rfl); (case hr => first | (go_simp; done) | (go_simp; rfl)); intro gb203 hg w7 hbox hb; have n0_ := za0.mk (zh0 (by repeat (first | (with_reducible first | exact HB.out | apply zc0 | apply zb0 | apply zd0) | exact HB.out)) hb); have n1_ := za0.mk (hbox); have n2_ := za0.mk ((by rw [hg]; exact (zj0 (by repeat (first | (with_reducible first | exact HB.out | apply zc0 | apply zb0 | apply zd0) | exact HB.out))) : w.heap.size ≤ gb203)); have n3_ := za0.mk ((by rw [hg]; exact (zj0 (by repeat (first | (with_reducible first | exact HB.out | apply zc0 | apply zb0 | apply zd0) | exact HB.out))) : w.heap.size ≤ gb203)); clear HB; have HB := n0_; have BK203 := n1_; have GW203 := n2_; have GE203 := n3_; clear n0_ n1_ n2_ n3_; clear hb hbox hg; have hcz8_0 : w7.cell? ⟨gb203, 0, none⟩ = some (.slice A0_0 l0_0.length c0_0) := (zl0 BK203.out 0).trans rfl; have hfz8_0 := zk0 BK203.out 0; have p204 : 0 ≤ (a2 : Int) := of_decide_eq_true (by first | (with_reducible assumption) | assumption); have q204 : a2 < (l0_0.length : Int) := of_decide_eq_true (by first | (with_reducible assumption) | assumption); obtain ⟨ad204, A204_0, c204_0, e204, hx204_0, hl204_0, hi204_0⟩ := at_L1 HR0_0.out a2 p204 q204; cases e204; replace hx204_0 := (HB.out.cell (World.block_lt_of_cell? w _ hx204_0)).trans hx204_0; have HR204_0 := za0.mk hi204_0; have HC204_0 := za0.mk hl204_0; clear hi204_0 hl204_0; replace p204 := eq_true p204; replace q204 := eq_true q204)))
    go_ret
    exact ⟨by first | rfl | (simp [errW_none, errW_some] <;> rfl) | (simp [*, errW_none, errW_some] <;> rfl), by repeat (first | (with_reducible first | exact HB.out | apply zc0 | apply zb0 | apply zd0 | refine ze0 ?_ GE203.out) | exact HB.out)⟩
   ·rw [if_neg c6] at H
    have c6b0 : (((rd_L1 l0_0 a2).length : Int) == 0) = false := beq_eq_false_iff_ne.mpr c6
    have c6b1 : (((rd_L1 l0_0 a2).length : Int) != 0) = true := bne_iff_ne.mpr c6
    have c6b2 : ¬ ((rd_L1 l0_0 a2) = []) := fun h_ => c6 (by rw [h_]; rfl)
    by_cases c9 : a2 < (l1.length : Int)
    ·rw [if_pos c9] at H
     have c9b0 : decide (a2 < (l1.length : Int)) = true := decide_eq_true c9
     clear c9
     by_cases c10 : 0 ≤ (rd l1 a2)
     ·rw [if_pos c10] at H
      have c10b0 : decide (0 ≤ (rd l1 a2)) = true := decide_eq_true c10
      clear c10
      by_cases c11 : (rd l1 a2) < ((rd_L1 l0_0 a2).length : Int)
      ·rw [if_pos c11] at H
       have c11b0 : decide ((rd l1 a2) < ((rd_L1 l0_0 a2).length : Int)) = true := decide_eq_true c11
       clear c11
       obtain rfl := Option.some.inj H
       go_enter Try.func87, Try.ntmps87
       go_wp2_with (first | ((with_reducible refine zo0 (N := 3) rfl ?_); refine zp0 ?hg (N := 3) ?hd (cs := #[.slice A0_0 l0_0.length c0_0]) (t := 29) ?hr ?_; (case hd => rfl); (case hg => rfl); (case hr => first | (go_simp; done) | (go_simp; rfl)); intro gb203 hg w12 hbox hb; have n0_ := za0.mk (zh0 (by repeat (first | (with_reducible first | exact HB.out | apply zc0 | apply zb0 | apply zd0) | exact HB.out)) hb); have n1_ := za0.mk (hbox); have n2_ := za0.mk ((by rw [hg]; exact (zj0 (by repeat (first | (with_reducible first | exact HB.out | apply zc0 | apply zb0 | apply zd0) | exact HB.out))) : w.heap.size ≤ gb203)); have n3_ := za0.mk ((by rw [hg]; exact (zj0 (by repeat (first | (with_reducible first | exact HB.out | apply zc0 | apply zb0 | apply zd0) | exact HB.out))) : w.heap.size ≤ gb203)); clear HB; have HB := n0_; have BK203 := n1_; have GW203 := n2_; have GE203 := n3_; clear n0_ n1_ n2_ n3_; clear hb hbox hg; have hcz13_0 : w12.cell? ⟨gb203, 0, none⟩ = some (.slice A0_0 l0_0.length c0_0) := (zl0 BK203.out 0).trans rfl; have hfz13_0 := zk0 BK203.out 0; have p204 : 0 ≤ (a2 : Int) := of_decide_eq_true (by first | (with_reducible assumption) | assumption); have q204 : a2 < (l0_0.length : Int) := of_decide_eq_true (by first | (with_reducible assumption) | assumption); obtain ⟨ad204, A204_0, c204_0, e204, hx204_0, hl204_0, hi204_0⟩ := at_L1 HR0_0.out a2 p204 q204; cases e204; replace hx204_0 := (HB.out.cell (World.block_lt_of_cell? w _ hx204_0)).trans hx204_0; have HR204_0 := za0.mk hi204_0; have HC204_0 := za0.mk hl204_0; clear hi204_0 hl204_0; replace p204 := eq_true p204; replace q204 := eq_true q204; have p205 : 0 ≤ (a2 : Int) := of_decide_eq_true (by first | (with_reducible assumption) | assumption); have q205 : a2 < (l0_0.length : Int) := of_decide_eq_true (by first | (with_reducible assumption) | assumption); obtain ⟨ad205, A205_0, c205_0, e205, hx205_0, hl205_0, hi205_0⟩ := at_L1 HR0_0.out a2 p205 q205; obtain rfl : ad204 = ad205 := (by injection e205); replace hx205_0 := (HB.out.cell (World.block_lt_of_cell? w _ hx205_0)).trans hx205_0; have HR205_0 := za0.mk hi205_0; have HC205_0 := za0.mk hl205_0; clear hi205_0 hl205_0; replace p205 := eq_true p205; replace q205 := eq_true q205; have ea_ := Option.some.inj (hx204_0.symm.trans hx205_0); injection ea_ with ea_ en_ ec_; subst ea_; subst ec_; clear en_; have p206 : 0 ≤ (a2 : Int) := of_decide_eq_true (by first | (with_reducible assumption) | assumption); have q206 : a2 < (l1.length : Int) := of_decide_eq_true (by first | (with_reducible assumption) | assumption); obtain ⟨ad206, e206, hx206_0⟩ := Kd.at_int HR1.out a2 p206 q206; cases e206; replace hx206_0 := (HB.out.cell (World.block_lt_of_cell? w _ hx206_0)).trans hx206_0; replace p206 := eq_true p206; replace q206 := eq_true q206; have p207 : 0 ≤ ((rd l1 a2) : Int) := of_decide_eq_true (by first | (with_reducible assumption) | assumption); have q207 : (rd l1 a2) < ((rd_L1 l0_0 a2).length : Int) := of_decide_eq_true (by first | (with_reducible assumption) | assumption); obtain ⟨ad207, e207, hx207_0⟩ := Kd.at_int HR205_0.out (rd l1 a2) p207 q207; cases e207; replace hx207_0 := (HB.out.cell (World.block_lt_of_cell? w _ hx207_0)).trans hx207_0; replace p207 := eq_true p207; replace q207 := eq_true q207))
       repeat (go_quiet (first | ((with_reducible refine zo0 (N := 3) rfl ?_); refine zp0 ?hg (N := 3) ?hd (cs := #[.slice A0_0 l0_0.length c0_0]) (t := 29) ?hr ?_; (case hd => rfl); (case hg => rfl); (case hr => first | (go_simp; done) | (go_simp; rfl)); intro gb203 hg w12 hbox hb; have n0_ := za0.mk (zh0 (by repeat (first | (with_reducible first | exact HB.out | apply zc0 | apply zb0 | apply zd0) | exact HB.out)) hb); have n1_ := za0.mk (hbox); have n2_ := za0.mk ((by rw [hg]; exact (zj0 (by repeat (first | (with_reducible first | exact HB.out | apply zc0 | apply zb0 | apply zd0) | exact HB.out))) : w.heap.size ≤ gb203)); have n3_ := za0.mk ((by rw [hg]; exact (zj0 (by repeat (first | (with_reducible first | exact HB.out | apply zc0 | apply zb0 | apply zd0) | exact HB.out))) : w.heap.size ≤ gb203)); clear HB; have HB := n0_; have BK203 := n1_; have GW203 := n2_; have GE203 := n3_; clear n0_ n1_ n2_ n3_; clear hb hbox hg; have hcz13_0 : w12.cell? ⟨gb203, 0, none⟩ = some (.slice A0_0 l0_0.length c0_0) := (zl0 BK203.out 0).trans rfl; have hfz13_0 := zk0 BK203.out 0; have p204 : 0 ≤ (a2 : Int) := of_decide_eq_true (by first | (with_reducible assumption) | assumption); have q204 : a2 < (l0_0.length : Int) := of_decide_eq_true (by first | (with_reducible assumption) | assumption); obtain ⟨ad204, A204_0, c204_0, e204, hx204_0, hl204_0, hi204_0⟩ := at_L1 HR0_0.out a2 p204 q204; cases e204; replace hx204_0 := (HB.out.cell (World.block_lt_of_cell? w _ hx204_0)).trans hx204_0; have HR204_0 := za0.mk hi204_0; have HC204_0 := za0.mk hl204_0; clear hi204_0 hl204_0; replace p204 := eq_true p204; replace q204 := eq_true q204; have p205 : 0 ≤ (a2 : Int) := of_decide_eq_true (by first | (with_reducible assumption) | assumption); have q205 : a2 < (l0_0.length : Int) := of_decide_eq_true (by first | (with_reducible assumption) | assumption); obtain ⟨ad205, A205_0, c205_0, e205, hx205_0, hl205_0, hi205_0⟩ := at_L1 HR0_0.out a2 p205 q205; obtain rfl : ad204 = ad205 := (by injection e205); replace hx205_0 := (HB.out.cell (World.block_lt_of_cell? w _ hx205_0)).trans hx205_0; have HR205_0 := za0.mk hi205_0; have HC205_0 := za0.mk hl205_0; clear hi205_0 hl205_0; replace p205 := eq_true p205; replace q205 := eq_true q205; have ea_ := Option.some.inj (hx204_0.symm.trans hx205_0); injection ea_ with ea_ en_ ec_; subst ea_; subst ec_; clear en_; have p206 : 0 ≤ (a2 : Int) := of_decide_eq_true (by first | (with_reducible assumption) | assumption); have q206 : a2 < (l1.length : Int) := of_decide_eq_true (by first | (with_reducible assumption) | assumption); obtain ⟨ad206, e206, hx206_0⟩ := Kd.at_int HR1.out a2 p206 q206; cases e206; replace hx206_0 := (HB.out.cell (World.block_lt_of_cell? w _ hx206_0)).trans hx206_0; replace p206 := eq_true p206; replace q206 := eq_true q206; have p207 : 0 ≤ ((rd l1 a2) : Int) := of_decide_eq_true (by first | (with_reducible assumption) | assumption); have q207 : (rd l1 a2) < ((rd_L1 l0_0 a2).length : Int) := of_decide_eq_true (by first | (with_reducible assumption) | assumption); obtain ⟨ad207, e207, hx207_0⟩ := Kd.at_int HR205_0.out (rd l1 a2) p207 q207; cases e207; replace hx207_0 := (HB.out.cell (World.block_lt_of_cell? w _ hx207_0)).trans hx207_0; replace p207 := eq_true p207; replace q207 := eq_true q207)); try go_wp2_with (first | ((with_reducible refine zo0 (N := 3) rfl ?_); refine zp0 ?hg (N := 3) ?hd (cs := #[.slice A0_0 l0_0.length c0_0]) (t := 29) ?hr ?_; (case hd => rfl); (case hg => rfl); (case hr => first | (go_simp; done) | (go_simp; rfl)); intro gb203 hg w12 hbox hb; have n0_ := za0.mk (zh0 (by repeat (first | (with_reducible first | exact HB.out | apply zc0 | apply zb0 | apply zd0) | exact HB.out)) hb); have n1_ := za0.mk (hbox); have n2_ := za0.mk ((by rw [hg]; exact (zj0 (by repeat (first | (with_reducible first | exact HB.out | apply zc0 | apply zb0 | apply zd0) | exact HB.out))) : w.heap.size ≤ gb203)); have n3_ := za0.mk ((by rw [hg]; exact (zj0 (by repeat (first | (with_reducible first | exact HB.out | apply zc0 | apply zb0 | apply zd0) | exact HB.out))) : w.heap.size ≤ gb203)); clear HB; have HB := n0_; have BK203 := n1_; have GW203 := n2_; have GE203 := n3_; clear n0_ n1_ n2_ n3_; clear hb hbox hg; have hcz13_0 : w12.cell? ⟨gb203, 0, none⟩ = some (.slice A0_0 l0_0.length c0_0) := (zl0 BK203.out 0).trans rfl; have hfz13_0 := zk0 BK203.out 0; have p204 : 0 ≤ (a2 : Int) := of_decide_eq_true (by first | (with_reducible assumption) | assumption); have q204 : a2 < (l0_0.length : Int) := of_decide_eq_true (by first | (with_reducible assumption) | assumption); obtain ⟨ad204, A204_0, c204_0, e204, hx204_0, hl204_0, hi204_0⟩ := at_L1 HR0_0.out a2 p204 q204; cases e204; replace hx204_0 := (HB.out.cell (World.block_lt_of_cell? w _ hx204_0)).trans hx204_0; have HR204_0 := za0.mk hi204_0; have HC204_0 := za0.mk hl204_0; clear hi204_0 hl204_0; replace p204 := eq_true p204; replace q204 := eq_true q204; have p205 : 0 ≤ (a2 : Int) := of_decide_eq_true (by first | (with_reducible assumption) | assumption); have q205 : a2 < (l0_0.length : Int) := of_decide_eq_true (by first | (with_reducible assumption) | assumption); obtain ⟨ad205, A205_0, c205_0, e205, hx205_0, hl205_0, hi205_0⟩ := at_L1 HR0_0.out a2 p205 q205; obtain rfl : ad204 = ad205 := (by injection e205); replace hx205_0 := (HB.out.cell (World.block_lt_of_cell? w _ hx205_0)).trans hx205_0; have HR205_0 := za0.mk hi205_0; have HC205_0 := za0.mk hl205_0; clear hi205_0 hl205_0; replace p205 := eq_true p205; replace q205 := eq_true q205; have ea_ := Option.some.inj (hx204_0.symm.trans hx205_0); injection ea_ with ea_ en_ ec_; subst ea_; subst ec_; clear en_; have p206 : 0 ≤ (a2 : Int) := of_decide_eq_true (by first | (with_reducible assumption) | assumption); have q206 : a2 < (l1.length : Int) := of_decide_eq_true (by first | (with_reducible assumption) | assumption); obtain ⟨ad206, e206, hx206_0⟩ := Kd.at_int HR1.out a2 p206 q206; cases e206; replace hx206_0 := (HB.out.cell (World.block_lt_of_cell? w _ hx206_0)).trans hx206_0; replace p206 := eq_true p206; replace q206 := eq_true q206; have p207 : 0 ≤ ((rd l1 a2) : Int) := of_decide_eq_true (by first | (with_reducible assumption) | assumption); have q207 : (rd l1 a2) < ((rd_L1 l0_0 a2).length : Int) := of_decide_eq_true (by first | (with_reducible assumption) | assumption); obtain ⟨ad207, e207, hx207_0⟩ := Kd.at_int HR205_0.out (rd l1 a2) p207 q207; cases e207; replace hx207_0 := (HB.out.cell (World.block_lt_of_cell? w _ hx207_0)).trans hx207_0; replace p207 := eq_true p207; replace q207 := eq_true q207)))
       go_ret
       exact ⟨by first | rfl | (simp [errW_none, errW_some] <;> rfl) | (simp [*, errW_none, errW_some] <;> rfl), by repeat (first | (with_reducible first | exact HB.out | apply zc0 | apply zb0 | apply zd0 | refine ze0 ?_ GE203.out) | exact HB.out)⟩
      ·rw [if_neg c11] at H
       exact absurd H (by simp)
     ·rw [if_neg c10] at H
      exact absurd H (by simp)
    ·rw [if_neg c9] at H
     exact absurd H (by simp)
  ·rw [if_neg c5] at H
   exact absurd H (by simp)
 ·rw [if_neg c4] at H
  exact absurd H (by simp)
mutual
def impl_Graph_treeWays.l0 : Nat → Int → List Int → List Int → Int → Int → List (List Int) → Option (List Int × Bool)
 | 0, _, _, _, _, _, _ => none
 | k + 1, x1, x2, x8, x15, x16, x209000 => if x16 < x15 then (impl_Graph_treeWays.l1 k x1 x2 x8 0 x16 x15 x16 x209000) else (some (x8, true))
def impl_Graph_treeWays.l1 : Nat → Int → List Int → List Int → Int → Int → Int → Int → List (List Int) → Option (List Int × Bool)
 | 0, _, _, _, _, _, _, _, _ => none
 | k + 1, x1, x2, x8, x10, x11, x15, x16, x209000 => if x11 = x1 then (if x8.length < 17592186044416 then (impl_Graph_treeWays.l0 k x1 x2 (x8 ++ [x10]) x15 (wrap64 (x16 + 1)) x209000) else (none)) else ((impl_Graph_next.f x209000 x2 x11).bind fun t215 => (if t215 < 0 then (some (([] : List Int), false)) else (if x10 > (x209000.length : Int) then (some (([] : List Int), false)) else (impl_Graph_treeWays.l1 k x1 x2 x8 (wrap64 (x10 + 1)) t215 x15 x16 x209000))))
end
def impl_Graph_treeWays.f (k : Nat) (l0_0 : List (List Int)) (a1 : Int) (l2 : List Int) : Option (List Int × Bool) := impl_Graph_treeWays.l0 k a1 l2 (([] : List Int)) (l0_0.length : Int) 0 l0_0
set_option maxHeartbeats 8000000 in
set_option maxRecDepth 100000 in
theorem impl_Graph_treeWays.calls (k : Nat) (A0_0 : Option Addr) (c0_0 : Nat) (l0_0 : List (List Int)) (a1 : Int) (A2 : Option Addr) (c2 : Nat) (l2 : List Int) (r1 : List Int) (r2 : Bool) (w : World) (hr0_0 : Kd.C (Kd.slice 3 (Kd.int .i64)) w A0_0 l0_0.length l0_0) (hc0_0 : l0_0.length ≤ c0_0) (hr2 : Kd.C (Kd.int .i64) w A2 l2.length l2) (hc2 : l2.length ≤ c2) (h : impl_Graph_treeWays.f k l0_0 a1 l2 = some (r1, r2)) :
  Calls Try.prog 82 #[.agg #[.slice A0_0 l0_0.length c0_0], .int .i64 a1, .slice A2 l2.length c2] w fun e w' => ∃ v0_ : Value, e = .returned (.tuple #[v0_, .bool r2]) ∧ Kd.R (Kd.int .i64) 3 w' w.heap.size (fun _ => True) v0_ r1 ∧ Below w.heap.size w w' := by
 have hu29 := Try.underlying29
 have HR0_0 := za0.mk hr0_0
 have HC0_0 := za0.mk hc0_0
 clear hr0_0 hc0_0
 have HR2 := za0.mk hr2
 have HC2 := za0.mk hc2
 clear hr2 hc2
 have HB := za0.mk (Below.refl w.heap.size w)
 have H : (impl_Graph_treeWays.l0 k a1 l2 (([] : List Int)) (l0_0.length : Int) 0 l0_0) = some (r1, r2) := h
 clear h
 obtain ⟨y209, hy209⟩ : ∃ y_ : List Int, y_ = (([] : List Int)) := ⟨_, rfl⟩
 replace H : (impl_Graph_treeWays.l0 k a1 l2 y209 (l0_0.length : Int) 0 l0_0) = some (r1, r2) := by first | (rw [hy209]; with_reducible exact H) | (have H2_ := (Option.bind_some _ _).symm.trans H; rw [hy209]; with_reducible exact H2_) | (have H2_ := (Option.bind_some _ _).symm.trans H; with_reducible exact H2_) | with_reducible exact H | (rw [hy209]; exact H) | exact H
 have Ny209 := za0.mk hy209
 clear hy209
 have H' := za0.mk H
 clear H
 go_enter Try.func82, Try.ntmps82
 go_wp2_with (first | ((with_reducible refine zo0 (N := 3) rfl ?_); (try (refine gate_guard (by rfl) ?_; dsimp only)); refine zp0 ?hg (N := 3) ?hd (cs := #[.slice A0_0 l0_0.length c0_0]) (t := 29) ?hr ?_; (case hd => rfl); (case hg => rfl); (case hr => first | (go_simp; done) | (go_simp; rfl)); intro gb208 hg w4 hbox hb; have n0_ := za0.mk (zh0 (by repeat (first | (with_reducible first | exact HB.out | apply zc0 | apply zb0 | apply zd0) | exact HB.out)) hb); have n1_ := za0.mk (hbox); have n2_ := za0.mk ((by rw [hg]; exact (zj0 (by repeat (first | (with_reducible first | exact HB.out | apply zc0 | apply zb0 | apply zd0) | exact HB.out))) : w.heap.size ≤ gb208)); have n3_ := za0.mk ((by rw [hg]; exact (zj0 (by repeat (first | (with_reducible first | exact HB.out | apply zc0 | apply zb0 | apply zd0) | exact HB.out))) : w.heap.size ≤ gb208)); clear HB; have HB := n0_; have BK208 := n1_; have GW208 := n2_; have GE208 := n3_; clear n0_ n1_ n2_ n3_; clear hb hbox hg) | ((with_reducible refine zo0 (N := 12) rfl ?_); (try (refine gate_guard (by rfl) ?_; dsimp only)); refine Kd.R_lit (Kd.int .i64) _ 3 ?hg (N := 12) ?hd (xs := ([] : List Int)) (inner := []) (ok := fun _ => True) (okp := fun _ => True) ?hr ?hp (fun _ hk => hk) trivial (Below.refl _ _) (Nat.le_refl _) (by simp) ?_; (case hd => rfl); (case hg => rfl); (case hr => first | (go_simp; done) | (go_simp; rfl)); (case hp => exact (Reps.none _ _)); intro v210 w5 ho6 hb hg_ hnew_; clear hg_ hnew_; (first | rw [← Ny209.out] at ho6 | (simp only [Int.reduceToNat] at ho6; rw [← Ny209.out] at ho6)); have n0_ := za0.mk (Kd.R_lower ho6 (zj0 (by repeat (first | (with_reducible first | exact HB.out | apply zc0 | apply zb0 | apply zd0 | refine ze0 ?_ GE208.out) | exact HB.out)))); have n1_ := za0.mk (zm0 (g := gb208) (o := .cells #[.slice A0_0 l0_0.length c0_0] 29 (0, 0)) (by (with_reducible repeat (first | refine zg0 ?_ _ | refine zi0 ?_ | refine zf0 ?_ _)); exact BK208.out) hb); have n2_ := za0.mk (zh0 (by repeat (first | (with_reducible first | exact HB.out | apply zc0 | apply zb0 | apply zd0 | refine ze0 ?_ GE208.out) | exact HB.out)) hb); clear BK208; clear HB; have HO211 := n0_; have BK208 := n1_; have HB := n2_; clear n0_ n1_ n2_; clear hb ho6; have hcz7_0 : w5.cell? ⟨gb208, 0, none⟩ = some (.slice A0_0 l0_0.length c0_0) := (zl0 BK208.out 0).trans rfl; have hfz7_0 := zk0 BK208.out 0))
 go_loopg [8, 16] k (fun kq v8 v16 w' => ∃ (x8_1 : List Int) (x16_1 : Int), v16 = .int .i64 x16_1 ∧ za0 (impl_Graph_treeWays.l0 kq a1 l2 x8_1 (l0_0.length : Int) x16_1 l0_0 = some (r1, r2)) ∧ za0 (kq ≤ k) ∧ za0 (Kd.R (Kd.int .i64) 3 w' w.heap.size (fun _ => True) v8 x8_1) ∧ za0 (w'.heap[gb208]? = some (.cells #[(.slice A0_0 l0_0.length c0_0)] 29 (0, 0))) ∧ za0 (Below w.heap.size w w'))
 case atStart => exact ⟨(y209), (0), (by first | rfl | (simp; done) | (simp [*]; done)), H', ⟨Nat.le_refl _⟩, ⟨by (with_reducible repeat (first | apply Kd.R_alloc | apply Kd.R_drewN | apply Kd.R_drew)); exact HO211.out⟩, ⟨by (with_reducible repeat (first | refine zg0 ?_ _ | refine zi0 ?_ | refine zf0 ?_ _)); exact BK208.out⟩, ⟨by repeat (first | (with_reducible first | exact HB.out | apply zc0 | apply zb0 | apply zd0 | refine ze0 ?_ GE208.out) | exact HB.out)⟩⟩
 case round =>
  clear H'
  try clear c2
  try clear p2
  try clear hcz7_0
  try clear hfz7_0
  obtain ⟨x8_1, x16_1, rfl, HA, HK1, HO_8, BK208, HB⟩ := hrel
  cases gk with
  | zero => exact absurd HA.out (by simp [impl_Graph_treeWays.l0])
  | succ k1 =>
   have H := HA.out
   clear HA
   simp only [impl_Graph_treeWays.l0] at H
   by_cases c8 : x16_1 < (l0_0.length : Int)
   ·rw [if_pos c8] at H
    have c8b0 : decide (x16_1 < (l0_0.length : Int)) = true := decide_eq_true c8
    clear c8
    have H' := za0.mk H
    clear H
    go_wp2
    go_loopg [10, 11] k1 (fun kq v10 v11 w' => ∃ (x10_2 : Int) (x11_2 : Int), v10 = .int .i64 x10_2 ∧ v11 = .int .i64 x11_2 ∧ za0 (impl_Graph_treeWays.l1 kq a1 l2 x8_1 x10_2 x11_2 (l0_0.length : Int) x16_1 l0_0 = some (r1, r2)) ∧ za0 (kq ≤ k1) ∧ za0 (Kd.R (Kd.int .i64) 3 w' w.heap.size (fun _ => True) u8 x8_1) ∧ za0 (w'.heap[gb208]? = some (.cells #[(.slice A0_0 l0_0.length c0_0)] 29 (0, 0))) ∧ za0 (Below w.heap.size w w'))
    case atStart => exact ⟨(0), (x16_1), (by first | rfl | (simp; done) | (simp [*]; done)), (by first | rfl | (simp; done) | (simp [*]; done)), H', ⟨Nat.le_refl _⟩, ⟨by (with_reducible repeat (first | apply Kd.R_alloc | apply Kd.R_drewN | apply Kd.R_drew)); exact HO_8.out⟩, ⟨by (with_reducible repeat (first | refine zg0 ?_ _ | refine zi0 ?_ | refine zf0 ?_ _)); exact BK208.out⟩, ⟨by repeat (first | (with_reducible first | exact HB.out | apply zc0 | apply zb0 | apply zd0 | refine ze0 ?_ GE208.out) | exact HB.out)⟩⟩
    case round =>
     clear H'
     try clear c2
     try clear p2
     try clear c8
     try clear c8b0
     try clear hcz7_0
     try clear hfz7_0
     try clear p2
     obtain ⟨x10_2, x11_2, rfl, rfl, HA, HK2, HO_8, BK208, HB⟩ := hrel
     cases gk with
     | zero => exact absurd HA.out (by simp [impl_Graph_treeWays.l1])
     | succ k2 =>
      have H := HA.out
      clear HA
      simp only [impl_Graph_treeWays.l1] at H
      by_cases c9 : x11_2 = a1
      ·rw [if_pos c9] at H
       have c9b0 : (x11_2 == a1) = true := beq_iff_eq.mpr c9
       have c9b1 : (x11_2 != a1) = false := bne_eq_false_iff_eq.mpr c9
       clear c9
       by_cases c10 : x8_1.length < 17592186044416
       ·rw [if_pos c10] at H
        have LMc10 := za0.mk c10
        clear c10
        obtain ⟨y212, hy212⟩ : ∃ y_ : List Int, y_ = (x8_1 ++ [x10_2]) := ⟨_, rfl⟩
        replace H : (impl_Graph_treeWays.l0 k2 a1 l2 y212 (l0_0.length : Int) (wrap64 (x16_1 + 1)) l0_0) = some (r1, r2) := by first | (rw [hy212]; with_reducible exact H) | (have H2_ := (Option.bind_some _ _).symm.trans H; rw [hy212]; with_reducible exact H2_) | (have H2_ := (Option.bind_some _ _).symm.trans H; with_reducible exact H2_) | with_reducible exact H | (rw [hy212]; exact H) | exact H
        have Ny212 := za0.mk hy212
        clear hy212
        have H' := za0.mk H
        clear H
        go_wp2_with (first | ((with_reducible refine gate_builtin (b := .append) (xs := #[.tmp 38, .tmp 40]) rfl ?_); (try (refine gate_guard (by rfl) ?_; dsimp only)); at_builtin; refine Kd.R_append (Kd.int .i64) (w0 := w) w.heap.size rfl (.tmp 38) (.tmp 40) 25 3 (.int .i64 0) 8 rfl Try.underlying25 info3 rfl (by decide) (by omega) u8 x8_1 x10_2 [.int .i64 x10_2] (fun _ => True) (fun _ => False) rfl rfl ?aP (fun _ hk => hk.elim) ?aF ?aO ?aB ?aS ?aL ?_; (case aP => exact rfl); (case aB => exact (by repeat (first | (with_reducible first | exact HB.out | apply zc0 | apply zb0 | apply zd0 | refine ze0 ?_ GE208.out) | exact HB.out))); (case aF => exact (fun _ _ => trivial)); (case aO => exact (by (with_reducible repeat (first | apply Kd.R_alloc | apply Kd.R_drewN | apply Kd.R_drew)); first | exact HO_8.out | exact Kd.R_mono HO_8.out (fun _ hk => ⟨hk.2, hk.1⟩))); (case aS => exact (zj0 (by repeat (first | (with_reducible first | exact HB.out | apply zc0 | apply zb0 | apply zd0 | refine ze0 ?_ GE208.out) | exact HB.out)))); (case aL => have := LMc10.out; omega); intro v213 w11 ho hb hg hat; rw [← Ny212.out] at ho; have n0_ := za0.mk (blk_grown (g := gb208) (o := .cells #[.slice A0_0 l0_0.length c0_0] 29 (0, 0)) (by (with_reducible repeat (first | refine zg0 ?_ _ | refine zi0 ?_ | refine zf0 ?_ _)); exact BK208.out) hg (Kd.R_ne HO_8.out BK208.out (by decide))); have n1_ := za0.mk (hb); have n2_ := za0.mk (ho); clear BK208; clear HB; clear HO_8; have BK208 := n0_; have HB := n1_; have HO214 := n2_; clear n0_ n1_ n2_; clear ho hb hg hat))
        go_roundg k2
        case measure => have := HK1.out; have := HK2.out; omega
        case rel => exact ⟨(y212), (wrap64 (x16_1 + 1)), (by first | rfl | (simp; done) | (simp [*]; done)), H', ⟨by have := HK1.out; have := HK2.out; omega⟩, ⟨by (with_reducible repeat (first | apply Kd.R_alloc | apply Kd.R_drewN | apply Kd.R_drew)); exact HO214.out⟩, ⟨by (with_reducible repeat (first | refine zg0 ?_ _ | refine zi0 ?_ | refine zf0 ?_ _)); exact BK208.out⟩, ⟨by repeat (first | (with_reducible first | exact HB.out | apply zc0 | apply zb0 | apply zd0 | refine ze0 ?_ GE208.out) | exact HB.out)⟩⟩
       ·rw [if_neg c10] at H
        exact absurd H (by simp)
      ·rw [if_neg c9] at H
       have c9b0 : (x11_2 == a1) = false := beq_eq_false_iff_ne.mpr c9
       have c9b1 : (x11_2 != a1) = true := bne_iff_ne.mpr c9
       replace H := Option.bind_eq_some_iff.mp H
       obtain ⟨t215, A120, H⟩ := H
       replace H : (if t215 < 0 then (some (([] : List Int), false)) else (if x10_2 > (l0_0.length : Int) then (some (([] : List Int), false)) else (impl_Graph_treeWays.l1 k2 a1 l2 x8_1 (wrap64 (x10_2 + 1)) t215 (l0_0.length : Int) x16_1 l0_0))) = some (r1, r2) := H
       have A12 := za0.mk A120
       clear A120
       by_cases c13 : t215 < 0
       ·rw [if_pos c13] at H
        have c13b0 : decide (t215 < 0) = true := decide_eq_true c13
        clear c13
        simp only [Option.some.injEq, Prod.mk.injEq] at H
        obtain ⟨rfl, rfl⟩ := H
        have hcz14_0 : wr.cell? ⟨gb208, 0, none⟩ = some (.slice A0_0 l0_0.length c0_0) := (zl0 BK208.out 0).trans rfl
        have hfz14_0 := zk0 BK208.out 0
        go_wp2_with (first | ((with_reducible refine zn0 (f := 87) rfl ?_); refine goesL_ (some 28) rfl rfl Try.func87 (by kernel_rfl) rfl #[.agg #[.slice A0_0 l0_0.length c0_0], .slice A2 l2.length c2, .int .i64 x11_2] rfl (by (try simp only [List.map_toArray, List.map_cons, List.map_nil]); first | done | rfl | (simp only [List.length_drop, List.length_take]; rfl)) ?_; (with_reducible refine (impl_Graph_next.calls _ _ l0_0 _ _ l2 x11_2 t215 _ ?side1 ?side2 ?side3 ?side4 A12.out).mono ?_); (case side1 => repeat (first | exact (Kd.C_below HR0_0.out HB.out) | (with_reducible refine Kd.C_alloc ?_ _) | (with_reducible refine Kd.C_drewN ?_ _) | (with_reducible refine Kd.C_drew ?_))); (case side2 => exact HC0_0.out); (case side3 => repeat (first | exact (Kd.C_below HR2.out HB.out) | (with_reducible refine Kd.C_alloc ?_ _) | (with_reducible refine Kd.C_drewN ?_ _) | (with_reducible refine Kd.C_drew ?_))); (case side4 => exact HC2.out); rintro e w15 ⟨rfl, hb⟩; refine ⟨_, rfl, ?_⟩; have n0_ := za0.mk (Kd.R_below (by (with_reducible repeat (first | apply Kd.R_alloc | apply Kd.R_drewN | apply Kd.R_drew)); exact HO_8.out) hb); have n1_ := za0.mk (zm0 (g := gb208) (o := .cells #[.slice A0_0 l0_0.length c0_0] 29 (0, 0)) (by (with_reducible repeat (first | refine zg0 ?_ _ | refine zi0 ?_ | refine zf0 ?_ _)); exact BK208.out) hb); have n2_ := za0.mk (zh0 (by repeat (first | (with_reducible first | exact HB.out | apply zc0 | apply zb0 | apply zd0 | refine ze0 ?_ GE208.out) | exact HB.out)) hb); clear HO_8; clear BK208; clear HB; have HO_8 := n0_; have BK208 := n1_; have HB := n2_; clear n0_ n1_ n2_; (try clear hb); (try clear hb2); (try clear hk); (try clear hi)))
        go_ret2
        exact ⟨_, by first | rfl | (simp [errW_none, errW_some] <;> rfl) | (simp [*, errW_none, errW_some] <;> rfl), by first | exact Kd.R_nil _ _ _ _ _ | exact Kd.N_nil _ _ _ _ _ | exact Kd.V_nil _ _ _ _ _ | exact Kd.Q_nil _ _ _ _ _ | exact Kd.S_nil _ _ _ _ _, by repeat (first | (with_reducible first | exact HB.out | apply zc0 | apply zb0 | apply zd0 | refine ze0 ?_ GE208.out) | exact HB.out)⟩
       ·rw [if_neg c13] at H
        have c13b0 : decide (t215 < 0) = false := decide_eq_false c13
        clear c13
        by_cases c16 : x10_2 > (l0_0.length : Int)
        ·rw [if_pos c16] at H
         have c16b0 : decide ((l0_0.length : Int) < x10_2) = true := decide_eq_true c16
         clear c16
         simp only [Option.some.injEq, Prod.mk.injEq] at H
         obtain ⟨rfl, rfl⟩ := H
         have hcz17_0 : wr.cell? ⟨gb208, 0, none⟩ = some (.slice A0_0 l0_0.length c0_0) := (zl0 BK208.out 0).trans rfl
         have hfz17_0 := zk0 BK208.out 0
         go_wp2_with (first | ((with_reducible refine zn0 (f := 87) rfl ?_); refine goesL_ (some 28) rfl rfl Try.func87 (by kernel_rfl) rfl #[.agg #[.slice A0_0 l0_0.length c0_0], .slice A2 l2.length c2, .int .i64 x11_2] rfl (by (try simp only [List.map_toArray, List.map_cons, List.map_nil]); first | done | rfl | (simp only [List.length_drop, List.length_take]; rfl)) ?_; (with_reducible refine (impl_Graph_next.calls _ _ l0_0 _ _ l2 x11_2 t215 _ ?side1 ?side2 ?side3 ?side4 A12.out).mono ?_); (case side1 => repeat (first | exact (Kd.C_below HR0_0.out HB.out) | (with_reducible refine Kd.C_alloc ?_ _) | (with_reducible refine Kd.C_drewN ?_ _) | (with_reducible refine Kd.C_drew ?_))); (case side2 => exact HC0_0.out); (case side3 => repeat (first | exact (Kd.C_below HR2.out HB.out) | (with_reducible refine Kd.C_alloc ?_ _) | (with_reducible refine Kd.C_drewN ?_ _) | (with_reducible refine Kd.C_drew ?_))); (case side4 => exact HC2.out); rintro e w18 ⟨rfl, hb⟩; refine ⟨_, rfl, ?_⟩; have n0_ := za0.mk (Kd.R_below (by (with_reducible repeat (first | apply Kd.R_alloc | apply Kd.R_drewN | apply Kd.R_drew)); exact HO_8.out) hb); have n1_ := za0.mk (zm0 (g := gb208) (o := .cells #[.slice A0_0 l0_0.length c0_0] 29 (0, 0)) (by (with_reducible repeat (first | refine zg0 ?_ _ | refine zi0 ?_ | refine zf0 ?_ _)); exact BK208.out) hb); have n2_ := za0.mk (zh0 (by repeat (first | (with_reducible first | exact HB.out | apply zc0 | apply zb0 | apply zd0 | refine ze0 ?_ GE208.out) | exact HB.out)) hb); clear HO_8; clear BK208; clear HB; have HO_8 := n0_; have BK208 := n1_; have HB := n2_; clear n0_ n1_ n2_; (try clear hb); (try clear hb2); (try clear hk); (try clear hi); have hcz19_0 : w18.cell? ⟨gb208, 0, none⟩ = some (.slice A0_0 l0_0.length c0_0) := (zl0 BK208.out 0).trans rfl; have hfz19_0 := zk0 BK208.out 0))
         go_ret2
         exact ⟨_, by first | rfl | (simp [errW_none, errW_some] <;> rfl) | (simp [*, errW_none, errW_some] <;> rfl), by first | exact Kd.R_nil _ _ _ _ _ | exact Kd.N_nil _ _ _ _ _ | exact Kd.V_nil _ _ _ _ _ | exact Kd.Q_nil _ _ _ _ _ | exact Kd.S_nil _ _ _ _ _, by repeat (first | (with_reducible first | exact HB.out | apply zc0 | apply zb0 | apply zd0 | refine ze0 ?_ GE208.out) | exact HB.out)⟩
        ·rw [if_neg c16] at H
         have c16b0 : decide ((l0_0.length : Int) < x10_2) = false := decide_eq_false c16
         clear c16
         have H' := za0.mk H
         clear H
         have hcz20_0 : wr.cell? ⟨gb208, 0, none⟩ = some (.slice A0_0 l0_0.length c0_0) := (zl0 BK208.out 0).trans rfl
         have hfz20_0 := zk0 BK208.out 0
         go_wp2_with (first | ((with_reducible refine zn0 (f := 87) rfl ?_); refine goesL_ (some 28) rfl rfl Try.func87 (by kernel_rfl) rfl #[.agg #[.slice A0_0 l0_0.length c0_0], .slice A2 l2.length c2, .int .i64 x11_2] rfl (by (try simp only [List.map_toArray, List.map_cons, List.map_nil]); first | done | rfl | (simp only [List.length_drop, List.length_take]; rfl)) ?_; (with_reducible refine (impl_Graph_next.calls _ _ l0_0 _ _ l2 x11_2 t215 _ ?side1 ?side2 ?side3 ?side4 A12.out).mono ?_); (case side1 => repeat (first | exact (Kd.C_below HR0_0.out HB.out) | (with_reducible refine Kd.C_alloc ?_ _) | (with_reducible refine Kd.C_drewN ?_ _) | (with_reducible refine Kd.C_drew ?_))); (case side2 => exact HC0_0.out); (case side3 => repeat (first | exact (Kd.C_below HR2.out HB.out) | (with_reducible refine Kd.C_alloc ?_ _) | (with_reducible refine Kd.C_drewN ?_ _) | (with_reducible refine Kd.C_drew ?_))); (case side4 => exact HC2.out); rintro e w21 ⟨rfl, hb⟩; refine ⟨_, rfl, ?_⟩; have n0_ := za0.mk (Kd.R_below (by (with_reducible repeat (first | apply Kd.R_alloc | apply Kd.R_drewN | apply Kd.R_drew)); exact HO_8.out) hb); have n1_ := za0.mk (zm0 (g := gb208) (o := .cells #[.slice A0_0 l0_0.length c0_0] 29 (0, 0)) (by (with_reducible repeat (first | refine zg0 ?_ _ | refine zi0 ?_ | refine zf0 ?_ _)); exact BK208.out) hb); have n2_ := za0.mk (zh0 (by repeat (first | (with_reducible first | exact HB.out | apply zc0 | apply zb0 | apply zd0 | refine ze0 ?_ GE208.out) | exact HB.out)) hb); clear HO_8; clear BK208; clear HB; have HO_8 := n0_; have BK208 := n1_; have HB := n2_; clear n0_ n1_ n2_; (try clear hb); (try clear hb2); (try clear hk); (try clear hi); have hcz22_0 : w21.cell? ⟨gb208, 0, none⟩ = some (.slice A0_0 l0_0.length c0_0) := (zl0 BK208.out 0).trans rfl; have hfz22_0 := zk0 BK208.out 0))
         go_roundg k2
         case measure => have := HK1.out; have := HK2.out; omega
         case rel => exact ⟨(wrap64 (x10_2 + 1)), (t215), (by first | rfl | (simp; done) | (simp [*]; done)), (by first | rfl | (simp; done) | (simp [*]; done)), H', ⟨by have := HK1.out; have := HK2.out; omega⟩, ⟨by (with_reducible repeat (first | apply Kd.R_alloc | apply Kd.R_drewN | apply Kd.R_drew)); exact HO_8.out⟩, ⟨by (with_reducible repeat (first | refine zg0 ?_ _ | refine zi0 ?_ | refine zf0 ?_ _)); exact BK208.out⟩, ⟨by repeat (first | (with_reducible first | exact HB.out | apply zc0 | apply zb0 | apply zd0 | refine ze0 ?_ GE208.out) | exact HB.out)⟩⟩
   ·rw [if_neg c8] at H
    have c8b0 : decide (x16_1 < (l0_0.length : Int)) = false := decide_eq_false c8
    clear c8
    simp only [Option.some.injEq, Prod.mk.injEq] at H
    obtain ⟨rfl, rfl⟩ := H
    go_wp2
    go_ret2
    exact ⟨_, by first | rfl | (simp [errW_none, errW_some] <;> rfl) | (simp [*, errW_none, errW_some] <;> rfl), by (with_reducible repeat (first | apply Kd.R_alloc | apply Kd.R_drewN | apply Kd.R_drew)); exact HO_8.out, by repeat (first | (with_reducible first | exact HB.out | apply zc0 | apply zb0 | apply zd0 | refine ze0 ?_ GE208.out) | exact HB.out)⟩
def impl_Graph_isTree.f (k : Nat) (l0_0 : List (List Int)) (a1 : Int) (l2 : List Int) : Option (Bool) := (impl_Graph_treeWays.f k l0_0 a1 l2).bind fun bt217 => (some bt217.2)
set_option maxHeartbeats 8000000 in
set_option maxRecDepth 100000 in
theorem impl_Graph_isTree.calls (k : Nat) (A0_0 : Option Addr) (c0_0 : Nat) (l0_0 : List (List Int)) (a1 : Int) (A2 : Option Addr) (c2 : Nat) (l2 : List Int) (r : Bool) (w : World) (hr0_0 : Kd.C (Kd.slice 3 (Kd.int .i64)) w A0_0 l0_0.length l0_0) (hc0_0 : l0_0.length ≤ c0_0) (hr2 : Kd.C (Kd.int .i64) w A2 l2.length l2) (hc2 : l2.length ≤ c2) (h : impl_Graph_isTree.f k l0_0 a1 l2 = some r) :
  Calls Try.prog 70 #[.agg #[.slice A0_0 l0_0.length c0_0], .int .i64 a1, .slice A2 l2.length c2] w fun e w' => e = .returned (.bool r) ∧ Below w.heap.size w w' := by
 have hu29 := Try.underlying29
 have HR0_0 := za0.mk hr0_0
 have HC0_0 := za0.mk hc0_0
 clear hr0_0 hc0_0
 have HR2 := za0.mk hr2
 have HC2 := za0.mk hc2
 clear hr2 hc2
 have HB := za0.mk (Below.refl w.heap.size w)
 have H : ((impl_Graph_treeWays.f k l0_0 a1 l2).bind fun bt217 => (some bt217.2)) = some r := h
 clear h
 replace H := Option.bind_eq_some_iff.mp H
 obtain ⟨⟨t217, t220⟩, A40, H⟩ := H
 replace H : (some t220) = some r := H
 have A4 := za0.mk A40
 clear A40
 obtain rfl := Option.some.inj H
 go_enter Try.func70, Try.ntmps70
 go_wp2_with (first | ((with_reducible refine zo0 (N := 3) rfl ?_); refine zp0 ?hg (N := 3) ?hd (cs := #[.slice A0_0 l0_0.length c0_0]) (t := 29) ?hr ?_; (case hd => rfl); (case hg => rfl); (case hr => first | (go_simp; done) | (go_simp; rfl)); intro gb216 hg w5 hbox hb; have n0_ := za0.mk (zh0 (by repeat (first | (with_reducible first | exact HB.out | apply zc0 | apply zb0 | apply zd0) | exact HB.out)) hb); have n1_ := za0.mk (hbox); have n2_ := za0.mk ((by rw [hg]; exact (zj0 (by repeat (first | (with_reducible first | exact HB.out | apply zc0 | apply zb0 | apply zd0) | exact HB.out))) : w.heap.size ≤ gb216)); have n3_ := za0.mk ((by rw [hg]; exact (zj0 (by repeat (first | (with_reducible first | exact HB.out | apply zc0 | apply zb0 | apply zd0) | exact HB.out))) : w.heap.size ≤ gb216)); clear HB; have HB := n0_; have BK216 := n1_; have GW216 := n2_; have GE216 := n3_; clear n0_ n1_ n2_ n3_; clear hb hbox hg; have hcz6_0 : w5.cell? ⟨gb216, 0, none⟩ = some (.slice A0_0 l0_0.length c0_0) := (zl0 BK216.out 0).trans rfl; have hfz6_0 := zk0 BK216.out 0) | ((with_reducible refine zn0 (f := 82) rfl ?_); refine goesL_ (some 13) rfl rfl Try.func82 (by kernel_rfl) rfl #[.agg #[.slice A0_0 l0_0.length c0_0], .int .i64 a1, .slice A2 l2.length c2] rfl (by (try simp only [List.map_toArray, List.map_cons, List.map_nil]); first | done | rfl | (simp only [List.length_drop, List.length_take]; rfl)) ?_; (with_reducible refine (impl_Graph_treeWays.calls k _ _ l0_0 a1 _ _ l2 t217 t220 _ ?side1 ?side2 ?side3 ?side4 A4.out).mono ?_); (case side1 => repeat (first | exact (Kd.C_below HR0_0.out HB.out) | (with_reducible refine Kd.C_alloc ?_ _) | (with_reducible refine Kd.C_drewN ?_ _) | (with_reducible refine Kd.C_drew ?_))); (case side2 => exact HC0_0.out); (case side3 => repeat (first | exact (Kd.C_below HR2.out HB.out) | (with_reducible refine Kd.C_alloc ?_ _) | (with_reducible refine Kd.C_drewN ?_ _) | (with_reducible refine Kd.C_drew ?_))); (case side4 => exact HC2.out); rintro e w7 ⟨v218, rfl, ho0, hb⟩; refine ⟨_, rfl, ?_⟩; have n0_ := za0.mk (Kd.R_lower ho0 (zj0 (by repeat (first | (with_reducible first | exact HB.out | apply zc0 | apply zb0 | apply zd0 | refine ze0 ?_ GE216.out) | exact HB.out)))); have n1_ := za0.mk (zm0 (g := gb216) (o := .cells #[.slice A0_0 l0_0.length c0_0] 29 (0, 0)) (by (with_reducible repeat (first | refine zg0 ?_ _ | refine zi0 ?_ | refine zf0 ?_ _)); exact BK216.out) hb); have n2_ := za0.mk (zh0 (by repeat (first | (with_reducible first | exact HB.out | apply zc0 | apply zb0 | apply zd0 | refine ze0 ?_ GE216.out) | exact HB.out)) hb); clear BK216; clear HB; have HO219 := n0_; have BK216 := n1_; have HB := n2_; clear n0_ n1_ n2_; (try clear hb); (try clear hb2); (try clear hk); (try clear hi); (try clear ho0)))
 go_ret
 exact ⟨by first | rfl | (simp [errW_none, errW_some] <;> rfl) | (simp [*, errW_none, errW_some] <;> rfl), by repeat (first | (with_reducible first | exact HB.out | apply zc0 | apply zb0 | apply zd0 | refine ze0 ?_ GE216.out) | exact HB.out)⟩
def treeL (k : Nat) (l : List (List Int)) (s : Int) (rot : List Int) : Option Bool := (impl_areSinkRotors.f k l s rot).bind fun a => if a = true then impl_Graph_isTree.f k l s rot else some false
set_option maxHeartbeats 8000000 in
set_option maxRecDepth 100000 in
theorem impl_actor_hasTree.calls (k : Nat) (l : List (List Int)) (s : Int) (A0 : Option Addr) (c0 Ba : Nat) (A2 : Option Addr) (c2 : Nat) (rot : List Int) (b : Bool) (w : World) (hr0 : Kd.C (Kd.slice 3 (Kd.int .i64)) w A0 l.length l) (hc0 : l.length ≤ c0)
  (ba : w.heap[Ba]? = some (.cells #[.slice A0 l.length c0, .int .i64 s] 71 (0, 0))) (hr2 : Kd.C (Kd.int .i64) w A2 rot.length rot) (hc2 : rot.length ≤ c2) (h : treeL k l s rot = some b) :
  Calls Try.prog 50 #[.pointer (some ⟨Ba, 0, none⟩), .slice A2 rot.length c2] w fun e w' => e = .returned (.bool b) ∧ Below w.heap.size w w' := by
 have hu1 := Try.underlying29
 have hu3 := Try.underlying71
 have HR0 := za0.mk hr0
 have HC0 := za0.mk hc0
 have HR2 := za0.mk hr2
 have HC2 := za0.mk hc2
 have HB := za0.mk (below_drew (Below.refl w.heap.size w))
 have BA := za0.mk (show w.drew.heap[Ba]? = _ from ba)
 have hcg : w.drew.cell? ⟨Ba, 0, none⟩ = some (.slice A0 l.length c0) := (zl0 BA.out 0).trans rfl
 have hcs : w.drew.cell? ⟨Ba, 1, none⟩ = some (.int .i64 s) := (zl0 BA.out 1).trans rfl
 unfold treeL at h
 obtain ⟨a, h1, h⟩ := Option.bind_eq_some_iff.mp h
 have A1 := za0.mk h1
 clear hr0 hc0 hr2 hc2 ba h1
 cases a with
 | false =>
  rw [if_neg (by decide)] at h
  obtain rfl := Option.some.inj h
  go_enter Try.func50, Try.ntmps50
  go_wp2
  refine start_ (n := 23) (S := fun w' => w'.cell? ⟨Ba, 0, none⟩ = some (.slice A0 l.length c0) ∧ w'.cell? ⟨Ba, 1, none⟩ = some (.int .i64 s)) (ds := []) #[false, false, false, false, false, false, false, false, false, false, false, false, false, false, false, false, false, false, false, false, false, false, false] (by kernel_rfl) rfl rfl ⟨hcg, hcs⟩ (fun hHeld => ?_)
  generalize w.drew = w1 at HB BA hcg hcs hHeld ⊢
  refine pure_ (i := 0) (N := some 5) (v := ?_) (a' := ?_) (bf 23 1) rfl rfl (by kernel_rfl) (fun _ _ _ h => h) (Or.inl ⟨by rfl, ?_⟩) ?_ ?_
  rotate_left
  ·intro w'; go_simp; with_reducible rfl
  rotate_left
  ·simp only [Act.put, zA, zB, zC, i64_w, i32_w]; rfl
  refine pure_ (i := 1) (N := some 6) (v := ?_) (a' := ?_) (bf 23 3) rfl rfl (by kernel_rfl) (fun _ _ _ h => h) (Or.inl ⟨by rfl, ?_⟩) ?_ ?_
  rotate_left
  ·intro w'; go_simp; with_reducible rfl
  rotate_left
  ·simp only [Act.put, zA, zB, zC, i64_w, i32_w]; rfl
  refine pure_ (i := 2) (N := some 7) (v := ?_) (a' := ?_) (bf 23 7) rfl rfl (by kernel_rfl) (fun _ _ _ h => h) (Or.inl ⟨by rfl, ?_⟩) ?_ ?_
  rotate_left
  ·intro w'; go_simp; with_reducible rfl
  rotate_left
  ·simp only [Act.put, zA, zB, zC, i64_w, i32_w]; rfl
  refine take_ (i := 3) (N := some 8) (v := ?_) (a' := ?_) (bf 23 15) rfl rfl (by kernel_rfl) (fun _ _ _ h => h) (Or.inl ⟨by rfl, ?_⟩) hHeld ?_ ?_
  rotate_left
  ·rintro w' ⟨s0, s1⟩; go_simp; with_reducible rfl
  rotate_left
  ·simp only [Act.put, zA, zB, zC, i64_w, i32_w]; rfl
  refine pure_ (i := 4) (N := some 9) (v := ?_) (a' := ?_) (bf 23 31) rfl rfl (by kernel_rfl) (fun _ _ _ h => h) (Or.inl ⟨by rfl, ?_⟩) ?_ ?_
  rotate_left
  ·intro w'; go_simp; with_reducible rfl
  rotate_left
  ·simp only [Act.put, zA, zB, zC, i64_w, i32_w]; rfl
  refine pure_ (i := 5) (N := some 10) (v := ?_) (a' := ?_) (bf 23 63) rfl rfl (by kernel_rfl) (fun _ _ _ h => h) (Or.inl ⟨by rfl, ?_⟩) ?_ ?_
  rotate_left
  ·intro w'; go_simp; with_reducible rfl
  rotate_left
  ·simp only [Act.put, zA, zB, zC, i64_w, i32_w]; rfl
  refine pure_ (i := 6) (N := some 11) (v := ?_) (a' := ?_) (bf 23 127) rfl rfl (by kernel_rfl) (fun _ _ _ h => h) (Or.inl ⟨by rfl, ?_⟩) ?_ ?_
  rotate_left
  ·intro w'; go_simp; with_reducible rfl
  rotate_left
  ·simp only [Act.put, zA, zB, zC, i64_w, i32_w]; rfl
  refine take_ (i := 7) (N := some 12) (v := ?_) (a' := ?_) (bf 23 255) rfl rfl (by kernel_rfl) (fun _ _ _ h => h) (Or.inl ⟨by rfl, ?_⟩) hHeld ?_ ?_
  rotate_left
  ·rintro w' ⟨s0, s1⟩; go_simp; with_reducible rfl
  rotate_left
  ·simp only [Act.put, zA, zB, zC, i64_w, i32_w]; rfl
  refine pure_ (i := 8) (N := some 13) (v := ?_) (a' := ?_) (bf 23 511) rfl rfl (by kernel_rfl) (fun _ _ _ h => h) (Or.inl ⟨by rfl, ?_⟩) ?_ ?_
  rotate_left
  ·intro w'; go_simp; with_reducible rfl
  rotate_left
  ·simp only [Act.put, zA, zB, zC, i64_w, i32_w]; rfl
  refine one_ (i := 9) (N := some 14) (bf 23 1023) rfl rfl (by kernel_rfl) (by decide) (fun K hK => ?_)
  refine goes_ Try.func69 (by kernel_rfl) rfl #[.agg #[.slice A0 l.length c0], .int .i64 s, .slice A2 rot.length c2] (by rfl) rfl rfl (by (try simp only [List.map_toArray, List.map_cons, List.map_nil]); first | done | rfl) ?_
  refine (impl_areSinkRotors.calls k _ _ l s _ _ rot false _ (Kd.C_below HR0.out HB.out) HC0.out (Kd.C_below HR2.out HB.out) HC2.out A1.out).mono ?_
  rintro e w2 ⟨rfl, hb⟩
  refine ⟨_, rfl, ?_⟩
  have n0_ := za0.mk (zh0 HB.out hb)
  have n1_ := za0.mk (zm0 BA.out hb)
  clear HB BA hb
  have HB := n0_
  have BA := n1_
  clear n0_ n1_
  refine hK.out _ _ ⟨(zl0 BA.out 0).trans rfl, (zl0 BA.out 1).trans rfl⟩ (fun hHeld => ?_)
  clear hK K
  refine norm_ (a' := ?_) ?_ ?_
  rotate_left
  ·show Act.put _ (some 14) _ = _; simp only [Act.put, zA, zB, zC, i64_w, i32_w]; rfl
  refine pure_ (i := 10) (N := some 15) (v := ?_) (a' := ?_) (bf 23 2047) rfl rfl (by kernel_rfl) (fun _ _ _ h => h) (Or.inl ⟨by rfl, ?_⟩) ?_ ?_
  rotate_left
  ·intro w'; go_simp; with_reducible rfl
  rotate_left
  ·simp only [Act.put, zA, zB, zC, i64_w, i32_w]; rfl
  refine pure_ (i := 11) (N := some 16) (v := undef) (a' := ?_) (bf 23 4095) rfl rfl (by kernel_rfl) (fun _ _ _ h => h) (Or.inr ⟨by rfl, rfl⟩) ?_ ?_
  rotate_left
  ·simp only [Act.put, zA, zB, zC, i64_w, i32_w]; rfl
  refine pure_ (i := 12) (N := some 17) (v := undef) (a' := ?_) (bf 23 8191) rfl rfl (by kernel_rfl) (fun _ _ _ h => h) (Or.inr ⟨by rfl, rfl⟩) ?_ ?_
  rotate_left
  ·simp only [Act.put, zA, zB, zC, i64_w, i32_w]; rfl
  refine pure_ (i := 13) (N := some 18) (v := undef) (a' := ?_) (bf 23 16383) rfl rfl (by kernel_rfl) (fun _ _ _ h => h) (Or.inr ⟨by rfl, rfl⟩) ?_ ?_
  rotate_left
  ·simp only [Act.put, zA, zB, zC, i64_w, i32_w]; rfl
  refine pure_ (i := 14) (N := some 19) (v := undef) (a' := ?_) (bf 23 32767) rfl rfl (by kernel_rfl) (fun _ _ _ h => h) (Or.inr ⟨by rfl, rfl⟩) ?_ ?_
  rotate_left
  ·simp only [Act.put, zA, zB, zC, i64_w, i32_w]; rfl
  refine pure_ (i := 15) (N := some 20) (v := undef) (a' := ?_) (bf 23 65535) rfl rfl (by kernel_rfl) (fun _ _ _ h => h) (Or.inr ⟨by rfl, rfl⟩) ?_ ?_
  rotate_left
  ·simp only [Act.put, zA, zB, zC, i64_w, i32_w]; rfl
  refine pure_ (i := 16) (N := some 21) (v := undef) (a' := ?_) (bf 23 131071) rfl rfl (by kernel_rfl) (fun _ _ _ h => h) (Or.inr ⟨by rfl, rfl⟩) ?_ ?_
  rotate_left
  ·simp only [Act.put, zA, zB, zC, i64_w, i32_w]; rfl
  refine pure_ (i := 17) (N := some 22) (v := undef) (a' := ?_) (bf 23 262143) rfl rfl (by kernel_rfl) (fun _ _ _ h => h) (Or.inr ⟨by rfl, rfl⟩) ?_ ?_
  rotate_left
  ·simp only [Act.put, zA, zB, zC, i64_w, i32_w]; rfl
  refine pure_ (i := 18) (N := some 23) (v := undef) (a' := ?_) (bf 23 524287) rfl rfl (by kernel_rfl) (fun _ _ _ h => h) (Or.inr ⟨by rfl, rfl⟩) ?_ ?_
  rotate_left
  ·simp only [Act.put, zA, zB, zC, i64_w, i32_w]; rfl
  refine pure_ (i := 19) (N := some 24) (v := undef) (a' := ?_) (bf 23 1048575) rfl rfl (by kernel_rfl) (fun _ _ _ h => h) (Or.inr ⟨by rfl, rfl⟩) ?_ ?_
  rotate_left
  ·simp only [Act.put, zA, zB, zC, i64_w, i32_w]; rfl
  refine pure_ (i := 20) (N := some 25) (v := undef) (a' := ?_) (bf 23 2097151) rfl rfl (by kernel_rfl) (fun _ _ _ h => h) (Or.inr ⟨by rfl, rfl⟩) ?_ ?_
  rotate_left
  ·simp only [Act.put, zA, zB, zC, i64_w, i32_w]; rfl
  refine pure_ (i := 21) (N := some 26) (v := ?_) (a' := ?_) (bf 23 4194303) rfl rfl (by kernel_rfl) (fun _ _ _ h => h) (Or.inl ⟨by rfl, ?_⟩) ?_ ?_
  rotate_left
  ·intro w'; go_simp; with_reducible rfl
  rotate_left
  ·simp only [Act.put, zA, zB, zC, i64_w, i32_w]; rfl
  refine pure_ (i := 22) (N := some 4) (v := ?_) (a' := ?_) (bf 23 8388607) rfl rfl (by kernel_rfl) (fun _ _ _ h => h) (Or.inl ⟨by rfl, ?_⟩) ?_ ?_
  rotate_left
  ·intro w'; go_simp; with_reducible rfl
  rotate_left
  ·simp only [Act.put, zA, zB, zC, i64_w, i32_w]; rfl
  refine done_ (by kernel_rfl) ?_
  go_wp2
  go_ret
  exact ⟨rfl, HB.out⟩
 | true =>
  rw [if_pos rfl] at h
  have A2' := za0.mk h
  clear h
  go_enter Try.func50, Try.ntmps50
  go_wp2
  refine start_ (n := 23) (S := fun w' => w'.cell? ⟨Ba, 0, none⟩ = some (.slice A0 l.length c0) ∧ w'.cell? ⟨Ba, 1, none⟩ = some (.int .i64 s)) (ds := []) #[false, false, false, false, false, false, false, false, false, false, false, false, false, false, false, false, false, false, false, false, false, false, false] (by kernel_rfl) rfl rfl ⟨hcg, hcs⟩ (fun hHeld => ?_)
  generalize w.drew = w1 at HB BA hcg hcs hHeld ⊢
  refine pure_ (i := 0) (N := some 5) (v := ?_) (a' := ?_) (bf 23 1) rfl rfl (by kernel_rfl) (fun _ _ _ h => h) (Or.inl ⟨by rfl, ?_⟩) ?_ ?_
  rotate_left
  ·intro w'; go_simp; with_reducible rfl
  rotate_left
  ·simp only [Act.put, zA, zB, zC, i64_w, i32_w]; rfl
  refine pure_ (i := 1) (N := some 6) (v := ?_) (a' := ?_) (bf 23 3) rfl rfl (by kernel_rfl) (fun _ _ _ h => h) (Or.inl ⟨by rfl, ?_⟩) ?_ ?_
  rotate_left
  ·intro w'; go_simp; with_reducible rfl
  rotate_left
  ·simp only [Act.put, zA, zB, zC, i64_w, i32_w]; rfl
  refine pure_ (i := 2) (N := some 7) (v := ?_) (a' := ?_) (bf 23 7) rfl rfl (by kernel_rfl) (fun _ _ _ h => h) (Or.inl ⟨by rfl, ?_⟩) ?_ ?_
  rotate_left
  ·intro w'; go_simp; with_reducible rfl
  rotate_left
  ·simp only [Act.put, zA, zB, zC, i64_w, i32_w]; rfl
  refine take_ (i := 3) (N := some 8) (v := ?_) (a' := ?_) (bf 23 15) rfl rfl (by kernel_rfl) (fun _ _ _ h => h) (Or.inl ⟨by rfl, ?_⟩) hHeld ?_ ?_
  rotate_left
  ·rintro w' ⟨s0, s1⟩; go_simp; with_reducible rfl
  rotate_left
  ·simp only [Act.put, zA, zB, zC, i64_w, i32_w]; rfl
  refine pure_ (i := 4) (N := some 9) (v := ?_) (a' := ?_) (bf 23 31) rfl rfl (by kernel_rfl) (fun _ _ _ h => h) (Or.inl ⟨by rfl, ?_⟩) ?_ ?_
  rotate_left
  ·intro w'; go_simp; with_reducible rfl
  rotate_left
  ·simp only [Act.put, zA, zB, zC, i64_w, i32_w]; rfl
  refine pure_ (i := 5) (N := some 10) (v := ?_) (a' := ?_) (bf 23 63) rfl rfl (by kernel_rfl) (fun _ _ _ h => h) (Or.inl ⟨by rfl, ?_⟩) ?_ ?_
  rotate_left
  ·intro w'; go_simp; with_reducible rfl
  rotate_left
  ·simp only [Act.put, zA, zB, zC, i64_w, i32_w]; rfl
  refine pure_ (i := 6) (N := some 11) (v := ?_) (a' := ?_) (bf 23 127) rfl rfl (by kernel_rfl) (fun _ _ _ h => h) (Or.inl ⟨by rfl, ?_⟩) ?_ ?_
  rotate_left
  ·intro w'; go_simp; with_reducible rfl
  rotate_left
  ·simp only [Act.put, zA, zB, zC, i64_w, i32_w]; rfl
  refine take_ (i := 7) (N := some 12) (v := ?_) (a' := ?_) (bf 23 255) rfl rfl (by kernel_rfl) (fun _ _ _ h => h) (Or.inl ⟨by rfl, ?_⟩) hHeld ?_ ?_
  rotate_left
  ·rintro w' ⟨s0, s1⟩; go_simp; with_reducible rfl
  rotate_left
  ·simp only [Act.put, zA, zB, zC, i64_w, i32_w]; rfl
  refine pure_ (i := 8) (N := some 13) (v := ?_) (a' := ?_) (bf 23 511) rfl rfl (by kernel_rfl) (fun _ _ _ h => h) (Or.inl ⟨by rfl, ?_⟩) ?_ ?_
  rotate_left
  ·intro w'; go_simp; with_reducible rfl
  rotate_left
  ·simp only [Act.put, zA, zB, zC, i64_w, i32_w]; rfl
  refine one_ (i := 9) (N := some 14) (bf 23 1023) rfl rfl (by kernel_rfl) (by decide) (fun K hK => ?_)
  refine goes_ Try.func69 (by kernel_rfl) rfl #[.agg #[.slice A0 l.length c0], .int .i64 s, .slice A2 rot.length c2] (by rfl) rfl rfl (by (try simp only [List.map_toArray, List.map_cons, List.map_nil]); first | done | rfl) ?_
  refine (impl_areSinkRotors.calls k _ _ l s _ _ rot true _ (Kd.C_below HR0.out HB.out) HC0.out (Kd.C_below HR2.out HB.out) HC2.out A1.out).mono ?_
  rintro e w2 ⟨rfl, hb⟩
  refine ⟨_, rfl, ?_⟩
  have n0_ := za0.mk (zh0 HB.out hb)
  have n1_ := za0.mk (zm0 BA.out hb)
  clear HB BA hb
  have HB := n0_
  have BA := n1_
  clear n0_ n1_
  refine hK.out _ _ ⟨(zl0 BA.out 0).trans rfl, (zl0 BA.out 1).trans rfl⟩ (fun hHeld => ?_)
  clear hK K
  refine norm_ (a' := ?_) ?_ ?_
  rotate_left
  ·show Act.put _ (some 14) _ = _; simp only [Act.put, zA, zB, zC, i64_w, i32_w]; rfl
  refine pure_ (i := 10) (N := some 15) (v := ?_) (a' := ?_) (bf 23 2047) rfl rfl (by kernel_rfl) (fun _ _ _ h => h) (Or.inl ⟨by rfl, ?_⟩) ?_ ?_
  rotate_left
  ·intro w'; go_simp; with_reducible rfl
  rotate_left
  ·simp only [Act.put, zA, zB, zC, i64_w, i32_w]; rfl
  refine pure_ (i := 11) (N := some 16) (v := ?_) (a' := ?_) (bf 23 4095) rfl rfl (by kernel_rfl) (fun _ _ _ h => h) (Or.inl ⟨by rfl, ?_⟩) ?_ ?_
  rotate_left
  ·intro w'; go_simp; with_reducible rfl
  rotate_left
  ·simp only [Act.put, zA, zB, zC, i64_w, i32_w]; rfl
  refine pure_ (i := 12) (N := some 17) (v := ?_) (a' := ?_) (bf 23 8191) rfl rfl (by kernel_rfl) (fun _ _ _ h => h) (Or.inl ⟨by rfl, ?_⟩) ?_ ?_
  rotate_left
  ·intro w'; go_simp; with_reducible rfl
  rotate_left
  ·simp only [Act.put, zA, zB, zC, i64_w, i32_w]; rfl
  refine pure_ (i := 13) (N := some 18) (v := ?_) (a' := ?_) (bf 23 16383) rfl rfl (by kernel_rfl) (fun _ _ _ h => h) (Or.inl ⟨by rfl, ?_⟩) ?_ ?_
  rotate_left
  ·intro w'; go_simp; with_reducible rfl
  rotate_left
  ·simp only [Act.put, zA, zB, zC, i64_w, i32_w]; rfl
  refine take_ (i := 14) (N := some 19) (v := ?_) (a' := ?_) (bf 23 32767) rfl rfl (by kernel_rfl) (fun _ _ _ h => h) (Or.inl ⟨by rfl, ?_⟩) hHeld ?_ ?_
  rotate_left
  ·rintro w' ⟨s0, s1⟩; go_simp; with_reducible rfl
  rotate_left
  ·simp only [Act.put, zA, zB, zC, i64_w, i32_w]; rfl
  refine pure_ (i := 15) (N := some 20) (v := ?_) (a' := ?_) (bf 23 65535) rfl rfl (by kernel_rfl) (fun _ _ _ h => h) (Or.inl ⟨by rfl, ?_⟩) ?_ ?_
  rotate_left
  ·intro w'; go_simp; with_reducible rfl
  rotate_left
  ·simp only [Act.put, zA, zB, zC, i64_w, i32_w]; rfl
  refine pure_ (i := 16) (N := some 21) (v := ?_) (a' := ?_) (bf 23 131071) rfl rfl (by kernel_rfl) (fun _ _ _ h => h) (Or.inl ⟨by rfl, ?_⟩) ?_ ?_
  rotate_left
  ·intro w'; go_simp; with_reducible rfl
  rotate_left
  ·simp only [Act.put, zA, zB, zC, i64_w, i32_w]; rfl
  refine pure_ (i := 17) (N := some 22) (v := ?_) (a' := ?_) (bf 23 262143) rfl rfl (by kernel_rfl) (fun _ _ _ h => h) (Or.inl ⟨by rfl, ?_⟩) ?_ ?_
  rotate_left
  ·intro w'; go_simp; with_reducible rfl
  rotate_left
  ·simp only [Act.put, zA, zB, zC, i64_w, i32_w]; rfl
  refine take_ (i := 18) (N := some 23) (v := ?_) (a' := ?_) (bf 23 524287) rfl rfl (by kernel_rfl) (fun _ _ _ h => h) (Or.inl ⟨by rfl, ?_⟩) hHeld ?_ ?_
  rotate_left
  ·rintro w' ⟨s0, s1⟩; go_simp; with_reducible rfl
  rotate_left
  ·simp only [Act.put, zA, zB, zC, i64_w, i32_w]; rfl
  refine pure_ (i := 19) (N := some 24) (v := ?_) (a' := ?_) (bf 23 1048575) rfl rfl (by kernel_rfl) (fun _ _ _ h => h) (Or.inl ⟨by rfl, ?_⟩) ?_ ?_
  rotate_left
  ·intro w'; go_simp; with_reducible rfl
  rotate_left
  ·simp only [Act.put, zA, zB, zC, i64_w, i32_w]; rfl
  refine one_ (i := 20) (N := some 25) (bf 23 2097151) rfl rfl (by kernel_rfl) (by decide) (fun K hK => ?_)
  refine goes_ Try.func70 (by kernel_rfl) rfl #[.agg #[.slice A0 l.length c0], .int .i64 s, .slice A2 rot.length c2] (by rfl) rfl rfl (by (try simp only [List.map_toArray, List.map_cons, List.map_nil]); first | done | rfl) ?_
  refine (impl_Graph_isTree.calls k _ _ l s _ _ rot b _ (Kd.C_below HR0.out HB.out) HC0.out (Kd.C_below HR2.out HB.out) HC2.out A2'.out).mono ?_
  rintro e w3 ⟨rfl, hb⟩
  refine ⟨_, rfl, ?_⟩
  have n0_ := za0.mk (zh0 HB.out hb)
  have n1_ := za0.mk (zm0 BA.out hb)
  clear HB BA hb
  have HB := n0_
  have BA := n1_
  clear n0_ n1_
  refine hK.out _ _ ⟨(zl0 BA.out 0).trans rfl, (zl0 BA.out 1).trans rfl⟩ (fun hHeld => ?_)
  clear hK K
  refine norm_ (a' := ?_) ?_ ?_
  rotate_left
  ·show Act.put _ (some 25) _ = _; simp only [Act.put, zA, zB, zC, i64_w, i32_w]; rfl
  refine pure_ (i := 21) (N := some 26) (v := ?_) (a' := ?_) (bf 23 4194303) rfl rfl (by kernel_rfl) (fun _ _ _ h => h) (Or.inl ⟨by rfl, ?_⟩) ?_ ?_
  rotate_left
  ·intro w'; go_simp; with_reducible rfl
  rotate_left
  ·simp only [Act.put, zA, zB, zC, i64_w, i32_w]; rfl
  refine pure_ (i := 22) (N := some 4) (v := ?_) (a' := ?_) (bf 23 8388607) rfl rfl (by kernel_rfl) (fun _ _ _ h => h) (Or.inl ⟨by rfl, ?_⟩) ?_ ?_
  rotate_left
  ·intro w'; go_simp; with_reducible rfl
  rotate_left
  ·simp only [Act.put, zA, zB, zC, i64_w, i32_w]; rfl
  refine done_ (by kernel_rfl) ?_
  go_wp2
  go_ret
  exact ⟨rfl, HB.out⟩
end Go.Proofs.Ytlbgajpbdbgmkaa.P
