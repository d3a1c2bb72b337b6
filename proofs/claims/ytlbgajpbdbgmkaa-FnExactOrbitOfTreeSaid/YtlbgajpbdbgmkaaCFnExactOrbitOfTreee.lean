/- Texts of this session on the way to the law FnExactOrbitOfTree, part 5: words of the print, walks, plain laws; only what the law's proof uses. -/
import Derived.Test.YtlbgajpbdbgmkaaCFnExactOrbitOfTreea
import Derived.Test.YtlbgajpbdbgmkaaCFnExactOrbitOfTreed
namespace Go.Proofs.Ytlbgajpbdbgmkaa.P
set_option maxHeartbeats 8000000
set_option maxRecDepth 100000
open Go.RowKit Go.Proofs.YtlbgajpbdbgmkaaW.PrintWords Go.Proofs.YtlbgajpbdbgmkaaW.PrintLast Go.Proofs.YtlbgajpbdbgmkaaW.PrintMore
attribute [local go_sem] zw0 zv0 zz0 zy0 zs0 zq0 zu0 zx0
set_option linter.unusedVariables false
set_option linter.unusedSimpArgs false
mutual
def yb0.l0 : Nat → Int → List Int → Int → Int → List (List Int) → Option (List Int)
 | 0, _, _, _, _, _ => none
 | k + 1, x1, x5, x16, x17, x233000 => if x17 < x16 then (if 0 ≤ x17 then (if x17 < (x5.length : Int) then (yb0.l0 k x1 (x5.set (x17 : Int).toNat (-1)) x16 (wrap64 (x17 + 1)) x233000) else (none)) else (none)) else (if 0 ≤ x1 then (if x1 < (x5.length : Int) then (yb0.l1 k (x5.set (x1 : Int).toNat 0) (([x1] : List Int)) 0 x233000) else (none)) else (none))
def yb0.l1 : Nat → List Int → List Int → Int → List (List Int) → Option (List Int)
 | 0, _, _, _, _ => none
 | k + 1, x5, x7, x8, x233000 => if x8 < (x7.length : Int) then (if 0 ≤ x8 then (if 0 ≤ (rd x7 x8) then (if (rd x7 x8) < (x233000.length : Int) then (yb0.l2 k x5 x7 x8 (rd_L1 x233000 (rd x7 x8)) ((rd_L1 x233000 (rd x7 x8)).length : Int) 0 x233000) else (none)) else (none)) else (none)) else (some x5)
def yb0.l2 : Nat → List Int → List Int → Int → List Int → Int → Int → List (List Int) → Option (List Int)
 | 0, _, _, _, _, _, _, _ => none
 | k + 1, x5, x7, x8, x42, x43, x44, x233000 => if x44 < x43 then (if 0 ≤ x44 then (if x44 < (x42.length : Int) then (if 0 ≤ (rd x42 x44) then (if (rd x42 x44) < (x5.length : Int) then (if (rd x5 (rd x42 x44)) < 0 then (if 0 ≤ x8 then (if x8 < (x7.length : Int) then (if 0 ≤ (rd x7 x8) then (if (rd x7 x8) < (x5.length : Int) then (if x7.length < 17592186044416 then (yb0.l2 k (x5.set ((rd x42 x44) : Int).toNat (wrap64 ((rd x5 (rd x7 x8)) + 1))) (x7 ++ [rd x42 x44]) x8 x42 x43 (wrap64 (x44 + 1)) x233000) else (none)) else (none)) else (none)) else (none)) else (none)) else (yb0.l2 k x5 x7 x8 x42 x43 (wrap64 (x44 + 1)) x233000)) else (none)) else (none)) else (none)) else (none)) else (yb0.l1 k x5 x7 (wrap64 (x8 + 1)) x233000)
end
def yb0.f (k : Nat) (l0_0 : List (List Int)) (a1 : Int) : Option (List Int) := if 0 ≤ (l0_0.length : Int) then (if ((l0_0.length : Int) : Int).toNat ≤ 35184372088832 then ((some (List.replicate ((l0_0.length : Int) : Int).toNat 0 : List Int)).bind fun y233 => (yb0.l0 k a1 y233 (y233.length : Int) 0 l0_0)) else (none)) else (none)
theorem yb0.mono_l : ∀ k, (∀ y0 y1 y2 y3 y4, LeO (yb0.l0 k y0 y1 y2 y3 y4) (yb0.l0 (k + 1) y0 y1 y2 y3 y4)) ∧ (∀ y0 y1 y2 y3, LeO (yb0.l1 k y0 y1 y2 y3) (yb0.l1 (k + 1) y0 y1 y2 y3)) ∧ (∀ y0 y1 y2 y3 y4 y5 y6, LeO (yb0.l2 k y0 y1 y2 y3 y4 y5 y6) (yb0.l2 (k + 1) y0 y1 y2 y3 y4 y5 y6))
 | 0 => ⟨fun _ _ _ _ _ r h => by simp [yb0.l0] at h, fun _ _ _ _ r h => by simp [yb0.l1] at h, fun _ _ _ _ _ _ _ r h => by simp [yb0.l2] at h⟩
 | k + 1 => by
  obtain ⟨ih0, ih1, ih2⟩ := yb0.mono_l k
  refine ⟨?_, ?_, ?_⟩
  ·intro y0 y1 y2 y3 y4
   unfold yb0.l0
   repeat' (with_reducible first | exact ih0 _ _ _ _ _ | exact ih1 _ _ _ _ | exact ih2 _ _ _ _ _ _ _ | exact LeO.refl _ | exact LeO.none _ | refine LeO.ite ?_ ?_ | refine LeO.bind ?_ (fun _ => ?_))
  ·intro y0 y1 y2 y3
   unfold yb0.l1
   repeat' (with_reducible first | exact ih0 _ _ _ _ _ | exact ih1 _ _ _ _ | exact ih2 _ _ _ _ _ _ _ | exact LeO.refl _ | exact LeO.none _ | refine LeO.ite ?_ ?_ | refine LeO.bind ?_ (fun _ => ?_))
  ·intro y0 y1 y2 y3 y4 y5 y6
   unfold yb0.l2
   repeat' (with_reducible first | exact ih0 _ _ _ _ _ | exact ih1 _ _ _ _ | exact ih2 _ _ _ _ _ _ _ | exact LeO.refl _ | exact LeO.none _ | refine LeO.ite ?_ ?_ | refine LeO.bind ?_ (fun _ => ?_))
theorem yb0.mono : ∀ a0 a1 k, LeO (yb0.f k a0 a1) (yb0.f (k + 1) a0 a1) := by
 intro a0 a1 k
 obtain ⟨ih0, ih1, ih2⟩ := yb0.mono_l k
 unfold yb0.f
 repeat' (with_reducible first | exact ih0 _ _ _ _ _ | exact ih1 _ _ _ _ | exact ih2 _ _ _ _ _ _ _ | exact LeO.refl _ | exact LeO.none _ | refine LeO.ite ?_ ?_ | refine LeO.bind ?_ (fun _ => ?_))
theorem yb0.calls (k : Nat) (A0_0 : Option Addr) (c0_0 : Nat) (l0_0 : List (List Int)) (a1 : Int) (r : List Int) (w : World) (hr0_0 : Kd.C (Kd.slice 3 (Kd.int .i64)) w A0_0 l0_0.length l0_0) (hc0_0 : l0_0.length ≤ c0_0) (h : yb0.f k l0_0 a1 = some r) :
  Calls Try.prog 83 #[.agg #[.slice A0_0 l0_0.length c0_0], .int .i64 a1] w fun e w' => ∃ v0_ : Value, e = .returned (v0_) ∧ Kd.R (Kd.int .i64) 3 w' w.heap.size (fun _ => True) v0_ r ∧ Below w.heap.size w w' := by
 have hu29 := Try.underlying29
 have HR0_0 := za0.mk hr0_0
 have HC0_0 := za0.mk hc0_0
 clear hr0_0 hc0_0
 have HB := za0.mk (Below.refl w.heap.size w)
 have H : (if 0 ≤ (l0_0.length : Int) then (if ((l0_0.length : Int) : Int).toNat ≤ 35184372088832 then ((some (List.replicate ((l0_0.length : Int) : Int).toNat 0 : List Int)).bind fun y233 => (yb0.l0 k a1 y233 (y233.length : Int) 0 l0_0)) else (none)) else (none)) = some r := h
 clear h
 by_cases c3 : 0 ≤ (l0_0.length : Int)
 rotate_left
 ·rw [if_neg c3] at H
  exact absurd H (by simp)
 rw [if_pos c3] at H
 have c3b0 := eq_true c3
 have c3b1 : decide (0 ≤ (l0_0.length : Int)) = true := decide_eq_true c3
 clear c3
 by_cases c4 : ((l0_0.length : Int) : Int).toNat ≤ 35184372088832
 rotate_left
 ·rw [if_neg c4] at H
  exact absurd H (by simp)
 rw [if_pos c4] at H
 have c4b0 := eq_true c4
 have c4b1 : decide (((l0_0.length : Int) : Int).toNat ≤ 35184372088832) = true := decide_eq_true c4
 clear c4
 obtain ⟨y233, hy233⟩ : ∃ y_ : List Int, y_ = (List.replicate ((l0_0.length : Int) : Int).toNat 0) := ⟨_, rfl⟩
 replace H : (yb0.l0 k a1 y233 (y233.length : Int) 0 l0_0) = some r := by first | (rw [hy233]; with_reducible exact H) | (have H2_ := (Option.bind_some _ _).symm.trans H; rw [hy233]; with_reducible exact H2_) | (have H2_ := (Option.bind_some _ _).symm.trans H; with_reducible exact H2_) | with_reducible exact H | (rw [hy233]; exact H) | exact H
 have Ny233 := za0.mk hy233
 clear hy233
 have H' := za0.mk H
 clear H
 go_enter Try.func83, Try.ntmps83
 go_wp2_with (first | ((with_reducible refine zo0 (N := 2) rfl ?_); refine zp0 ?hg (N := 2) ?hd (cs := #[.slice A0_0 l0_0.length c0_0]) (t := 29) ?hr ?_; (case hd | hg => rfl); (case hr => go_simp <;> rfl); intro gb232 hg w5 hbox hb; have n0_ := za0.mk (zi0 (by repeat (first | exact HB.1 | apply zc0 | apply zb0 | apply zd0)) hb); have n1_ := za0.mk (hbox); have n2_ := za0.mk ((by rw [hg]; exact (zh0 (by repeat (first | exact HB.1 | apply zc0 | apply zb0 | apply zd0))) : w.heap.size ≤ gb232)); have n3_ := za0.mk ((by rw [hg]; exact (zh0 (by repeat (first | exact HB.1 | apply zc0 | apply zb0 | apply zd0))) : w.heap.size ≤ gb232)); clear HB; have HB := n0_; have BK232 := n1_; have GW232 := n2_; have GE232 := n3_; clear n0_ n1_ n2_ n3_; clear hb hbox hg; have hcz6_0 : w5.cell? ⟨gb232, 0, none⟩ = some (.slice A0_0 l0_0.length c0_0) := (zl0 BK232.1 0).trans rfl; have hfz6_0 := zk0 BK232.1 0) | ((with_reducible refine zo0 (N := 14) rfl ?_); refine Kd.R_make (Kd.int .i64) _ 3 rfl (N := 14) rfl 25 _ _ rfl (l0_0.length : Int) rfl rfl Try.underlying25 (.int .i64 0) 8 info3 rfl (by decide) (by omega) 0 (ok := fun _ => True) (okp := fun _ => True) rfl (fun _ hk => hk) trivial (of_decide_eq_true (by assumption)) (Nat.le_trans (Nat.mul_le_mul_right _ (of_decide_eq_true (by assumption) : (l0_0.length : Int).toNat ≤ 35184372088832)) (by omega)) (Below.refl _ _) (Nat.le_refl _) ?_; intro v234 w7 ho8 hb hg_ hnew_; clear hg_ hnew_; (first | rw [← Ny233.1] at ho8 | (simp only [Int.reduceToNat] at ho8; rw [← Ny233.1] at ho8)); have n0_ := za0.mk (Kd.R_lower ho8 (zh0 (by repeat (first | exact HB.1 | apply zc0 | apply zb0 | apply zd0 | refine ze0 ?_ GE232.1)))); have n1_ := za0.mk (zm0 (g := gb232) (o := .cells #[.slice A0_0 l0_0.length c0_0] 29 (0, 0)) (by (with_reducible repeat (first | refine zg0 ?_ _ | refine zj0 ?_ | refine zf0 ?_ _)); exact BK232.1) hb); have n2_ := za0.mk (zi0 (by repeat (first | exact HB.1 | apply zc0 | apply zb0 | apply zd0 | refine ze0 ?_ GE232.1)) hb); clear BK232; clear HB; have HO235 := n0_; have BK232 := n1_; have HB := n2_; clear n0_ n1_ n2_; clear hb ho8; obtain ⟨Ao9, co9, eo9⟩ := Kd.R_slice HO235.1; subst eo9))
 repeat (go_quiet (first | ((with_reducible refine zo0 (N := 2) rfl ?_); refine zp0 ?hg (N := 2) ?hd (cs := #[.slice A0_0 l0_0.length c0_0]) (t := 29) ?hr ?_; (case hd | hg => rfl); (case hr => go_simp <;> rfl); intro gb232 hg w5 hbox hb; have n0_ := za0.mk (zi0 (by repeat (first | exact HB.1 | apply zc0 | apply zb0 | apply zd0)) hb); have n1_ := za0.mk (hbox); have n2_ := za0.mk ((by rw [hg]; exact (zh0 (by repeat (first | exact HB.1 | apply zc0 | apply zb0 | apply zd0))) : w.heap.size ≤ gb232)); have n3_ := za0.mk ((by rw [hg]; exact (zh0 (by repeat (first | exact HB.1 | apply zc0 | apply zb0 | apply zd0))) : w.heap.size ≤ gb232)); clear HB; have HB := n0_; have BK232 := n1_; have GW232 := n2_; have GE232 := n3_; clear n0_ n1_ n2_ n3_; clear hb hbox hg; have hcz6_0 : w5.cell? ⟨gb232, 0, none⟩ = some (.slice A0_0 l0_0.length c0_0) := (zl0 BK232.1 0).trans rfl; have hfz6_0 := zk0 BK232.1 0) | ((with_reducible refine zo0 (N := 14) rfl ?_); refine Kd.R_make (Kd.int .i64) _ 3 rfl (N := 14) rfl 25 _ _ rfl (l0_0.length : Int) rfl rfl Try.underlying25 (.int .i64 0) 8 info3 rfl (by decide) (by omega) 0 (ok := fun _ => True) (okp := fun _ => True) rfl (fun _ hk => hk) trivial (of_decide_eq_true (by assumption)) (Nat.le_trans (Nat.mul_le_mul_right _ (of_decide_eq_true (by assumption) : (l0_0.length : Int).toNat ≤ 35184372088832)) (by omega)) (Below.refl _ _) (Nat.le_refl _) ?_; intro v234 w7 ho8 hb hg_ hnew_; clear hg_ hnew_; (first | rw [← Ny233.1] at ho8 | (simp only [Int.reduceToNat] at ho8; rw [← Ny233.1] at ho8)); have n0_ := za0.mk (Kd.R_lower ho8 (zh0 (by repeat (first | exact HB.1 | apply zc0 | apply zb0 | apply zd0 | refine ze0 ?_ GE232.1)))); have n1_ := za0.mk (zm0 (g := gb232) (o := .cells #[.slice A0_0 l0_0.length c0_0] 29 (0, 0)) (by (with_reducible repeat (first | refine zg0 ?_ _ | refine zj0 ?_ | refine zf0 ?_ _)); exact BK232.1) hb); have n2_ := za0.mk (zi0 (by repeat (first | exact HB.1 | apply zc0 | apply zb0 | apply zd0 | refine ze0 ?_ GE232.1)) hb); clear BK232; clear HB; have HO235 := n0_; have BK232 := n1_; have HB := n2_; clear n0_ n1_ n2_; clear hb ho8; obtain ⟨Ao9, co9, eo9⟩ := Kd.R_slice HO235.1; subst eo9)); try go_wp2_with (first | ((with_reducible refine zo0 (N := 2) rfl ?_); refine zp0 ?hg (N := 2) ?hd (cs := #[.slice A0_0 l0_0.length c0_0]) (t := 29) ?hr ?_; (case hd | hg => rfl); (case hr => go_simp <;> rfl); intro gb232 hg w5 hbox hb; have n0_ := za0.mk (zi0 (by repeat (first | exact HB.1 | apply zc0 | apply zb0 | apply zd0)) hb); have n1_ := za0.mk (hbox); have n2_ := za0.mk ((by rw [hg]; exact (zh0 (by repeat (first | exact HB.1 | apply zc0 | apply zb0 | apply zd0))) : w.heap.size ≤ gb232)); have n3_ := za0.mk ((by rw [hg]; exact (zh0 (by repeat (first | exact HB.1 | apply zc0 | apply zb0 | apply zd0))) : w.heap.size ≤ gb232)); clear HB; have HB := n0_; have BK232 := n1_; have GW232 := n2_; have GE232 := n3_; clear n0_ n1_ n2_ n3_; clear hb hbox hg; have hcz6_0 : w5.cell? ⟨gb232, 0, none⟩ = some (.slice A0_0 l0_0.length c0_0) := (zl0 BK232.1 0).trans rfl; have hfz6_0 := zk0 BK232.1 0) | ((with_reducible refine zo0 (N := 14) rfl ?_); refine Kd.R_make (Kd.int .i64) _ 3 rfl (N := 14) rfl 25 _ _ rfl (l0_0.length : Int) rfl rfl Try.underlying25 (.int .i64 0) 8 info3 rfl (by decide) (by omega) 0 (ok := fun _ => True) (okp := fun _ => True) rfl (fun _ hk => hk) trivial (of_decide_eq_true (by assumption)) (Nat.le_trans (Nat.mul_le_mul_right _ (of_decide_eq_true (by assumption) : (l0_0.length : Int).toNat ≤ 35184372088832)) (by omega)) (Below.refl _ _) (Nat.le_refl _) ?_; intro v234 w7 ho8 hb hg_ hnew_; clear hg_ hnew_; (first | rw [← Ny233.1] at ho8 | (simp only [Int.reduceToNat] at ho8; rw [← Ny233.1] at ho8)); have n0_ := za0.mk (Kd.R_lower ho8 (zh0 (by repeat (first | exact HB.1 | apply zc0 | apply zb0 | apply zd0 | refine ze0 ?_ GE232.1)))); have n1_ := za0.mk (zm0 (g := gb232) (o := .cells #[.slice A0_0 l0_0.length c0_0] 29 (0, 0)) (by (with_reducible repeat (first | refine zg0 ?_ _ | refine zj0 ?_ | refine zf0 ?_ _)); exact BK232.1) hb); have n2_ := za0.mk (zi0 (by repeat (first | exact HB.1 | apply zc0 | apply zb0 | apply zd0 | refine ze0 ?_ GE232.1)) hb); clear BK232; clear HB; have HO235 := n0_; have BK232 := n1_; have HB := n2_; clear n0_ n1_ n2_; clear hb ho8; obtain ⟨Ao9, co9, eo9⟩ := Kd.R_slice HO235.1; subst eo9)))
 go_loopg [17] k (fun kq v17 w' => ∃ (x5_1 : List Int) (x17_1 : Int), v17 = .int .i64 x17_1 ∧ za0 (yb0.l0 kq a1 x5_1 (y233.length : Int) x17_1 l0_0 = some r) ∧ za0 (kq ≤ k) ∧ za0 (Kd.R (Kd.int .i64) 3 w' w.heap.size (fun _ => True) (.slice Ao9 y233.length co9) x5_1) ∧ za0 (w'.heap[gb232]? = some (.cells #[(.slice A0_0 l0_0.length c0_0)] 29 (0, 0))) ∧ za0 (Below w.heap.size w w'))
 case atStart => exact ⟨(y233), (0), (by first | rfl | (simp; done) | (simp [*]; done)), H', ⟨Nat.le_refl _⟩, ⟨by (with_reducible repeat (first | apply Kd.R_alloc | apply Kd.R_drewN | apply Kd.R_drew)); exact HO235.1⟩, ⟨by (with_reducible repeat (first | refine zg0 ?_ _ | refine zj0 ?_ | refine zf0 ?_ _)); exact BK232.1⟩, ⟨by repeat (first | exact HB.1 | apply zc0 | apply zb0 | apply zd0 | refine ze0 ?_ GE232.1)⟩⟩
 case round =>
  clear H'
  try clear p2
  try clear c3
  try clear c3b0
  try clear c3b1
  try clear c4
  try clear c4b0
  try clear c4b1
  try clear c8
  try clear hcz6_0
  try clear hfz6_0
  obtain ⟨x5_1, x17_1, rfl, HA, HK1, HO_5, BK232, HB⟩ := hrel
  have hl5_1 := (Kd.R_reads' HO_5.1).1
  rw [hl5_1] at HO_5
  (try simp only [hl5_1])
  (try simp only [hl5_1] at BK232)
  obtain _ | k1 := gk
  ·exact absurd HA.1 (by simp [yb0.l0])
  have H := HA.1
  clear HA
  simp only [yb0.l0] at H
  by_cases c10 : x17_1 < (y233.length : Int)
  ·rw [if_pos c10] at H
   have c10b0 : decide (x17_1 < (y233.length : Int)) = true := decide_eq_true c10
   (try (have c10b0h := c10b0; simp only [hl5_1] at c10b0h))
   clear c10
   by_cases c11 : 0 ≤ x17_1
   rotate_left
   ·rw [if_neg c11] at H
    exact absurd H (by simp)
   rw [if_pos c11] at H
   have c11b0 : decide (0 ≤ x17_1) = true := decide_eq_true c11
   (try (have c11b0h := c11b0; simp only [hl5_1] at c11b0h))
   clear c11
   by_cases c12 : x17_1 < (x5_1.length : Int)
   rotate_left
   ·rw [if_neg c12] at H
    exact absurd H (by simp)
   rw [if_pos c12] at H
   have c12b0 : decide (x17_1 < (x5_1.length : Int)) = true := decide_eq_true c12
   (try (have c12b0h := c12b0; simp only [hl5_1] at c12b0h))
   clear c12
   obtain ⟨y236, hy236⟩ : ∃ y_ : List Int, y_ = (x5_1.set (x17_1 : Int).toNat (-1)) := ⟨_, rfl⟩
   replace H : (yb0.l0 k1 a1 y236 (y233.length : Int) (wrap64 (x17_1 + 1)) l0_0) = some r := by first | (rw [hy236]; with_reducible exact H) | (have H2_ := (Option.bind_some _ _).symm.trans H; rw [hy236]; with_reducible exact H2_) | (have H2_ := (Option.bind_some _ _).symm.trans H; with_reducible exact H2_) | with_reducible exact H | (rw [hy236]; exact H) | exact H
   have Ny236 := za0.mk hy236
   clear hy236
   have H' := za0.mk H
   clear H
   have p13 : 0 ≤ (x17_1 : Int) := of_decide_eq_true (by assumption)
   have q13 : (x17_1 : Int) < ((x5_1.length : Int) : Int) := of_decide_eq_true (by assumption)
   obtain ⟨go13, co13, eo13, gb13, gl13, cl13, HG13⟩ := Kd.R_form HO_5.1 (by omega)
   (first | cases eo13 | (injection eo13 with ea_ en_ ec_; (first | subst ea_ | (injection ea_ with ea_; subst ea_)); subst ec_; clear en_))
   have GB13 := za0.mk gb13
   have GG13 := za0.mk HG13
   clear gb13 gl13 HG13
   obtain ⟨hx13_0, hf13_0⟩ := Kd.R_celln 0 HO_5.1 (x17_1 : Int) p13 q13
   replace p13 := eq_true p13
   replace q13 := eq_true q13
   have HP14 := Kd.R_putg HO_5.1 (x17_1 : Int) (-1)
   go_wp2_with (first | ((with_reducible refine gate_store (t := 3) (p := 22) rfl ?_); (try (rw [drewN_self wr]; generalize hq_ : World.drewN wr _ = wr; have n0_ := za0.mk (Kd.R_at hq_ HO_5.1); have n1_ := za0.mk (blk_at hq_ BK232.1); have n2_ := za0.mk (below_at hq_ HB.1); clear hq_ HO_5 BK232 HB; have HO_5 := n0_; have BK232 := n1_; have HB := n2_; clear n0_ n1_ n2_; (try (have HP14 := Kd.R_putg HO_5.1 (x17_1 : Int) (-1))))); refine store_event (t := 3) (p := 22) (v := ?vo_w15) (w1 := (wr.setCell ⟨go13, (x17_1 : Int).toNat, none⟩ (.int .i64 (-1)))) ?hg ?ho ?hn ?hr ?_; (case ho => rfl); (case hg => rfl); (case hn => rfl); (case hr => go_simp <;> rfl); intro w15 hw; have hg : wr.grownBy w15 (some go13) := (by rw [hw]; exact HP14.2); have hp_ : Kd.R (Kd.int .i64) 3 w15 w.heap.size (fun _ => True) (.slice (some ⟨go13, 0, none⟩) x5_1.length co9) y236 := (by rw [hw, Ny236.1]; exact HP14.1); clear HP14; have n0_ := za0.mk (hp_); have n1_ := za0.mk (blk_grown (g := gb232) (o := .cells #[.slice A0_0 l0_0.length c0_0] 29 (0, 0)) (by (with_reducible repeat (first | refine zg0 ?_ _ | refine zj0 ?_ | refine zf0 ?_ _)); exact BK232.1) hg (Kd.R_ne HO_5.1 BK232.1 (by decide))); have n2_ := za0.mk ((by rw [hw]; exact ze0 (HB.1) GB13.1 : Below w.heap.size w w15)); clear HO_5; clear BK232; clear HB; have HO_5 := n0_; have BK232 := n1_; have HB := n2_; clear n0_ n1_ n2_; clear hg hw hp_))
   repeat (go_quiet (first | ((with_reducible refine gate_store (t := 3) (p := 22) rfl ?_); (try (rw [drewN_self wr]; generalize hq_ : World.drewN wr _ = wr; have n0_ := za0.mk (Kd.R_at hq_ HO_5.1); have n1_ := za0.mk (blk_at hq_ BK232.1); have n2_ := za0.mk (below_at hq_ HB.1); clear hq_ HO_5 BK232 HB; have HO_5 := n0_; have BK232 := n1_; have HB := n2_; clear n0_ n1_ n2_; (try (have HP14 := Kd.R_putg HO_5.1 (x17_1 : Int) (-1))))); refine store_event (t := 3) (p := 22) (v := ?vo_w15) (w1 := (wr.setCell ⟨go13, (x17_1 : Int).toNat, none⟩ (.int .i64 (-1)))) ?hg ?ho ?hn ?hr ?_; (case ho => rfl); (case hg => rfl); (case hn => rfl); (case hr => go_simp <;> rfl); intro w15 hw; have hg : wr.grownBy w15 (some go13) := (by rw [hw]; exact HP14.2); have hp_ : Kd.R (Kd.int .i64) 3 w15 w.heap.size (fun _ => True) (.slice (some ⟨go13, 0, none⟩) x5_1.length co9) y236 := (by rw [hw, Ny236.1]; exact HP14.1); clear HP14; have n0_ := za0.mk (hp_); have n1_ := za0.mk (blk_grown (g := gb232) (o := .cells #[.slice A0_0 l0_0.length c0_0] 29 (0, 0)) (by (with_reducible repeat (first | refine zg0 ?_ _ | refine zj0 ?_ | refine zf0 ?_ _)); exact BK232.1) hg (Kd.R_ne HO_5.1 BK232.1 (by decide))); have n2_ := za0.mk ((by rw [hw]; exact ze0 (HB.1) GB13.1 : Below w.heap.size w w15)); clear HO_5; clear BK232; clear HB; have HO_5 := n0_; have BK232 := n1_; have HB := n2_; clear n0_ n1_ n2_; clear hg hw hp_)); try go_wp2_with (first | ((with_reducible refine gate_store (t := 3) (p := 22) rfl ?_); (try (rw [drewN_self wr]; generalize hq_ : World.drewN wr _ = wr; have n0_ := za0.mk (Kd.R_at hq_ HO_5.1); have n1_ := za0.mk (blk_at hq_ BK232.1); have n2_ := za0.mk (below_at hq_ HB.1); clear hq_ HO_5 BK232 HB; have HO_5 := n0_; have BK232 := n1_; have HB := n2_; clear n0_ n1_ n2_; (try (have HP14 := Kd.R_putg HO_5.1 (x17_1 : Int) (-1))))); refine store_event (t := 3) (p := 22) (v := ?vo_w15) (w1 := (wr.setCell ⟨go13, (x17_1 : Int).toNat, none⟩ (.int .i64 (-1)))) ?hg ?ho ?hn ?hr ?_; (case ho => rfl); (case hg => rfl); (case hn => rfl); (case hr => go_simp <;> rfl); intro w15 hw; have hg : wr.grownBy w15 (some go13) := (by rw [hw]; exact HP14.2); have hp_ : Kd.R (Kd.int .i64) 3 w15 w.heap.size (fun _ => True) (.slice (some ⟨go13, 0, none⟩) x5_1.length co9) y236 := (by rw [hw, Ny236.1]; exact HP14.1); clear HP14; have n0_ := za0.mk (hp_); have n1_ := za0.mk (blk_grown (g := gb232) (o := .cells #[.slice A0_0 l0_0.length c0_0] 29 (0, 0)) (by (with_reducible repeat (first | refine zg0 ?_ _ | refine zj0 ?_ | refine zf0 ?_ _)); exact BK232.1) hg (Kd.R_ne HO_5.1 BK232.1 (by decide))); have n2_ := za0.mk ((by rw [hw]; exact ze0 (HB.1) GB13.1 : Below w.heap.size w w15)); clear HO_5; clear BK232; clear HB; have HO_5 := n0_; have BK232 := n1_; have HB := n2_; clear n0_ n1_ n2_; clear hg hw hp_)))
   (try simp only [← hl5_1])
   go_roundg k1
   case measure => have := HK1.1; omega
   case rel => exact ⟨(y236), (wrap64 (x17_1 + 1)), (by first | rfl | (simp; done) | (simp [*]; done)), H', ⟨by have := HK1.1; omega⟩, ⟨by (try simp only [hl5_1]); (with_reducible repeat (first | apply Kd.R_alloc | apply Kd.R_drewN | apply Kd.R_drew)); exact HO_5.1⟩, ⟨by (try simp only [hl5_1]); (with_reducible repeat (first | refine zg0 ?_ _ | refine zj0 ?_ | refine zf0 ?_ _)); exact BK232.1⟩, ⟨by repeat (first | exact HB.1 | apply zc0 | apply zb0 | apply zd0 | refine ze0 ?_ GE232.1)⟩⟩
  rw [if_neg c10] at H
  have c10b0 : decide (x17_1 < (y233.length : Int)) = false := decide_eq_false c10
  (try (have c10b0h := c10b0; simp only [hl5_1] at c10b0h))
  clear c10
  by_cases c16 : 0 ≤ a1
  rotate_left
  ·rw [if_neg c16] at H
   exact absurd H (by simp)
  rw [if_pos c16] at H
  have c16b0 : decide (0 ≤ a1) = true := decide_eq_true c16
  (try (have c16b0h := c16b0; simp only [hl5_1] at c16b0h))
  clear c16
  by_cases c17 : a1 < (x5_1.length : Int)
  rotate_left
  ·rw [if_neg c17] at H
   exact absurd H (by simp)
  rw [if_pos c17] at H
  have c17b0 : decide (a1 < (x5_1.length : Int)) = true := decide_eq_true c17
  (try (have c17b0h := c17b0; simp only [hl5_1] at c17b0h))
  clear c17
  obtain ⟨y237, hy237⟩ : ∃ y_ : List Int, y_ = (x5_1.set (a1 : Int).toNat 0) := ⟨_, rfl⟩
  replace H : (yb0.l1 k1 y237 (([a1] : List Int)) 0 l0_0) = some r := by first | (rw [hy237]; with_reducible exact H) | (have H2_ := (Option.bind_some _ _).symm.trans H; rw [hy237]; with_reducible exact H2_) | (have H2_ := (Option.bind_some _ _).symm.trans H; with_reducible exact H2_) | with_reducible exact H | (rw [hy237]; exact H) | exact H
  have Ny237 := za0.mk hy237
  clear hy237
  obtain ⟨y238, hy238⟩ : ∃ y_ : List Int, y_ = (([a1] : List Int)) := ⟨_, rfl⟩
  replace H : (yb0.l1 k1 y237 y238 0 l0_0) = some r := by first | (rw [hy238]; with_reducible exact H) | (have H2_ := (Option.bind_some _ _).symm.trans H; rw [hy238]; with_reducible exact H2_) | (have H2_ := (Option.bind_some _ _).symm.trans H; with_reducible exact H2_) | with_reducible exact H | (rw [hy238]; exact H) | exact H
  have Ny238 := za0.mk hy238
  clear hy238
  have H' := za0.mk H
  clear H
  have p18 : 0 ≤ (a1 : Int) := of_decide_eq_true (by assumption)
  have q18 : (a1 : Int) < ((x5_1.length : Int) : Int) := of_decide_eq_true (by assumption)
  obtain ⟨go18, co18, eo18, gb18, gl18, cl18, HG18⟩ := Kd.R_form HO_5.1 (by omega)
  (first | cases eo18 | (injection eo18 with ea_ en_ ec_; (first | subst ea_ | (injection ea_ with ea_; subst ea_)); subst ec_; clear en_))
  have GB18 := za0.mk gb18
  have GG18 := za0.mk HG18
  clear gb18 gl18 HG18
  obtain ⟨hx18_0, hf18_0⟩ := Kd.R_celln 0 HO_5.1 (a1 : Int) p18 q18
  replace p18 := eq_true p18
  replace q18 := eq_true q18
  have HP19 := Kd.R_putg HO_5.1 (a1 : Int) 0
  go_wp2_with (first | ((with_reducible refine gate_store (t := 3) (p := 26) rfl ?_); (try (rw [drewN_self wr]; generalize hq_ : World.drewN wr _ = wr; have n0_ := za0.mk (Kd.R_at hq_ HO_5.1); have n1_ := za0.mk (blk_at hq_ BK232.1); have n2_ := za0.mk (below_at hq_ HB.1); clear hq_ HO_5 BK232 HB; have HO_5 := n0_; have BK232 := n1_; have HB := n2_; clear n0_ n1_ n2_; (try (have HP19 := Kd.R_putg HO_5.1 (a1 : Int) 0)))); refine store_event (t := 3) (p := 26) (v := ?vo_w20) (w1 := (wr.setCell ⟨go18, (a1 : Int).toNat, none⟩ (.int .i64 0))) ?hg ?ho ?hn ?hr ?_; (case ho => rfl); (case hg => rfl); (case hn => rfl); (case hr => go_simp <;> rfl); intro w20 hw; have hg : wr.grownBy w20 (some go18) := (by rw [hw]; exact HP19.2); have hp_ : Kd.R (Kd.int .i64) 3 w20 w.heap.size (fun _ => True) (.slice (some ⟨go18, 0, none⟩) x5_1.length co9) y237 := (by rw [hw, Ny237.1]; exact HP19.1); clear HP19; have n0_ := za0.mk (hp_); have n1_ := za0.mk (blk_grown (g := gb232) (o := .cells #[.slice A0_0 l0_0.length c0_0] 29 (0, 0)) (by (with_reducible repeat (first | refine zg0 ?_ _ | refine zj0 ?_ | refine zf0 ?_ _)); exact BK232.1) hg (Kd.R_ne HO_5.1 BK232.1 (by decide))); have n2_ := za0.mk ((by rw [hw]; exact ze0 (HB.1) GB18.1 : Below w.heap.size w w20)); clear HO_5; clear BK232; clear HB; have HO_5 := n0_; have BK232 := n1_; have HB := n2_; clear n0_ n1_ n2_; clear hg hw hp_) | ((with_reducible refine zo0 (N := 28) rfl ?_); refine Kd.R_lit (Kd.int .i64) _ 3 ?hg (N := 28) ?hd (xs := ([a1] : List Int)) (inner := [.int .i64 a1]) (ok := fun _ => True) (okp := fun _ => True) ?hr ?hp (fun _ hk => hk) trivial (Below.refl _ _) (Nat.le_refl _) (by simp) ?_; (case hd | hg => rfl); (case hr => go_simp <;> rfl); (case hp => exact (Reps.one (show Kd.M (Kd.int .i64) _ _ _ a1 [.int .i64 a1] from rfl) (Reps.none _ _))); intro v239 w21 ho22 hb hg_ hnew_; clear hg_ hnew_; (first | rw [← Ny238.1] at ho22 | (simp only [Int.reduceToNat] at ho22; rw [← Ny238.1] at ho22)); have n0_ := za0.mk (Kd.R_elder' (by (with_reducible repeat (first | apply Kd.R_alloc | apply Kd.R_drewN | apply Kd.R_drew)); exact HO_5.1) (Kd.R_base ho22) hb); have n1_ := za0.mk (Kd.R_lower (Kd.R_new' ho22 (Kd.R_lt (by (with_reducible repeat (first | apply Kd.R_alloc | apply Kd.R_drewN | apply Kd.R_drew)); exact HO_5.1))) (zh0 (by repeat (first | exact HB.1 | apply zc0 | apply zb0 | apply zd0 | refine ze0 ?_ GE232.1)))); have n2_ := za0.mk (zm0 (g := gb232) (o := .cells #[.slice A0_0 l0_0.length c0_0] 29 (0, 0)) (by (with_reducible repeat (first | refine zg0 ?_ _ | refine zj0 ?_ | refine zf0 ?_ _)); exact BK232.1) hb); have n3_ := za0.mk (zi0 (by repeat (first | exact HB.1 | apply zc0 | apply zb0 | apply zd0 | refine ze0 ?_ GE232.1)) hb); clear HO_5; clear BK232; clear HB; have HO_5 := n0_; have HO240 := n1_; have BK232 := n2_; have HB := n3_; clear n0_ n1_ n2_ n3_; clear hb ho22))
  repeat (go_quiet (first | ((with_reducible refine gate_store (t := 3) (p := 26) rfl ?_); (try (rw [drewN_self wr]; generalize hq_ : World.drewN wr _ = wr; have n0_ := za0.mk (Kd.R_at hq_ HO_5.1); have n1_ := za0.mk (blk_at hq_ BK232.1); have n2_ := za0.mk (below_at hq_ HB.1); clear hq_ HO_5 BK232 HB; have HO_5 := n0_; have BK232 := n1_; have HB := n2_; clear n0_ n1_ n2_; (try (have HP19 := Kd.R_putg HO_5.1 (a1 : Int) 0)))); refine store_event (t := 3) (p := 26) (v := ?vo_w20) (w1 := (wr.setCell ⟨go18, (a1 : Int).toNat, none⟩ (.int .i64 0))) ?hg ?ho ?hn ?hr ?_; (case ho => rfl); (case hg => rfl); (case hn => rfl); (case hr => go_simp <;> rfl); intro w20 hw; have hg : wr.grownBy w20 (some go18) := (by rw [hw]; exact HP19.2); have hp_ : Kd.R (Kd.int .i64) 3 w20 w.heap.size (fun _ => True) (.slice (some ⟨go18, 0, none⟩) x5_1.length co9) y237 := (by rw [hw, Ny237.1]; exact HP19.1); clear HP19; have n0_ := za0.mk (hp_); have n1_ := za0.mk (blk_grown (g := gb232) (o := .cells #[.slice A0_0 l0_0.length c0_0] 29 (0, 0)) (by (with_reducible repeat (first | refine zg0 ?_ _ | refine zj0 ?_ | refine zf0 ?_ _)); exact BK232.1) hg (Kd.R_ne HO_5.1 BK232.1 (by decide))); have n2_ := za0.mk ((by rw [hw]; exact ze0 (HB.1) GB18.1 : Below w.heap.size w w20)); clear HO_5; clear BK232; clear HB; have HO_5 := n0_; have BK232 := n1_; have HB := n2_; clear n0_ n1_ n2_; clear hg hw hp_) | ((with_reducible refine zo0 (N := 28) rfl ?_); refine Kd.R_lit (Kd.int .i64) _ 3 ?hg (N := 28) ?hd (xs := ([a1] : List Int)) (inner := [.int .i64 a1]) (ok := fun _ => True) (okp := fun _ => True) ?hr ?hp (fun _ hk => hk) trivial (Below.refl _ _) (Nat.le_refl _) (by simp) ?_; (case hd | hg => rfl); (case hr => go_simp <;> rfl); (case hp => exact (Reps.one (show Kd.M (Kd.int .i64) _ _ _ a1 [.int .i64 a1] from rfl) (Reps.none _ _))); intro v239 w21 ho22 hb hg_ hnew_; clear hg_ hnew_; (first | rw [← Ny238.1] at ho22 | (simp only [Int.reduceToNat] at ho22; rw [← Ny238.1] at ho22)); have n0_ := za0.mk (Kd.R_elder' (by (with_reducible repeat (first | apply Kd.R_alloc | apply Kd.R_drewN | apply Kd.R_drew)); exact HO_5.1) (Kd.R_base ho22) hb); have n1_ := za0.mk (Kd.R_lower (Kd.R_new' ho22 (Kd.R_lt (by (with_reducible repeat (first | apply Kd.R_alloc | apply Kd.R_drewN | apply Kd.R_drew)); exact HO_5.1))) (zh0 (by repeat (first | exact HB.1 | apply zc0 | apply zb0 | apply zd0 | refine ze0 ?_ GE232.1)))); have n2_ := za0.mk (zm0 (g := gb232) (o := .cells #[.slice A0_0 l0_0.length c0_0] 29 (0, 0)) (by (with_reducible repeat (first | refine zg0 ?_ _ | refine zj0 ?_ | refine zf0 ?_ _)); exact BK232.1) hb); have n3_ := za0.mk (zi0 (by repeat (first | exact HB.1 | apply zc0 | apply zb0 | apply zd0 | refine ze0 ?_ GE232.1)) hb); clear HO_5; clear BK232; clear HB; have HO_5 := n0_; have HO240 := n1_; have BK232 := n2_; have HB := n3_; clear n0_ n1_ n2_ n3_; clear hb ho22)); try go_wp2_with (first | ((with_reducible refine gate_store (t := 3) (p := 26) rfl ?_); (try (rw [drewN_self wr]; generalize hq_ : World.drewN wr _ = wr; have n0_ := za0.mk (Kd.R_at hq_ HO_5.1); have n1_ := za0.mk (blk_at hq_ BK232.1); have n2_ := za0.mk (below_at hq_ HB.1); clear hq_ HO_5 BK232 HB; have HO_5 := n0_; have BK232 := n1_; have HB := n2_; clear n0_ n1_ n2_; (try (have HP19 := Kd.R_putg HO_5.1 (a1 : Int) 0)))); refine store_event (t := 3) (p := 26) (v := ?vo_w20) (w1 := (wr.setCell ⟨go18, (a1 : Int).toNat, none⟩ (.int .i64 0))) ?hg ?ho ?hn ?hr ?_; (case ho => rfl); (case hg => rfl); (case hn => rfl); (case hr => go_simp <;> rfl); intro w20 hw; have hg : wr.grownBy w20 (some go18) := (by rw [hw]; exact HP19.2); have hp_ : Kd.R (Kd.int .i64) 3 w20 w.heap.size (fun _ => True) (.slice (some ⟨go18, 0, none⟩) x5_1.length co9) y237 := (by rw [hw, Ny237.1]; exact HP19.1); clear HP19; have n0_ := za0.mk (hp_); have n1_ := za0.mk (blk_grown (g := gb232) (o := .cells #[.slice A0_0 l0_0.length c0_0] 29 (0, 0)) (by (with_reducible repeat (first | refine zg0 ?_ _ | refine zj0 ?_ | refine zf0 ?_ _)); exact BK232.1) hg (Kd.R_ne HO_5.1 BK232.1 (by decide))); have n2_ := za0.mk ((by rw [hw]; exact ze0 (HB.1) GB18.1 : Below w.heap.size w w20)); clear HO_5; clear BK232; clear HB; have HO_5 := n0_; have BK232 := n1_; have HB := n2_; clear n0_ n1_ n2_; clear hg hw hp_) | ((with_reducible refine zo0 (N := 28) rfl ?_); refine Kd.R_lit (Kd.int .i64) _ 3 ?hg (N := 28) ?hd (xs := ([a1] : List Int)) (inner := [.int .i64 a1]) (ok := fun _ => True) (okp := fun _ => True) ?hr ?hp (fun _ hk => hk) trivial (Below.refl _ _) (Nat.le_refl _) (by simp) ?_; (case hd | hg => rfl); (case hr => go_simp <;> rfl); (case hp => exact (Reps.one (show Kd.M (Kd.int .i64) _ _ _ a1 [.int .i64 a1] from rfl) (Reps.none _ _))); intro v239 w21 ho22 hb hg_ hnew_; clear hg_ hnew_; (first | rw [← Ny238.1] at ho22 | (simp only [Int.reduceToNat] at ho22; rw [← Ny238.1] at ho22)); have n0_ := za0.mk (Kd.R_elder' (by (with_reducible repeat (first | apply Kd.R_alloc | apply Kd.R_drewN | apply Kd.R_drew)); exact HO_5.1) (Kd.R_base ho22) hb); have n1_ := za0.mk (Kd.R_lower (Kd.R_new' ho22 (Kd.R_lt (by (with_reducible repeat (first | apply Kd.R_alloc | apply Kd.R_drewN | apply Kd.R_drew)); exact HO_5.1))) (zh0 (by repeat (first | exact HB.1 | apply zc0 | apply zb0 | apply zd0 | refine ze0 ?_ GE232.1)))); have n2_ := za0.mk (zm0 (g := gb232) (o := .cells #[.slice A0_0 l0_0.length c0_0] 29 (0, 0)) (by (with_reducible repeat (first | refine zg0 ?_ _ | refine zj0 ?_ | refine zf0 ?_ _)); exact BK232.1) hb); have n3_ := za0.mk (zi0 (by repeat (first | exact HB.1 | apply zc0 | apply zb0 | apply zd0 | refine ze0 ?_ GE232.1)) hb); clear HO_5; clear BK232; clear HB; have HO_5 := n0_; have HO240 := n1_; have BK232 := n2_; have HB := n3_; clear n0_ n1_ n2_ n3_; clear hb ho22)))
  go_loopg [7, 8] k1 (fun kq v7 v8 w' => ∃ (x5_2 : List Int) (x7_2 : List Int) (x8_2 : Int), v8 = .int .i64 x8_2 ∧ za0 (yb0.l1 kq x5_2 x7_2 x8_2 l0_0 = some r) ∧ za0 (kq ≤ k1) ∧ za0 (Kd.R (Kd.int .i64) 3 w' w.heap.size (fun k_ => some k_ ≠ (v7 : Value).ownBlock) (.slice (some ⟨go18, 0, none⟩) x5_1.length co9) x5_2) ∧ za0 (Kd.R (Kd.int .i64) 3 w' w.heap.size (fun k_ => some k_ ≠ ((.slice (some ⟨go18, 0, none⟩) x5_1.length co9) : Value).ownBlock) v7 x7_2) ∧ za0 (w'.heap[gb232]? = some (.cells #[(.slice A0_0 l0_0.length c0_0)] 29 (0, 0))) ∧ za0 (Below w.heap.size w w'))
  case atStart => exact ⟨(y237), (y238), (0), (by first | rfl | (simp; done) | (simp [*]; done)), H', ⟨Nat.le_refl _⟩, ⟨by (try simp only [hl5_1]); (with_reducible repeat (first | apply Kd.R_alloc | apply Kd.R_drewN | apply Kd.R_drew)); exact Kd.R_mono HO_5.1 (fun _ hk => hk.2)⟩, ⟨by (try simp only [hl5_1]); (with_reducible repeat (first | apply Kd.R_alloc | apply Kd.R_drewN | apply Kd.R_drew)); exact Kd.R_mono HO240.1 (fun _ hk => hk.2)⟩, ⟨by (try simp only [hl5_1]); (with_reducible repeat (first | refine zg0 ?_ _ | refine zj0 ?_ | refine zf0 ?_ _)); exact BK232.1⟩, ⟨by repeat (first | exact HB.1 | apply zc0 | apply zb0 | apply zd0 | refine ze0 ?_ GE232.1)⟩⟩
  case round =>
   clear H'
   try clear c1
   try clear p1
   try clear q1
   try clear hx1
   try clear p2
   try clear c3
   try clear c3b0
   try clear c3b1
   try clear c4
   try clear c4b0
   try clear c4b1
   try clear p6
   try clear c8
   try clear c10
   try clear c10b0
   try clear c11
   try clear c11b0
   try clear c12
   try clear c12b0
   try clear p13
   try clear q13
   try clear hx13
   try clear hf13
   try clear c16
   try clear c16b0
   try clear c17
   try clear c17b0
   try clear p18
   try clear q18
   try clear hx18
   try clear hf18
   try clear hcz6_0
   try clear hfz6_0
   try clear hx13_0
   try clear hx18_0
   try clear p13
   try clear p18
   try clear p2
   try clear q13
   try clear q18
   obtain ⟨x5_2, x7_2, x8_2, rfl, HA, HK2, HO_5, HO_7, BK232, HB⟩ := hrel
   have hl5_2 := (Kd.R_reads' HO_5.1).1
   rw [hl5_2] at HO_5
   (try simp only [hl5_2])
   (try simp only [hl5_2] at BK232)
   (try simp only [hl5_2] at HO_7)
   obtain _ | k2 := gk
   ·exact absurd HA.1 (by simp [yb0.l1])
   have H := HA.1
   clear HA
   simp only [yb0.l1] at H
   by_cases c23 : x8_2 < (x7_2.length : Int)
   rotate_left
   ·rw [if_neg c23] at H
    have c23b0 : decide (x8_2 < (x7_2.length : Int)) = false := decide_eq_false c23
    (try (have c23b0h := c23b0; simp only [hl5_1, hl5_2] at c23b0h))
    clear c23
    obtain rfl := Option.some.inj H
    obtain ⟨Ao45, co45, eo45⟩ := Kd.R_slice HO_7.1
    subst eo45
    go_wp2
    repeat (go_quiet (fail); try go_wp2)
    go_ret
    exact ⟨_, by first | rfl | (simp [errW_none, errW_some] <;> rfl) | (simp [*, errW_none, errW_some] <;> rfl), by (with_reducible repeat (first | apply Kd.R_alloc | apply Kd.R_drewN | apply Kd.R_drew)); exact Kd.R_mono HO_5.1 (fun _ hk => trivial), by repeat (first | exact HB.1 | apply zc0 | apply zb0 | apply zd0 | refine ze0 ?_ GE232.1)⟩
   rw [if_pos c23] at H
   have c23b0 : decide (x8_2 < (x7_2.length : Int)) = true := decide_eq_true c23
   (try (have c23b0h := c23b0; simp only [hl5_1, hl5_2] at c23b0h))
   clear c23
   by_cases c24 : 0 ≤ x8_2
   rotate_left
   ·rw [if_neg c24] at H
    exact absurd H (by simp)
   rw [if_pos c24] at H
   have c24b0 : decide (0 ≤ x8_2) = true := decide_eq_true c24
   (try (have c24b0h := c24b0; simp only [hl5_1, hl5_2] at c24b0h))
   clear c24
   by_cases c25 : 0 ≤ (rd x7_2 x8_2)
   rotate_left
   ·rw [if_neg c25] at H
    exact absurd H (by simp)
   rw [if_pos c25] at H
   have c25b0 : decide (0 ≤ (rd x7_2 x8_2)) = true := decide_eq_true c25
   (try (have c25b0h := c25b0; simp only [hl5_1, hl5_2] at c25b0h))
   clear c25
   by_cases c26 : (rd x7_2 x8_2) < (l0_0.length : Int)
   rotate_left
   ·rw [if_neg c26] at H
    exact absurd H (by simp)
   rw [if_pos c26] at H
   have c26b0 : decide ((rd x7_2 x8_2) < (l0_0.length : Int)) = true := decide_eq_true c26
   (try (have c26b0h := c26b0; simp only [hl5_1, hl5_2] at c26b0h))
   clear c26
   have H' := za0.mk H
   clear H
   obtain ⟨Ao27, co27, eo27⟩ := Kd.R_slice HO_7.1
   subst eo27
   have hcz28_0 : wr.cell? ⟨gb232, 0, none⟩ = some (.slice A0_0 l0_0.length c0_0) := (zl0 BK232.1 0).trans rfl
   have hfz28_0 := zk0 BK232.1 0
   have p241 : 0 ≤ (x8_2 : Int) := of_decide_eq_true (by assumption)
   have q241 : x8_2 < (x7_2.length : Int) := of_decide_eq_true (by assumption)
   obtain ⟨ad241, e241, hx241_0⟩ := Kd.at_int (Kd.R_reads' HO_7.1).2.2 x8_2 p241 q241
   cases e241
   replace p241 := eq_true p241
   replace q241 := eq_true q241
   have p242 : 0 ≤ ((rd x7_2 x8_2) : Int) := of_decide_eq_true (by assumption)
   have q242 : (rd x7_2 x8_2) < (l0_0.length : Int) := of_decide_eq_true (by assumption)
   obtain ⟨ad242, A242_0, c242_0, e242, hx242_0, hl242_0, hi242_0⟩ := at_L1 HR0_0.1 (rd x7_2 x8_2) p242 q242
   cases e242
   replace hx242_0 := (HB.1.cell (World.block_lt_of_cell? w _ hx242_0)).trans hx242_0
   have HR242_0 := za0.mk hi242_0
   have HC242_0 := za0.mk hl242_0
   clear hi242_0 hl242_0
   replace p242 := eq_true p242
   replace q242 := eq_true q242
   go_wp2
   repeat (go_quiet (fail); try go_wp2)
   go_loopg [7, 44] k2 (fun kq v7 v44 w' => ∃ (x5_3 : List Int) (x7_3 : List Int) (x44_3 : Int), v44 = .int .i64 x44_3 ∧ za0 (yb0.l2 kq x5_3 x7_3 x8_2 (rd_L1 l0_0 (rd x7_2 x8_2)) ((rd_L1 l0_0 (rd x7_2 x8_2)).length : Int) x44_3 l0_0 = some r) ∧ za0 (kq ≤ k2) ∧ za0 (Kd.R (Kd.int .i64) 3 w' w.heap.size (fun k_ => some k_ ≠ (v7 : Value).ownBlock) (.slice (some ⟨go18, 0, none⟩) x5_2.length co9) x5_3) ∧ za0 (Kd.R (Kd.int .i64) 3 w' w.heap.size (fun k_ => some k_ ≠ ((.slice (some ⟨go18, 0, none⟩) x5_2.length co9) : Value).ownBlock) v7 x7_3) ∧ za0 (w'.heap[gb232]? = some (.cells #[(.slice (some ad242) l0_0.length c0_0)] 29 (0, 0))) ∧ za0 (Below w.heap.size w w'))
   case atStart => exact ⟨(x5_2), (x7_2), (0), (by first | rfl | (simp; done) | (simp [*]; done)), H', ⟨Nat.le_refl _⟩, ⟨by (try simp only [hl5_1]); (try simp only [hl5_2]); (with_reducible repeat (first | apply Kd.R_alloc | apply Kd.R_drewN | apply Kd.R_drew)); exact HO_5.1⟩, ⟨by (try simp only [hl5_1]); (try simp only [hl5_2]); (with_reducible repeat (first | apply Kd.R_alloc | apply Kd.R_drewN | apply Kd.R_drew)); exact HO_7.1⟩, ⟨by (try simp only [hl5_1]); (try simp only [hl5_2]); (with_reducible repeat (first | refine zg0 ?_ _ | refine zj0 ?_ | refine zf0 ?_ _)); exact BK232.1⟩, ⟨by repeat (first | exact HB.1 | apply zc0 | apply zb0 | apply zd0 | refine ze0 ?_ GE232.1)⟩⟩
   case round =>
    clear H'
    try clear c1
    try clear p1
    try clear q1
    try clear hx1
    try clear c2
    try clear p2
    try clear q2
    try clear hx2
    try clear c3
    try clear c3b0
    try clear c3b1
    try clear c4
    try clear c4b0
    try clear c4b1
    try clear p6
    try clear c8
    try clear c10
    try clear c10b0
    try clear c11
    try clear c11b0
    try clear c12
    try clear c12b0
    try clear p13
    try clear q13
    try clear hx13
    try clear hf13
    try clear c16
    try clear c16b0
    try clear c17
    try clear c17b0
    try clear p18
    try clear q18
    try clear hx18
    try clear hf18
    try clear c23
    try clear c23b0
    try clear c24
    try clear c24b0
    try clear p24
    try clear q24
    try clear hx24
    try clear c25
    try clear c25b0
    try clear c26
    try clear c26b0
    try clear hcz28_0
    try clear hcz6_0
    try clear hfz28_0
    try clear hfz6_0
    try clear hx13_0
    try clear hx18_0
    try clear hx241_0
    try clear hx242_0
    try clear p1
    try clear p13
    try clear p18
    try clear p2
    try clear p241
    try clear p242
    try clear p6
    try clear q1
    try clear q13
    try clear q18
    try clear q241
    try clear q242
    obtain ⟨x5_3, x7_3, x44_3, rfl, HA, HK3, HO_5, HO_7, BK232, HB⟩ := hrel
    have hl5_3 := (Kd.R_reads' HO_5.1).1
    rw [hl5_3] at HO_5
    (try simp only [hl5_3])
    (try simp only [hl5_3] at BK232)
    (try simp only [hl5_3] at HO_7)
    obtain _ | k3 := gk
    ·exact absurd HA.1 (by simp [yb0.l2])
    have H := HA.1
    clear HA
    simp only [yb0.l2] at H
    by_cases c29 : x44_3 < ((rd_L1 l0_0 (rd x7_2 x8_2)).length : Int)
    rotate_left
    ·rw [if_neg c29] at H
     have c29b0 : decide (x44_3 < ((rd_L1 l0_0 (rd x7_2 x8_2)).length : Int)) = false := decide_eq_false c29
     (try (have c29b0h := c29b0; simp only [hl5_1, hl5_2, hl5_3] at c29b0h))
     clear c29
     have H' := za0.mk H
     clear H
     go_wp2
     repeat (go_quiet (fail); try go_wp2)
     (try simp only [← hl5_2, ← hl5_3])
     go_roundg k3
     case measure => have := HK1.1; have := HK2.1; have := HK3.1; omega
     case rel => exact ⟨(x5_3), (x7_3), (wrap64 (x8_2 + 1)), (by first | rfl | (simp; done) | (simp [*]; done)), H', ⟨by have := HK1.1; have := HK2.1; have := HK3.1; omega⟩, ⟨by (try simp only [hl5_1]); (try simp only [hl5_2]); (try simp only [hl5_3]); (with_reducible repeat (first | apply Kd.R_alloc | apply Kd.R_drewN | apply Kd.R_drew)); exact HO_5.1⟩, ⟨by (try simp only [hl5_1]); (try simp only [hl5_2]); (try simp only [hl5_3]); (with_reducible repeat (first | apply Kd.R_alloc | apply Kd.R_drewN | apply Kd.R_drew)); exact HO_7.1⟩, ⟨by (try simp only [hl5_1]); (try simp only [hl5_2]); (try simp only [hl5_3]); (with_reducible repeat (first | refine zg0 ?_ _ | refine zj0 ?_ | refine zf0 ?_ _)); exact BK232.1⟩, ⟨by repeat (first | exact HB.1 | apply zc0 | apply zb0 | apply zd0 | refine ze0 ?_ GE232.1)⟩⟩
    rw [if_pos c29] at H
    have c29b0 : decide (x44_3 < ((rd_L1 l0_0 (rd x7_2 x8_2)).length : Int)) = true := decide_eq_true c29
    (try (have c29b0h := c29b0; simp only [hl5_1, hl5_2, hl5_3] at c29b0h))
    clear c29
    by_cases c30 : 0 ≤ x44_3
    rotate_left
    ·rw [if_neg c30] at H
     exact absurd H (by simp)
    rw [if_pos c30] at H
    have c30b0 : decide (0 ≤ x44_3) = true := decide_eq_true c30
    (try (have c30b0h := c30b0; simp only [hl5_1, hl5_2, hl5_3] at c30b0h))
    clear c30
    by_cases c31 : x44_3 < ((rd_L1 l0_0 (rd x7_2 x8_2)).length : Int)
    rotate_left
    ·rw [if_neg c31] at H
     exact absurd H (by simp)
    rw [if_pos c31] at H
    have c31b0 : decide (x44_3 < ((rd_L1 l0_0 (rd x7_2 x8_2)).length : Int)) = true := decide_eq_true c31
    (try (have c31b0h := c31b0; simp only [hl5_1, hl5_2, hl5_3] at c31b0h))
    clear c31
    by_cases c32 : 0 ≤ (rd (rd_L1 l0_0 (rd x7_2 x8_2)) x44_3)
    rotate_left
    ·rw [if_neg c32] at H
     exact absurd H (by simp)
    rw [if_pos c32] at H
    have c32b0 : decide (0 ≤ (rd (rd_L1 l0_0 (rd x7_2 x8_2)) x44_3)) = true := decide_eq_true c32
    (try (have c32b0h := c32b0; simp only [hl5_1, hl5_2, hl5_3] at c32b0h))
    clear c32
    by_cases c33 : (rd (rd_L1 l0_0 (rd x7_2 x8_2)) x44_3) < (x5_3.length : Int)
    rotate_left
    ·rw [if_neg c33] at H
     exact absurd H (by simp)
    rw [if_pos c33] at H
    have c33b0 : decide ((rd (rd_L1 l0_0 (rd x7_2 x8_2)) x44_3) < (x5_3.length : Int)) = true := decide_eq_true c33
    (try (have c33b0h := c33b0; simp only [hl5_1, hl5_2, hl5_3] at c33b0h))
    clear c33
    by_cases c34 : (rd x5_3 (rd (rd_L1 l0_0 (rd x7_2 x8_2)) x44_3)) < 0
    rotate_left
    ·rw [if_neg c34] at H
     have c34b0 : decide ((rd x5_3 (rd (rd_L1 l0_0 (rd x7_2 x8_2)) x44_3)) < 0) = false := decide_eq_false c34
     (try (have c34b0h := c34b0; simp only [hl5_1, hl5_2, hl5_3] at c34b0h))
     clear c34
     have H' := za0.mk H
     clear H
     have p243 : 0 ≤ (x44_3 : Int) := of_decide_eq_true (by assumption)
     have q243 : x44_3 < ((rd_L1 l0_0 (rd x7_2 x8_2)).length : Int) := of_decide_eq_true (by assumption)
     obtain ⟨ad243, e243, hx243_0⟩ := Kd.at_int HR242_0.1 x44_3 p243 q243
     cases e243
     replace hx243_0 := (HB.1.cell (World.block_lt_of_cell? w _ hx243_0)).trans hx243_0
     replace p243 := eq_true p243
     replace q243 := eq_true q243
     have p244 : 0 ≤ ((rd (rd_L1 l0_0 (rd x7_2 x8_2)) x44_3) : Int) := of_decide_eq_true (by assumption)
     have q244 : (rd (rd_L1 l0_0 (rd x7_2 x8_2)) x44_3) < (x5_3.length : Int) := of_decide_eq_true (by assumption)
     obtain ⟨ad244, e244, hx244_0⟩ := Kd.at_int (Kd.R_reads' HO_5.1).2.2 (rd (rd_L1 l0_0 (rd x7_2 x8_2)) x44_3) p244 q244
     obtain rfl : (⟨go18, 0, none⟩ : Addr) = ad244 := (by injection e244)
     (first | simp only [add_plain] at hx244_0 | simp only [add_at] at hx244_0 | simp only [Addr.add, Nat.zero_add] at hx244_0 | skip)
     replace p244 := eq_true p244
     replace q244 := eq_true q244
     go_wp2
     repeat (go_quiet (fail); try go_wp2)
     (try simp only [← hl5_3])
     go_roundg k3
     case measure => have := HK1.1; have := HK2.1; have := HK3.1; omega
     case rel => exact ⟨(x5_3), (x7_3), (wrap64 (x44_3 + 1)), (by first | rfl | (simp; done) | (simp [*]; done)), H', ⟨by have := HK1.1; have := HK2.1; have := HK3.1; omega⟩, ⟨by (try simp only [hl5_1]); (try simp only [hl5_2]); (try simp only [hl5_3]); (with_reducible repeat (first | apply Kd.R_alloc | apply Kd.R_drewN | apply Kd.R_drew)); exact HO_5.1⟩, ⟨by (try simp only [hl5_1]); (try simp only [hl5_2]); (try simp only [hl5_3]); (with_reducible repeat (first | apply Kd.R_alloc | apply Kd.R_drewN | apply Kd.R_drew)); exact HO_7.1⟩, ⟨by (try simp only [hl5_1]); (try simp only [hl5_2]); (try simp only [hl5_3]); (with_reducible repeat (first | refine zg0 ?_ _ | refine zj0 ?_ | refine zf0 ?_ _)); exact BK232.1⟩, ⟨by repeat (first | exact HB.1 | apply zc0 | apply zb0 | apply zd0 | refine ze0 ?_ GE232.1)⟩⟩
    rw [if_pos c34] at H
    have c34b0 : decide ((rd x5_3 (rd (rd_L1 l0_0 (rd x7_2 x8_2)) x44_3)) < 0) = true := decide_eq_true c34
    (try (have c34b0h := c34b0; simp only [hl5_1, hl5_2, hl5_3] at c34b0h))
    clear c34
    by_cases c35 : 0 ≤ x8_2
    rotate_left
    ·rw [if_neg c35] at H
     exact absurd H (by simp)
    rw [if_pos c35] at H
    have c35b0 : decide (0 ≤ x8_2) = true := decide_eq_true c35
    (try (have c35b0h := c35b0; simp only [hl5_1, hl5_2, hl5_3] at c35b0h))
    clear c35
    by_cases c36 : x8_2 < (x7_3.length : Int)
    rotate_left
    ·rw [if_neg c36] at H
     exact absurd H (by simp)
    rw [if_pos c36] at H
    have c36b0 : decide (x8_2 < (x7_3.length : Int)) = true := decide_eq_true c36
    (try (have c36b0h := c36b0; simp only [hl5_1, hl5_2, hl5_3] at c36b0h))
    clear c36
    by_cases c37 : 0 ≤ (rd x7_3 x8_2)
    rotate_left
    ·rw [if_neg c37] at H
     exact absurd H (by simp)
    rw [if_pos c37] at H
    have c37b0 : decide (0 ≤ (rd x7_3 x8_2)) = true := decide_eq_true c37
    (try (have c37b0h := c37b0; simp only [hl5_1, hl5_2, hl5_3] at c37b0h))
    clear c37
    by_cases c38 : (rd x7_3 x8_2) < (x5_3.length : Int)
    rotate_left
    ·rw [if_neg c38] at H
     exact absurd H (by simp)
    rw [if_pos c38] at H
    have c38b0 : decide ((rd x7_3 x8_2) < (x5_3.length : Int)) = true := decide_eq_true c38
    (try (have c38b0h := c38b0; simp only [hl5_1, hl5_2, hl5_3] at c38b0h))
    clear c38
    obtain ⟨y247, hy247⟩ : ∃ y_ : List Int, y_ = (x5_3.set ((rd (rd_L1 l0_0 (rd x7_2 x8_2)) x44_3) : Int).toNat (wrap64 ((rd x5_3 (rd x7_3 x8_2)) + 1))) := ⟨_, rfl⟩
    replace H : (if x7_3.length < 17592186044416 then (yb0.l2 k3 y247 (x7_3 ++ [rd (rd_L1 l0_0 (rd x7_2 x8_2)) x44_3]) x8_2 (rd_L1 l0_0 (rd x7_2 x8_2)) ((rd_L1 l0_0 (rd x7_2 x8_2)).length : Int) (wrap64 (x44_3 + 1)) l0_0) else (none)) = some r := by first | (rw [hy247]; with_reducible exact H) | (have H2_ := (Option.bind_some _ _).symm.trans H; rw [hy247]; with_reducible exact H2_) | (have H2_ := (Option.bind_some _ _).symm.trans H; with_reducible exact H2_) | with_reducible exact H | (rw [hy247]; exact H) | exact H
    have Ny247 := za0.mk hy247
    clear hy247
    by_cases c40 : x7_3.length < 17592186044416
    rotate_left
    ·rw [if_neg c40] at H
     exact absurd H (by simp)
    rw [if_pos c40] at H
    have LMc40 := za0.mk c40
    clear c40
    obtain ⟨y248, hy248⟩ : ∃ y_ : List Int, y_ = (x7_3 ++ [rd (rd_L1 l0_0 (rd x7_2 x8_2)) x44_3]) := ⟨_, rfl⟩
    replace H : (yb0.l2 k3 y247 y248 x8_2 (rd_L1 l0_0 (rd x7_2 x8_2)) ((rd_L1 l0_0 (rd x7_2 x8_2)).length : Int) (wrap64 (x44_3 + 1)) l0_0) = some r := by first | (rw [hy248]; with_reducible exact H) | (have H2_ := (Option.bind_some _ _).symm.trans H; rw [hy248]; with_reducible exact H2_) | (have H2_ := (Option.bind_some _ _).symm.trans H; with_reducible exact H2_) | with_reducible exact H | (rw [hy248]; exact H) | exact H
    have Ny248 := za0.mk hy248
    clear hy248
    have H' := za0.mk H
    clear H
    have p243 : 0 ≤ (x44_3 : Int) := of_decide_eq_true (by assumption)
    have q243 : x44_3 < ((rd_L1 l0_0 (rd x7_2 x8_2)).length : Int) := of_decide_eq_true (by assumption)
    obtain ⟨ad243, e243, hx243_0⟩ := Kd.at_int HR242_0.1 x44_3 p243 q243
    cases e243
    replace hx243_0 := (HB.1.cell (World.block_lt_of_cell? w _ hx243_0)).trans hx243_0
    replace p243 := eq_true p243
    replace q243 := eq_true q243
    have p244 : 0 ≤ ((rd (rd_L1 l0_0 (rd x7_2 x8_2)) x44_3) : Int) := of_decide_eq_true (by assumption)
    have q244 : (rd (rd_L1 l0_0 (rd x7_2 x8_2)) x44_3) < (x5_3.length : Int) := of_decide_eq_true (by assumption)
    obtain ⟨ad244, e244, hx244_0⟩ := Kd.at_int (Kd.R_reads' HO_5.1).2.2 (rd (rd_L1 l0_0 (rd x7_2 x8_2)) x44_3) p244 q244
    obtain rfl : (⟨go18, 0, none⟩ : Addr) = ad244 := (by injection e244)
    (first | simp only [add_plain] at hx244_0 | simp only [add_at] at hx244_0 | simp only [Addr.add, Nat.zero_add] at hx244_0 | skip)
    replace p244 := eq_true p244
    replace q244 := eq_true q244
    obtain ⟨Ao41, co41, eo41⟩ := Kd.R_slice HO_7.1
    subst eo41
    have p245 : 0 ≤ (x8_2 : Int) := of_decide_eq_true (by assumption)
    have q245 : x8_2 < (x7_3.length : Int) := of_decide_eq_true (by assumption)
    obtain ⟨ad245, e245, hx245_0⟩ := Kd.at_int (Kd.R_reads' HO_7.1).2.2 x8_2 p245 q245
    cases e245
    replace p245 := eq_true p245
    replace q245 := eq_true q245
    have p246 : 0 ≤ ((rd x7_3 x8_2) : Int) := of_decide_eq_true (by assumption)
    have q246 : (rd x7_3 x8_2) < (x5_3.length : Int) := of_decide_eq_true (by assumption)
    obtain ⟨ad246, e246, hx246_0⟩ := Kd.at_int (Kd.R_reads' HO_5.1).2.2 (rd x7_3 x8_2) p246 q246
    obtain rfl : (⟨go18, 0, none⟩ : Addr) = ad246 := (by injection e246)
    (first | simp only [add_plain] at hx246_0 | simp only [add_at] at hx246_0 | simp only [Addr.add, Nat.zero_add] at hx246_0 | skip)
    replace p246 := eq_true p246
    replace q246 := eq_true q246
    have p39 : 0 ≤ ((rd (rd_L1 l0_0 (rd x7_2 x8_2)) x44_3) : Int) := of_decide_eq_true (by assumption)
    have q39 : ((rd (rd_L1 l0_0 (rd x7_2 x8_2)) x44_3) : Int) < ((x5_3.length : Int) : Int) := of_decide_eq_true (by assumption)
    obtain ⟨hx39_0, hf39_0⟩ := Kd.R_celln 0 HO_5.1 ((rd (rd_L1 l0_0 (rd x7_2 x8_2)) x44_3) : Int) p39 q39
    replace p39 := eq_true p39
    replace q39 := eq_true q39
    have HP42 := Kd.R_putg HO_5.1 ((rd (rd_L1 l0_0 (rd x7_2 x8_2)) x44_3) : Int) (wrap64 ((rd x5_3 (rd x7_3 x8_2)) + 1))
    go_wp2_with (first | ((with_reducible refine gate_store (t := 3) (p := 63) rfl ?_); (try (rw [drewN_self wr]; generalize hq_ : World.drewN wr _ = wr; have n0_ := za0.mk (Kd.R_at hq_ HO_5.1); have n1_ := za0.mk (Kd.R_at hq_ HO_7.1); have n2_ := za0.mk (blk_at hq_ BK232.1); have n3_ := za0.mk (below_at hq_ HB.1); clear hq_ HO_5 HO_7 BK232 HB; have HO_5 := n0_; have HO_7 := n1_; have BK232 := n2_; have HB := n3_; clear n0_ n1_ n2_ n3_; (try (have HP42 := Kd.R_putg HO_5.1 ((rd (rd_L1 l0_0 (rd x7_2 x8_2)) x44_3) : Int) (wrap64 ((rd x5_3 (rd x7_3 x8_2)) + 1)))))); refine store_event (t := 3) (p := 63) (v := ?vo_w43) (w1 := (wr.setCell ⟨go18, ((rd (rd_L1 l0_0 (rd x7_2 x8_2)) x44_3) : Int).toNat, none⟩ (.int .i64 (wrap64 ((rd x5_3 (rd x7_3 x8_2)) + 1))))) ?hg ?ho ?hn ?hr ?_; (case ho => rfl); (case hg => rfl); (case hn => rfl); (case hr => go_simp <;> rfl); intro w43 hw; have hg : wr.grownBy w43 (some go18) := (by rw [hw]; exact HP42.2); have hp_ : Kd.R (Kd.int .i64) 3 w43 w.heap.size (fun k_ => some k_ ≠ (.slice (some ad245) x7_3.length co41 : Value).ownBlock) (.slice (some ⟨go18, 0, none⟩) x5_3.length co9) y247 := (by rw [hw, Ny247.1]; exact HP42.1); clear HP42; have n0_ := za0.mk (hp_); have n1_ := za0.mk (Kd.R_after (v := (.slice (some ⟨go18, 0, none⟩) x5_3.length co9)) (v1 := (.slice (some ⟨go18, 0, none⟩) x5_3.length co9)) (ok := (fun _ => True)) (by (with_reducible repeat (first | apply Kd.R_alloc | apply Kd.R_drewN | apply Kd.R_drew)); exact Kd.R_mono HO_7.1 (fun _ hk => ⟨trivial, hk⟩)) hg (.inl rfl)); have n2_ := za0.mk (blk_grown (g := gb232) (o := .cells #[.slice (some ad242) l0_0.length c0_0] 29 (0, 0)) (by (with_reducible repeat (first | refine zg0 ?_ _ | refine zj0 ?_ | refine zf0 ?_ _)); exact BK232.1) hg (Kd.R_ne HO_5.1 BK232.1 (by decide))); have n3_ := za0.mk ((by rw [hw]; exact ze0 (HB.1) GB18.1 : Below w.heap.size w w43)); clear HO_5; clear HO_7; clear BK232; clear HB; have HO_5 := n0_; have HO_7 := n1_; have BK232 := n2_; have HB := n3_; clear n0_ n1_ n2_ n3_; clear hg hw hp_) | ((with_reducible refine gate_builtin (b := .append) (xs := #[.tmp 64, .tmp 66]) rfl ?_); at_builtin; refine Kd.R_append (Kd.int .i64) (w0 := w) w.heap.size rfl (.tmp 64) (.tmp 66) 25 3 (.int .i64 0) 8 rfl Try.underlying25 info3 rfl (by decide) (by omega) (.slice (some ad245) x7_3.length co41) x7_3 (rd (rd_L1 l0_0 (rd x7_2 x8_2)) x44_3) [.int .i64 (rd (rd_L1 l0_0 (rd x7_2 x8_2)) x44_3)] (fun k_ => some k_ ≠ (.slice (some ⟨go18, 0, none⟩) x5_3.length co9 : Value).ownBlock) (fun _ => False) rfl rfl ?aP (fun _ hk => hk.elim) ?aF ?aO ?aB ?aS ?aL ?_; (case aP => exact rfl); (case aB => exact (by repeat (first | exact HB.1 | apply zc0 | apply zb0 | apply zd0 | refine ze0 ?_ GE232.1))); (case aF => exact (fun k_ hk => Kd.fresh' (Kd.R_lt (by (with_reducible repeat (first | apply Kd.R_alloc | apply Kd.R_drewN | apply Kd.R_drew)); exact HO_5.1)) k_ hk)); (case aO => exact (by (with_reducible repeat (first | apply Kd.R_alloc | apply Kd.R_drewN | apply Kd.R_drew)); exact Kd.R_mono HO_7.1 (fun _ hk => hk.2))); (case aS => exact (zh0 (by repeat (first | exact HB.1 | apply zc0 | apply zb0 | apply zd0 | refine ze0 ?_ GE232.1)))); (case aL => have := LMc40.1; omega); intro v249 w44 ho hb hg hat; rw [← Ny248.1] at ho; have n0_ := za0.mk (Kd.R_after (ok := (fun _ => True)) (by (with_reducible repeat (first | apply Kd.R_alloc | apply Kd.R_drewN | apply Kd.R_drew)); exact Kd.R_mono HO_5.1 (fun _ hk => ⟨trivial, hk⟩)) hg hat); have n1_ := za0.mk (blk_grown (g := gb232) (o := .cells #[.slice (some ad242) l0_0.length c0_0] 29 (0, 0)) (by (with_reducible repeat (first | refine zg0 ?_ _ | refine zj0 ?_ | refine zf0 ?_ _)); exact BK232.1) hg (Kd.R_ne HO_7.1 BK232.1 (by decide))); have n2_ := za0.mk (hb); have n3_ := za0.mk (ho); clear HO_5; clear BK232; clear HB; clear HO_7; have HO_5 := n0_; have BK232 := n1_; have HB := n2_; have HO250 := n3_; clear n0_ n1_ n2_ n3_; clear ho hb hg hat))
    repeat (go_quiet (first | ((with_reducible refine gate_store (t := 3) (p := 63) rfl ?_); (try (rw [drewN_self wr]; generalize hq_ : World.drewN wr _ = wr; have n0_ := za0.mk (Kd.R_at hq_ HO_5.1); have n1_ := za0.mk (Kd.R_at hq_ HO_7.1); have n2_ := za0.mk (blk_at hq_ BK232.1); have n3_ := za0.mk (below_at hq_ HB.1); clear hq_ HO_5 HO_7 BK232 HB; have HO_5 := n0_; have HO_7 := n1_; have BK232 := n2_; have HB := n3_; clear n0_ n1_ n2_ n3_; (try (have HP42 := Kd.R_putg HO_5.1 ((rd (rd_L1 l0_0 (rd x7_2 x8_2)) x44_3) : Int) (wrap64 ((rd x5_3 (rd x7_3 x8_2)) + 1)))))); refine store_event (t := 3) (p := 63) (v := ?vo_w43) (w1 := (wr.setCell ⟨go18, ((rd (rd_L1 l0_0 (rd x7_2 x8_2)) x44_3) : Int).toNat, none⟩ (.int .i64 (wrap64 ((rd x5_3 (rd x7_3 x8_2)) + 1))))) ?hg ?ho ?hn ?hr ?_; (case ho => rfl); (case hg => rfl); (case hn => rfl); (case hr => go_simp <;> rfl); intro w43 hw; have hg : wr.grownBy w43 (some go18) := (by rw [hw]; exact HP42.2); have hp_ : Kd.R (Kd.int .i64) 3 w43 w.heap.size (fun k_ => some k_ ≠ (.slice (some ad245) x7_3.length co41 : Value).ownBlock) (.slice (some ⟨go18, 0, none⟩) x5_3.length co9) y247 := (by rw [hw, Ny247.1]; exact HP42.1); clear HP42; have n0_ := za0.mk (hp_); have n1_ := za0.mk (Kd.R_after (v := (.slice (some ⟨go18, 0, none⟩) x5_3.length co9)) (v1 := (.slice (some ⟨go18, 0, none⟩) x5_3.length co9)) (ok := (fun _ => True)) (by (with_reducible repeat (first | apply Kd.R_alloc | apply Kd.R_drewN | apply Kd.R_drew)); exact Kd.R_mono HO_7.1 (fun _ hk => ⟨trivial, hk⟩)) hg (.inl rfl)); have n2_ := za0.mk (blk_grown (g := gb232) (o := .cells #[.slice (some ad242) l0_0.length c0_0] 29 (0, 0)) (by (with_reducible repeat (first | refine zg0 ?_ _ | refine zj0 ?_ | refine zf0 ?_ _)); exact BK232.1) hg (Kd.R_ne HO_5.1 BK232.1 (by decide))); have n3_ := za0.mk ((by rw [hw]; exact ze0 (HB.1) GB18.1 : Below w.heap.size w w43)); clear HO_5; clear HO_7; clear BK232; clear HB; have HO_5 := n0_; have HO_7 := n1_; have BK232 := n2_; have HB := n3_; clear n0_ n1_ n2_ n3_; clear hg hw hp_) | ((with_reducible refine gate_builtin (b := .append) (xs := #[.tmp 64, .tmp 66]) rfl ?_); at_builtin; refine Kd.R_append (Kd.int .i64) (w0 := w) w.heap.size rfl (.tmp 64) (.tmp 66) 25 3 (.int .i64 0) 8 rfl Try.underlying25 info3 rfl (by decide) (by omega) (.slice (some ad245) x7_3.length co41) x7_3 (rd (rd_L1 l0_0 (rd x7_2 x8_2)) x44_3) [.int .i64 (rd (rd_L1 l0_0 (rd x7_2 x8_2)) x44_3)] (fun k_ => some k_ ≠ (.slice (some ⟨go18, 0, none⟩) x5_3.length co9 : Value).ownBlock) (fun _ => False) rfl rfl ?aP (fun _ hk => hk.elim) ?aF ?aO ?aB ?aS ?aL ?_; (case aP => exact rfl); (case aB => exact (by repeat (first | exact HB.1 | apply zc0 | apply zb0 | apply zd0 | refine ze0 ?_ GE232.1))); (case aF => exact (fun k_ hk => Kd.fresh' (Kd.R_lt (by (with_reducible repeat (first | apply Kd.R_alloc | apply Kd.R_drewN | apply Kd.R_drew)); exact HO_5.1)) k_ hk)); (case aO => exact (by (with_reducible repeat (first | apply Kd.R_alloc | apply Kd.R_drewN | apply Kd.R_drew)); exact Kd.R_mono HO_7.1 (fun _ hk => hk.2))); (case aS => exact (zh0 (by repeat (first | exact HB.1 | apply zc0 | apply zb0 | apply zd0 | refine ze0 ?_ GE232.1)))); (case aL => have := LMc40.1; omega); intro v249 w44 ho hb hg hat; rw [← Ny248.1] at ho; have n0_ := za0.mk (Kd.R_after (ok := (fun _ => True)) (by (with_reducible repeat (first | apply Kd.R_alloc | apply Kd.R_drewN | apply Kd.R_drew)); exact Kd.R_mono HO_5.1 (fun _ hk => ⟨trivial, hk⟩)) hg hat); have n1_ := za0.mk (blk_grown (g := gb232) (o := .cells #[.slice (some ad242) l0_0.length c0_0] 29 (0, 0)) (by (with_reducible repeat (first | refine zg0 ?_ _ | refine zj0 ?_ | refine zf0 ?_ _)); exact BK232.1) hg (Kd.R_ne HO_7.1 BK232.1 (by decide))); have n2_ := za0.mk (hb); have n3_ := za0.mk (ho); clear HO_5; clear BK232; clear HB; clear HO_7; have HO_5 := n0_; have BK232 := n1_; have HB := n2_; have HO250 := n3_; clear n0_ n1_ n2_ n3_; clear ho hb hg hat)); try go_wp2_with (first | ((with_reducible refine gate_store (t := 3) (p := 63) rfl ?_); (try (rw [drewN_self wr]; generalize hq_ : World.drewN wr _ = wr; have n0_ := za0.mk (Kd.R_at hq_ HO_5.1); have n1_ := za0.mk (Kd.R_at hq_ HO_7.1); have n2_ := za0.mk (blk_at hq_ BK232.1); have n3_ := za0.mk (below_at hq_ HB.1); clear hq_ HO_5 HO_7 BK232 HB; have HO_5 := n0_; have HO_7 := n1_; have BK232 := n2_; have HB := n3_; clear n0_ n1_ n2_ n3_; (try (have HP42 := Kd.R_putg HO_5.1 ((rd (rd_L1 l0_0 (rd x7_2 x8_2)) x44_3) : Int) (wrap64 ((rd x5_3 (rd x7_3 x8_2)) + 1)))))); refine store_event (t := 3) (p := 63) (v := ?vo_w43) (w1 := (wr.setCell ⟨go18, ((rd (rd_L1 l0_0 (rd x7_2 x8_2)) x44_3) : Int).toNat, none⟩ (.int .i64 (wrap64 ((rd x5_3 (rd x7_3 x8_2)) + 1))))) ?hg ?ho ?hn ?hr ?_; (case ho => rfl); (case hg => rfl); (case hn => rfl); (case hr => go_simp <;> rfl); intro w43 hw; have hg : wr.grownBy w43 (some go18) := (by rw [hw]; exact HP42.2); have hp_ : Kd.R (Kd.int .i64) 3 w43 w.heap.size (fun k_ => some k_ ≠ (.slice (some ad245) x7_3.length co41 : Value).ownBlock) (.slice (some ⟨go18, 0, none⟩) x5_3.length co9) y247 := (by rw [hw, Ny247.1]; exact HP42.1); clear HP42; have n0_ := za0.mk (hp_); have n1_ := za0.mk (Kd.R_after (v := (.slice (some ⟨go18, 0, none⟩) x5_3.length co9)) (v1 := (.slice (some ⟨go18, 0, none⟩) x5_3.length co9)) (ok := (fun _ => True)) (by (with_reducible repeat (first | apply Kd.R_alloc | apply Kd.R_drewN | apply Kd.R_drew)); exact Kd.R_mono HO_7.1 (fun _ hk => ⟨trivial, hk⟩)) hg (.inl rfl)); have n2_ := za0.mk (blk_grown (g := gb232) (o := .cells #[.slice (some ad242) l0_0.length c0_0] 29 (0, 0)) (by (with_reducible repeat (first | refine zg0 ?_ _ | refine zj0 ?_ | refine zf0 ?_ _)); exact BK232.1) hg (Kd.R_ne HO_5.1 BK232.1 (by decide))); have n3_ := za0.mk ((by rw [hw]; exact ze0 (HB.1) GB18.1 : Below w.heap.size w w43)); clear HO_5; clear HO_7; clear BK232; clear HB; have HO_5 := n0_; have HO_7 := n1_; have BK232 := n2_; have HB := n3_; clear n0_ n1_ n2_ n3_; clear hg hw hp_) | ((with_reducible refine gate_builtin (b := .append) (xs := #[.tmp 64, .tmp 66]) rfl ?_); at_builtin; refine Kd.R_append (Kd.int .i64) (w0 := w) w.heap.size rfl (.tmp 64) (.tmp 66) 25 3 (.int .i64 0) 8 rfl Try.underlying25 info3 rfl (by decide) (by omega) (.slice (some ad245) x7_3.length co41) x7_3 (rd (rd_L1 l0_0 (rd x7_2 x8_2)) x44_3) [.int .i64 (rd (rd_L1 l0_0 (rd x7_2 x8_2)) x44_3)] (fun k_ => some k_ ≠ (.slice (some ⟨go18, 0, none⟩) x5_3.length co9 : Value).ownBlock) (fun _ => False) rfl rfl ?aP (fun _ hk => hk.elim) ?aF ?aO ?aB ?aS ?aL ?_; (case aP => exact rfl); (case aB => exact (by repeat (first | exact HB.1 | apply zc0 | apply zb0 | apply zd0 | refine ze0 ?_ GE232.1))); (case aF => exact (fun k_ hk => Kd.fresh' (Kd.R_lt (by (with_reducible repeat (first | apply Kd.R_alloc | apply Kd.R_drewN | apply Kd.R_drew)); exact HO_5.1)) k_ hk)); (case aO => exact (by (with_reducible repeat (first | apply Kd.R_alloc | apply Kd.R_drewN | apply Kd.R_drew)); exact Kd.R_mono HO_7.1 (fun _ hk => hk.2))); (case aS => exact (zh0 (by repeat (first | exact HB.1 | apply zc0 | apply zb0 | apply zd0 | refine ze0 ?_ GE232.1)))); (case aL => have := LMc40.1; omega); intro v249 w44 ho hb hg hat; rw [← Ny248.1] at ho; have n0_ := za0.mk (Kd.R_after (ok := (fun _ => True)) (by (with_reducible repeat (first | apply Kd.R_alloc | apply Kd.R_drewN | apply Kd.R_drew)); exact Kd.R_mono HO_5.1 (fun _ hk => ⟨trivial, hk⟩)) hg hat); have n1_ := za0.mk (blk_grown (g := gb232) (o := .cells #[.slice (some ad242) l0_0.length c0_0] 29 (0, 0)) (by (with_reducible repeat (first | refine zg0 ?_ _ | refine zj0 ?_ | refine zf0 ?_ _)); exact BK232.1) hg (Kd.R_ne HO_7.1 BK232.1 (by decide))); have n2_ := za0.mk (hb); have n3_ := za0.mk (ho); clear HO_5; clear BK232; clear HB; clear HO_7; have HO_5 := n0_; have BK232 := n1_; have HB := n2_; have HO250 := n3_; clear n0_ n1_ n2_ n3_; clear ho hb hg hat)))
    (try simp only [← hl5_3])
    go_roundg k3
    case measure => have := HK1.1; have := HK2.1; have := HK3.1; omega
    case rel => exact ⟨(y247), (y248), (wrap64 (x44_3 + 1)), (by first | rfl | (simp; done) | (simp [*]; done)), H', ⟨by have := HK1.1; have := HK2.1; have := HK3.1; omega⟩, ⟨by (try simp only [hl5_1]); (try simp only [hl5_2]); (try simp only [hl5_3]); (with_reducible repeat (first | apply Kd.R_alloc | apply Kd.R_drewN | apply Kd.R_drew)); exact Kd.R_mono HO_5.1 (fun _ hk => hk.2)⟩, ⟨by (try simp only [hl5_1]); (try simp only [hl5_2]); (try simp only [hl5_3]); (with_reducible repeat (first | apply Kd.R_alloc | apply Kd.R_drewN | apply Kd.R_drew)); exact HO250.1⟩, ⟨by (try simp only [hl5_1]); (try simp only [hl5_2]); (try simp only [hl5_3]); (with_reducible repeat (first | refine zg0 ?_ _ | refine zj0 ?_ | refine zf0 ?_ _)); exact BK232.1⟩, ⟨by repeat (first | exact HB.1 | apply zc0 | apply zb0 | apply zd0 | refine ze0 ?_ GE232.1)⟩⟩
def yv0.l0 : Nat → Int → Int → Int → List (List Int) → Option (Bool)
 | 0, _, _, _, _ => none
 | k + 1, x1, x8, x9, x252000 => if x9 < x8 then ((yb0.f k x252000 x9).bind fun t252 => (if 0 ≤ x1 then (if x1 < (t252.length : Int) then (if (rd t252 x1) < 0 then (some false) else (yv0.l0 k x1 x8 (wrap64 (x9 + 1)) x252000)) else (none)) else (none))) else (some true)
def yv0.f (k : Nat) (l0_0 : List (List Int)) (a1 : Int) : Option (Bool) := yv0.l0 k a1 (l0_0.length : Int) 0 l0_0
theorem yv0.mono_l : ∀ k, (∀ y0 y1 y2 y3, LeO (yv0.l0 k y0 y1 y2 y3) (yv0.l0 (k + 1) y0 y1 y2 y3))
 | 0 => fun _ _ _ _ r h => by simp [yv0.l0] at h
 | k + 1 => by
  have ih0 := yv0.mono_l k
  ·intro y0 y1 y2 y3
   unfold yv0.l0
   repeat' (with_reducible first | exact ih0 _ _ _ _ | exact yb0.mono _ _ _ | exact LeO.refl _ | exact LeO.none _ | refine LeO.ite ?_ ?_ | refine LeO.bind ?_ (fun _ => ?_))
theorem yv0.mono : ∀ a0 a1 k, LeO (yv0.f k a0 a1) (yv0.f (k + 1) a0 a1) := by
 intro a0 a1 k
 have ih0 := yv0.mono_l k
 unfold yv0.f
 repeat' (with_reducible first | exact ih0 _ _ _ _ | exact yb0.mono _ _ _ | exact LeO.refl _ | exact LeO.none _ | refine LeO.ite ?_ ?_ | refine LeO.bind ?_ (fun _ => ?_))
theorem yv0.calls (k : Nat) (A0_0 : Option Addr) (c0_0 : Nat) (l0_0 : List (List Int)) (a1 : Int) (r : Bool) (w : World) (hr0_0 : Kd.C (Kd.slice 3 (Kd.int .i64)) w A0_0 l0_0.length l0_0) (hc0_0 : l0_0.length ≤ c0_0) (h : yv0.f k l0_0 a1 = some r) :
  Calls Try.prog 73 #[.agg #[.slice A0_0 l0_0.length c0_0], .int .i64 a1] w fun e w' => e = .returned (.bool r) ∧ Below w.heap.size w w' := by
 have hu29 := Try.underlying29
 have HR0_0 := za0.mk hr0_0
 have HC0_0 := za0.mk hc0_0
 clear hr0_0 hc0_0
 have HB := za0.mk (Below.refl w.heap.size w)
 have H : (yv0.l0 k a1 (l0_0.length : Int) 0 l0_0) = some r := h
 clear h
 have H' := za0.mk H
 clear H
 go_enter Try.func73, Try.ntmps73
 go_wp2_with (first | ((with_reducible refine zo0 (N := 2) rfl ?_); refine zp0 ?hg (N := 2) ?hd (cs := #[.slice A0_0 l0_0.length c0_0]) (t := 29) ?hr ?_; (case hd | hg => rfl); (case hr => go_simp <;> rfl); intro gb251 hg w3 hbox hb; have n0_ := za0.mk (zi0 (by repeat (first | exact HB.1 | apply zc0 | apply zb0 | apply zd0)) hb); have n1_ := za0.mk (hbox); have n2_ := za0.mk ((by rw [hg]; exact (zh0 (by repeat (first | exact HB.1 | apply zc0 | apply zb0 | apply zd0))) : w.heap.size ≤ gb251)); have n3_ := za0.mk ((by rw [hg]; exact (zh0 (by repeat (first | exact HB.1 | apply zc0 | apply zb0 | apply zd0))) : w.heap.size ≤ gb251)); clear HB; have HB := n0_; have BK251 := n1_; have GW251 := n2_; have GE251 := n3_; clear n0_ n1_ n2_ n3_; clear hb hbox hg; have hcz4_0 : w3.cell? ⟨gb251, 0, none⟩ = some (.slice A0_0 l0_0.length c0_0) := (zl0 BK251.1 0).trans rfl; have hfz4_0 := zk0 BK251.1 0))
 go_loopg [9] k (fun kq v9 w' => ∃ (x9_1 : Int), v9 = .int .i64 x9_1 ∧ za0 (yv0.l0 kq a1 (l0_0.length : Int) x9_1 l0_0 = some r) ∧ za0 (kq ≤ k) ∧ za0 (w'.heap[gb251]? = some (.cells #[(.slice A0_0 l0_0.length c0_0)] 29 (0, 0))) ∧ za0 (Below w.heap.size w w'))
 case atStart => exact ⟨(0), (by first | rfl | (simp; done) | (simp [*]; done)), H', ⟨Nat.le_refl _⟩, ⟨by (with_reducible repeat (first | refine zg0 ?_ _ | refine zj0 ?_ | refine zf0 ?_ _)); exact BK251.1⟩, ⟨by repeat (first | exact HB.1 | apply zc0 | apply zb0 | apply zd0 | refine ze0 ?_ GE251.1)⟩⟩
 case round =>
  clear H'
  try clear p2
  try clear hcz4_0
  try clear hfz4_0
  obtain ⟨x9_1, rfl, HA, HK1, BK251, HB⟩ := hrel
  obtain _ | k1 := gk
  ·exact absurd HA.1 (by simp [yv0.l0])
  have H := HA.1
  clear HA
  simp only [yv0.l0] at H
  by_cases c5 : x9_1 < (l0_0.length : Int)
  rotate_left
  ·rw [if_neg c5] at H
   have c5b0 : decide (x9_1 < (l0_0.length : Int)) = false := decide_eq_false c5
   clear c5
   obtain rfl := Option.some.inj H
   go_wp2
   go_ret
   exact ⟨by first | rfl | (simp [errW_none, errW_some] <;> rfl) | (simp [*, errW_none, errW_some] <;> rfl), by repeat (first | exact HB.1 | apply zc0 | apply zb0 | apply zd0 | refine ze0 ?_ GE251.1)⟩
  rw [if_pos c5] at H
  have c5b0 : decide (x9_1 < (l0_0.length : Int)) = true := decide_eq_true c5
  clear c5
  replace H := Option.bind_eq_some_iff.mp H
  obtain ⟨t252, A60, H⟩ := H
  replace H : (if 0 ≤ a1 then (if a1 < (t252.length : Int) then (if (rd t252 a1) < 0 then (some false) else (yv0.l0 k1 a1 (l0_0.length : Int) (wrap64 (x9_1 + 1)) l0_0)) else (none)) else (none)) = some r := H
  have A6 := za0.mk A60
  clear A60
  by_cases c7 : 0 ≤ a1
  rotate_left
  ·rw [if_neg c7] at H
   exact absurd H (by simp)
  rw [if_pos c7] at H
  have c7b0 : decide (0 ≤ a1) = true := decide_eq_true c7
  clear c7
  by_cases c8 : a1 < (t252.length : Int)
  rotate_left
  ·rw [if_neg c8] at H
   exact absurd H (by simp)
  rw [if_pos c8] at H
  have c8b0 : decide (a1 < (t252.length : Int)) = true := decide_eq_true c8
  clear c8
  by_cases c9 : (rd t252 a1) < 0
  ·rw [if_pos c9] at H
   have c9b0 : decide ((rd t252 a1) < 0) = true := decide_eq_true c9
   clear c9
   obtain rfl := Option.some.inj H
   have hcz10_0 : wr.cell? ⟨gb251, 0, none⟩ = some (.slice A0_0 l0_0.length c0_0) := (zl0 BK251.1 0).trans rfl
   have hfz10_0 := zk0 BK251.1 0
   go_wp2_with (first | ((with_reducible refine zn0 (f := 83) rfl ?_); refine za1 (some 14) rfl rfl Try.func83 (by kernel_rfl) rfl #[.agg #[.slice A0_0 l0_0.length c0_0], .int .i64 x9_1] rfl (by (try simp only [List.map_toArray, List.map_cons, List.map_nil]); first | done | rfl | (simp only [List.length_drop, List.length_take]; rfl)) ?_; (with_reducible refine (yb0.calls k1 _ _ l0_0 x9_1 t252 _ ?side1 ?side2 A6.1).mono ?_); (case side1 => repeat (first | exact (Kd.C_below HR0_0.1 HB.1) | with_reducible first | refine Kd.C_alloc ?_ _ | refine Kd.C_drewN ?_ _ | refine Kd.C_drew ?_)); (case side2 => exact HC0_0.1); rintro e w11 ⟨v253, rfl, ho0, hb⟩; refine ⟨_, rfl, ?_⟩; have n0_ := za0.mk (Kd.R_lower ho0 (zh0 (by repeat (first | exact HB.1 | apply zc0 | apply zb0 | apply zd0 | refine ze0 ?_ GE251.1)))); have n1_ := za0.mk (zm0 (g := gb251) (o := .cells #[.slice A0_0 l0_0.length c0_0] 29 (0, 0)) (by (with_reducible repeat (first | refine zg0 ?_ _ | refine zj0 ?_ | refine zf0 ?_ _)); exact BK251.1) hb); have n2_ := za0.mk (zi0 (by repeat (first | exact HB.1 | apply zc0 | apply zb0 | apply zd0 | refine ze0 ?_ GE251.1)) hb); clear BK251; clear HB; have HO254 := n0_; have BK251 := n1_; have HB := n2_; clear n0_ n1_ n2_; (try clear hb); (try clear hb2); (try clear hk); (try clear hi); (try clear ho0); obtain ⟨Ao12, co12, eo12⟩ := Kd.R_slice HO254.1; subst eo12; have p255 : 0 ≤ (a1 : Int) := of_decide_eq_true (by assumption); have q255 : a1 < (t252.length : Int) := of_decide_eq_true (by assumption); obtain ⟨ad255, e255, hx255_0⟩ := Kd.at_int (Kd.R_reads' HO254.1).2.2 a1 p255 q255; cases e255; replace p255 := eq_true p255; replace q255 := eq_true q255))
   go_ret
   exact ⟨by first | rfl | (simp [errW_none, errW_some] <;> rfl) | (simp [*, errW_none, errW_some] <;> rfl), by repeat (first | exact HB.1 | apply zc0 | apply zb0 | apply zd0 | refine ze0 ?_ GE251.1)⟩
  rw [if_neg c9] at H
  have c9b0 : decide ((rd t252 a1) < 0) = false := decide_eq_false c9
  clear c9
  have H' := za0.mk H
  clear H
  have hcz13_0 : wr.cell? ⟨gb251, 0, none⟩ = some (.slice A0_0 l0_0.length c0_0) := (zl0 BK251.1 0).trans rfl
  have hfz13_0 := zk0 BK251.1 0
  go_wp2_with (first | ((with_reducible refine zn0 (f := 83) rfl ?_); refine za1 (some 14) rfl rfl Try.func83 (by kernel_rfl) rfl #[.agg #[.slice A0_0 l0_0.length c0_0], .int .i64 x9_1] rfl (by (try simp only [List.map_toArray, List.map_cons, List.map_nil]); first | done | rfl | (simp only [List.length_drop, List.length_take]; rfl)) ?_; (with_reducible refine (yb0.calls k1 _ _ l0_0 x9_1 t252 _ ?side1 ?side2 A6.1).mono ?_); (case side1 => repeat (first | exact (Kd.C_below HR0_0.1 HB.1) | with_reducible first | refine Kd.C_alloc ?_ _ | refine Kd.C_drewN ?_ _ | refine Kd.C_drew ?_)); (case side2 => exact HC0_0.1); rintro e w14 ⟨v253, rfl, ho0, hb⟩; refine ⟨_, rfl, ?_⟩; have n0_ := za0.mk (Kd.R_lower ho0 (zh0 (by repeat (first | exact HB.1 | apply zc0 | apply zb0 | apply zd0 | refine ze0 ?_ GE251.1)))); have n1_ := za0.mk (zm0 (g := gb251) (o := .cells #[.slice A0_0 l0_0.length c0_0] 29 (0, 0)) (by (with_reducible repeat (first | refine zg0 ?_ _ | refine zj0 ?_ | refine zf0 ?_ _)); exact BK251.1) hb); have n2_ := za0.mk (zi0 (by repeat (first | exact HB.1 | apply zc0 | apply zb0 | apply zd0 | refine ze0 ?_ GE251.1)) hb); clear BK251; clear HB; have HO254 := n0_; have BK251 := n1_; have HB := n2_; clear n0_ n1_ n2_; (try clear hb); (try clear hb2); (try clear hk); (try clear hi); (try clear ho0); obtain ⟨Ao15, co15, eo15⟩ := Kd.R_slice HO254.1; subst eo15; have p255 : 0 ≤ (a1 : Int) := of_decide_eq_true (by assumption); have q255 : a1 < (t252.length : Int) := of_decide_eq_true (by assumption); obtain ⟨ad255, e255, hx255_0⟩ := Kd.at_int (Kd.R_reads' HO254.1).2.2 a1 p255 q255; cases e255; replace p255 := eq_true p255; replace q255 := eq_true q255))
  go_roundg k1
  case measure => have := HK1.1; omega
  case rel => exact ⟨(wrap64 (x9_1 + 1)), (by first | rfl | (simp; done) | (simp [*]; done)), H', ⟨by have := HK1.1; omega⟩, ⟨by (with_reducible repeat (first | refine zg0 ?_ _ | refine zj0 ?_ | refine zf0 ?_ _)); exact BK251.1⟩, ⟨by repeat (first | exact HB.1 | apply zc0 | apply zb0 | apply zd0 | refine ze0 ?_ GE251.1)⟩⟩
def yp1.f (k : Nat) (l0_0 : List (List Int)) (a1 : Int) : Option (Bool) := (yl0.f k l0_0 a1).bind fun t257 => (if t257 = true then ((yv0.f k l0_0 a1).bind fun t258 => (some t258)) else (some false))
theorem yp1.mono : ∀ a0 a1 k, LeO (yp1.f k a0 a1) (yp1.f (k + 1) a0 a1) := by
 intro a0 a1 k
 unfold yp1.f
 repeat' (with_reducible first | exact yv0.mono _ _ _ | exact yl0.mono _ _ _ | exact LeO.refl _ | exact LeO.none _ | refine LeO.ite ?_ ?_ | refine LeO.bind ?_ (fun _ => ?_))
theorem yp1.calls (k : Nat) (A0_0 : Option Addr) (c0_0 : Nat) (l0_0 : List (List Int)) (a1 : Int) (r : Bool) (w : World) (hr0_0 : Kd.C (Kd.slice 3 (Kd.int .i64)) w A0_0 l0_0.length l0_0) (hc0_0 : l0_0.length ≤ c0_0) (h : yp1.f k l0_0 a1 = some r) :
  Calls Try.prog 59 #[.agg #[.slice A0_0 l0_0.length c0_0], .int .i64 a1] w fun e w' => e = .returned (.bool r) ∧ Below w.heap.size w w' := by
 have hu29 := Try.underlying29
 have HR0_0 := za0.mk hr0_0
 have HC0_0 := za0.mk hc0_0
 clear hr0_0 hc0_0
 have HB := za0.mk (Below.refl w.heap.size w)
 have H : ((yl0.f k l0_0 a1).bind fun t257 => (if t257 = true then ((yv0.f k l0_0 a1).bind fun t258 => (some t258)) else (some false))) = some r := h
 clear h
 replace H := Option.bind_eq_some_iff.mp H
 obtain ⟨t257, A30, H⟩ := H
 replace H : (if t257 = true then ((yv0.f k l0_0 a1).bind fun t258 => (some t258)) else (some false)) = some r := H
 have A3 := za0.mk A30
 clear A30
 by_cases c4 : t257 = true
 rotate_left
 ·replace c4 := Bool.eq_false_iff.mpr c4
  subst c4
  have H1 : (some false) = some r := by rw [if_neg (show ¬ (false = true) by decide)] at H; exact H
  clear H
  have H := H1
  clear H1
  obtain rfl := Option.some.inj H
  go_enter Try.func59, Try.ntmps59
  go_wp2_with (first | ((with_reducible refine zo0 (N := 2) rfl ?_); refine zp0 ?hg (N := 2) ?hd (cs := #[.slice A0_0 l0_0.length c0_0]) (t := 29) ?hr ?_; (case hd | hg => rfl); (case hr => go_simp <;> rfl); intro gb256 hg w11 hbox hb; have n0_ := za0.mk (zi0 (by repeat (first | exact HB.1 | apply zc0 | apply zb0 | apply zd0)) hb); have n1_ := za0.mk (hbox); have n2_ := za0.mk ((by rw [hg]; exact (zh0 (by repeat (first | exact HB.1 | apply zc0 | apply zb0 | apply zd0))) : w.heap.size ≤ gb256)); have n3_ := za0.mk ((by rw [hg]; exact (zh0 (by repeat (first | exact HB.1 | apply zc0 | apply zb0 | apply zd0))) : w.heap.size ≤ gb256)); clear HB; have HB := n0_; have BK256 := n1_; have GW256 := n2_; have GE256 := n3_; clear n0_ n1_ n2_ n3_; clear hb hbox hg; have hcz12_0 : w11.cell? ⟨gb256, 0, none⟩ = some (.slice A0_0 l0_0.length c0_0) := (zl0 BK256.1 0).trans rfl; have hfz12_0 := zk0 BK256.1 0) | ((with_reducible refine zn0 (f := 28) rfl ?_); refine za1 (some 7) rfl rfl Try.func28 (by kernel_rfl) rfl #[.agg #[.slice A0_0 l0_0.length c0_0], .int .i64 a1] rfl (by (try simp only [List.map_toArray, List.map_cons, List.map_nil]); first | done | rfl | (simp only [List.length_drop, List.length_take]; rfl)) ?_; (with_reducible refine (yl0.calls k _ _ l0_0 a1 false _ ?side1 ?side2 A3.1).mono ?_); (case side1 => repeat (first | exact (Kd.C_below HR0_0.1 HB.1) | with_reducible first | refine Kd.C_alloc ?_ _ | refine Kd.C_drewN ?_ _ | refine Kd.C_drew ?_)); (case side2 => exact HC0_0.1); rintro e w13 ⟨rfl, hb⟩; refine ⟨_, rfl, ?_⟩; have n0_ := za0.mk (zm0 (g := gb256) (o := .cells #[.slice A0_0 l0_0.length c0_0] 29 (0, 0)) (by (with_reducible repeat (first | refine zg0 ?_ _ | refine zj0 ?_ | refine zf0 ?_ _)); exact BK256.1) hb); have n1_ := za0.mk (zi0 (by repeat (first | exact HB.1 | apply zc0 | apply zb0 | apply zd0 | refine ze0 ?_ GE256.1)) hb); clear BK256; clear HB; have BK256 := n0_; have HB := n1_; clear n0_ n1_; (try clear hb); (try clear hb2); (try clear hk); (try clear hi)))
  go_ret
  exact ⟨by first | rfl | (simp [errW_none, errW_some] <;> rfl) | (simp [*, errW_none, errW_some] <;> rfl), by repeat (first | exact HB.1 | apply zc0 | apply zb0 | apply zd0 | refine ze0 ?_ GE256.1)⟩
 subst c4
 have H1 : ((yv0.f k l0_0 a1).bind fun t258 => (some t258)) = some r := by rw [if_pos rfl] at H; exact H
 clear H
 have H := H1
 clear H1
 replace H := Option.bind_eq_some_iff.mp H
 obtain ⟨t258, A50, H⟩ := H
 replace H : (some t258) = some r := H
 have A5 := za0.mk A50
 clear A50
 obtain rfl := Option.some.inj H
 go_enter Try.func59, Try.ntmps59
 go_wp2_with (first | ((with_reducible refine zo0 (N := 2) rfl ?_); refine zp0 ?hg (N := 2) ?hd (cs := #[.slice A0_0 l0_0.length c0_0]) (t := 29) ?hr ?_; (case hd | hg => rfl); (case hr => go_simp <;> rfl); intro gb256 hg w6 hbox hb; have n0_ := za0.mk (zi0 (by repeat (first | exact HB.1 | apply zc0 | apply zb0 | apply zd0)) hb); have n1_ := za0.mk (hbox); have n2_ := za0.mk ((by rw [hg]; exact (zh0 (by repeat (first | exact HB.1 | apply zc0 | apply zb0 | apply zd0))) : w.heap.size ≤ gb256)); have n3_ := za0.mk ((by rw [hg]; exact (zh0 (by repeat (first | exact HB.1 | apply zc0 | apply zb0 | apply zd0))) : w.heap.size ≤ gb256)); clear HB; have HB := n0_; have BK256 := n1_; have GW256 := n2_; have GE256 := n3_; clear n0_ n1_ n2_ n3_; clear hb hbox hg; have hcz7_0 : w6.cell? ⟨gb256, 0, none⟩ = some (.slice A0_0 l0_0.length c0_0) := (zl0 BK256.1 0).trans rfl; have hfz7_0 := zk0 BK256.1 0) | ((with_reducible refine zn0 (f := 28) rfl ?_); refine za1 (some 7) rfl rfl Try.func28 (by kernel_rfl) rfl #[.agg #[.slice A0_0 l0_0.length c0_0], .int .i64 a1] rfl (by (try simp only [List.map_toArray, List.map_cons, List.map_nil]); first | done | rfl | (simp only [List.length_drop, List.length_take]; rfl)) ?_; (with_reducible refine (yl0.calls k _ _ l0_0 a1 true _ ?side1 ?side2 A3.1).mono ?_); (case side1 => repeat (first | exact (Kd.C_below HR0_0.1 HB.1) | with_reducible first | refine Kd.C_alloc ?_ _ | refine Kd.C_drewN ?_ _ | refine Kd.C_drew ?_)); (case side2 => exact HC0_0.1); rintro e w8 ⟨rfl, hb⟩; refine ⟨_, rfl, ?_⟩; have n0_ := za0.mk (zm0 (g := gb256) (o := .cells #[.slice A0_0 l0_0.length c0_0] 29 (0, 0)) (by (with_reducible repeat (first | refine zg0 ?_ _ | refine zj0 ?_ | refine zf0 ?_ _)); exact BK256.1) hb); have n1_ := za0.mk (zi0 (by repeat (first | exact HB.1 | apply zc0 | apply zb0 | apply zd0 | refine ze0 ?_ GE256.1)) hb); clear BK256; clear HB; have BK256 := n0_; have HB := n1_; clear n0_ n1_; (try clear hb); (try clear hb2); (try clear hk); (try clear hi); have hcz9_0 : w8.cell? ⟨gb256, 0, none⟩ = some (.slice A0_0 l0_0.length c0_0) := (zl0 BK256.1 0).trans rfl; have hfz9_0 := zk0 BK256.1 0) | (go_at_call 73; (with_reducible refine (yv0.calls k _ _ l0_0 a1 t258 _ ?side1 ?side2 A5.1).mono ?_); (case side1 => repeat (first | exact (Kd.C_below HR0_0.1 HB.1) | with_reducible first | refine Kd.C_alloc ?_ _ | refine Kd.C_drewN ?_ _ | refine Kd.C_drew ?_)); (case side2 => exact HC0_0.1); rintro e w10 ⟨rfl, hb⟩; have n0_ := za0.mk (zm0 (g := gb256) (o := .cells #[.slice A0_0 l0_0.length c0_0] 29 (0, 0)) (by (with_reducible repeat (first | refine zg0 ?_ _ | refine zj0 ?_ | refine zf0 ?_ _)); exact BK256.1) hb); have n1_ := za0.mk (zi0 (by repeat (first | exact HB.1 | apply zc0 | apply zb0 | apply zd0 | refine ze0 ?_ GE256.1)) hb); clear BK256; clear HB; have BK256 := n0_; have HB := n1_; clear n0_ n1_; (try clear hb); (try clear hb2); (try clear hk); (try clear hi)))
 go_ret
 exact ⟨by first | rfl | (simp [errW_none, errW_some] <;> rfl) | (simp [*, errW_none, errW_some] <;> rfl), by repeat (first | exact HB.1 | apply zc0 | apply zb0 | apply zd0 | refine ze0 ?_ GE256.1)⟩
def ya2.f (l0_0 : List (List Int)) (l1 : List Int) (a2 : Int) : Option (Int) := if 0 ≤ a2 then (if a2 < (l0_0.length : Int) then (if ((rd_L1 l0_0 a2).length : Int) = 0 then (some (-1)) else (if a2 < (l1.length : Int) then (if 0 ≤ (rd l1 a2) then (if (rd l1 a2) < ((rd_L1 l0_0 a2).length : Int) then (some (rd (rd_L1 l0_0 a2) (rd l1 a2))) else (none)) else (none)) else (none))) else (none)) else (none)
theorem ya2.calls (A0_0 : Option Addr) (c0_0 : Nat) (l0_0 : List (List Int)) (A1 : Option Addr) (c1 : Nat) (l1 : List Int) (a2 : Int) (r : Int) (w : World) (hr0_0 : Kd.C (Kd.slice 3 (Kd.int .i64)) w A0_0 l0_0.length l0_0) (hc0_0 : l0_0.length ≤ c0_0) (hr1 : Kd.C (Kd.int .i64) w A1 l1.length l1) (hc1 : l1.length ≤ c1) (h : ya2.f l0_0 l1 a2 = some r) :
  Calls Try.prog 80 #[.agg #[.slice A0_0 l0_0.length c0_0], .slice A1 l1.length c1, .int .i64 a2] w fun e w' => e = .returned (.int .i64 r) ∧ Below w.heap.size w w' := by
 have hu29 := Try.underlying29
 have HR0_0 := za0.mk hr0_0
 have HC0_0 := za0.mk hc0_0
 clear hr0_0 hc0_0
 have HR1 := za0.mk hr1
 have HC1 := za0.mk hc1
 clear hr1 hc1
 have HB := za0.mk (Below.refl w.heap.size w)
 have H : (if 0 ≤ a2 then (if a2 < (l0_0.length : Int) then (if ((rd_L1 l0_0 a2).length : Int) = 0 then (some (-1)) else (if a2 < (l1.length : Int) then (if 0 ≤ (rd l1 a2) then (if (rd l1 a2) < ((rd_L1 l0_0 a2).length : Int) then (some (rd (rd_L1 l0_0 a2) (rd l1 a2))) else (none)) else (none)) else (none))) else (none)) else (none)) = some r := h
 clear h
 by_cases c4 : 0 ≤ a2
 rotate_left
 ·rw [if_neg c4] at H
  exact absurd H (by simp)
 rw [if_pos c4] at H
 have c4b0 : decide (0 ≤ a2) = true := decide_eq_true c4
 clear c4
 by_cases c5 : a2 < (l0_0.length : Int)
 rotate_left
 ·rw [if_neg c5] at H
  exact absurd H (by simp)
 rw [if_pos c5] at H
 have c5b0 : decide (a2 < (l0_0.length : Int)) = true := decide_eq_true c5
 clear c5
 by_cases c6 : ((rd_L1 l0_0 a2).length : Int) = 0
 ·rw [if_pos c6] at H
  have c6b0 : (((rd_L1 l0_0 a2).length : Int) == 0) = true := beq_iff_eq.mpr c6
  have c6b1 : (((rd_L1 l0_0 a2).length : Int) != 0) = false := bne_eq_false_iff_eq.mpr c6
  clear c6
  obtain rfl := Option.some.inj H
  go_enter Try.func80, Try.ntmps80
  go_wp2_with (first | ((with_reducible refine zo0 (N := 3) rfl ?_); refine zp0 ?hg (N := 3) ?hd (cs := #[.slice A0_0 l0_0.length c0_0]) (t := 29) ?hr ?_; (case hd | hg => rfl); (case hr => go_simp <;> rfl); intro gb259 hg w7 hbox hb; have n0_ := za0.mk (zi0 (by repeat (first | exact HB.1 | apply zc0 | apply zb0 | apply zd0)) hb); have n1_ := za0.mk (hbox); have n2_ := za0.mk ((by rw [hg]; exact (zh0 (by repeat (first | exact HB.1 | apply zc0 | apply zb0 | apply zd0))) : w.heap.size ≤ gb259)); have n3_ := za0.mk ((by rw [hg]; exact (zh0 (by repeat (first | exact HB.1 | apply zc0 | apply zb0 | apply zd0))) : w.heap.size ≤ gb259)); clear HB; have HB := n0_; have BK259 := n1_; have GW259 := n2_; have GE259 := n3_; clear n0_ n1_ n2_ n3_; clear hb hbox hg; have hcz8_0 : w7.cell? ⟨gb259, 0, none⟩ = some (.slice A0_0 l0_0.length c0_0) := (zl0 BK259.1 0).trans rfl; have hfz8_0 := zk0 BK259.1 0; have p260 : 0 ≤ (a2 : Int) := of_decide_eq_true (by assumption); have q260 : a2 < (l0_0.length : Int) := of_decide_eq_true (by assumption); obtain ⟨ad260, A260_0, c260_0, e260, hx260_0, hl260_0, hi260_0⟩ := at_L1 HR0_0.1 a2 p260 q260; cases e260; replace hx260_0 := (HB.1.cell (World.block_lt_of_cell? w _ hx260_0)).trans hx260_0; have HR260_0 := za0.mk hi260_0; have HC260_0 := za0.mk hl260_0; clear hi260_0 hl260_0; replace p260 := eq_true p260; replace q260 := eq_true q260))
  repeat (go_quiet (first | ((with_reducible refine zo0 (N := 3) rfl ?_); refine zp0 ?hg (N := 3) ?hd (cs := #[.slice A0_0 l0_0.length c0_0]) (t := 29) ?hr ?_; (case hd | hg => rfl); (case hr => go_simp <;> rfl); intro gb259 hg w7 hbox hb; have n0_ := za0.mk (zi0 (by repeat (first | exact HB.1 | apply zc0 | apply zb0 | apply zd0)) hb); have n1_ := za0.mk (hbox); have n2_ := za0.mk ((by rw [hg]; exact (zh0 (by repeat (first | exact HB.1 | apply zc0 | apply zb0 | apply zd0))) : w.heap.size ≤ gb259)); have n3_ := za0.mk ((by rw [hg]; exact (zh0 (by repeat (first | exact HB.1 | apply zc0 | apply zb0 | apply zd0))) : w.heap.size ≤ gb259)); clear HB; have HB := n0_; have BK259 := n1_; have GW259 := n2_; have GE259 := n3_; clear n0_ n1_ n2_ n3_; clear hb hbox hg; have hcz8_0 : w7.cell? ⟨gb259, 0, none⟩ = some (.slice A0_0 l0_0.length c0_0) := (zl0 BK259.1 0).trans rfl; have hfz8_0 := zk0 BK259.1 0; have p260 : 0 ≤ (a2 : Int) := of_decide_eq_true (by assumption); have q260 : a2 < (l0_0.length : Int) := of_decide_eq_true (by assumption); obtain ⟨ad260, A260_0, c260_0, e260, hx260_0, hl260_0, hi260_0⟩ := at_L1 HR0_0.1 a2 p260 q260; cases e260; replace hx260_0 := (HB.1.cell (World.block_lt_of_cell? w _ hx260_0)).trans hx260_0; have HR260_0 := za0.mk hi260_0; have HC260_0 := za0.mk hl260_0; clear hi260_0 hl260_0; replace p260 := eq_true p260; replace q260 := eq_true q260)); try go_wp2_with (first | ((with_reducible refine zo0 (N := 3) rfl ?_); refine zp0 ?hg (N := 3) ?hd (cs := #[.slice A0_0 l0_0.length c0_0]) (t := 29) ?hr ?_; (case hd | hg => rfl); (case hr => go_simp <;> rfl); intro gb259 hg w7 hbox hb; have n0_ := za0.mk (zi0 (by repeat (first | exact HB.1 | apply zc0 | apply zb0 | apply zd0)) hb); have n1_ := za0.mk (hbox); have n2_ := za0.mk ((by rw [hg]; exact (zh0 (by repeat (first | exact HB.1 | apply zc0 | apply zb0 | apply zd0))) : w.heap.size ≤ gb259)); have n3_ := za0.mk ((by rw [hg]; exact (zh0 (by repeat (first | exact HB.1 | apply zc0 | apply zb0 | apply zd0))) : w.heap.size ≤ gb259)); clear HB; have HB := n0_; have BK259 := n1_; have GW259 := n2_; have GE259 := n3_; clear n0_ n1_ n2_ n3_; clear hb hbox hg; have hcz8_0 : w7.cell? ⟨gb259, 0, none⟩ = some (.slice A0_0 l0_0.length c0_0) := (zl0 BK259.1 0).trans rfl; have hfz8_0 := zk0 BK259.1 0; have p260 : 0 ≤ (a2 : Int) := of_decide_eq_true (by assumption); have q260 : a2 < (l0_0.length : Int) := of_decide_eq_true (by assumption); obtain ⟨ad260, A260_0, c260_0, e260, hx260_0, hl260_0, hi260_0⟩ := at_L1 HR0_0.1 a2 p260 q260; cases e260; replace hx260_0 := (HB.1.cell (World.block_lt_of_cell? w _ hx260_0)).trans hx260_0; have HR260_0 := za0.mk hi260_0; have HC260_0 := za0.mk hl260_0; clear hi260_0 hl260_0; replace p260 := eq_true p260; replace q260 := eq_true q260)))
  go_ret
  exact ⟨by first | rfl | (simp [errW_none, errW_some] <;> rfl) | (simp [*, errW_none, errW_some] <;> rfl), by repeat (first | exact HB.1 | apply zc0 | apply zb0 | apply zd0 | refine ze0 ?_ GE259.1)⟩
 rw [if_neg c6] at H
 have c6b0 : (((rd_L1 l0_0 a2).length : Int) == 0) = false := beq_eq_false_iff_ne.mpr c6
 have c6b1 : (((rd_L1 l0_0 a2).length : Int) != 0) = true := bne_iff_ne.mpr c6
 have c6b2 : ¬ ((rd_L1 l0_0 a2) = []) := fun h_ => c6 (by rw [h_]; rfl)
 by_cases c9 : a2 < (l1.length : Int)
 rotate_left
 ·rw [if_neg c9] at H
  exact absurd H (by simp)
 rw [if_pos c9] at H
 have c9b0 : decide (a2 < (l1.length : Int)) = true := decide_eq_true c9
 clear c9
 by_cases c10 : 0 ≤ (rd l1 a2)
 rotate_left
 ·rw [if_neg c10] at H
  exact absurd H (by simp)
 rw [if_pos c10] at H
 have c10b0 : decide (0 ≤ (rd l1 a2)) = true := decide_eq_true c10
 clear c10
 by_cases c11 : (rd l1 a2) < ((rd_L1 l0_0 a2).length : Int)
 rotate_left
 ·rw [if_neg c11] at H
  exact absurd H (by simp)
 rw [if_pos c11] at H
 have c11b0 : decide ((rd l1 a2) < ((rd_L1 l0_0 a2).length : Int)) = true := decide_eq_true c11
 clear c11
 obtain rfl := Option.some.inj H
 go_enter Try.func80, Try.ntmps80
 go_wp2_with (first | ((with_reducible refine zo0 (N := 3) rfl ?_); refine zp0 ?hg (N := 3) ?hd (cs := #[.slice A0_0 l0_0.length c0_0]) (t := 29) ?hr ?_; (case hd | hg => rfl); (case hr => go_simp <;> rfl); intro gb259 hg w12 hbox hb; have n0_ := za0.mk (zi0 (by repeat (first | exact HB.1 | apply zc0 | apply zb0 | apply zd0)) hb); have n1_ := za0.mk (hbox); have n2_ := za0.mk ((by rw [hg]; exact (zh0 (by repeat (first | exact HB.1 | apply zc0 | apply zb0 | apply zd0))) : w.heap.size ≤ gb259)); have n3_ := za0.mk ((by rw [hg]; exact (zh0 (by repeat (first | exact HB.1 | apply zc0 | apply zb0 | apply zd0))) : w.heap.size ≤ gb259)); clear HB; have HB := n0_; have BK259 := n1_; have GW259 := n2_; have GE259 := n3_; clear n0_ n1_ n2_ n3_; clear hb hbox hg; have hcz13_0 : w12.cell? ⟨gb259, 0, none⟩ = some (.slice A0_0 l0_0.length c0_0) := (zl0 BK259.1 0).trans rfl; have hfz13_0 := zk0 BK259.1 0; have p260 : 0 ≤ (a2 : Int) := of_decide_eq_true (by assumption); have q260 : a2 < (l0_0.length : Int) := of_decide_eq_true (by assumption); obtain ⟨ad260, A260_0, c260_0, e260, hx260_0, hl260_0, hi260_0⟩ := at_L1 HR0_0.1 a2 p260 q260; cases e260; replace hx260_0 := (HB.1.cell (World.block_lt_of_cell? w _ hx260_0)).trans hx260_0; have HR260_0 := za0.mk hi260_0; have HC260_0 := za0.mk hl260_0; clear hi260_0 hl260_0; replace p260 := eq_true p260; replace q260 := eq_true q260; have p261 : 0 ≤ (a2 : Int) := of_decide_eq_true (by assumption); have q261 : a2 < (l0_0.length : Int) := of_decide_eq_true (by assumption); obtain ⟨ad261, A261_0, c261_0, e261, hx261_0, hl261_0, hi261_0⟩ := at_L1 HR0_0.1 a2 p261 q261; obtain rfl : ad260 = ad261 := (by injection e261); replace hx261_0 := (HB.1.cell (World.block_lt_of_cell? w _ hx261_0)).trans hx261_0; have HR261_0 := za0.mk hi261_0; have HC261_0 := za0.mk hl261_0; clear hi261_0 hl261_0; replace p261 := eq_true p261; replace q261 := eq_true q261; have ea_ := Option.some.inj (hx260_0.symm.trans hx261_0); injection ea_ with ea_ en_ ec_; subst ea_; subst ec_; clear en_; have p262 : 0 ≤ (a2 : Int) := of_decide_eq_true (by assumption); have q262 : a2 < (l1.length : Int) := of_decide_eq_true (by assumption); obtain ⟨ad262, e262, hx262_0⟩ := Kd.at_int HR1.1 a2 p262 q262; cases e262; replace hx262_0 := (HB.1.cell (World.block_lt_of_cell? w _ hx262_0)).trans hx262_0; replace p262 := eq_true p262; replace q262 := eq_true q262; have p263 : 0 ≤ ((rd l1 a2) : Int) := of_decide_eq_true (by assumption); have q263 : (rd l1 a2) < ((rd_L1 l0_0 a2).length : Int) := of_decide_eq_true (by assumption); obtain ⟨ad263, e263, hx263_0⟩ := Kd.at_int HR261_0.1 (rd l1 a2) p263 q263; cases e263; replace hx263_0 := (HB.1.cell (World.block_lt_of_cell? w _ hx263_0)).trans hx263_0; replace p263 := eq_true p263; replace q263 := eq_true q263))
 repeat (go_quiet (first | ((with_reducible refine zo0 (N := 3) rfl ?_); refine zp0 ?hg (N := 3) ?hd (cs := #[.slice A0_0 l0_0.length c0_0]) (t := 29) ?hr ?_; (case hd | hg => rfl); (case hr => go_simp <;> rfl); intro gb259 hg w12 hbox hb; have n0_ := za0.mk (zi0 (by repeat (first | exact HB.1 | apply zc0 | apply zb0 | apply zd0)) hb); have n1_ := za0.mk (hbox); have n2_ := za0.mk ((by rw [hg]; exact (zh0 (by repeat (first | exact HB.1 | apply zc0 | apply zb0 | apply zd0))) : w.heap.size ≤ gb259)); have n3_ := za0.mk ((by rw [hg]; exact (zh0 (by repeat (first | exact HB.1 | apply zc0 | apply zb0 | apply zd0))) : w.heap.size ≤ gb259)); clear HB; have HB := n0_; have BK259 := n1_; have GW259 := n2_; have GE259 := n3_; clear n0_ n1_ n2_ n3_; clear hb hbox hg; have hcz13_0 : w12.cell? ⟨gb259, 0, none⟩ = some (.slice A0_0 l0_0.length c0_0) := (zl0 BK259.1 0).trans rfl; have hfz13_0 := zk0 BK259.1 0; have p260 : 0 ≤ (a2 : Int) := of_decide_eq_true (by assumption); have q260 : a2 < (l0_0.length : Int) := of_decide_eq_true (by assumption); obtain ⟨ad260, A260_0, c260_0, e260, hx260_0, hl260_0, hi260_0⟩ := at_L1 HR0_0.1 a2 p260 q260; cases e260; replace hx260_0 := (HB.1.cell (World.block_lt_of_cell? w _ hx260_0)).trans hx260_0; have HR260_0 := za0.mk hi260_0; have HC260_0 := za0.mk hl260_0; clear hi260_0 hl260_0; replace p260 := eq_true p260; replace q260 := eq_true q260; have p261 : 0 ≤ (a2 : Int) := of_decide_eq_true (by assumption); have q261 : a2 < (l0_0.length : Int) := of_decide_eq_true (by assumption); obtain ⟨ad261, A261_0, c261_0, e261, hx261_0, hl261_0, hi261_0⟩ := at_L1 HR0_0.1 a2 p261 q261; obtain rfl : ad260 = ad261 := (by injection e261); replace hx261_0 := (HB.1.cell (World.block_lt_of_cell? w _ hx261_0)).trans hx261_0; have HR261_0 := za0.mk hi261_0; have HC261_0 := za0.mk hl261_0; clear hi261_0 hl261_0; replace p261 := eq_true p261; replace q261 := eq_true q261; have ea_ := Option.some.inj (hx260_0.symm.trans hx261_0); injection ea_ with ea_ en_ ec_; subst ea_; subst ec_; clear en_; have p262 : 0 ≤ (a2 : Int) := of_decide_eq_true (by assumption); have q262 : a2 < (l1.length : Int) := of_decide_eq_true (by assumption); obtain ⟨ad262, e262, hx262_0⟩ := Kd.at_int HR1.1 a2 p262 q262; cases e262; replace hx262_0 := (HB.1.cell (World.block_lt_of_cell? w _ hx262_0)).trans hx262_0; replace p262 := eq_true p262; replace q262 := eq_true q262; have p263 : 0 ≤ ((rd l1 a2) : Int) := of_decide_eq_true (by assumption); have q263 : (rd l1 a2) < ((rd_L1 l0_0 a2).length : Int) := of_decide_eq_true (by assumption); obtain ⟨ad263, e263, hx263_0⟩ := Kd.at_int HR261_0.1 (rd l1 a2) p263 q263; cases e263; replace hx263_0 := (HB.1.cell (World.block_lt_of_cell? w _ hx263_0)).trans hx263_0; replace p263 := eq_true p263; replace q263 := eq_true q263)); try go_wp2_with (first | ((with_reducible refine zo0 (N := 3) rfl ?_); refine zp0 ?hg (N := 3) ?hd (cs := #[.slice A0_0 l0_0.length c0_0]) (t := 29) ?hr ?_; (case hd | hg => rfl); (case hr => go_simp <;> rfl); intro gb259 hg w12 hbox hb; have n0_ := za0.mk (zi0 (by repeat (first | exact HB.1 | apply zc0 | apply zb0 | apply zd0)) hb); have n1_ := za0.mk (hbox); have n2_ := za0.mk ((by rw [hg]; exact (zh0 (by repeat (first | exact HB.1 | apply zc0 | apply zb0 | apply zd0))) : w.heap.size ≤ gb259)); have n3_ := za0.mk ((by rw [hg]; exact (zh0 (by repeat (first | exact HB.1 | apply zc0 | apply zb0 | apply zd0))) : w.heap.size ≤ gb259)); clear HB; have HB := n0_; have BK259 := n1_; have GW259 := n2_; have GE259 := n3_; clear n0_ n1_ n2_ n3_; clear hb hbox hg; have hcz13_0 : w12.cell? ⟨gb259, 0, none⟩ = some (.slice A0_0 l0_0.length c0_0) := (zl0 BK259.1 0).trans rfl; have hfz13_0 := zk0 BK259.1 0; have p260 : 0 ≤ (a2 : Int) := of_decide_eq_true (by assumption); have q260 : a2 < (l0_0.length : Int) := of_decide_eq_true (by assumption); obtain ⟨ad260, A260_0, c260_0, e260, hx260_0, hl260_0, hi260_0⟩ := at_L1 HR0_0.1 a2 p260 q260; cases e260; replace hx260_0 := (HB.1.cell (World.block_lt_of_cell? w _ hx260_0)).trans hx260_0; have HR260_0 := za0.mk hi260_0; have HC260_0 := za0.mk hl260_0; clear hi260_0 hl260_0; replace p260 := eq_true p260; replace q260 := eq_true q260; have p261 : 0 ≤ (a2 : Int) := of_decide_eq_true (by assumption); have q261 : a2 < (l0_0.length : Int) := of_decide_eq_true (by assumption); obtain ⟨ad261, A261_0, c261_0, e261, hx261_0, hl261_0, hi261_0⟩ := at_L1 HR0_0.1 a2 p261 q261; obtain rfl : ad260 = ad261 := (by injection e261); replace hx261_0 := (HB.1.cell (World.block_lt_of_cell? w _ hx261_0)).trans hx261_0; have HR261_0 := za0.mk hi261_0; have HC261_0 := za0.mk hl261_0; clear hi261_0 hl261_0; replace p261 := eq_true p261; replace q261 := eq_true q261; have ea_ := Option.some.inj (hx260_0.symm.trans hx261_0); injection ea_ with ea_ en_ ec_; subst ea_; subst ec_; clear en_; have p262 : 0 ≤ (a2 : Int) := of_decide_eq_true (by assumption); have q262 : a2 < (l1.length : Int) := of_decide_eq_true (by assumption); obtain ⟨ad262, e262, hx262_0⟩ := Kd.at_int HR1.1 a2 p262 q262; cases e262; replace hx262_0 := (HB.1.cell (World.block_lt_of_cell? w _ hx262_0)).trans hx262_0; replace p262 := eq_true p262; replace q262 := eq_true q262; have p263 : 0 ≤ ((rd l1 a2) : Int) := of_decide_eq_true (by assumption); have q263 : (rd l1 a2) < ((rd_L1 l0_0 a2).length : Int) := of_decide_eq_true (by assumption); obtain ⟨ad263, e263, hx263_0⟩ := Kd.at_int HR261_0.1 (rd l1 a2) p263 q263; cases e263; replace hx263_0 := (HB.1.cell (World.block_lt_of_cell? w _ hx263_0)).trans hx263_0; replace p263 := eq_true p263; replace q263 := eq_true q263)))
 go_ret
 exact ⟨by first | rfl | (simp [errW_none, errW_some] <;> rfl) | (simp [*, errW_none, errW_some] <;> rfl), by repeat (first | exact HB.1 | apply zc0 | apply zb0 | apply zd0 | refine ze0 ?_ GE259.1)⟩
def yf1.f (l0 : List Int) : Option (List Int) := (some (([] : List Int) : List Int)).bind fun y264 => (if y264.length + l0.length < 17592186044416 then (some (y264 ++ l0)) else (none))
theorem yf1.calls (A0 : Option Addr) (c0 : Nat) (l0 : List Int) (r : List Int) (w : World) (hr0 : Kd.C (Kd.int .i64) w A0 l0.length l0) (hc0 : l0.length ≤ c0) (h : yf1.f l0 = some r) :
  Calls Try.prog 46 #[.slice A0 l0.length c0] w fun e w' => ∃ v0_ : Value, e = .returned (v0_) ∧ Kd.R (Kd.int .i64) 3 w' w.heap.size (fun _ => True) v0_ r ∧ Below w.heap.size w w' := by
 have HR0 := za0.mk hr0
 have HC0 := za0.mk hc0
 clear hr0 hc0
 have HB := za0.mk (Below.refl w.heap.size w)
 have H : ((some (([] : List Int) : List Int)).bind fun y264 => (if y264.length + l0.length < 17592186044416 then (some (y264 ++ l0)) else (none))) = some r := h
 clear h
 obtain ⟨y264, hy264⟩ : ∃ y_ : List Int, y_ = (([] : List Int)) := ⟨_, rfl⟩
 replace H : (if y264.length + l0.length < 17592186044416 then (some (y264 ++ l0)) else (none)) = some r := by first | (rw [hy264]; with_reducible exact H) | (have H2_ := (Option.bind_some _ _).symm.trans H; rw [hy264]; with_reducible exact H2_) | (have H2_ := (Option.bind_some _ _).symm.trans H; with_reducible exact H2_) | with_reducible exact H | (rw [hy264]; exact H) | exact H
 have Ny264 := za0.mk hy264
 clear hy264
 by_cases c2 : y264.length + l0.length < 17592186044416
 rotate_left
 ·rw [if_neg c2] at H
  exact absurd H (by simp)
 rw [if_pos c2] at H
 have LMc2 := za0.mk c2
 clear c2
 obtain ⟨y267, hy267⟩ : ∃ y_ : List Int, y_ = (y264 ++ l0) := ⟨_, rfl⟩
 replace H : (some y267) = some r := by first | (rw [hy267]; with_reducible exact H) | (have H2_ := (Option.bind_some _ _).symm.trans H; rw [hy267]; with_reducible exact H2_) | (have H2_ := (Option.bind_some _ _).symm.trans H; with_reducible exact H2_) | with_reducible exact H | (rw [hy267]; exact H) | exact H
 have Ny267 := za0.mk hy267
 clear hy267
 obtain rfl := Option.some.inj H
 go_enter Try.func46, Try.ntmps46
 go_wp2_with (first | ((with_reducible refine zo0 (N := 3) rfl ?_); refine Kd.R_lit (Kd.int .i64) _ 3 ?hg (N := 3) ?hd (xs := ([] : List Int)) (inner := []) (ok := fun _ => True) (okp := fun _ => True) ?hr ?hp (fun _ hk => hk) trivial (Below.refl _ _) (Nat.le_refl _) (by simp) ?_; (case hd | hg => rfl); (case hr => go_simp <;> rfl); (case hp => exact (Reps.none _ _)); intro v265 w3 ho4 hb hg_ hnew_; clear hg_ hnew_; (first | rw [← Ny264.1] at ho4 | (simp only [Int.reduceToNat] at ho4; rw [← Ny264.1] at ho4)); have n0_ := za0.mk (Kd.R_lower ho4 (zh0 (by repeat (first | exact HB.1 | apply zc0 | apply zb0 | apply zd0)))); have n1_ := za0.mk (zi0 (by repeat (first | exact HB.1 | apply zc0 | apply zb0 | apply zd0)) hb); clear HB; have HO266 := n0_; have HB := n1_; clear n0_ n1_; clear hb ho4) | ((with_reducible refine gate_builtin (b := .append) (xs := #[.tmp 3, .tmp 4]) rfl ?_); at_builtin; refine Kd.R_append_rows (Kd.int .i64) (w0 := w) w.heap.size rfl (.tmp 3) (.tmp 4) 25 3 (.int .i64 0) 8 rfl Try.underlying25 info3 rfl (by decide) (by omega) v265 y264 l0 _ _ _ (fun _ => True) (fun _ => False) rfl rfl ?aO ?aR (fun _ _ h => h) (fun _ h => h.elim) ?aF ?aB ?aS ?aL ?_; (case aR => repeat (first | exact (Kd.C_below HR0.1 HB.1) | with_reducible first | refine Kd.C_alloc ?_ _ | refine Kd.C_drewN ?_ _ | refine Kd.C_drew ?_)); (case aB => exact (by repeat (first | exact HB.1 | apply zc0 | apply zb0 | apply zd0))); (case aF => exact (fun _ _ => trivial)); (case aO => exact (by (with_reducible repeat (first | apply Kd.R_alloc | apply Kd.R_drewN | apply Kd.R_drew)); exact HO266.1)); (case aS => exact (zh0 (by repeat (first | exact HB.1 | apply zc0 | apply zb0 | apply zd0)))); (case aL => have := LMc2.1; omega); intro v268 w5 ho hb hg hat; rw [← Ny267.1] at ho; have n0_ := za0.mk (hb); have n1_ := za0.mk (ho); clear HB; clear HO266; have HB := n0_; have HO269 := n1_; clear n0_ n1_; clear ho hb hg hat))
 go_ret
 exact ⟨_, by first | rfl | (simp [errW_none, errW_some] <;> rfl) | (simp [*, errW_none, errW_some] <;> rfl), by (with_reducible repeat (first | apply Kd.R_alloc | apply Kd.R_drewN | apply Kd.R_drew)); exact HO269.1, by repeat (first | exact HB.1 | apply zc0 | apply zb0 | apply zd0)⟩
def loopsL (g : List (List Int)) (rot : List Int) (s p : Int) : Nat → Int → Int → Option Bool
 | 0, _, _ => none
 | k + 1, q, n => if n ≤ (g.length : Int) then (if q = s then some false else (if p < q then some false else ((ya2.f g rot q).bind fun q2 => if q2 < 0 then some true else loopsL g rot s p k q2 (wrap64 (n + 1))))) else some true
theorem trSearch_loops.calls (k : Nat) (B c0 c2 : Nat) (A0 A2 : Option Addr) (l : List (List Int)) (s p : Int) (rot : List Int) (n2 : Nat) (hn2 : n2 = rot.length) (fv : Value) (most : Int) (r : Bool) (w : World)
  (hr0 : Kd.C (Kd.slice 3 (Kd.int .i64)) w A0 l.length l) (hc0 : l.length ≤ c0) (hr2 : Kd.C (Kd.int .i64) w A2 rot.length rot) (hc2 : rot.length ≤ c2)
  (hS : w.heap[B]? = some (.cells #[.slice A0 l.length c0, .int .i64 s, .slice A2 n2 c2, fv, .int .i64 most] 86 (0, 0)))
  (h : loopsL l rot s p k p 0 = some r) :
  Calls Try.prog 84 #[.pointer (some ⟨B, 0, none⟩), .int .i64 p] w fun e w' => e = .returned (.bool r) ∧ Below w.heap.size w w' := by
 subst hn2
 have hu1 := Try.underlying29
 have hu2 := Try.underlying86
 have HR0_0 := za0.mk hr0
 have HC0_0 := za0.mk hc0
 have HR2 := za0.mk hr2
 have HC2 := za0.mk hc2
 have BKS := za0.mk hS
 clear hr0 hc0 hr2 hc2 hS
 have HB := za0.mk (Below.refl w.heap.size w)
 have H' := za0.mk h
 clear h
 go_enter Try.func84, Try.ntmps84
 go_wp2_with (fail)
 go_loopg [5, 6] k (fun kq v5 v6 w' => ∃ (q : Int) (n : Int), v5 = .int .i64 q ∧ v6 = .int .i64 n ∧ za0 (loopsL l rot s p kq q n = some r) ∧ za0 (kq ≤ k) ∧ za0 (w'.heap[B]? = some (.cells #[.slice A0 l.length c0, .int .i64 s, .slice A2 rot.length c2, fv, .int .i64 most] 86 (0, 0))) ∧ za0 (Below w.heap.size w w'))
 case atStart => exact ⟨p, 0, rfl, rfl, H', ⟨Nat.le_refl _⟩, BKS, ⟨by repeat (first | exact HB.1 | apply zc0 | apply zb0 | apply zd0)⟩⟩
 case round =>
  clear H' BKS
  obtain ⟨q, n, rfl, rfl, HA, HK1, BKS, HB⟩ := hrel
  obtain _ | k1 := gk
  ·exact absurd HA.1 (by simp [loopsL])
  have H := HA.1
  clear HA
  simp only [loopsL] at H
  have hcz0 : wr.cell? ⟨B, 0, none⟩ = some (.slice A0 l.length c0) := (zl0 BKS.1 0).trans rfl
  have hfz0 := zk0 BKS.1 0
  have hcz1 : wr.cell? ⟨B, 1, none⟩ = some (.int .i64 s) := (zl0 BKS.1 1).trans rfl
  have hfz1 := zk0 BKS.1 1
  have hcz2 : wr.cell? ⟨B, 2, none⟩ = some (.slice A2 rot.length c2) := (zl0 BKS.1 2).trans rfl
  have hfz2 := zk0 BKS.1 2
  by_cases c6 : n ≤ (l.length : Int)
  rotate_left
  ·rw [if_neg c6] at H
   have c6b0 : decide (n ≤ (l.length : Int)) = false := decide_eq_false c6
   clear c6
   obtain rfl := Option.some.inj H
   go_wp2
   go_ret
   exact ⟨by first | rfl | (simp; done), by repeat (first | exact HB.1 | apply zc0 | apply zb0 | apply zd0)⟩
  rw [if_pos c6] at H
  have c6b0 : decide (n ≤ (l.length : Int)) = true := decide_eq_true c6
  clear c6
  by_cases c7 : q = s
  ·rw [if_pos c7] at H
   have c7b0 : (q == s) = true := beq_iff_eq.mpr c7
   clear c7
   obtain rfl := Option.some.inj H
   go_wp2
   go_ret
   exact ⟨by first | rfl | (simp; done), by repeat (first | exact HB.1 | apply zc0 | apply zb0 | apply zd0)⟩
  rw [if_neg c7] at H
  have c7b0 : (q == s) = false := beq_eq_false_iff_ne.mpr c7
  clear c7
  by_cases c8 : p < q
  ·rw [if_pos c8] at H
   have c8b0 : decide (p < q) = true := decide_eq_true c8
   have c8b1 : decide (q > p) = true := decide_eq_true c8
   clear c8
   obtain rfl := Option.some.inj H
   go_wp2
   go_ret
   exact ⟨by first | rfl | (simp; done), by repeat (first | exact HB.1 | apply zc0 | apply zb0 | apply zd0)⟩
  rw [if_neg c8] at H
  have c8b0 : decide (p < q) = false := decide_eq_false c8
  have c8b1 : decide (q > p) = false := decide_eq_false c8
  clear c8
  replace H := Option.bind_eq_some_iff.mp H
  obtain ⟨q2, A90, H⟩ := H
  replace H : (if q2 < 0 then some true else loopsL l rot s p k1 q2 (wrap64 (n + 1))) = some r := H
  have A9 := za0.mk A90
  clear A90
  by_cases c10 : q2 < 0
  ·rw [if_pos c10] at H
   have c10b0 : decide (q2 < 0) = true := decide_eq_true c10
   clear c10
   obtain rfl := Option.some.inj H
   go_wp2
   refine start_ (n := 11) (S := fun w' => w'.cell? ⟨B, 0, none⟩ = some (.slice A0 l.length c0) ∧ w'.cell? ⟨B, 2, none⟩ = some (.slice A2 rot.length c2)) (ds := []) #[false, false, false, false, false, false, false, false, false, false, false] (by kernel_rfl) rfl rfl ⟨hcz0, hcz2⟩ (fun hHeld => ?_)
   refine pu 0 (some 29) (v := ?_) (a' := ?_) (bf 11 1) ?_ ?_ ?_
   rotate_left
   ·intro w'; go_simp; with_reducible rfl
   rotate_left
   ·simp only [Act.put, zA, zB, zC, i64_w, i32_w]; rfl
   refine pu 1 (some 30) (v := ?_) (a' := ?_) (bf 11 3) ?_ ?_ ?_
   rotate_left
   ·intro w'; go_simp; with_reducible rfl
   rotate_left
   ·simp only [Act.put, zA, zB, zC, i64_w, i32_w]; rfl
   refine pu 2 (some 31) (v := ?_) (a' := ?_) (bf 11 7) ?_ ?_ ?_
   rotate_left
   ·intro w'; go_simp; with_reducible rfl
   rotate_left
   ·simp only [Act.put, zA, zB, zC, i64_w, i32_w]; rfl
   refine take_ (i := 3) (N := some 32) (v := ?_) (a' := ?_) (bf 11 15) rfl rfl (by kernel_rfl) (fun _ _ _ h => h) (Or.inl ⟨by rfl, ?_⟩) hHeld ?_ ?_
   rotate_left
   ·rintro w' ⟨s0, s1⟩; go_simp; with_reducible rfl
   rotate_left
   ·simp only [Act.put, zA, zB, zC, i64_w, i32_w]; rfl
   refine pu 4 (some 33) (v := ?_) (a' := ?_) (bf 11 31) ?_ ?_ ?_
   rotate_left
   ·intro w'; go_simp; with_reducible rfl
   rotate_left
   ·simp only [Act.put, zA, zB, zC, i64_w, i32_w]; rfl
   refine pu 5 (some 34) (v := ?_) (a' := ?_) (bf 11 63) ?_ ?_ ?_
   rotate_left
   ·intro w'; go_simp; with_reducible rfl
   rotate_left
   ·simp only [Act.put, zA, zB, zC, i64_w, i32_w]; rfl
   refine pu 6 (some 35) (v := ?_) (a' := ?_) (bf 11 127) ?_ ?_ ?_
   rotate_left
   ·intro w'; go_simp; with_reducible rfl
   rotate_left
   ·simp only [Act.put, zA, zB, zC, i64_w, i32_w]; rfl
   refine take_ (i := 7) (N := some 36) (v := ?_) (a' := ?_) (bf 11 255) rfl rfl (by kernel_rfl) (fun _ _ _ h => h) (Or.inl ⟨by rfl, ?_⟩) hHeld ?_ ?_
   rotate_left
   ·rintro w' ⟨s0, s1⟩; go_simp; with_reducible rfl
   rotate_left
   ·simp only [Act.put, zA, zB, zC, i64_w, i32_w]; rfl
   refine pu 8 (some 37) (v := ?_) (a' := ?_) (bf 11 511) ?_ ?_ ?_
   rotate_left
   ·intro w'; go_simp; with_reducible rfl
   rotate_left
   ·simp only [Act.put, zA, zB, zC, i64_w, i32_w]; rfl
   refine one_ (i := 9) (N := some 38) (bf 11 1023) rfl rfl (by kernel_rfl) (by decide) (fun K hK => ?_)
   refine goes_ Try.func80 (by kernel_rfl) rfl #[.agg #[.slice A0 l.length c0], .slice A2 rot.length c2, .int .i64 q] (by rfl) rfl rfl (by (try simp only [List.map_toArray, List.map_cons, List.map_nil]); first | done | rfl) ?_
   with_reducible refine (ya2.calls _ _ l _ _ rot q q2 _ ?side1 ?side2 ?side3 ?side4 A9.1).mono ?_
   (case side1 => exact Kd.C_drew (Kd.C_below HR0_0.1 HB.1))
   (case side2 => exact HC0_0.1)
   (case side3 => exact Kd.C_drew (Kd.C_below HR2.1 HB.1))
   (case side4 => exact HC2.1)
   rintro e w12 ⟨rfl, hb⟩
   refine ⟨_, rfl, ?_⟩
   have n1_ := za0.mk (zi0 (by repeat (first | exact HB.1 | apply zc0 | apply zb0 | apply zd0)) hb)
   have n2_ := za0.mk (zm0 (g := B) (by (with_reducible repeat (first | refine zg0 ?_ _ | refine zj0 ?_ | refine zf0 ?_ _)); exact BKS.1) hb)
   clear HB BKS
   have HB := n1_
   have BKS := n2_
   clear n1_ n2_ hb
   refine hK.out _ _ ⟨(zl0 BKS.1 0).trans rfl, (zl0 BKS.1 2).trans rfl⟩ (fun hHeld => ?_)
   clear hK K
   refine norm_ (a' := ?_) ?_ ?_
   rotate_left
   ·show Act.put _ (some 38) _ = _; simp only [Act.put, zA, zB, zC, i64_w, i32_w]; rfl
   refine pu 10 (some 5) (v := ?_) (a' := ?_) (bf 11 2047) ?_ ?_ ?_
   rotate_left
   ·intro w'; go_simp; with_reducible rfl
   rotate_left
   ·simp only [Act.put, zA, zB, zC, i64_w, i32_w]; rfl
   refine done_ (by kernel_rfl) ?_
   go_wp2
   go_ret
   exact ⟨by first | rfl | (simp; done), by repeat (first | exact HB.1 | apply zc0 | apply zb0 | apply zd0)⟩
  rw [if_neg c10] at H
  have c10b0 : decide (q2 < 0) = false := decide_eq_false c10
  clear c10
  have H' := za0.mk H
  clear H
  go_wp2
  refine start_ (n := 11) (S := fun w' => w'.cell? ⟨B, 0, none⟩ = some (.slice A0 l.length c0) ∧ w'.cell? ⟨B, 2, none⟩ = some (.slice A2 rot.length c2)) (ds := []) #[false, false, false, false, false, false, false, false, false, false, false] (by kernel_rfl) rfl rfl ⟨hcz0, hcz2⟩ (fun hHeld => ?_)
  refine pu 0 (some 29) (v := ?_) (a' := ?_) (bf 11 1) ?_ ?_ ?_
  rotate_left
  ·intro w'; go_simp; with_reducible rfl
  rotate_left
  ·simp only [Act.put, zA, zB, zC, i64_w, i32_w]; rfl
  refine pu 1 (some 30) (v := ?_) (a' := ?_) (bf 11 3) ?_ ?_ ?_
  rotate_left
  ·intro w'; go_simp; with_reducible rfl
  rotate_left
  ·simp only [Act.put, zA, zB, zC, i64_w, i32_w]; rfl
  refine pu 2 (some 31) (v := ?_) (a' := ?_) (bf 11 7) ?_ ?_ ?_
  rotate_left
  ·intro w'; go_simp; with_reducible rfl
  rotate_left
  ·simp only [Act.put, zA, zB, zC, i64_w, i32_w]; rfl
  refine take_ (i := 3) (N := some 32) (v := ?_) (a' := ?_) (bf 11 15) rfl rfl (by kernel_rfl) (fun _ _ _ h => h) (Or.inl ⟨by rfl, ?_⟩) hHeld ?_ ?_
  rotate_left
  ·rintro w' ⟨s0, s1⟩; go_simp; with_reducible rfl
  rotate_left
  ·simp only [Act.put, zA, zB, zC, i64_w, i32_w]; rfl
  refine pu 4 (some 33) (v := ?_) (a' := ?_) (bf 11 31) ?_ ?_ ?_
  rotate_left
  ·intro w'; go_simp; with_reducible rfl
  rotate_left
  ·simp only [Act.put, zA, zB, zC, i64_w, i32_w]; rfl
  refine pu 5 (some 34) (v := ?_) (a' := ?_) (bf 11 63) ?_ ?_ ?_
  rotate_left
  ·intro w'; go_simp; with_reducible rfl
  rotate_left
  ·simp only [Act.put, zA, zB, zC, i64_w, i32_w]; rfl
  refine pu 6 (some 35) (v := ?_) (a' := ?_) (bf 11 127) ?_ ?_ ?_
  rotate_left
  ·intro w'; go_simp; with_reducible rfl
  rotate_left
  ·simp only [Act.put, zA, zB, zC, i64_w, i32_w]; rfl
  refine take_ (i := 7) (N := some 36) (v := ?_) (a' := ?_) (bf 11 255) rfl rfl (by kernel_rfl) (fun _ _ _ h => h) (Or.inl ⟨by rfl, ?_⟩) hHeld ?_ ?_
  rotate_left
  ·rintro w' ⟨s0, s1⟩; go_simp; with_reducible rfl
  rotate_left
  ·simp only [Act.put, zA, zB, zC, i64_w, i32_w]; rfl
  refine pu 8 (some 37) (v := ?_) (a' := ?_) (bf 11 511) ?_ ?_ ?_
  rotate_left
  ·intro w'; go_simp; with_reducible rfl
  rotate_left
  ·simp only [Act.put, zA, zB, zC, i64_w, i32_w]; rfl
  refine one_ (i := 9) (N := some 38) (bf 11 1023) rfl rfl (by kernel_rfl) (by decide) (fun K hK => ?_)
  refine goes_ Try.func80 (by kernel_rfl) rfl #[.agg #[.slice A0 l.length c0], .slice A2 rot.length c2, .int .i64 q] (by rfl) rfl rfl (by (try simp only [List.map_toArray, List.map_cons, List.map_nil]); first | done | rfl) ?_
  with_reducible refine (ya2.calls _ _ l _ _ rot q q2 _ ?side1 ?side2 ?side3 ?side4 A9.1).mono ?_
  (case side1 => exact Kd.C_drew (Kd.C_below HR0_0.1 HB.1))
  (case side2 => exact HC0_0.1)
  (case side3 => exact Kd.C_drew (Kd.C_below HR2.1 HB.1))
  (case side4 => exact HC2.1)
  rintro e w12 ⟨rfl, hb⟩
  refine ⟨_, rfl, ?_⟩
  have n1_ := za0.mk (zi0 (by repeat (first | exact HB.1 | apply zc0 | apply zb0 | apply zd0)) hb)
  have n2_ := za0.mk (zm0 (g := B) (by (with_reducible repeat (first | refine zg0 ?_ _ | refine zj0 ?_ | refine zf0 ?_ _)); exact BKS.1) hb)
  clear HB BKS
  have HB := n1_
  have BKS := n2_
  clear n1_ n2_ hb
  refine hK.out _ _ ⟨(zl0 BKS.1 0).trans rfl, (zl0 BKS.1 2).trans rfl⟩ (fun hHeld => ?_)
  clear hK K
  refine norm_ (a' := ?_) ?_ ?_
  rotate_left
  ·show Act.put _ (some 38) _ = _; simp only [Act.put, zA, zB, zC, i64_w, i32_w]; rfl
  refine pu 10 (some 5) (v := ?_) (a' := ?_) (bf 11 2047) ?_ ?_ ?_
  rotate_left
  ·intro w'; go_simp; with_reducible rfl
  rotate_left
  ·simp only [Act.put, zA, zB, zC, i64_w, i32_w]; rfl
  refine done_ (by kernel_rfl) ?_
  go_wp2
  go_roundg k1
  case measure => have := HK1.1; omega
  case rel => exact ⟨q2, (wrap64 (n + 1)), (by first | rfl | (simp; done) | (simp [*]; done)), (by first | rfl | (simp; done) | (simp [*]; done)), H', ⟨by have := HK1.1; omega⟩, ⟨by (with_reducible repeat (first | refine zg0 ?_ _ | refine zj0 ?_ | refine zf0 ?_ _)); exact BKS.1⟩, ⟨by repeat (first | exact HB.1 | apply zc0 | apply zb0 | apply zd0)⟩⟩
structure LookSt (w0 w : World) (B nb n cap c0 : Nat) (A0 : Option Addr) (m : Nat) (s most : Int) (rot : List Int) (found : List (List Int)) (Af : Option Addr) (cf : Nat) : Prop where
 hb : Below w0.heap.size w0 w
 hn : n = rot.length
 cap_ : n ≤ cap
 bk : w.heap[B]? = some (.cells #[.slice A0 m c0, .int .i64 s, .slice (some ⟨nb, 0, none⟩) n cap, .slice Af found.length cf, .int .i64 most] 86 (0, 0))
 rt : Kd.R (Kd.int .i64) 3 w w0.heap.size (fun k => k = nb) (.slice (some ⟨nb, 0, none⟩) n cap) rot
 fd : Kd.S (Kd.slice 3 (Kd.int .i64)) 25 w w0.heap.size (fun k => k ≠ nb) (.slice Af found.length cf) found
theorem LookSt.below {w0 w w1 : World} {B nb n cap c0 : Nat} {A0 : Option Addr} {m : Nat} {s most : Int} {rot : List Int} {found : List (List Int)} {Af : Option Addr} {cf : Nat} (h : LookSt w0 w B nb n cap c0 A0 m s most rot found Af cf) (hb : Below w.heap.size w w1) : LookSt w0 w1 B nb n cap c0 A0 m s most rot found Af cf :=
 ⟨zi0 h.hb hb, h.hn, h.cap_, zm0 h.bk hb, Kd.R_below h.rt hb, Kd.S_below h.fd hb⟩
theorem LookSt.drew {w0 w : World} {B nb n cap c0 : Nat} {A0 : Option Addr} {m : Nat} {s most : Int} {rot : List Int} {found : List (List Int)} {Af : Option Addr} {cf : Nat} (h : LookSt w0 w B nb n cap c0 A0 m s most rot found Af cf) : LookSt w0 w.drew B nb n cap c0 A0 m s most rot found Af cf := h.below (below_drew (Below.refl _ _))
theorem LookSt.put {w0 w : World} {B nb n cap c0 : Nat} {A0 : Option Addr} {m : Nat} {s most : Int} {rot : List Int} {found : List (List Int)} {Af : Option Addr} {cf : Nat} (h : LookSt w0 w B nb n cap c0 A0 m s most rot found Af cf) (hnb : w0.heap.size ≤ nb) (hne : B ≠ nb) (i x : Int) : LookSt w0 (w.setCell ⟨nb, i.toNat, none⟩ (.int .i64 x)) B nb n cap c0 A0 m s most (rot.set i.toNat x) found Af cf :=
 ⟨ze0 h.hb hnb, by rw [List.length_set]; exact h.hn, h.cap_, (Below.heap_setCell w ⟨nb, i.toNat, none⟩ _ B hne).trans h.bk, (Kd.R_putg h.rt i x).1, Kd.S_far h.fd (fun k hk => hk) _⟩
theorem blk_putS {w : World} {B j t : Nat} {cs : Array Value} {u : Value} (h : w.heap[B]? = some (.cells cs t (0, 0))) : (w.setCell ⟨B, j, none⟩ u).heap[B]? = some (.cells (cs.setIfInBounds j u) t (0, 0)) := by
 simp only [World.setCell, Array.getElem?_modify, if_true, h, Option.map_some]
 rfl
theorem LookSt.found {w0 w : World} {B nb n cap c0 : Nat} {A0 : Option Addr} {m : Nat} {s most : Int} {rot : List Int} {found found' : List (List Int)} {Af Af' : Option Addr} {cf cf' : Nat} (hB : w0.heap.size ≤ B) (hb : Below w0.heap.size w0 w) (hn : n = rot.length) (hc : n ≤ cap)
  (bk : w.heap[B]? = some (.cells #[.slice A0 m c0, .int .i64 s, .slice (some ⟨nb, 0, none⟩) n cap, .slice Af found.length cf, .int .i64 most] 86 (0, 0)))
  (rt : Kd.R (Kd.int .i64) 3 w w0.heap.size (fun k => k = nb) (.slice (some ⟨nb, 0, none⟩) n cap) rot)
  (fd : Kd.S (Kd.slice 3 (Kd.int .i64)) 25 w w0.heap.size (fun k => k ≠ nb) (.slice Af' found'.length cf') found') : LookSt w0 (w.setCell ⟨B, 3, none⟩ (.slice Af' found'.length cf')) B nb n cap c0 A0 m s most rot found' Af' cf' :=
 ⟨ze0 hb hB, hn, hc, (blk_putS bk).trans rfl, Kd.R_set rt bk (by decide) 3 _, Kd.S_set fd bk (by decide) 3 _⟩
def lookF (g : List (List Int)) (s most : Int) : Nat → Option Int → Int → List Int → List (List Int) → Option (List Int × List (List Int))
 | 0, _, _, _, _ => none
 | k + 1, none, p, rot, found => if most < (found.length : Int) then some (rot, found) else (if p = (g.length : Int) then ((yf1.f rot).bind fun t => if (found.length + 1) * 24 ≤ 140737488355328 then some (rot, found ++ [t]) else none) else (if p = s then lookF g s most k none (wrap64 (p + 1)) rot found else (if 0 ≤ p then (if p < (g.length : Int) then lookF g s most k (some 0) p rot found else none) else none)))
 | k + 1, some j, p, rot, found => if j < ((rd_L1 g p).length : Int) then (if p < (rot.length : Int) then ((loopsL g (rot.set p.toNat j) s p k p 0).bind fun b => if b = true then lookF g s most k (some (wrap64 (j + 1))) p (rot.set p.toNat j) found else ((lookF g s most k none (wrap64 (p + 1)) (rot.set p.toNat j) found).bind fun x => lookF g s most k (some (wrap64 (j + 1))) p x.1 x.2)) else none) else (if p < (rot.length : Int) then some (rot.set p.toNat 0, found) else none)
theorem trSearch_look.calls (l : List (List Int)) (s most : Int) (A0 : Option Addr) (c0 B nb n cap : Nat) (w0 : World) (hr0 : Kd.C (Kd.slice 3 (Kd.int .i64)) w0 A0 l.length l) (hc0 : l.length ≤ c0) (hB : w0.heap.size ≤ B) (hnb : w0.heap.size ≤ nb) (hne : B ≠ nb) :
  ∀ (K k : Nat), k ≤ K → ∀ (p : Int) (rot : List Int) (found : List (List Int)) (Af : Option Addr) (cf : Nat) (r : List Int × List (List Int)) (w : World), LookSt w0 w B nb n cap c0 A0 l.length s most rot found Af cf → lookF l s most k none p rot found = some r →
  Calls Try.prog 74 #[.pointer (some ⟨B, 0, none⟩), .int .i64 p] w fun e w' => e = .returned (.tuple #[]) ∧ ∃ Af' cf', LookSt w0 w' B nb n cap c0 A0 l.length s most r.1 r.2 Af' cf' := by
 have hu1 := Try.underlying29
 have hu2 := Try.underlying86
 have hu3 := Try.underlying25
 have HR0 := za0.mk hr0
 have HC0 := za0.mk hc0
 have HNE := za0.mk hne
 have HNB := za0.mk hnb
 have HBB := za0.mk hB
 clear hr0 hc0 hne hnb hB
 intro K
 induction K with
 | zero =>
  intro k hk p rot found Af cf r w st h
  obtain rfl : k = 0 := by omega
  simp [lookF] at h
 | succ K ih =>
  intro k hk p rot found Af cf r w st h
  have IH := za0.mk ih
  clear ih
  cases k with
  | zero => simp [lookF] at h
  | succ k =>
   have HK := za0.mk hk
   clear hk
   have H := h
   clear h
   simp only [lookF] at H
   have ST := za0.mk st.drew
   have hcz2 : w.drew.cell? ⟨B, 3, none⟩ = some (.slice Af found.length cf) := (zl0 ST.1.bk 3).trans rfl
   have hcz4 : w.drew.cell? ⟨B, 4, none⟩ = some (.int .i64 most) := (zl0 ST.1.bk 4).trans rfl
   clear st
   by_cases c1 : most < (found.length : Int)
   ·rw [if_pos c1] at H
    have c1b0 : decide (most < (found.length : Int)) = true := decide_eq_true c1
    clear c1
    obtain rfl := Option.some.inj H
    go_enter Try.func74, Try.ntmps74
    go_wp2_with fail
    refine start_ (n := 10) (S := fun w' => w'.cell? ⟨B, 3, none⟩ = some (.slice Af found.length cf) ∧ w'.cell? ⟨B, 4, none⟩ = some (.int .i64 most)) (ds := []) #[false, false, false, false, false, false, false, false, false, false] (by kernel_rfl) rfl rfl ⟨hcz2, hcz4⟩ (fun hHeld => ?_)
    refine pu 0 (some 5) (v := ?_) (a' := ?_) (bf 10 1) ?_ ?_ ?_
    rotate_left
    ·intro w'; go_simp; with_reducible rfl
    rotate_left
    ·simp only [Act.put, zA, zB, zC, i64_w, i32_w]; rfl
    refine pu 1 (some 6) (v := ?_) (a' := ?_) (bf 10 3) ?_ ?_ ?_
    rotate_left
    ·intro w'; go_simp; with_reducible rfl
    rotate_left
    ·simp only [Act.put, zA, zB, zC, i64_w, i32_w]; rfl
    refine pu 2 (some 7) (v := ?_) (a' := ?_) (bf 10 7) ?_ ?_ ?_
    rotate_left
    ·intro w'; go_simp; with_reducible rfl
    rotate_left
    ·simp only [Act.put, zA, zB, zC, i64_w, i32_w]; rfl
    refine take_ (i := 3) (N := some 8) (v := ?_) (a' := ?_) (bf 10 15) rfl rfl (by kernel_rfl) (fun _ _ _ h => h) (Or.inl ⟨by rfl, ?_⟩) hHeld ?_ ?_
    rotate_left
    ·rintro w' ⟨s0, s1⟩; go_simp; with_reducible rfl
    rotate_left
    ·simp only [Act.put, zA, zB, zC, i64_w, i32_w]; rfl
    refine pu 4 (some 9) (v := ?_) (a' := ?_) (bf 10 31) ?_ ?_ ?_
    rotate_left
    ·intro w'; go_simp; with_reducible rfl
    rotate_left
    ·simp only [Act.put, zA, zB, zC, i64_w, i32_w]; rfl
    refine pu 5 (some 10) (v := ?_) (a' := ?_) (bf 10 63) ?_ ?_ ?_
    rotate_left
    ·intro w'; go_simp; with_reducible rfl
    rotate_left
    ·simp only [Act.put, zA, zB, zC, i64_w, i32_w]; rfl
    refine pu 6 (some 11) (v := ?_) (a' := ?_) (bf 10 127) ?_ ?_ ?_
    rotate_left
    ·intro w'; go_simp; with_reducible rfl
    rotate_left
    ·simp only [Act.put, zA, zB, zC, i64_w, i32_w]; rfl
    refine pu 7 (some 12) (v := ?_) (a' := ?_) (bf 10 255) ?_ ?_ ?_
    rotate_left
    ·intro w'; go_simp; with_reducible rfl
    rotate_left
    ·simp only [Act.put, zA, zB, zC, i64_w, i32_w]; rfl
    refine take_ (i := 8) (N := some 13) (v := ?_) (a' := ?_) (bf 10 511) rfl rfl (by kernel_rfl) (fun _ _ _ h => h) (Or.inl ⟨by rfl, ?_⟩) hHeld ?_ ?_
    rotate_left
    ·rintro w' ⟨s0, s1⟩; go_simp; with_reducible rfl
    rotate_left
    ·simp only [Act.put, zA, zB, zC, i64_w, i32_w]; rfl
    refine pu 9 (some 14) (v := ?_) (a' := ?_) (bf 10 1023) ?_ ?_ ?_
    rotate_left
    ·intro w'; go_simp; with_reducible rfl
    rotate_left
    ·simp only [Act.put, zA, zB, zC, i64_w, i32_w]; rfl
    refine done_ (by kernel_rfl) ?_
    clear hHeld hcz2 hcz4
    generalize w.drew = w1 at ST ⊢
    go_wp2
    first | (refine bodyPost_ret (results_none rfl _ _ _) rfl ?_) | go_end0
    exact ⟨rfl, Af, cf, ST.1⟩
   rw [if_neg c1] at H
   have c1b0 : decide (most < (found.length : Int)) = false := decide_eq_false c1
   clear c1
   go_enter Try.func74, Try.ntmps74
   go_wp2_with fail
   refine start_ (n := 10) (S := fun w' => w'.cell? ⟨B, 3, none⟩ = some (.slice Af found.length cf) ∧ w'.cell? ⟨B, 4, none⟩ = some (.int .i64 most)) (ds := []) #[false, false, false, false, false, false, false, false, false, false] (by kernel_rfl) rfl rfl ⟨hcz2, hcz4⟩ (fun hHeld => ?_)
   refine pu 0 (some 5) (v := ?_) (a' := ?_) (bf 10 1) ?_ ?_ ?_
   rotate_left
   ·intro w'; go_simp; with_reducible rfl
   rotate_left
   ·simp only [Act.put, zA, zB, zC, i64_w, i32_w]; rfl
   refine pu 1 (some 6) (v := ?_) (a' := ?_) (bf 10 3) ?_ ?_ ?_
   rotate_left
   ·intro w'; go_simp; with_reducible rfl
   rotate_left
   ·simp only [Act.put, zA, zB, zC, i64_w, i32_w]; rfl
   refine pu 2 (some 7) (v := ?_) (a' := ?_) (bf 10 7) ?_ ?_ ?_
   rotate_left
   ·intro w'; go_simp; with_reducible rfl
   rotate_left
   ·simp only [Act.put, zA, zB, zC, i64_w, i32_w]; rfl
   refine take_ (i := 3) (N := some 8) (v := ?_) (a' := ?_) (bf 10 15) rfl rfl (by kernel_rfl) (fun _ _ _ h => h) (Or.inl ⟨by rfl, ?_⟩) hHeld ?_ ?_
   rotate_left
   ·rintro w' ⟨s0, s1⟩; go_simp; with_reducible rfl
   rotate_left
   ·simp only [Act.put, zA, zB, zC, i64_w, i32_w]; rfl
   refine pu 4 (some 9) (v := ?_) (a' := ?_) (bf 10 31) ?_ ?_ ?_
   rotate_left
   ·intro w'; go_simp; with_reducible rfl
   rotate_left
   ·simp only [Act.put, zA, zB, zC, i64_w, i32_w]; rfl
   refine pu 5 (some 10) (v := ?_) (a' := ?_) (bf 10 63) ?_ ?_ ?_
   rotate_left
   ·intro w'; go_simp; with_reducible rfl
   rotate_left
   ·simp only [Act.put, zA, zB, zC, i64_w, i32_w]; rfl
   refine pu 6 (some 11) (v := ?_) (a' := ?_) (bf 10 127) ?_ ?_ ?_
   rotate_left
   ·intro w'; go_simp; with_reducible rfl
   rotate_left
   ·simp only [Act.put, zA, zB, zC, i64_w, i32_w]; rfl
   refine pu 7 (some 12) (v := ?_) (a' := ?_) (bf 10 255) ?_ ?_ ?_
   rotate_left
   ·intro w'; go_simp; with_reducible rfl
   rotate_left
   ·simp only [Act.put, zA, zB, zC, i64_w, i32_w]; rfl
   refine take_ (i := 8) (N := some 13) (v := ?_) (a' := ?_) (bf 10 511) rfl rfl (by kernel_rfl) (fun _ _ _ h => h) (Or.inl ⟨by rfl, ?_⟩) hHeld ?_ ?_
   rotate_left
   ·rintro w' ⟨s0, s1⟩; go_simp; with_reducible rfl
   rotate_left
   ·simp only [Act.put, zA, zB, zC, i64_w, i32_w]; rfl
   refine pu 9 (some 14) (v := ?_) (a' := ?_) (bf 10 1023) ?_ ?_ ?_
   rotate_left
   ·intro w'; go_simp; with_reducible rfl
   rotate_left
   ·simp only [Act.put, zA, zB, zC, i64_w, i32_w]; rfl
   refine done_ (by kernel_rfl) ?_
   clear hHeld hcz2 hcz4
   generalize w.drew = w1 at ST ⊢
   have hcz0 : w1.cell? ⟨B, 0, none⟩ = some (.slice A0 l.length c0) := (zl0 ST.1.bk 0).trans rfl
   have hcz1 : w1.cell? ⟨B, 1, none⟩ = some (.int .i64 s) := (zl0 ST.1.bk 1).trans rfl
   have hcz2 : w1.cell? ⟨B, 2, none⟩ = some (.slice (some ⟨nb, 0, none⟩) n cap) := (zl0 ST.1.bk 2).trans rfl
   have hcz3 : w1.cell? ⟨B, 3, none⟩ = some (.slice Af found.length cf) := (zl0 ST.1.bk 3).trans rfl
   by_cases c2 : p = (l.length : Int)
   rotate_left
   ·rw [if_neg c2] at H
    have c2b0 : (p == (l.length : Int)) = false := beq_eq_false_iff_ne.mpr c2
    clear c2
    by_cases c3 : p = s
    ·rw [if_pos c3] at H
     have c3b0 : (p == s) = true := beq_iff_eq.mpr c3
     clear c3
     have H' := za0.mk H
     clear H
     go_wp2_with (go_at_call 74; refine (IH.1 k (by have := HK.1; omega) (wrap64 (p + 1)) rot found Af cf r _ ST.1 H'.1).mono ?_; rintro e w2 ⟨rfl, Af2, cf2, st2⟩)
     first | (refine bodyPost_ret (results_none rfl _ _ _) rfl ?_) | go_end0
     exact ⟨rfl, Af2, cf2, st2⟩
    rw [if_neg c3] at H
    have c3b0 : (p == s) = false := beq_eq_false_iff_ne.mpr c3
    clear c3
    by_cases c4 : 0 ≤ p
    rotate_left
    ·rw [if_neg c4] at H; cases H
    rw [if_pos c4] at H
    by_cases c5 : p < (l.length : Int)
    rotate_left
    ·rw [if_neg c5] at H; cases H
    rw [if_pos c5] at H
    have H' := za0.mk H
    clear H
    obtain ⟨ad, A1, c1_, e1, hx1, hl1, hi1⟩ := at_L1 HR0.1 p c4 c5
    subst e1
    replace hx1 := (ST.1.hb.cell (World.block_lt_of_cell? _ _ hx1)).trans hx1
    replace c4 := eq_true c4
    replace c5 := eq_true c5
    clear hi1
    go_wp2
    go_loopg [56] k (fun kq v56 w' => ∃ (j : Int) (rot' : List Int) (found' : List (List Int)) (Af' : Option Addr) (cf' : Nat), v56 = .int .i64 j ∧ za0 (lookF l s most kq (some j) p rot' found' = some r) ∧ za0 (kq ≤ k) ∧ za0 (LookSt w0 w' B nb n cap c0 (some ad) l.length s most rot' found' Af' cf'))
    case atStart => exact ⟨0, rot, found, Af, cf, rfl, H', ⟨Nat.le_refl _⟩, ST⟩
    case round =>
     clear H' ST hcz0 hcz1 hcz2 hcz3
     obtain ⟨j, rot', found', Af', cf', rfl, HA, HK1, ST⟩ := hrel
     obtain _ | k1 := gk
     ·exact absurd HA.1 (by simp [lookF])
     have H := HA.1
     clear HA
     simp only [lookF] at H
     have hcz0 : wr.cell? ⟨B, 0, none⟩ = some (.slice (some ad) l.length c0) := (zl0 ST.1.bk 0).trans rfl
     have hcz2 : wr.cell? ⟨B, 2, none⟩ = some (.slice (some ⟨nb, 0, none⟩) n cap) := (zl0 ST.1.bk 2).trans rfl
     by_cases c6 : j < ((rd_L1 l p).length : Int)
     rotate_left
     ·rw [if_neg c6] at H
      have c6b0 : decide (j < ((rd_L1 l p).length : Int)) = false := decide_eq_false c6
      clear c6
      by_cases c7 : p < (rot'.length : Int)
      rotate_left
      ·rw [if_neg c7] at H; cases H
      rw [if_pos c7] at H
      have hcn : p < (n : Int) := by rw [ST.1.hn]; exact c7
      clear c7
      obtain ⟨hx2, hf2⟩ := Kd.R_celln 0 ST.1.rt p (of_eq_true c4) hcn
      replace hcn := eq_true hcn
      obtain rfl := Option.some.inj H
      have ST2 := za0.mk (ST.1.put HNB.1 HNE.1 p 0)
      clear ST
      go_wp2
      first | go_end0 | (refine bodyPost_ret (results_none rfl _ _ _) rfl ?_)
      exact ⟨rfl, _, _, ST2.1⟩
     rw [if_pos c6] at H
     have c6b0 : decide (j < ((rd_L1 l p).length : Int)) = true := decide_eq_true c6
     clear c6
     by_cases c7 : p < (rot'.length : Int)
     rotate_left
     ·rw [if_neg c7] at H; cases H
     rw [if_pos c7] at H
     have hcn : p < (n : Int) := by rw [ST.1.hn]; exact c7
     clear c7
     obtain ⟨hx2, hf2⟩ := Kd.R_celln 0 ST.1.rt p (of_eq_true c4) hcn
     replace hcn := eq_true hcn
     replace H := Option.bind_eq_some_iff.mp H
     obtain ⟨b, A80, H⟩ := H
     have A8 := za0.mk A80
     clear A80
     have ST2 := za0.mk (ST.1.put HNB.1 HNE.1 p j)
     clear ST
     cases b with
     | true =>
      replace H : lookF l s most k1 (some (wrap64 (j + 1))) p (rot'.set p.toNat j) found' = some r := H
      have H' := za0.mk H
      clear H
      go_wp2_with (go_at_call 84; refine (trSearch_loops.calls k1 B c0 cap (some ad) (some ⟨nb, 0, none⟩) l s p (rot'.set p.toNat j) n ST2.1.hn _ most true _ (Kd.C_below HR0.1 ST2.1.hb) HC0.1 (Kd.R_reads' ST2.1.rt).2.2 (ST2.1.hn ▸ ST2.1.cap_) ST2.1.bk A8.1).mono ?_; rintro e w2 ⟨rfl, hb⟩; have ST3 := za0.mk (ST2.1.below hb); clear hb)
      go_roundg k1
      case measure => have := HK1.1; omega
      case rel => exact ⟨_, _, _, _, _, rfl, H', ⟨by have := HK1.1; omega⟩, ST3⟩
     | false =>
      replace H : ((lookF l s most k1 none (wrap64 (p + 1)) (rot'.set p.toNat j) found').bind fun x => lookF l s most k1 (some (wrap64 (j + 1))) p x.1 x.2) = some r := H
      replace H := Option.bind_eq_some_iff.mp H
      obtain ⟨x, A90, H⟩ := H
      have A9 := za0.mk A90
      clear A90
      have H' := za0.mk H
      clear H
      go_wp2_with (first | (go_at_call 84; refine (trSearch_loops.calls k1 B c0 cap (some ad) (some ⟨nb, 0, none⟩) l s p (rot'.set p.toNat j) n ST2.1.hn _ most false _ (Kd.C_below HR0.1 ST2.1.hb) HC0.1 (Kd.R_reads' ST2.1.rt).2.2 (ST2.1.hn ▸ ST2.1.cap_) ST2.1.bk A8.1).mono ?_; rintro e w2 ⟨rfl, hb⟩; have ST3 := za0.mk (ST2.1.below hb); clear hb) | (go_at_call 74; refine (IH.1 k1 (by have := HK.1; have := HK1.1; omega) (wrap64 (p + 1)) _ _ _ _ x _ ST3.1 A9.1).mono ?_; rintro e w3 ⟨rfl, Af3, cf3, st3⟩; have ST4 := za0.mk st3; clear st3))
      go_roundg k1
      case measure => have := HK1.1; omega
      case rel => exact ⟨_, _, _, _, _, rfl, H', ⟨by have := HK1.1; omega⟩, ST4⟩
   rw [if_pos c2] at H
   have c2b0 : (p == (l.length : Int)) = true := beq_iff_eq.mpr c2
   clear c2
   replace H := Option.bind_eq_some_iff.mp H
   obtain ⟨t, A30, H⟩ := H
   have A3 := za0.mk A30
   clear A30
   by_cases c8 : (found.length + 1) * 24 ≤ 140737488355328
   rotate_left
   ·rw [if_neg c8] at H; cases H
   rw [if_pos c8] at H
   have LM := za0.mk c8
   clear c8
   obtain rfl := Option.some.inj H
   have hn := ST.1.hn
   subst hn
   have ST1 := za0.mk ST.1.drew
   go_wp2
   have hcy2 : w1.drew.cell? ⟨B, 2, none⟩ = some (.slice (some ⟨nb, 0, none⟩) rot.length cap) := (zl0 ST1.1.bk 2).trans rfl
   have hcy3 : w1.drew.cell? ⟨B, 3, none⟩ = some (.slice Af found.length cf) := (zl0 ST1.1.bk 3).trans rfl
   clear hcz0 hcz1 hcz2 hcz3 ST
   refine start_ (n := 15) (S := fun w' => w'.cell? ⟨B, 2, none⟩ = some (.slice (some ⟨nb, 0, none⟩) rot.length cap) ∧ w'.cell? ⟨B, 3, none⟩ = some (.slice Af found.length cf)) (ds := [14]) #[false, false, false, false, false, false, false, false, false, false, false, false, false, false, false] (by kernel_rfl) rfl rfl ⟨hcy2, hcy3⟩ (fun hHeld => ?_)
   clear hcy2 hcy3
   refine pu 0 (some 23) (v := ?_) (a' := ?_) (bf 15 1) ?_ ?_ ?_
   rotate_left
   ·intro w'; go_simp; with_reducible rfl
   rotate_left
   ·simp only [Act.put, zA, zB, zC, i64_w, i32_w]; rfl
   refine pu 1 (some 24) (v := ?_) (a' := ?_) (bf 15 3) ?_ ?_ ?_
   rotate_left
   ·intro w'; go_simp; with_reducible rfl
   rotate_left
   ·simp only [Act.put, zA, zB, zC, i64_w, i32_w]; rfl
   refine pu 2 (some 25) (v := ?_) (a' := ?_) (bf 15 7) ?_ ?_ ?_
   rotate_left
   ·intro w'; go_simp; with_reducible rfl
   rotate_left
   ·simp only [Act.put, zA, zB, zC, i64_w, i32_w]; rfl
   refine pu 3 (some 26) (v := ?_) (a' := ?_) (bf 15 15) ?_ ?_ ?_
   rotate_left
   ·intro w'; go_simp; with_reducible rfl
   rotate_left
   ·simp only [Act.put, zA, zB, zC, i64_w, i32_w]; rfl
   refine take_ (i := 4) (N := some 27) (v := ?_) (a' := ?_) (bf 15 31) rfl rfl (by kernel_rfl) (fun _ _ _ h => h) (Or.inl ⟨by rfl, ?_⟩) hHeld ?_ ?_
   rotate_left
   ·rintro w' ⟨s0, s1⟩; go_simp; with_reducible rfl
   rotate_left
   ·simp only [Act.put, zA, zB, zC, i64_w, i32_w]; rfl
   refine pu 5 (some 28) (v := ?_) (a' := ?_) (bf 15 63) ?_ ?_ ?_
   rotate_left
   ·intro w'; go_simp; with_reducible rfl
   rotate_left
   ·simp only [Act.put, zA, zB, zC, i64_w, i32_w]; rfl
   refine pu 6 (some 29) (v := ?_) (a' := ?_) (bf 15 127) ?_ ?_ ?_
   rotate_left
   ·intro w'; go_simp; with_reducible rfl
   rotate_left
   ·simp only [Act.put, zA, zB, zC, i64_w, i32_w]; rfl
   refine pu 7 (some 30) (v := ?_) (a' := ?_) (bf 15 255) ?_ ?_ ?_
   rotate_left
   ·intro w'; go_simp; with_reducible rfl
   rotate_left
   ·simp only [Act.put, zA, zB, zC, i64_w, i32_w]; rfl
   refine take_ (i := 8) (N := some 31) (v := ?_) (a' := ?_) (bf 15 511) rfl rfl (by kernel_rfl) (fun _ _ _ h => h) (Or.inl ⟨by rfl, ?_⟩) hHeld ?_ ?_
   rotate_left
   ·rintro w' ⟨s0, s1⟩; go_simp; with_reducible rfl
   rotate_left
   ·simp only [Act.put, zA, zB, zC, i64_w, i32_w]; rfl
   refine one_ (i := 9) (N := some 32) (bf 15 1023) rfl rfl (by kernel_rfl) (by decide) (fun K hK => ?_)
   refine goes_ Try.func46 (by kernel_rfl) rfl #[.slice (some ⟨nb, 0, none⟩) rot.length cap] (by rfl) rfl rfl (by (try simp only [List.map_toArray, List.map_cons, List.map_nil]); first | done | rfl) ?_
   refine (yf1.calls _ _ rot t _ (Kd.R_reads' ST1.1.rt).2.2 ST1.1.cap_ A3.1).mono ?_
   rintro e w3 ⟨v3, rfl, ho0, hb⟩
   refine ⟨_, rfl, ?_⟩
   have ST3 := za0.mk (ST1.1.below hb)
   have HF := za0.mk (Kd.S_elder' ST1.1.fd (Kd.R_base ho0) hb)
   have HW := za0.mk (Kd.R_lower (Kd.R_new' ho0 (Kd.R_lt ST1.1.rt)) (zh0 ST1.1.hb))
   clear ho0 hb ST1
   obtain ⟨Ao, co, eo⟩ := Kd.R_slice HW.1
   subst eo
   refine hK.out _ _ ⟨(zl0 ST3.1.bk 2).trans rfl, (zl0 ST3.1.bk 3).trans rfl⟩ (fun hHeld => ?_)
   clear hK K
   refine norm_ (a' := ?_) ?_ ?_
   rotate_left
   ·show Act.put _ (some 32) _ = _; simp only [Act.put, zA, zB, zC, i64_w, i32_w]; rfl
   refine one_ (i := 10) (N := some 33) (bf 15 2047) rfl rfl (by kernel_rfl) (by decide) (fun K hK => ?_)
   refine value_ (w1 := ?_) (v := ?_) (by rfl) rfl ?_ ?_
   rotate_left 2
   ·go_simp
    constructor
    ·rfl
    ·rfl
   have BKA := za0.mk (zf0 ST3.1.bk (.cells #[.slice Ao t.length co] 25))
   refine hK.out _ _ ⟨(zl0 BKA.1 2).trans rfl, (zl0 BKA.1 3).trans rfl⟩ (fun hHeld => ?_)
   clear hK K
   refine norm_ (a' := ?_) ?_ ?_
   rotate_left
   ·show Act.put _ (some 33) _ = _; simp only [Act.put, zA, zB, zC, i64_w, i32_w]; rfl
   refine one_ (i := 11) (N := some 34) (bf 15 4095) rfl rfl (by kernel_rfl) (by decide) (fun K hK => ?_)
   refine Kd.S_append_step (Kd.slice 3 (Kd.int .i64)) (w0 := w0) w0.heap.size (by rfl) (.tmp 27) (.tmp 33) 22 25 (.slice none 0 0) 24 rfl Try.underlying22 info25 rfl (by decide) (by omega) (.slice Af found.length cf) found t [.slice Ao t.length co] (fun k_ => k_ ≠ nb) (fun k_ => some k_ = (.slice Ao t.length co : Value).ownBlock) rfl rfl ?aP ?aK ?aF ?aO ?aB ?aS ?aL ?_
   (case aP => exact Kd.M_row (Kd.R_mono (Kd.R_tight rfl HW.1) (fun _ h_ => h_)))
   (case aK => exact fun k_ hk_ => ⟨fun e_ => (HW.1.1 k_ hk_.symm).2 (by rw [e_]; rfl), ((Kd.R_apart' HW.1 (Kd.S_typed ST3.1.fd) (by decide)).1 k_ hk_.symm).2⟩)
   (case aB => exact ST3.1.hb)
   (case aF => exact fun k_ hk e_ => by have := Kd.R_lt ST3.1.rt nb rfl; omega)
   (case aO => exact Kd.S_mono HF.1 (fun k_ hk => ⟨hk.1, fun e_ => hk.2 e_⟩))
   (case aS => exact zh0 ST3.1.hb)
   (case aL => exact LM.1)
   intro v9 w9 ho hb hg hat
   have BK9 := za0.mk (blk_grown ST3.1.bk hg (Kd.S_ne ST3.1.fd ST3.1.bk (by decide)))
   have RT9 := za0.mk (Kd.R_over' ST3.1.rt (Kd.S_typed ST3.1.fd) (by decide) hg)
   obtain ⟨Af9, cf9, e9⟩ := Kd.S_slice ho
   subst e9
   have ST9 := za0.mk (LookSt.found HBB.1 hb rfl ST3.1.cap_ BK9.1 RT9.1 ho)
   have hcx : w9.cell? ⟨B, 3, none⟩ = some (.slice Af found.length cf) := (zl0 BK9.1 3).trans rfl
   have hfx := zk0 BK9.1 3
   clear ho hb hg hat
   refine hK.out _ _ ⟨(zl0 BK9.1 2).trans rfl, (zl0 BK9.1 3).trans rfl⟩ (fun hHeld => ?_)
   clear hK K
   refine norm_ (a' := ?_) ?_ ?_
   rotate_left
   ·show Act.put _ (some 34) _ = _; simp only [Act.put, zA, zB, zC, i64_w, i32_w]; rfl
   refine pu 12 (some 35) (v := ?_) (a' := ?_) (bf 15 8191) ?_ ?_ ?_
   rotate_left
   ·intro w'; go_simp; with_reducible rfl
   rotate_left
   ·simp only [Act.put, zA, zB, zC, i64_w, i32_w]; rfl
   refine pu 13 (some 36) (v := ?_) (a' := ?_) (bf 15 16383) ?_ ?_ ?_
   rotate_left
   ·intro w'; go_simp; with_reducible rfl
   rotate_left
   ·simp only [Act.put, zA, zB, zC, i64_w, i32_w]; rfl
   refine last_ (i := 14) (N := none) (bf 15 32767) rfl rfl (by kernel_rfl) (by decide) (fun K hK => ?_)
   refine skip_ (w1 := ?_) (by rfl) rfl ?_ ?_
   rotate_left
   ·go_simp
    rfl
   refine hK.out _ _ ?_
   clear hK K
   refine done_ (by kernel_rfl) ?_
   go_wp2
   first | (refine bodyPost_ret (results_none rfl _ _ _) rfl ?_) | go_end0
   have h9 := ST9.1
   simp only [List.length_append, List.length_cons, List.length_nil, Nat.zero_add] at h9
   exact ⟨rfl, _, _, h9⟩
theorem loopsL_mono (g : List (List Int)) (rot : List Int) (s p : Int) : ∀ k q n, LeO (loopsL g rot s p k q n) (loopsL g rot s p (k + 1) q n) := by
 intro k
 induction k with
 | zero => intro q n; exact LeO.none _
 | succ k ih =>
  intro q n
  rw [loopsL.eq_2, loopsL.eq_2]
  refine LeO.ite (LeO.ite (LeO.refl _) (LeO.ite (LeO.refl _) (LeO.bind (LeO.refl _) (fun q2 => LeO.ite (LeO.refl _) (ih _ _))))) (LeO.refl _)
theorem lookF_mono (g : List (List Int)) (s most : Int) : ∀ k m p rot found, LeO (lookF g s most k m p rot found) (lookF g s most (k + 1) m p rot found) := by
 intro k
 induction k with
 | zero => intro m p rot found; exact LeO.none _
 | succ k ih =>
  intro m p rot found
  cases m with
  | none =>
   rw [lookF.eq_2, lookF.eq_2]
   exact LeO.ite (LeO.refl _) (LeO.ite (LeO.refl _) (LeO.ite (ih _ _ _ _) (LeO.ite (LeO.ite (ih _ _ _ _) (LeO.refl _)) (LeO.refl _))))
  | some j =>
   rw [lookF.eq_3, lookF.eq_3]
   exact LeO.ite (LeO.ite (LeO.bind (loopsL_mono _ _ _ _ _ _ _) (fun b => LeO.ite (ih _ _ _ _) (LeO.bind (ih _ _ _ _) (fun x => ih _ _ _ _)))) (LeO.refl _)) (LeO.refl _)
def yh1.f (k : Nat) (l0_0 : List (List Int)) (a1 a2 : Int) : Option (List (List Int)) := if 0 < l0_0.length then (if l0_0.length ≤ 1000 then ((lookF l0_0 a1 a2 k none 0 (List.replicate l0_0.length 0) []).bind fun x => some x.2) else none) else none
theorem yh1.mono : ∀ a0 a1 a2 k, LeO (yh1.f k a0 a1 a2) (yh1.f (k + 1) a0 a1 a2) := by
 intro a0 a1 a2 k
 unfold yh1.f
 exact LeO.ite (LeO.ite (LeO.bind (lookF_mono _ _ _ _ _ _ _ _) (fun _ => LeO.refl _)) (LeO.refl _)) (LeO.refl _)
theorem yh1.calls (k : Nat) (A0_0 : Option Addr) (c0_0 : Nat) (l0_0 : List (List Int)) (a1 a2 : Int) (r : List (List Int)) (w : World) (hr0_0 : Kd.C (Kd.slice 3 (Kd.int .i64)) w A0_0 l0_0.length l0_0) (hc0_0 : l0_0.length ≤ c0_0) (h : yh1.f k l0_0 a1 a2 = some r) :
  Calls Try.prog 60 #[.agg #[.slice A0_0 l0_0.length c0_0], .int .i64 a1, .int .i64 a2] w fun e w' => ∃ v0_ : Value, e = .returned v0_ ∧ Kd.S (Kd.slice 3 (Kd.int .i64)) 25 w' w.heap.size (fun _ => True) v0_ r ∧ Below w.heap.size w w' := by
 have hu1 := Try.underlying29
 have hu2 := Try.underlying86
 have hu3 := Try.underlying25
 unfold yh1.f at h
 by_cases h1 : 0 < l0_0.length
 rotate_left
 ·rw [if_neg h1] at h; cases h
 rw [if_pos h1] at h
 by_cases h2 : l0_0.length ≤ 1000
 rotate_left
 ·rw [if_neg h2] at h; cases h
 rw [if_pos h2] at h
 obtain ⟨x, hx, h⟩ := Option.bind_eq_some_iff.mp h
 obtain rfl := Option.some.inj h
 clear h
 have HX := za0.mk hx
 have HR := za0.mk hr0_0
 have HC := za0.mk hc0_0
 have H1 := za0.mk h1
 have H2 := za0.mk h2
 clear hx hr0_0 hc0_0 h1 h2
 go_enter Try.func60, Try.ntmps60
 go_wp2_with fail
 have hcz : (w.alloc (.cells #[.slice A0_0 l0_0.length c0_0] 29)).drew.cell? ⟨w.heap.size, 0, none⟩ = some (.slice A0_0 l0_0.length c0_0) := by
  exact zl0 (blk_new w (.cells #[.slice A0_0 l0_0.length c0_0] 29)) 0
 have HB := za0.mk (below_drew (zc0 (Below.refl w.heap.size w) (.cells #[.slice A0_0 l0_0.length c0_0] 29)))
 have BK := za0.mk (show (w.alloc (.cells #[.slice A0_0 l0_0.length c0_0] 29)).drew.heap[w.heap.size]? = some (.cells #[.slice A0_0 l0_0.length c0_0] 29 (0, 0)) from blk_new w _)
 refine start_ (n := 10) (S := fun w' => w'.cell? ⟨w.heap.size, 0, none⟩ = some (.slice A0_0 l0_0.length c0_0)) (ds := []) #[false, false, false, false, false, false, false, false, false, false] (by kernel_rfl) rfl rfl hcz (fun hHeld => ?_)
 generalize (w.alloc (.cells #[.slice A0_0 l0_0.length c0_0] 29)).drew = w1 at hHeld BK HB hcz ⊢
 clear hcz
 refine take_ (i := 0) (N := some 8) (v := ?_) (a' := ?_) (bf 10 1) rfl rfl (by kernel_rfl) (fun _ _ _ h => h) (Or.inl ⟨by rfl, ?_⟩) hHeld ?_ ?_
 rotate_left
 ·rintro w' s0; go_simp; with_reducible rfl
 rotate_left
 ·simp only [Act.put, zA, zB, zC, i64_w, i32_w]; rfl
 refine pu 1 (some 9) (v := ?_) (a' := ?_) (bf 10 3) ?_ ?_ ?_
 rotate_left
 ·intro w'; go_simp; with_reducible rfl
 rotate_left
 ·simp only [Act.put, zA, zB, zC, i64_w, i32_w]; rfl
 refine pu 2 (some 10) (v := ?_) (a' := ?_) (bf 10 7) ?_ ?_ ?_
 rotate_left
 ·intro w'; go_simp; with_reducible rfl
 rotate_left
 ·simp only [Act.put, zA, zB, zC, i64_w, i32_w]; rfl
 refine take_ (i := 3) (N := some 11) (v := ?_) (a' := ?_) (bf 10 15) rfl rfl (by kernel_rfl) (fun _ _ _ h => h) (Or.inl ⟨by rfl, ?_⟩) hHeld ?_ ?_
 rotate_left
 ·rintro w' s0; go_simp; with_reducible rfl
 rotate_left
 ·simp only [Act.put, zA, zB, zC, i64_w, i32_w]; rfl
 refine pu 4 (some 12) (v := ?_) (a' := ?_) (bf 10 31) ?_ ?_ ?_
 rotate_left
 ·intro w'; go_simp; with_reducible rfl
 rotate_left
 ·simp only [Act.put, zA, zB, zC, i64_w, i32_w]; rfl
 refine pu 6 (some 14) (v := ?_) (a' := ?_) (bf 10 95) ?_ ?_ ?_
 rotate_left
 ·intro w'; go_simp; with_reducible rfl
 rotate_left
 ·simp only [Act.put, zA, zB, zC, i64_w, i32_w]; rfl
 refine one_ (i := 5) (N := some 13) (bf 10 127) rfl rfl (by kernel_rfl) (by decide) (fun K hK => ?_)
 refine Kd.R_make_step (Kd.int .i64) (w0 := w) w.heap.size 3 (by rfl) rfl 25 (.tmp 12) (.tmp 12) rfl (l0_0.length : Int) rfl rfl Try.underlying25 (.int .i64 0) 8 info3 rfl (by decide) (by omega) 0 (ok := fun _ => True) (okp := fun _ => False) rfl (fun _ _ => trivial) trivial (by omega) (by have := H2.1; omega) HB.1 (zh0 HB.1) ?_
 intro v2 w2 hr2 hb2 hg2 ho2
 rw [Int.toNat_natCast] at hr2
 obtain ⟨nb, cap, e2, hnb, _, _⟩ := Kd.R_form hr2 (by rw [List.length_replicate]; exact H1.1)
 rw [List.length_replicate] at e2
 subst e2
 have HRT := za0.mk (Kd.R_mono (ok' := fun k => k = nb) (Kd.R_tight rfl hr2) (fun k hk => by injection hk))
 have HNB := za0.mk hnb
 have BK2 := za0.mk (blk_grown BK.1 hg2 (by simp))
 have HB2 := za0.mk hb2
 clear hr2 hb2 hg2 ho2 hnb BK HB
 refine hK.out _ _ ((zl0 BK2.1 0).trans rfl) (fun hHeld => ?_)
 clear hK K
 refine norm_ (a' := ?_) ?_ ?_
 rotate_left
 ·show Act.put _ (some 13) _ = _; simp only [Act.put, zA, zB, zC, i64_w, i32_w]; rfl
 refine pu 7 (some 15) (v := ?_) (a' := ?_) (bf 10 255) ?_ ?_ ?_
 rotate_left
 ·intro w'; go_simp; with_reducible rfl
 rotate_left
 ·simp only [Act.put, zA, zB, zC, i64_w, i32_w]; rfl
 refine one_ (i := 8) (N := some 16) (bf 10 511) rfl rfl (by kernel_rfl) (by decide) (fun K hK => ?_)
 refine value_ (w1 := ?_) (v := ?_) (by rfl) rfl ?_ ?_
 rotate_left 2
 ·go_simp
  constructor
  ·rfl
  ·rfl
 refine hK.out _ _ ((zl0 (zf0 BK2.1 _) 0).trans rfl) (fun hHeld => ?_)
 clear hK K
 refine norm_ (a' := ?_) ?_ ?_
 rotate_left
 ·show Act.put _ (some 16) _ = _; simp only [Act.put, zA, zB, zC, i64_w, i32_w]; rfl
 refine pu 9 (some 7) (v := ?_) (a' := ?_) (bf 10 1023) ?_ ?_ ?_
 rotate_left
 ·intro w'; go_simp; with_reducible rfl
 rotate_left
 ·simp only [Act.put, zA, zB, zC, i64_w, i32_w]; rfl
 refine done_ (by kernel_rfl) ?_
 have ST := za0.mk (show LookSt w (w2.alloc (.cells #[.slice A0_0 l0_0.length c0_0, .int .i64 a1, .slice (some ⟨nb, 0, none⟩) l0_0.length cap, .slice none 0 0, .int .i64 a2] 86)) w2.heap.size nb l0_0.length cap c0_0 A0_0 l0_0.length a1 a2 (List.replicate l0_0.length 0) [] none 0 from
  ⟨zc0 HB2.1 _, by simp, (Kd.R_reads' HRT.1).2.1, blk_new w2 _, Kd.R_alloc HRT.1 _, Kd.S_nil _ _ _ _ _⟩)
 have HNE := za0.mk (show w2.heap.size ≠ nb from fun e => by have := Kd.R_lt HRT.1 nb rfl; omega)
 clear BK2 HRT
 go_wp2_with (go_at_call 74; refine (trSearch_look.calls l0_0 a1 a2 A0_0 c0_0 w2.heap.size nb l0_0.length cap w HR.1 HC.1 (zh0 HB2.1) HNB.1 HNE.1 k k (Nat.le_refl k) 0 _ _ _ _ x _ ST.1 HX.1).mono ?_; rintro e w3 ⟨rfl, Af3, cf3, st3⟩; have hcz3 : w3.cell? ⟨w2.heap.size, 3, none⟩ = some (.slice Af3 x.2.length cf3) := (zl0 st3.bk 3).trans rfl; have ST3 := za0.mk st3; clear st3 ST)
 go_ret
 exact ⟨_, rfl, Kd.S_mono ST3.1.fd (fun _ _ => trivial), ST3.1.hb⟩
def yl1.f (k : Nat) (l0_0 : List (List Int)) (a1 : Int) : Option ((List (List Int)) × Bool) := (yp1.f k l0_0 a1).bind fun t271 => (if t271 = true then ((yh1.f k l0_0 a1 61).bind fun t272 => (some (t272, decide ((t272.length : Int) ≤ 60)))) else (some (([] : List (List Int)), false)))
theorem yl1.mono : ∀ a0 a1 k, LeO (yl1.f k a0 a1) (yl1.f (k + 1) a0 a1) := by
 intro a0 a1 k
 unfold yl1.f
 repeat' (with_reducible first | exact yp1.mono _ _ _ | exact yh1.mono _ _ _ _ | exact LeO.refl _ | exact LeO.none _ | refine LeO.ite ?_ ?_ | refine LeO.bind ?_ (fun _ => ?_))
theorem yl1.calls (k : Nat) (A0_0 : Option Addr) (c0_0 : Nat) (l0_0 : List (List Int)) (a1 : Int) (r1 : List (List Int)) (r2 : Bool) (w : World) (hr0_0 : Kd.C (Kd.slice 3 (Kd.int .i64)) w A0_0 l0_0.length l0_0) (hc0_0 : l0_0.length ≤ c0_0) (h : yl1.f k l0_0 a1 = some (r1, r2)) :
  Calls Try.prog 38 #[.agg #[.slice A0_0 l0_0.length c0_0], .int .i64 a1] w fun e w' => ∃ v0_ : Value, e = .returned (.tuple #[v0_, .bool r2]) ∧ Kd.S (Kd.slice 3 (Kd.int .i64)) 25 w' w.heap.size (fun _ => True) v0_ r1 ∧ Below w.heap.size w w' := by
 have hu29 := Try.underlying29
 have HR0_0 := za0.mk hr0_0
 have HC0_0 := za0.mk hc0_0
 clear hr0_0 hc0_0
 have HB := za0.mk (Below.refl w.heap.size w)
 have H : ((yp1.f k l0_0 a1).bind fun t271 => (if t271 = true then ((yh1.f k l0_0 a1 61).bind fun t272 => (some (t272, decide ((t272.length : Int) ≤ 60)))) else (some (([] : List (List Int)), false)))) = some (r1, r2) := h
 clear h
 replace H := Option.bind_eq_some_iff.mp H
 obtain ⟨t271, A30, H⟩ := H
 replace H : (if t271 = true then ((yh1.f k l0_0 a1 61).bind fun t272 => (some (t272, decide ((t272.length : Int) ≤ 60)))) else (some (([] : List (List Int)), false))) = some (r1, r2) := H
 have A3 := za0.mk A30
 clear A30
 by_cases c4 : t271 = true
 rotate_left
 ·replace c4 := Bool.eq_false_iff.mpr c4
  subst c4
  have H1 : (some (([] : List (List Int)), false)) = some (r1, r2) := by rw [if_neg (show ¬ (false = true) by decide)] at H; exact H
  clear H
  have H := H1
  clear H1
  simp only [Option.some.injEq, Prod.mk.injEq] at H
  obtain ⟨rfl, rfl⟩ := H
  go_enter Try.func38, Try.ntmps38
  go_wp2_with (first | ((with_reducible refine zo0 (N := 2) rfl ?_); refine zp0 ?hg (N := 2) ?hd (cs := #[.slice A0_0 l0_0.length c0_0]) (t := 29) ?hr ?_; (case hd | hg => rfl); (case hr => go_simp <;> rfl); intro gb270 hg w12 hbox hb; have n0_ := za0.mk (zi0 (by repeat (first | exact HB.1 | apply zc0 | apply zb0 | apply zd0)) hb); have n1_ := za0.mk (hbox); have n2_ := za0.mk ((by rw [hg]; exact (zh0 (by repeat (first | exact HB.1 | apply zc0 | apply zb0 | apply zd0))) : w.heap.size ≤ gb270)); have n3_ := za0.mk ((by rw [hg]; exact (zh0 (by repeat (first | exact HB.1 | apply zc0 | apply zb0 | apply zd0))) : w.heap.size ≤ gb270)); clear HB; have HB := n0_; have BK270 := n1_; have GW270 := n2_; have GE270 := n3_; clear n0_ n1_ n2_ n3_; clear hb hbox hg; have hcz13_0 : w12.cell? ⟨gb270, 0, none⟩ = some (.slice A0_0 l0_0.length c0_0) := (zl0 BK270.1 0).trans rfl; have hfz13_0 := zk0 BK270.1 0) | ((with_reducible refine zn0 (f := 59) rfl ?_); refine za1 (some 9) rfl rfl Try.func59 (by kernel_rfl) rfl #[.agg #[.slice A0_0 l0_0.length c0_0], .int .i64 a1] rfl (by (try simp only [List.map_toArray, List.map_cons, List.map_nil]); first | done | rfl | (simp only [List.length_drop, List.length_take]; rfl)) ?_; (with_reducible refine (yp1.calls k _ _ l0_0 a1 false _ ?side1 ?side2 A3.1).mono ?_); (case side1 => repeat (first | exact (Kd.C_below HR0_0.1 HB.1) | with_reducible first | refine Kd.C_alloc ?_ _ | refine Kd.C_drewN ?_ _ | refine Kd.C_drew ?_)); (case side2 => exact HC0_0.1); rintro e w14 ⟨rfl, hb⟩; refine ⟨_, rfl, ?_⟩; have n0_ := za0.mk (zm0 (g := gb270) (o := .cells #[.slice A0_0 l0_0.length c0_0] 29 (0, 0)) (by (with_reducible repeat (first | refine zg0 ?_ _ | refine zj0 ?_ | refine zf0 ?_ _)); exact BK270.1) hb); have n1_ := za0.mk (zi0 (by repeat (first | exact HB.1 | apply zc0 | apply zb0 | apply zd0 | refine ze0 ?_ GE270.1)) hb); clear BK270; clear HB; have BK270 := n0_; have HB := n1_; clear n0_ n1_; (try clear hb); (try clear hb2); (try clear hk); (try clear hi)))
  go_ret2
  exact ⟨_, by first | rfl | (simp [errW_none, errW_some] <;> rfl) | (simp [*, errW_none, errW_some] <;> rfl), by first | exact Kd.S_nil _ _ _ _ _ | exact Kd.N_nil _ _ _ _ _ | exact Kd.V_nil _ _ _ _ _ | exact Kd.Q_nil _ _ _ _ _ | exact Kd.R_nil _ _ _ _ _, by repeat (first | exact HB.1 | apply zc0 | apply zb0 | apply zd0 | refine ze0 ?_ GE270.1)⟩
 subst c4
 have H1 : ((yh1.f k l0_0 a1 61).bind fun t272 => (some (t272, decide ((t272.length : Int) ≤ 60)))) = some (r1, r2) := by rw [if_pos rfl] at H; exact H
 clear H
 have H := H1
 clear H1
 replace H := Option.bind_eq_some_iff.mp H
 obtain ⟨t272, A50, H⟩ := H
 replace H : (some (t272, decide ((t272.length : Int) ≤ 60))) = some (r1, r2) := H
 have A5 := za0.mk A50
 clear A50
 simp only [Option.some.injEq, Prod.mk.injEq] at H
 obtain ⟨rfl, rfl⟩ := H
 go_enter Try.func38, Try.ntmps38
 go_wp2_with (first | ((with_reducible refine zo0 (N := 2) rfl ?_); refine zp0 ?hg (N := 2) ?hd (cs := #[.slice A0_0 l0_0.length c0_0]) (t := 29) ?hr ?_; (case hd | hg => rfl); (case hr => go_simp <;> rfl); intro gb270 hg w6 hbox hb; have n0_ := za0.mk (zi0 (by repeat (first | exact HB.1 | apply zc0 | apply zb0 | apply zd0)) hb); have n1_ := za0.mk (hbox); have n2_ := za0.mk ((by rw [hg]; exact (zh0 (by repeat (first | exact HB.1 | apply zc0 | apply zb0 | apply zd0))) : w.heap.size ≤ gb270)); have n3_ := za0.mk ((by rw [hg]; exact (zh0 (by repeat (first | exact HB.1 | apply zc0 | apply zb0 | apply zd0))) : w.heap.size ≤ gb270)); clear HB; have HB := n0_; have BK270 := n1_; have GW270 := n2_; have GE270 := n3_; clear n0_ n1_ n2_ n3_; clear hb hbox hg; have hcz7_0 : w6.cell? ⟨gb270, 0, none⟩ = some (.slice A0_0 l0_0.length c0_0) := (zl0 BK270.1 0).trans rfl; have hfz7_0 := zk0 BK270.1 0) | ((with_reducible refine zn0 (f := 59) rfl ?_); refine za1 (some 9) rfl rfl Try.func59 (by kernel_rfl) rfl #[.agg #[.slice A0_0 l0_0.length c0_0], .int .i64 a1] rfl (by (try simp only [List.map_toArray, List.map_cons, List.map_nil]); first | done | rfl | (simp only [List.length_drop, List.length_take]; rfl)) ?_; (with_reducible refine (yp1.calls k _ _ l0_0 a1 true _ ?side1 ?side2 A3.1).mono ?_); (case side1 => repeat (first | exact (Kd.C_below HR0_0.1 HB.1) | with_reducible first | refine Kd.C_alloc ?_ _ | refine Kd.C_drewN ?_ _ | refine Kd.C_drew ?_)); (case side2 => exact HC0_0.1); rintro e w8 ⟨rfl, hb⟩; refine ⟨_, rfl, ?_⟩; have n0_ := za0.mk (zm0 (g := gb270) (o := .cells #[.slice A0_0 l0_0.length c0_0] 29 (0, 0)) (by (with_reducible repeat (first | refine zg0 ?_ _ | refine zj0 ?_ | refine zf0 ?_ _)); exact BK270.1) hb); have n1_ := za0.mk (zi0 (by repeat (first | exact HB.1 | apply zc0 | apply zb0 | apply zd0 | refine ze0 ?_ GE270.1)) hb); clear BK270; clear HB; have BK270 := n0_; have HB := n1_; clear n0_ n1_; (try clear hb); (try clear hb2); (try clear hk); (try clear hi); have hcz9_0 : w8.cell? ⟨gb270, 0, none⟩ = some (.slice A0_0 l0_0.length c0_0) := (zl0 BK270.1 0).trans rfl; have hfz9_0 := zk0 BK270.1 0) | ((with_reducible refine zn0 (f := 60) rfl ?_); refine za1 (some 13) rfl rfl Try.func60 (by kernel_rfl) rfl #[.agg #[.slice A0_0 l0_0.length c0_0], .int .i64 a1, .int .i64 61] rfl (by (try simp only [List.map_toArray, List.map_cons, List.map_nil]); first | done | rfl | (simp only [List.length_drop, List.length_take]; rfl)) ?_; (with_reducible refine (yh1.calls k _ _ l0_0 a1 61 t272 _ ?side1 ?side2 A5.1).mono ?_); (case side1 => repeat (first | exact (Kd.C_below HR0_0.1 HB.1) | with_reducible first | refine Kd.C_alloc ?_ _ | refine Kd.C_drewN ?_ _ | refine Kd.C_drew ?_)); (case side2 => exact HC0_0.1); rintro e w10 ⟨v273, rfl, ho0, hb⟩; refine ⟨_, rfl, ?_⟩; have n0_ := za0.mk (Kd.S_lower ho0 (zh0 (by repeat (first | exact HB.1 | apply zc0 | apply zb0 | apply zd0 | refine ze0 ?_ GE270.1)))); have n1_ := za0.mk (zm0 (g := gb270) (o := .cells #[.slice A0_0 l0_0.length c0_0] 29 (0, 0)) (by (with_reducible repeat (first | refine zg0 ?_ _ | refine zj0 ?_ | refine zf0 ?_ _)); exact BK270.1) hb); have n2_ := za0.mk (zi0 (by repeat (first | exact HB.1 | apply zc0 | apply zb0 | apply zd0 | refine ze0 ?_ GE270.1)) hb); clear BK270; clear HB; have HO274 := n0_; have BK270 := n1_; have HB := n2_; clear n0_ n1_ n2_; (try clear hb); (try clear hb2); (try clear hk); (try clear hi); (try clear ho0); obtain ⟨Ao11, co11, eo11⟩ := Kd.S_slice HO274.1; subst eo11))
 go_ret2
 exact ⟨_, by first | rfl | (simp [errW_none, errW_some] <;> rfl) | (simp [*, errW_none, errW_some] <;> rfl), by (with_reducible repeat (first | apply Kd.S_alloc | apply Kd.S_drewN | apply Kd.S_drew)); exact HO274.1, by repeat (first | exact HB.1 | apply zc0 | apply zb0 | apply zd0 | refine ze0 ?_ GE270.1)⟩
def yy1.f (a0 : Int) (a1 : Int) : Option (Int) := if a0 > a1 then (some a0) else (some a1)
theorem yy1.calls (a0 : Int) (a1 : Int) (r : Int) (w : World) (h : yy1.f a0 a1 = some r) :
  Calls Try.prog 79 #[.int .i64 a0, .int .i64 a1] w fun e w' => e = .returned (.int .i64 r) ∧ zt0 w w' := by
 have H : (if a0 > a1 then (some a0) else (some a1)) = some r := h
 clear h
 by_cases c3 : a0 > a1
 ·rw [if_pos c3] at H
  have c3b0 : decide (a1 < a0) = true := decide_eq_true c3
  clear c3
  obtain rfl := Option.some.inj H
  go_enter Try.func79, Try.ntmps79
  go_wp2
  go_ret
  exact ⟨by first | rfl | (simp; done) | (simp [*]; done), by repeat (first | exact zt0.refl _ | apply zt0.step)⟩
 rw [if_neg c3] at H
 have c3b0 : decide (a1 < a0) = false := decide_eq_false c3
 clear c3
 obtain rfl := Option.some.inj H
 go_enter Try.func79, Try.ntmps79
 go_wp2
 go_ret
 exact ⟨by first | rfl | (simp; done) | (simp [*]; done), by repeat (first | exact zt0.refl _ | apply zt0.step)⟩
mutual
def yd0.j0 : Nat → Bool → List (List Int) → List Int → Int → Option (Bool)
 | 0, _, _, _, _ => none
 | k + 1, x20, x276000, x277000, x277001 => if x20 = true then (some false) else (yd0.l0 k x276000 (x276000.length : Int) 0 x277000 x277001)
def yd0.l0 : Nat → List (List Int) → Int → Int → List Int → Int → Option (Bool)
 | 0, _, _, _, _, _ => none
 | k + 1, x22, x23, x24, x277000, x277001 => if x24 < x23 then (if 0 ≤ x24 then (if x24 < (x22.length : Int) then (if x24 < (x277000.length : Int) then ((yy1.f 0 (wrap64 (((rd_L1 x22 x24).length : Int) - 1))).bind fun t280 => ((ya1.f (rd x277000 x24) 0 t280).bind fun t281 => (if t281 = true then (yd0.l0 k x22 x23 (wrap64 (x24 + 1)) x277000 x277001) else (some false)))) else (none)) else (none)) else (none)) else (some true)
end
def yd0.f (k : Nat) (l0_0 : List (List Int)) (l1_0 : List Int) (a1_1 : Int) : Option (Bool) := (yl0.f k l0_0 a1_1).bind fun t277 => (if t277 = true then (yd0.j0 k ((l1_0.length : Int) != (l0_0.length : Int)) l0_0 l1_0 a1_1) else (yd0.j0 k true l0_0 l1_0 a1_1))
theorem yd0.mono_l : ∀ k, (∀ y0 y1 y2 y3, LeO (yd0.j0 k y0 y1 y2 y3) (yd0.j0 (k + 1) y0 y1 y2 y3)) ∧ (∀ y0 y1 y2 y3 y4, LeO (yd0.l0 k y0 y1 y2 y3 y4) (yd0.l0 (k + 1) y0 y1 y2 y3 y4))
 | 0 => ⟨fun _ _ _ _ r h => by simp [yd0.j0] at h, fun _ _ _ _ _ r h => by simp [yd0.l0] at h⟩
 | k + 1 => by
  obtain ⟨ih0, ih1⟩ := yd0.mono_l k
  refine ⟨?_, ?_⟩
  ·intro y0 y1 y2 y3
   unfold yd0.j0
   repeat' (with_reducible first | exact ih0 _ _ _ _ | exact ih1 _ _ _ _ _ | exact yl0.mono _ _ _ | exact LeO.refl _ | exact LeO.none _ | refine LeO.ite ?_ ?_ | refine LeO.bind ?_ (fun _ => ?_))
  ·intro y0 y1 y2 y3 y4
   unfold yd0.l0
   repeat' (with_reducible first | exact ih0 _ _ _ _ | exact ih1 _ _ _ _ _ | exact yl0.mono _ _ _ | exact LeO.refl _ | exact LeO.none _ | refine LeO.ite ?_ ?_ | refine LeO.bind ?_ (fun _ => ?_))
theorem yd0.mono : ∀ a0 a1 a2 k, LeO (yd0.f k a0 a1 a2) (yd0.f (k + 1) a0 a1 a2) := by
 intro a0 a1 a2 k
 obtain ⟨ih0, ih1⟩ := yd0.mono_l k
 unfold yd0.f
 repeat' (with_reducible first | exact ih0 _ _ _ _ | exact ih1 _ _ _ _ _ | exact yl0.mono _ _ _ | exact LeO.refl _ | exact LeO.none _ | refine LeO.ite ?_ ?_ | refine LeO.bind ?_ (fun _ => ?_))
theorem yd0.calls (k : Nat) (A0_0 : Option Addr) (c0_0 : Nat) (l0_0 : List (List Int)) (A1_0 : Option Addr) (c1_0 : Nat) (l1_0 : List Int) (a1_1 : Int) (r : Bool) (w : World) (hr0_0 : Kd.C (Kd.slice 3 (Kd.int .i64)) w A0_0 l0_0.length l0_0) (hc0_0 : l0_0.length ≤ c0_0) (hr1_0 : Kd.C (Kd.int .i64) w A1_0 l1_0.length l1_0) (hc1_0 : l1_0.length ≤ c1_0) (h : yd0.f k l0_0 l1_0 a1_1 = some r) :
  Calls Try.prog 65 #[.agg #[.slice A0_0 l0_0.length c0_0], .agg #[.slice A1_0 l1_0.length c1_0, .int .i64 a1_1]] w fun e w' => e = .returned (.bool r) ∧ Below w.heap.size w w' := by
 have hu29 := Try.underlying29
 have hu63 := Try.underlying63
 have HR0_0 := za0.mk hr0_0
 have HC0_0 := za0.mk hc0_0
 clear hr0_0 hc0_0
 have HR1_0 := za0.mk hr1_0
 have HC1_0 := za0.mk hc1_0
 clear hr1_0 hc1_0
 have HB := za0.mk (Below.refl w.heap.size w)
 have H : ((yl0.f k l0_0 a1_1).bind fun t277 => (if t277 = true then (yd0.j0 k ((l1_0.length : Int) != (l0_0.length : Int)) l0_0 l1_0 a1_1) else (yd0.j0 k true l0_0 l1_0 a1_1))) = some r := h
 clear h
 have HC3 := za0.mk H
 clear H
 go_enter Try.func65, Try.ntmps65
 go_upto_region 1 with (first | ((with_reducible refine zo0 (N := 2) rfl ?_); (try (refine gate_guard (by rfl) ?_; dsimp only)); refine zp0 ?hg (N := 2) ?hd (cs := #[.slice A0_0 l0_0.length c0_0]) (t := 29) ?hr ?_; (case hd | hg => rfl); (case hr => go_simp <;> rfl); intro gb275 hg w4 hbox hb; have n0_ := za0.mk (zi0 (by repeat (first | exact HB.1 | apply zc0 | apply zb0 | apply zd0)) hb); have n1_ := za0.mk (hbox); have n2_ := za0.mk ((by rw [hg]; exact (zh0 (by repeat (first | exact HB.1 | apply zc0 | apply zb0 | apply zd0))) : w.heap.size ≤ gb275)); have n3_ := za0.mk ((by rw [hg]; exact (zh0 (by repeat (first | exact HB.1 | apply zc0 | apply zb0 | apply zd0))) : w.heap.size ≤ gb275)); clear HB; have HB := n0_; have BK275 := n1_; have GW275 := n2_; have GE275 := n3_; clear n0_ n1_ n2_ n3_; clear hb hbox hg) | ((with_reducible refine zo0 (N := 3) rfl ?_); (try (refine gate_guard (by rfl) ?_; dsimp only)); refine zp0 ?hg (N := 3) ?hd (cs := #[.slice A1_0 l1_0.length c1_0, .int .i64 a1_1]) (t := 63) ?hr ?_; (case hd | hg => rfl); (case hr => go_simp <;> rfl); intro gb276 hg w5 hbox hb; have n0_ := za0.mk (zm0 (g := gb275) (o := .cells #[.slice A0_0 l0_0.length c0_0] 29 (0, 0)) (by (with_reducible repeat (first | refine zg0 ?_ _ | refine zj0 ?_ | refine zf0 ?_ _)); exact BK275.1) hb); have n1_ := za0.mk (zi0 (by repeat (first | exact HB.1 | apply zc0 | apply zb0 | apply zd0 | refine ze0 ?_ GE275.1)) hb); have n2_ := za0.mk (hbox); have n3_ := za0.mk ((by rw [hg]; exact (zh0 (by repeat (first | exact HB.1 | apply zc0 | apply zb0 | apply zd0 | refine ze0 ?_ GE275.1))) : w.heap.size ≤ gb276)); have n4_ := za0.mk ((by rw [hg]; exact (zh0 (by repeat (first | exact HB.1 | apply zc0 | apply zb0 | apply zd0 | refine ze0 ?_ GE275.1))) : w.heap.size ≤ gb276)); have n5_ := za0.mk ((by rw [hg]; exact Nat.ne_of_lt (blk_lt (g := gb275) (o := .cells #[.slice A0_0 l0_0.length c0_0] 29 (0, 0)) (by (with_reducible repeat (first | refine zg0 ?_ _ | refine zj0 ?_ | refine zf0 ?_ _)); exact BK275.1)) : gb275 ≠ gb276)); have n6_ := za0.mk ((by rw [hg]; exact Nat.ne_of_gt (blk_lt (g := gb275) (o := .cells #[.slice A0_0 l0_0.length c0_0] 29 (0, 0)) (by (with_reducible repeat (first | refine zg0 ?_ _ | refine zj0 ?_ | refine zf0 ?_ _)); exact BK275.1)) : gb276 ≠ gb275)); clear BK275; clear HB; have BK275 := n0_; have HB := n1_; have BK276 := n2_; have GW276 := n3_; have GE276 := n4_; have NB275_276 := n5_; have NB276_275 := n6_; clear n0_ n1_ n2_ n3_ n4_ n5_ n6_; clear hb hbox hg))
 repeat (go_quiet (first | ((with_reducible refine zo0 (N := 2) rfl ?_); (try (refine gate_guard (by rfl) ?_; dsimp only)); refine zp0 ?hg (N := 2) ?hd (cs := #[.slice A0_0 l0_0.length c0_0]) (t := 29) ?hr ?_; (case hd | hg => rfl); (case hr => go_simp <;> rfl); intro gb275 hg w4 hbox hb; have n0_ := za0.mk (zi0 (by repeat (first | exact HB.1 | apply zc0 | apply zb0 | apply zd0)) hb); have n1_ := za0.mk (hbox); have n2_ := za0.mk ((by rw [hg]; exact (zh0 (by repeat (first | exact HB.1 | apply zc0 | apply zb0 | apply zd0))) : w.heap.size ≤ gb275)); have n3_ := za0.mk ((by rw [hg]; exact (zh0 (by repeat (first | exact HB.1 | apply zc0 | apply zb0 | apply zd0))) : w.heap.size ≤ gb275)); clear HB; have HB := n0_; have BK275 := n1_; have GW275 := n2_; have GE275 := n3_; clear n0_ n1_ n2_ n3_; clear hb hbox hg) | ((with_reducible refine zo0 (N := 3) rfl ?_); (try (refine gate_guard (by rfl) ?_; dsimp only)); refine zp0 ?hg (N := 3) ?hd (cs := #[.slice A1_0 l1_0.length c1_0, .int .i64 a1_1]) (t := 63) ?hr ?_; (case hd | hg => rfl); (case hr => go_simp <;> rfl); intro gb276 hg w5 hbox hb; have n0_ := za0.mk (zm0 (g := gb275) (o := .cells #[.slice A0_0 l0_0.length c0_0] 29 (0, 0)) (by (with_reducible repeat (first | refine zg0 ?_ _ | refine zj0 ?_ | refine zf0 ?_ _)); exact BK275.1) hb); have n1_ := za0.mk (zi0 (by repeat (first | exact HB.1 | apply zc0 | apply zb0 | apply zd0 | refine ze0 ?_ GE275.1)) hb); have n2_ := za0.mk (hbox); have n3_ := za0.mk ((by rw [hg]; exact (zh0 (by repeat (first | exact HB.1 | apply zc0 | apply zb0 | apply zd0 | refine ze0 ?_ GE275.1))) : w.heap.size ≤ gb276)); have n4_ := za0.mk ((by rw [hg]; exact (zh0 (by repeat (first | exact HB.1 | apply zc0 | apply zb0 | apply zd0 | refine ze0 ?_ GE275.1))) : w.heap.size ≤ gb276)); have n5_ := za0.mk ((by rw [hg]; exact Nat.ne_of_lt (blk_lt (g := gb275) (o := .cells #[.slice A0_0 l0_0.length c0_0] 29 (0, 0)) (by (with_reducible repeat (first | refine zg0 ?_ _ | refine zj0 ?_ | refine zf0 ?_ _)); exact BK275.1)) : gb275 ≠ gb276)); have n6_ := za0.mk ((by rw [hg]; exact Nat.ne_of_gt (blk_lt (g := gb275) (o := .cells #[.slice A0_0 l0_0.length c0_0] 29 (0, 0)) (by (with_reducible repeat (first | refine zg0 ?_ _ | refine zj0 ?_ | refine zf0 ?_ _)); exact BK275.1)) : gb276 ≠ gb275)); clear BK275; clear HB; have BK275 := n0_; have HB := n1_; have BK276 := n2_; have GW276 := n3_; have GE276 := n4_; have NB275_276 := n5_; have NB276_275 := n6_; clear n0_ n1_ n2_ n3_ n4_ n5_ n6_; clear hb hbox hg)); go_upto_region 1 with (first | ((with_reducible refine zo0 (N := 2) rfl ?_); (try (refine gate_guard (by rfl) ?_; dsimp only)); refine zp0 ?hg (N := 2) ?hd (cs := #[.slice A0_0 l0_0.length c0_0]) (t := 29) ?hr ?_; (case hd | hg => rfl); (case hr => go_simp <;> rfl); intro gb275 hg w4 hbox hb; have n0_ := za0.mk (zi0 (by repeat (first | exact HB.1 | apply zc0 | apply zb0 | apply zd0)) hb); have n1_ := za0.mk (hbox); have n2_ := za0.mk ((by rw [hg]; exact (zh0 (by repeat (first | exact HB.1 | apply zc0 | apply zb0 | apply zd0))) : w.heap.size ≤ gb275)); have n3_ := za0.mk ((by rw [hg]; exact (zh0 (by repeat (first | exact HB.1 | apply zc0 | apply zb0 | apply zd0))) : w.heap.size ≤ gb275)); clear HB; have HB := n0_; have BK275 := n1_; have GW275 := n2_; have GE275 := n3_; clear n0_ n1_ n2_ n3_; clear hb hbox hg) | ((with_reducible refine zo0 (N := 3) rfl ?_); (try (refine gate_guard (by rfl) ?_; dsimp only)); refine zp0 ?hg (N := 3) ?hd (cs := #[.slice A1_0 l1_0.length c1_0, .int .i64 a1_1]) (t := 63) ?hr ?_; (case hd | hg => rfl); (case hr => go_simp <;> rfl); intro gb276 hg w5 hbox hb; have n0_ := za0.mk (zm0 (g := gb275) (o := .cells #[.slice A0_0 l0_0.length c0_0] 29 (0, 0)) (by (with_reducible repeat (first | refine zg0 ?_ _ | refine zj0 ?_ | refine zf0 ?_ _)); exact BK275.1) hb); have n1_ := za0.mk (zi0 (by repeat (first | exact HB.1 | apply zc0 | apply zb0 | apply zd0 | refine ze0 ?_ GE275.1)) hb); have n2_ := za0.mk (hbox); have n3_ := za0.mk ((by rw [hg]; exact (zh0 (by repeat (first | exact HB.1 | apply zc0 | apply zb0 | apply zd0 | refine ze0 ?_ GE275.1))) : w.heap.size ≤ gb276)); have n4_ := za0.mk ((by rw [hg]; exact (zh0 (by repeat (first | exact HB.1 | apply zc0 | apply zb0 | apply zd0 | refine ze0 ?_ GE275.1))) : w.heap.size ≤ gb276)); have n5_ := za0.mk ((by rw [hg]; exact Nat.ne_of_lt (blk_lt (g := gb275) (o := .cells #[.slice A0_0 l0_0.length c0_0] 29 (0, 0)) (by (with_reducible repeat (first | refine zg0 ?_ _ | refine zj0 ?_ | refine zf0 ?_ _)); exact BK275.1)) : gb275 ≠ gb276)); have n6_ := za0.mk ((by rw [hg]; exact Nat.ne_of_gt (blk_lt (g := gb275) (o := .cells #[.slice A0_0 l0_0.length c0_0] 29 (0, 0)) (by (with_reducible repeat (first | refine zg0 ?_ _ | refine zj0 ?_ | refine zf0 ?_ _)); exact BK275.1)) : gb276 ≠ gb275)); clear BK275; clear HB; have BK275 := n0_; have HB := n1_; have BK276 := n2_; have GW276 := n3_; have GE276 := n4_; have NB275_276 := n5_; have NB276_275 := n6_; clear n0_ n1_ n2_ n3_ n4_ n5_ n6_; clear hb hbox hg)))
 (try simp only [Act.put, zA, zB, zC])
 go_cut [20] (fun v20 wc => ∃ (kq : Nat) (x20_2 : Bool), v20 = .bool x20_2 ∧ za0 (yd0.j0 kq x20_2 l0_0 l1_0 a1_1 = some r) ∧ za0 (kq ≤ k) ∧ za0 (wc.heap[gb275]? = some (.cells #[(.slice A0_0 l0_0.length c0_0)] 29 (0, 0))) ∧ za0 (wc.heap[gb276]? = some (.cells #[(.slice A1_0 l1_0.length c1_0), .int .i64 a1_1] 63 (0, 0))) ∧ za0 (Below w.heap.size w wc))
 case first =>
  have H := HC3.1
  clear HC3
  replace H := Option.bind_eq_some_iff.mp H
  obtain ⟨t277, A60, H⟩ := H
  replace H : (if t277 = true then (yd0.j0 k ((l1_0.length : Int) != (l0_0.length : Int)) l0_0 l1_0 a1_1) else (yd0.j0 k true l0_0 l1_0 a1_1)) = some r := H
  have A6 := za0.mk A60
  clear A60
  by_cases c7 : t277 = true
  ·subst c7
   have H1 : (yd0.j0 k ((l1_0.length : Int) != (l0_0.length : Int)) l0_0 l1_0 a1_1) = some r := by rw [if_pos rfl] at H; exact H
   clear H
   have H := H1
   clear H1
   have H' := za0.mk H
   clear H
   have hnb8 := NB275_276.1
   have hnc8 := NB276_275.1
   have hcz9_0 : w5.cell? ⟨gb275, 0, none⟩ = some (.slice A0_0 l0_0.length c0_0) := (zl0 BK275.1 0).trans rfl
   have hfz9_0 := zk0 BK275.1 0
   have hcz10_0 : w5.cell? ⟨gb276, 0, none⟩ = some (.slice A1_0 l1_0.length c1_0) := (zl0 BK276.1 0).trans rfl
   have hcz10_1 : w5.cell? ⟨gb276, 1, none⟩ = some (.int .i64 a1_1) := (zl0 BK276.1 1).trans rfl
   have hfz10_0 := zk0 BK276.1 0
   have hfz10_1 := zk0 BK276.1 1
   go_wp2_with (first | (go_at_call 28; (with_reducible refine (yl0.calls k _ _ l0_0 a1_1 true _ ?side1 ?side2 A6.1).mono ?_); (case side1 => repeat (first | exact (Kd.C_below HR0_0.1 HB.1) | with_reducible first | refine Kd.C_alloc ?_ _ | refine Kd.C_drewN ?_ _ | refine Kd.C_drew ?_)); (case side2 => exact HC0_0.1); rintro e w11 ⟨rfl, hb⟩; have n0_ := za0.mk (zm0 (g := gb275) (o := .cells #[.slice A0_0 l0_0.length c0_0] 29 (0, 0)) (by (with_reducible repeat (first | refine zg0 ?_ _ | refine zj0 ?_ | refine zf0 ?_ _)); exact BK275.1) hb); have n1_ := za0.mk (zm0 (g := gb276) (o := .cells #[.slice A1_0 l1_0.length c1_0, .int .i64 a1_1] 63 (0, 0)) (by (with_reducible repeat (first | refine zg0 ?_ _ | refine zj0 ?_ | refine zf0 ?_ _)); exact BK276.1) hb); have n2_ := za0.mk (zi0 (by repeat (first | exact HB.1 | apply zc0 | apply zb0 | apply zd0 | refine ze0 ?_ GE275.1 | refine ze0 ?_ GE276.1)) hb); clear BK275; clear BK276; clear HB; have BK275 := n0_; have BK276 := n1_; have HB := n2_; clear n0_ n1_ n2_; (try clear hb); (try clear hb2); (try clear hk); (try clear hi); have hcz12_0 : w11.cell? ⟨gb276, 0, none⟩ = some (.slice A1_0 l1_0.length c1_0) := (zl0 BK276.1 0).trans rfl; have hcz12_1 : w11.cell? ⟨gb276, 1, none⟩ = some (.int .i64 a1_1) := (zl0 BK276.1 1).trans rfl; have hfz12_0 := zk0 BK276.1 0; have hfz12_1 := zk0 BK276.1 1; have hcz13_0 : w11.cell? ⟨gb275, 0, none⟩ = some (.slice A0_0 l0_0.length c0_0) := (zl0 BK275.1 0).trans rfl; have hfz13_0 := zk0 BK275.1 0))
   repeat (go_quiet (first | (go_at_call 28; (with_reducible refine (yl0.calls k _ _ l0_0 a1_1 true _ ?side1 ?side2 A6.1).mono ?_); (case side1 => repeat (first | exact (Kd.C_below HR0_0.1 HB.1) | with_reducible first | refine Kd.C_alloc ?_ _ | refine Kd.C_drewN ?_ _ | refine Kd.C_drew ?_)); (case side2 => exact HC0_0.1); rintro e w11 ⟨rfl, hb⟩; have n0_ := za0.mk (zm0 (g := gb275) (o := .cells #[.slice A0_0 l0_0.length c0_0] 29 (0, 0)) (by (with_reducible repeat (first | refine zg0 ?_ _ | refine zj0 ?_ | refine zf0 ?_ _)); exact BK275.1) hb); have n1_ := za0.mk (zm0 (g := gb276) (o := .cells #[.slice A1_0 l1_0.length c1_0, .int .i64 a1_1] 63 (0, 0)) (by (with_reducible repeat (first | refine zg0 ?_ _ | refine zj0 ?_ | refine zf0 ?_ _)); exact BK276.1) hb); have n2_ := za0.mk (zi0 (by repeat (first | exact HB.1 | apply zc0 | apply zb0 | apply zd0 | refine ze0 ?_ GE275.1 | refine ze0 ?_ GE276.1)) hb); clear BK275; clear BK276; clear HB; have BK275 := n0_; have BK276 := n1_; have HB := n2_; clear n0_ n1_ n2_; (try clear hb); (try clear hb2); (try clear hk); (try clear hi); have hcz12_0 : w11.cell? ⟨gb276, 0, none⟩ = some (.slice A1_0 l1_0.length c1_0) := (zl0 BK276.1 0).trans rfl; have hcz12_1 : w11.cell? ⟨gb276, 1, none⟩ = some (.int .i64 a1_1) := (zl0 BK276.1 1).trans rfl; have hfz12_0 := zk0 BK276.1 0; have hfz12_1 := zk0 BK276.1 1; have hcz13_0 : w11.cell? ⟨gb275, 0, none⟩ = some (.slice A0_0 l0_0.length c0_0) := (zl0 BK275.1 0).trans rfl; have hfz13_0 := zk0 BK275.1 0)); try go_wp2_with (first | (go_at_call 28; (with_reducible refine (yl0.calls k _ _ l0_0 a1_1 true _ ?side1 ?side2 A6.1).mono ?_); (case side1 => repeat (first | exact (Kd.C_below HR0_0.1 HB.1) | with_reducible first | refine Kd.C_alloc ?_ _ | refine Kd.C_drewN ?_ _ | refine Kd.C_drew ?_)); (case side2 => exact HC0_0.1); rintro e w11 ⟨rfl, hb⟩; have n0_ := za0.mk (zm0 (g := gb275) (o := .cells #[.slice A0_0 l0_0.length c0_0] 29 (0, 0)) (by (with_reducible repeat (first | refine zg0 ?_ _ | refine zj0 ?_ | refine zf0 ?_ _)); exact BK275.1) hb); have n1_ := za0.mk (zm0 (g := gb276) (o := .cells #[.slice A1_0 l1_0.length c1_0, .int .i64 a1_1] 63 (0, 0)) (by (with_reducible repeat (first | refine zg0 ?_ _ | refine zj0 ?_ | refine zf0 ?_ _)); exact BK276.1) hb); have n2_ := za0.mk (zi0 (by repeat (first | exact HB.1 | apply zc0 | apply zb0 | apply zd0 | refine ze0 ?_ GE275.1 | refine ze0 ?_ GE276.1)) hb); clear BK275; clear BK276; clear HB; have BK275 := n0_; have BK276 := n1_; have HB := n2_; clear n0_ n1_ n2_; (try clear hb); (try clear hb2); (try clear hk); (try clear hi); have hcz12_0 : w11.cell? ⟨gb276, 0, none⟩ = some (.slice A1_0 l1_0.length c1_0) := (zl0 BK276.1 0).trans rfl; have hcz12_1 : w11.cell? ⟨gb276, 1, none⟩ = some (.int .i64 a1_1) := (zl0 BK276.1 1).trans rfl; have hfz12_0 := zk0 BK276.1 0; have hfz12_1 := zk0 BK276.1 1; have hcz13_0 : w11.cell? ⟨gb275, 0, none⟩ = some (.slice A0_0 l0_0.length c0_0) := (zl0 BK275.1 0).trans rfl; have hfz13_0 := zk0 BK275.1 0)))
   go_meet
   case rel => exact ⟨_, (((l1_0.length : Int) != (l0_0.length : Int))), (by first | rfl | (simp; done) | (simp [*]; done)), H', ⟨by first | omega | exact Nat.le_refl _⟩, ⟨by (with_reducible repeat (first | refine zg0 ?_ _ | refine zj0 ?_ | refine zf0 ?_ _)); exact BK275.1⟩, ⟨by (with_reducible repeat (first | refine zg0 ?_ _ | refine zj0 ?_ | refine zf0 ?_ _)); exact BK276.1⟩, ⟨by repeat (first | exact HB.1 | apply zc0 | apply zb0 | apply zd0 | refine ze0 ?_ GE275.1 | refine ze0 ?_ GE276.1)⟩⟩
  replace c7 := Bool.eq_false_iff.mpr c7
  subst c7
  have H1 : (yd0.j0 k true l0_0 l1_0 a1_1) = some r := by rw [if_neg (show ¬ (false = true) by decide)] at H; exact H
  clear H
  have H := H1
  clear H1
  have H' := za0.mk H
  clear H
  have hnb14 := NB275_276.1
  have hnc14 := NB276_275.1
  have hcz15_0 : w5.cell? ⟨gb275, 0, none⟩ = some (.slice A0_0 l0_0.length c0_0) := (zl0 BK275.1 0).trans rfl
  have hfz15_0 := zk0 BK275.1 0
  have hcz16_0 : w5.cell? ⟨gb276, 0, none⟩ = some (.slice A1_0 l1_0.length c1_0) := (zl0 BK276.1 0).trans rfl
  have hcz16_1 : w5.cell? ⟨gb276, 1, none⟩ = some (.int .i64 a1_1) := (zl0 BK276.1 1).trans rfl
  have hfz16_0 := zk0 BK276.1 0
  have hfz16_1 := zk0 BK276.1 1
  go_wp2_with (first | (go_at_call 28; (with_reducible refine (yl0.calls k _ _ l0_0 a1_1 false _ ?side1 ?side2 A6.1).mono ?_); (case side1 => repeat (first | exact (Kd.C_below HR0_0.1 HB.1) | with_reducible first | refine Kd.C_alloc ?_ _ | refine Kd.C_drewN ?_ _ | refine Kd.C_drew ?_)); (case side2 => exact HC0_0.1); rintro e w17 ⟨rfl, hb⟩; have n0_ := za0.mk (zm0 (g := gb275) (o := .cells #[.slice A0_0 l0_0.length c0_0] 29 (0, 0)) (by (with_reducible repeat (first | refine zg0 ?_ _ | refine zj0 ?_ | refine zf0 ?_ _)); exact BK275.1) hb); have n1_ := za0.mk (zm0 (g := gb276) (o := .cells #[.slice A1_0 l1_0.length c1_0, .int .i64 a1_1] 63 (0, 0)) (by (with_reducible repeat (first | refine zg0 ?_ _ | refine zj0 ?_ | refine zf0 ?_ _)); exact BK276.1) hb); have n2_ := za0.mk (zi0 (by repeat (first | exact HB.1 | apply zc0 | apply zb0 | apply zd0 | refine ze0 ?_ GE275.1 | refine ze0 ?_ GE276.1)) hb); clear BK275; clear BK276; clear HB; have BK275 := n0_; have BK276 := n1_; have HB := n2_; clear n0_ n1_ n2_; (try clear hb); (try clear hb2); (try clear hk); (try clear hi)))
  repeat (go_quiet (first | (go_at_call 28; (with_reducible refine (yl0.calls k _ _ l0_0 a1_1 false _ ?side1 ?side2 A6.1).mono ?_); (case side1 => repeat (first | exact (Kd.C_below HR0_0.1 HB.1) | with_reducible first | refine Kd.C_alloc ?_ _ | refine Kd.C_drewN ?_ _ | refine Kd.C_drew ?_)); (case side2 => exact HC0_0.1); rintro e w17 ⟨rfl, hb⟩; have n0_ := za0.mk (zm0 (g := gb275) (o := .cells #[.slice A0_0 l0_0.length c0_0] 29 (0, 0)) (by (with_reducible repeat (first | refine zg0 ?_ _ | refine zj0 ?_ | refine zf0 ?_ _)); exact BK275.1) hb); have n1_ := za0.mk (zm0 (g := gb276) (o := .cells #[.slice A1_0 l1_0.length c1_0, .int .i64 a1_1] 63 (0, 0)) (by (with_reducible repeat (first | refine zg0 ?_ _ | refine zj0 ?_ | refine zf0 ?_ _)); exact BK276.1) hb); have n2_ := za0.mk (zi0 (by repeat (first | exact HB.1 | apply zc0 | apply zb0 | apply zd0 | refine ze0 ?_ GE275.1 | refine ze0 ?_ GE276.1)) hb); clear BK275; clear BK276; clear HB; have BK275 := n0_; have BK276 := n1_; have HB := n2_; clear n0_ n1_ n2_; (try clear hb); (try clear hb2); (try clear hk); (try clear hi))); try go_wp2_with (first | (go_at_call 28; (with_reducible refine (yl0.calls k _ _ l0_0 a1_1 false _ ?side1 ?side2 A6.1).mono ?_); (case side1 => repeat (first | exact (Kd.C_below HR0_0.1 HB.1) | with_reducible first | refine Kd.C_alloc ?_ _ | refine Kd.C_drewN ?_ _ | refine Kd.C_drew ?_)); (case side2 => exact HC0_0.1); rintro e w17 ⟨rfl, hb⟩; have n0_ := za0.mk (zm0 (g := gb275) (o := .cells #[.slice A0_0 l0_0.length c0_0] 29 (0, 0)) (by (with_reducible repeat (first | refine zg0 ?_ _ | refine zj0 ?_ | refine zf0 ?_ _)); exact BK275.1) hb); have n1_ := za0.mk (zm0 (g := gb276) (o := .cells #[.slice A1_0 l1_0.length c1_0, .int .i64 a1_1] 63 (0, 0)) (by (with_reducible repeat (first | refine zg0 ?_ _ | refine zj0 ?_ | refine zf0 ?_ _)); exact BK276.1) hb); have n2_ := za0.mk (zi0 (by repeat (first | exact HB.1 | apply zc0 | apply zb0 | apply zd0 | refine ze0 ?_ GE275.1 | refine ze0 ?_ GE276.1)) hb); clear BK275; clear BK276; clear HB; have BK275 := n0_; have BK276 := n1_; have HB := n2_; clear n0_ n1_ n2_; (try clear hb); (try clear hb2); (try clear hk); (try clear hi))))
  go_meet
  case rel => exact ⟨_, (true), (by first | rfl | (simp; done) | (simp [*]; done)), H', ⟨by first | omega | exact Nat.le_refl _⟩, ⟨by (with_reducible repeat (first | refine zg0 ?_ _ | refine zj0 ?_ | refine zf0 ?_ _)); exact BK275.1⟩, ⟨by (with_reducible repeat (first | refine zg0 ?_ _ | refine zj0 ?_ | refine zf0 ?_ _)); exact BK276.1⟩, ⟨by repeat (first | exact HB.1 | apply zc0 | apply zb0 | apply zd0 | refine ze0 ?_ GE275.1 | refine ze0 ?_ GE276.1)⟩⟩
 case rest =>
  clear HC3
  try clear c1
  try clear p2
  try clear c6
  try clear c7
  try clear c8
  try clear c14
  try clear hcz10_0
  try clear hcz10_1
  try clear hcz12_0
  try clear hcz12_1
  try clear hcz13_0
  try clear hcz15_0
  try clear hcz16_0
  try clear hcz16_1
  try clear hcz9_0
  try clear hfz10_0
  try clear hfz10_1
  try clear hfz12_0
  try clear hfz12_1
  try clear hfz13_0
  try clear hfz15_0
  try clear hfz16_0
  try clear hfz16_1
  try clear hfz9_0
  obtain ⟨kq, x20_2, rfl, HA, HJ2, BK275, BK276, HB⟩ := hcut
  cases kq with
  | zero => exact absurd HA.1 (by simp [yd0.j0])
  | succ kj2 =>
   have H := HA.1
   clear HA
   simp only [yd0.j0] at H
   by_cases c18 : x20_2 = true
   ·subst c18
    have H1 : (some false) = some r := by rw [if_pos rfl] at H; exact H
    clear H
    have H := H1
    clear H1
    obtain rfl := Option.some.inj H
    go_wp2
    repeat (go_quiet (fail); try go_wp2)
    go_ret
    exact ⟨by first | rfl | (simp [errW_none, errW_some] <;> rfl) | (simp [*, errW_none, errW_some] <;> rfl), by repeat (first | exact HB.1 | apply zc0 | apply zb0 | apply zd0 | refine ze0 ?_ GE275.1 | refine ze0 ?_ GE276.1)⟩
   replace c18 := Bool.eq_false_iff.mpr c18
   subst c18
   have H1 : (yd0.l0 kj2 l0_0 (l0_0.length : Int) 0 l1_0 a1_1) = some r := by rw [if_neg (show ¬ (false = true) by decide)] at H; exact H
   clear H
   have H := H1
   clear H1
   have H' := za0.mk H
   clear H
   have hnb19 := NB275_276.1
   have hnc19 := NB276_275.1
   have hcz20_0 : wc.cell? ⟨gb275, 0, none⟩ = some (.slice A0_0 l0_0.length c0_0) := (zl0 BK275.1 0).trans rfl
   have hfz20_0 := zk0 BK275.1 0
   go_wp2
   repeat (go_quiet (fail); try go_wp2)
   go_loopg [24] kj2 (fun kq v24 w' => ∃ (x24_2 : Int), v24 = .int .i64 x24_2 ∧ za0 (yd0.l0 kq l0_0 (l0_0.length : Int) x24_2 l1_0 a1_1 = some r) ∧ za0 (kq ≤ kj2) ∧ za0 (w'.heap[gb275]? = some (.cells #[(.slice A0_0 l0_0.length c0_0)] 29 (0, 0))) ∧ za0 (w'.heap[gb276]? = some (.cells #[(.slice A1_0 l1_0.length c1_0), .int .i64 a1_1] 63 (0, 0))) ∧ za0 (Below w.heap.size w w'))
   case atStart => exact ⟨(0), (by first | rfl | (simp; done) | (simp [*]; done)), H', ⟨Nat.le_refl _⟩, ⟨by (with_reducible repeat (first | refine zg0 ?_ _ | refine zj0 ?_ | refine zf0 ?_ _)); exact BK275.1⟩, ⟨by (with_reducible repeat (first | refine zg0 ?_ _ | refine zj0 ?_ | refine zf0 ?_ _)); exact BK276.1⟩, ⟨by repeat (first | exact HB.1 | apply zc0 | apply zb0 | apply zd0 | refine ze0 ?_ GE275.1 | refine ze0 ?_ GE276.1)⟩⟩
   case round =>
    clear H'
    try clear c1
    try clear p2
    try clear c6
    try clear c7
    try clear c8
    try clear c14
    try clear c18
    try clear c19
    try clear hcz10_0
    try clear hcz10_1
    try clear hcz12_0
    try clear hcz12_1
    try clear hcz13_0
    try clear hcz15_0
    try clear hcz16_0
    try clear hcz16_1
    try clear hcz20_0
    try clear hcz9_0
    try clear hfz10_0
    try clear hfz10_1
    try clear hfz12_0
    try clear hfz12_1
    try clear hfz13_0
    try clear hfz15_0
    try clear hfz16_0
    try clear hfz16_1
    try clear hfz20_0
    try clear hfz9_0
    try clear p2
    obtain ⟨x24_2, rfl, HA, HK2, BK275, BK276, HB⟩ := hrel
    obtain _ | k2 := gk
    ·exact absurd HA.1 (by simp [yd0.l0])
    have H := HA.1
    clear HA
    simp only [yd0.l0] at H
    by_cases c21 : x24_2 < (l0_0.length : Int)
    rotate_left
    ·rw [if_neg c21] at H
     have c21b0 : decide (x24_2 < (l0_0.length : Int)) = false := decide_eq_false c21
     clear c21
     obtain rfl := Option.some.inj H
     go_wp2
     repeat (go_quiet (fail); try go_wp2)
     go_ret
     exact ⟨by first | rfl | (simp [errW_none, errW_some] <;> rfl) | (simp [*, errW_none, errW_some] <;> rfl), by repeat (first | exact HB.1 | apply zc0 | apply zb0 | apply zd0 | refine ze0 ?_ GE275.1 | refine ze0 ?_ GE276.1)⟩
    rw [if_pos c21] at H
    have c21b0 : decide (x24_2 < (l0_0.length : Int)) = true := decide_eq_true c21
    clear c21
    by_cases c22 : 0 ≤ x24_2
    rotate_left
    ·rw [if_neg c22] at H
     exact absurd H (by simp)
    rw [if_pos c22] at H
    have c22b0 : decide (0 ≤ x24_2) = true := decide_eq_true c22
    clear c22
    by_cases c23 : x24_2 < (l0_0.length : Int)
    rotate_left
    ·rw [if_neg c23] at H
     exact absurd H (by simp)
    rw [if_pos c23] at H
    have c23b0 : decide (x24_2 < (l0_0.length : Int)) = true := decide_eq_true c23
    clear c23
    by_cases c24 : x24_2 < (l1_0.length : Int)
    rotate_left
    ·rw [if_neg c24] at H
     exact absurd H (by simp)
    rw [if_pos c24] at H
    have c24b0 : decide (x24_2 < (l1_0.length : Int)) = true := decide_eq_true c24
    clear c24
    replace H := Option.bind_eq_some_iff.mp H
    obtain ⟨t280, A250, H⟩ := H
    replace H : ((ya1.f (rd l1_0 x24_2) 0 t280).bind fun t281 => (if t281 = true then (yd0.l0 k2 l0_0 (l0_0.length : Int) (wrap64 (x24_2 + 1)) l1_0 a1_1) else (some false))) = some r := H
    have A25 := za0.mk A250
    clear A250
    replace H := Option.bind_eq_some_iff.mp H
    obtain ⟨t281, A260, H⟩ := H
    replace H : (if t281 = true then (yd0.l0 k2 l0_0 (l0_0.length : Int) (wrap64 (x24_2 + 1)) l1_0 a1_1) else (some false)) = some r := H
    have A26 := za0.mk A260
    clear A260
    by_cases c27 : t281 = true
    rotate_left
    ·replace c27 := Bool.eq_false_iff.mpr c27
     subst c27
     have H1 : (some false) = some r := by rw [if_neg (show ¬ (false = true) by decide)] at H; exact H
     clear H
     have H := H1
     clear H1
     obtain rfl := Option.some.inj H
     have p278 : 0 ≤ (x24_2 : Int) := of_decide_eq_true (by assumption)
     have q278 : x24_2 < (l0_0.length : Int) := of_decide_eq_true (by assumption)
     obtain ⟨ad278, A278_0, c278_0, e278, hx278_0, hl278_0, hi278_0⟩ := at_L1 HR0_0.1 x24_2 p278 q278
     cases e278
     replace hx278_0 := (HB.1.cell (World.block_lt_of_cell? w _ hx278_0)).trans hx278_0
     have HR278_0 := za0.mk hi278_0
     have HC278_0 := za0.mk hl278_0
     clear hi278_0 hl278_0
     replace p278 := eq_true p278
     replace q278 := eq_true q278
     have hnb30 := NB276_275.1
     have hnc30 := NB275_276.1
     have hcz31_0 : wr.cell? ⟨gb276, 0, none⟩ = some (.slice A1_0 l1_0.length c1_0) := (zl0 BK276.1 0).trans rfl
     have hcz31_1 : wr.cell? ⟨gb276, 1, none⟩ = some (.int .i64 a1_1) := (zl0 BK276.1 1).trans rfl
     have hfz31_0 := zk0 BK276.1 0
     have hfz31_1 := zk0 BK276.1 1
     have p279 : 0 ≤ (x24_2 : Int) := of_decide_eq_true (by assumption)
     have q279 : x24_2 < (l1_0.length : Int) := of_decide_eq_true (by assumption)
     obtain ⟨ad279, e279, hx279_0⟩ := Kd.at_int HR1_0.1 x24_2 p279 q279
     cases e279
     replace hx279_0 := (HB.1.cell (World.block_lt_of_cell? w _ hx279_0)).trans hx279_0
     replace p279 := eq_true p279
     replace q279 := eq_true q279
     go_wp2_with (first | (go_at_call 79; (with_reducible refine (yy1.calls 0 (wrap64 (((rd_L1 l0_0 x24_2).length : Int) - 1)) t280 _ A25.1).mono ?_); rintro e w' ⟨rfl, ⟨nd, rfl⟩⟩; (try first | exact ⟨rfl, _, World.drewN_drewN _ _ _⟩ | exact ⟨rfl, _, Eq.trans (World.drewN_drewN _ _ _) (congrArg (World.drewN _) (Nat.add_assoc _ _ _))⟩)) | (go_at_call 45; (with_reducible refine (ya1.calls (rd l1_0 x24_2) 0 t280 false _ A26.1).mono ?_); rintro e w' ⟨rfl, ⟨nd, rfl⟩⟩; (try first | exact ⟨rfl, _, World.drewN_drewN _ _ _⟩ | exact ⟨rfl, _, Eq.trans (World.drewN_drewN _ _ _) (congrArg (World.drewN _) (Nat.add_assoc _ _ _))⟩)))
     repeat (go_quiet (first | (go_at_call 79; (with_reducible refine (yy1.calls 0 (wrap64 (((rd_L1 l0_0 x24_2).length : Int) - 1)) t280 _ A25.1).mono ?_); rintro e w' ⟨rfl, ⟨nd, rfl⟩⟩; (try first | exact ⟨rfl, _, World.drewN_drewN _ _ _⟩ | exact ⟨rfl, _, Eq.trans (World.drewN_drewN _ _ _) (congrArg (World.drewN _) (Nat.add_assoc _ _ _))⟩)) | (go_at_call 45; (with_reducible refine (ya1.calls (rd l1_0 x24_2) 0 t280 false _ A26.1).mono ?_); rintro e w' ⟨rfl, ⟨nd, rfl⟩⟩; (try first | exact ⟨rfl, _, World.drewN_drewN _ _ _⟩ | exact ⟨rfl, _, Eq.trans (World.drewN_drewN _ _ _) (congrArg (World.drewN _) (Nat.add_assoc _ _ _))⟩))); try go_wp2_with (first | (go_at_call 79; (with_reducible refine (yy1.calls 0 (wrap64 (((rd_L1 l0_0 x24_2).length : Int) - 1)) t280 _ A25.1).mono ?_); rintro e w' ⟨rfl, ⟨nd, rfl⟩⟩; (try first | exact ⟨rfl, _, World.drewN_drewN _ _ _⟩ | exact ⟨rfl, _, Eq.trans (World.drewN_drewN _ _ _) (congrArg (World.drewN _) (Nat.add_assoc _ _ _))⟩)) | (go_at_call 45; (with_reducible refine (ya1.calls (rd l1_0 x24_2) 0 t280 false _ A26.1).mono ?_); rintro e w' ⟨rfl, ⟨nd, rfl⟩⟩; (try first | exact ⟨rfl, _, World.drewN_drewN _ _ _⟩ | exact ⟨rfl, _, Eq.trans (World.drewN_drewN _ _ _) (congrArg (World.drewN _) (Nat.add_assoc _ _ _))⟩))))
     go_ret
     exact ⟨by first | rfl | (simp [errW_none, errW_some] <;> rfl) | (simp [*, errW_none, errW_some] <;> rfl), by repeat (first | exact HB.1 | apply zc0 | apply zb0 | apply zd0 | refine ze0 ?_ GE275.1 | refine ze0 ?_ GE276.1)⟩
    subst c27
    have H1 : (yd0.l0 k2 l0_0 (l0_0.length : Int) (wrap64 (x24_2 + 1)) l1_0 a1_1) = some r := by rw [if_pos rfl] at H; exact H
    clear H
    have H := H1
    clear H1
    have H' := za0.mk H
    clear H
    have p278 : 0 ≤ (x24_2 : Int) := of_decide_eq_true (by assumption)
    have q278 : x24_2 < (l0_0.length : Int) := of_decide_eq_true (by assumption)
    obtain ⟨ad278, A278_0, c278_0, e278, hx278_0, hl278_0, hi278_0⟩ := at_L1 HR0_0.1 x24_2 p278 q278
    cases e278
    replace hx278_0 := (HB.1.cell (World.block_lt_of_cell? w _ hx278_0)).trans hx278_0
    have HR278_0 := za0.mk hi278_0
    have HC278_0 := za0.mk hl278_0
    clear hi278_0 hl278_0
    replace p278 := eq_true p278
    replace q278 := eq_true q278
    have hnb28 := NB276_275.1
    have hnc28 := NB275_276.1
    have hcz29_0 : wr.cell? ⟨gb276, 0, none⟩ = some (.slice A1_0 l1_0.length c1_0) := (zl0 BK276.1 0).trans rfl
    have hcz29_1 : wr.cell? ⟨gb276, 1, none⟩ = some (.int .i64 a1_1) := (zl0 BK276.1 1).trans rfl
    have hfz29_0 := zk0 BK276.1 0
    have hfz29_1 := zk0 BK276.1 1
    have p279 : 0 ≤ (x24_2 : Int) := of_decide_eq_true (by assumption)
    have q279 : x24_2 < (l1_0.length : Int) := of_decide_eq_true (by assumption)
    obtain ⟨ad279, e279, hx279_0⟩ := Kd.at_int HR1_0.1 x24_2 p279 q279
    cases e279
    replace hx279_0 := (HB.1.cell (World.block_lt_of_cell? w _ hx279_0)).trans hx279_0
    replace p279 := eq_true p279
    replace q279 := eq_true q279
    go_wp2_with (first | (go_at_call 79; (with_reducible refine (yy1.calls 0 (wrap64 (((rd_L1 l0_0 x24_2).length : Int) - 1)) t280 _ A25.1).mono ?_); rintro e w' ⟨rfl, ⟨nd, rfl⟩⟩; (try first | exact ⟨rfl, _, World.drewN_drewN _ _ _⟩ | exact ⟨rfl, _, Eq.trans (World.drewN_drewN _ _ _) (congrArg (World.drewN _) (Nat.add_assoc _ _ _))⟩)) | (go_at_call 45; (with_reducible refine (ya1.calls (rd l1_0 x24_2) 0 t280 true _ A26.1).mono ?_); rintro e w' ⟨rfl, ⟨nd, rfl⟩⟩; (try first | exact ⟨rfl, _, World.drewN_drewN _ _ _⟩ | exact ⟨rfl, _, Eq.trans (World.drewN_drewN _ _ _) (congrArg (World.drewN _) (Nat.add_assoc _ _ _))⟩)))
    repeat (go_quiet (first | (go_at_call 79; (with_reducible refine (yy1.calls 0 (wrap64 (((rd_L1 l0_0 x24_2).length : Int) - 1)) t280 _ A25.1).mono ?_); rintro e w' ⟨rfl, ⟨nd, rfl⟩⟩; (try first | exact ⟨rfl, _, World.drewN_drewN _ _ _⟩ | exact ⟨rfl, _, Eq.trans (World.drewN_drewN _ _ _) (congrArg (World.drewN _) (Nat.add_assoc _ _ _))⟩)) | (go_at_call 45; (with_reducible refine (ya1.calls (rd l1_0 x24_2) 0 t280 true _ A26.1).mono ?_); rintro e w' ⟨rfl, ⟨nd, rfl⟩⟩; (try first | exact ⟨rfl, _, World.drewN_drewN _ _ _⟩ | exact ⟨rfl, _, Eq.trans (World.drewN_drewN _ _ _) (congrArg (World.drewN _) (Nat.add_assoc _ _ _))⟩))); try go_wp2_with (first | (go_at_call 79; (with_reducible refine (yy1.calls 0 (wrap64 (((rd_L1 l0_0 x24_2).length : Int) - 1)) t280 _ A25.1).mono ?_); rintro e w' ⟨rfl, ⟨nd, rfl⟩⟩; (try first | exact ⟨rfl, _, World.drewN_drewN _ _ _⟩ | exact ⟨rfl, _, Eq.trans (World.drewN_drewN _ _ _) (congrArg (World.drewN _) (Nat.add_assoc _ _ _))⟩)) | (go_at_call 45; (with_reducible refine (ya1.calls (rd l1_0 x24_2) 0 t280 true _ A26.1).mono ?_); rintro e w' ⟨rfl, ⟨nd, rfl⟩⟩; (try first | exact ⟨rfl, _, World.drewN_drewN _ _ _⟩ | exact ⟨rfl, _, Eq.trans (World.drewN_drewN _ _ _) (congrArg (World.drewN _) (Nat.add_assoc _ _ _))⟩))))
    go_roundg k2
    case measure => have := HJ2.1; have := HK2.1; omega
    case rel => exact ⟨(wrap64 (x24_2 + 1)), (by first | rfl | (simp; done) | (simp [*]; done)), H', ⟨by have := HJ2.1; have := HK2.1; omega⟩, ⟨by (with_reducible repeat (first | refine zg0 ?_ _ | refine zj0 ?_ | refine zf0 ?_ _)); exact BK275.1⟩, ⟨by (with_reducible repeat (first | refine zg0 ?_ _ | refine zj0 ?_ | refine zf0 ?_ _)); exact BK276.1⟩, ⟨by repeat (first | exact HB.1 | apply zc0 | apply zb0 | apply zd0 | refine ze0 ?_ GE275.1 | refine ze0 ?_ GE276.1)⟩⟩
def yi1.f (k : Nat) (l0_0 : List (List Int)) (a1 : Int) (l2 : List Int) : Option (Bool) := (yl0.f k l0_0 a1).bind fun t283 => (if t283 = true then ((yd0.f k l0_0 l2 a1).bind fun t284 => (if t284 = true then (if 0 ≤ a1 then (if a1 < (l2.length : Int) then (some ((rd l2 a1) == 0)) else (none)) else (none)) else (some false))) else (some false))
theorem yi1.mono : ∀ a0 a1 a2 k, LeO (yi1.f k a0 a1 a2) (yi1.f (k + 1) a0 a1 a2) := by
 intro a0 a1 a2 k
 unfold yi1.f
 repeat' (with_reducible first | exact yl0.mono _ _ _ | exact yd0.mono _ _ _ _ | exact LeO.refl _ | exact LeO.none _ | refine LeO.ite ?_ ?_ | refine LeO.bind ?_ (fun _ => ?_))
theorem yi1.calls (k : Nat) (A0_0 : Option Addr) (c0_0 : Nat) (l0_0 : List (List Int)) (a1 : Int) (A2 : Option Addr) (c2 : Nat) (l2 : List Int) (r : Bool) (w : World) (hr0_0 : Kd.C (Kd.slice 3 (Kd.int .i64)) w A0_0 l0_0.length l0_0) (hc0_0 : l0_0.length ≤ c0_0) (hr2 : Kd.C (Kd.int .i64) w A2 l2.length l2) (hc2 : l2.length ≤ c2) (h : yi1.f k l0_0 a1 l2 = some r) :
  Calls Try.prog 42 #[.agg #[.slice A0_0 l0_0.length c0_0], .int .i64 a1, .slice A2 l2.length c2] w fun e w' => e = .returned (.bool r) ∧ Below w.heap.size w w' := by
 have hu29 := Try.underlying29
 have hu63 := Try.underlying63
 have HR0_0 := za0.mk hr0_0
 have HC0_0 := za0.mk hc0_0
 clear hr0_0 hc0_0
 have HR2 := za0.mk hr2
 have HC2 := za0.mk hc2
 clear hr2 hc2
 have HB := za0.mk (Below.refl w.heap.size w)
 have H : ((yl0.f k l0_0 a1).bind fun t283 => (if t283 = true then ((yd0.f k l0_0 l2 a1).bind fun t284 => (if t284 = true then (if 0 ≤ a1 then (if a1 < (l2.length : Int) then (some ((rd l2 a1) == 0)) else (none)) else (none)) else (some false))) else (some false))) = some r := h
 clear h
 replace H := Option.bind_eq_some_iff.mp H
 obtain ⟨t283, A40, H⟩ := H
 replace H : (if t283 = true then ((yd0.f k l0_0 l2 a1).bind fun t284 => (if t284 = true then (if 0 ≤ a1 then (if a1 < (l2.length : Int) then (some ((rd l2 a1) == 0)) else (none)) else (none)) else (some false))) else (some false)) = some r := H
 have A4 := za0.mk A40
 clear A40
 by_cases c5 : t283 = true
 rotate_left
 ·replace c5 := Bool.eq_false_iff.mpr c5
  subst c5
  have H1 : (some false) = some r := by rw [if_neg (show ¬ (false = true) by decide)] at H; exact H
  clear H
  have H := H1
  clear H1
  obtain rfl := Option.some.inj H
  go_enter Try.func42, Try.ntmps42
  go_wp2_with (first | ((with_reducible refine zo0 (N := 3) rfl ?_); refine zp0 ?hg (N := 3) ?hd (cs := #[.slice A0_0 l0_0.length c0_0]) (t := 29) ?hr ?_; (case hd | hg => rfl); (case hr => go_simp <;> rfl); intro gb282 hg w20 hbox hb; have n0_ := za0.mk (zi0 (by repeat (first | exact HB.1 | apply zc0 | apply zb0 | apply zd0)) hb); have n1_ := za0.mk (hbox); have n2_ := za0.mk ((by rw [hg]; exact (zh0 (by repeat (first | exact HB.1 | apply zc0 | apply zb0 | apply zd0))) : w.heap.size ≤ gb282)); have n3_ := za0.mk ((by rw [hg]; exact (zh0 (by repeat (first | exact HB.1 | apply zc0 | apply zb0 | apply zd0))) : w.heap.size ≤ gb282)); clear HB; have HB := n0_; have BK282 := n1_; have GW282 := n2_; have GE282 := n3_; clear n0_ n1_ n2_ n3_; clear hb hbox hg; have hcz21_0 : w20.cell? ⟨gb282, 0, none⟩ = some (.slice A0_0 l0_0.length c0_0) := (zl0 BK282.1 0).trans rfl; have hfz21_0 := zk0 BK282.1 0) | ((with_reducible refine zn0 (f := 28) rfl ?_); refine za1 (some 9) rfl rfl Try.func28 (by kernel_rfl) rfl #[.agg #[.slice A0_0 l0_0.length c0_0], .int .i64 a1] rfl (by (try simp only [List.map_toArray, List.map_cons, List.map_nil]); first | done | rfl | (simp only [List.length_drop, List.length_take]; rfl)) ?_; (with_reducible refine (yl0.calls k _ _ l0_0 a1 false _ ?side1 ?side2 A4.1).mono ?_); (case side1 => repeat (first | exact (Kd.C_below HR0_0.1 HB.1) | with_reducible first | refine Kd.C_alloc ?_ _ | refine Kd.C_drewN ?_ _ | refine Kd.C_drew ?_)); (case side2 => exact HC0_0.1); rintro e w22 ⟨rfl, hb⟩; refine ⟨_, rfl, ?_⟩; have n0_ := za0.mk (zm0 (g := gb282) (o := .cells #[.slice A0_0 l0_0.length c0_0] 29 (0, 0)) (by (with_reducible repeat (first | refine zg0 ?_ _ | refine zj0 ?_ | refine zf0 ?_ _)); exact BK282.1) hb); have n1_ := za0.mk (zi0 (by repeat (first | exact HB.1 | apply zc0 | apply zb0 | apply zd0 | refine ze0 ?_ GE282.1)) hb); clear BK282; clear HB; have BK282 := n0_; have HB := n1_; clear n0_ n1_; (try clear hb); (try clear hb2); (try clear hk); (try clear hi)))
  go_ret
  exact ⟨by first | rfl | (simp [errW_none, errW_some] <;> rfl) | (simp [*, errW_none, errW_some] <;> rfl), by repeat (first | exact HB.1 | apply zc0 | apply zb0 | apply zd0 | refine ze0 ?_ GE282.1)⟩
 subst c5
 have H1 : ((yd0.f k l0_0 l2 a1).bind fun t284 => (if t284 = true then (if 0 ≤ a1 then (if a1 < (l2.length : Int) then (some ((rd l2 a1) == 0)) else (none)) else (none)) else (some false))) = some r := by rw [if_pos rfl] at H; exact H
 clear H
 have H := H1
 clear H1
 replace H := Option.bind_eq_some_iff.mp H
 obtain ⟨t284, A60, H⟩ := H
 replace H : (if t284 = true then (if 0 ≤ a1 then (if a1 < (l2.length : Int) then (some ((rd l2 a1) == 0)) else (none)) else (none)) else (some false)) = some r := H
 have A6 := za0.mk A60
 clear A60
 by_cases c7 : t284 = true
 rotate_left
 ·replace c7 := Bool.eq_false_iff.mpr c7
  subst c7
  have H1 : (some false) = some r := by rw [if_neg (show ¬ (false = true) by decide)] at H; exact H
  clear H
  have H := H1
  clear H1
  obtain rfl := Option.some.inj H
  go_enter Try.func42, Try.ntmps42
  go_wp2_with (first | ((with_reducible refine zo0 (N := 3) rfl ?_); refine zp0 ?hg (N := 3) ?hd (cs := #[.slice A0_0 l0_0.length c0_0]) (t := 29) ?hr ?_; (case hd | hg => rfl); (case hr => go_simp <;> rfl); intro gb282 hg w15 hbox hb; have n0_ := za0.mk (zi0 (by repeat (first | exact HB.1 | apply zc0 | apply zb0 | apply zd0)) hb); have n1_ := za0.mk (hbox); have n2_ := za0.mk ((by rw [hg]; exact (zh0 (by repeat (first | exact HB.1 | apply zc0 | apply zb0 | apply zd0))) : w.heap.size ≤ gb282)); have n3_ := za0.mk ((by rw [hg]; exact (zh0 (by repeat (first | exact HB.1 | apply zc0 | apply zb0 | apply zd0))) : w.heap.size ≤ gb282)); clear HB; have HB := n0_; have BK282 := n1_; have GW282 := n2_; have GE282 := n3_; clear n0_ n1_ n2_ n3_; clear hb hbox hg; have hcz16_0 : w15.cell? ⟨gb282, 0, none⟩ = some (.slice A0_0 l0_0.length c0_0) := (zl0 BK282.1 0).trans rfl; have hfz16_0 := zk0 BK282.1 0) | ((with_reducible refine zn0 (f := 28) rfl ?_); refine za1 (some 9) rfl rfl Try.func28 (by kernel_rfl) rfl #[.agg #[.slice A0_0 l0_0.length c0_0], .int .i64 a1] rfl (by (try simp only [List.map_toArray, List.map_cons, List.map_nil]); first | done | rfl | (simp only [List.length_drop, List.length_take]; rfl)) ?_; (with_reducible refine (yl0.calls k _ _ l0_0 a1 true _ ?side1 ?side2 A4.1).mono ?_); (case side1 => repeat (first | exact (Kd.C_below HR0_0.1 HB.1) | with_reducible first | refine Kd.C_alloc ?_ _ | refine Kd.C_drewN ?_ _ | refine Kd.C_drew ?_)); (case side2 => exact HC0_0.1); rintro e w17 ⟨rfl, hb⟩; refine ⟨_, rfl, ?_⟩; have n0_ := za0.mk (zm0 (g := gb282) (o := .cells #[.slice A0_0 l0_0.length c0_0] 29 (0, 0)) (by (with_reducible repeat (first | refine zg0 ?_ _ | refine zj0 ?_ | refine zf0 ?_ _)); exact BK282.1) hb); have n1_ := za0.mk (zi0 (by repeat (first | exact HB.1 | apply zc0 | apply zb0 | apply zd0 | refine ze0 ?_ GE282.1)) hb); clear BK282; clear HB; have BK282 := n0_; have HB := n1_; clear n0_ n1_; (try clear hb); (try clear hb2); (try clear hk); (try clear hi); have hcz18_0 : w17.cell? ⟨gb282, 0, none⟩ = some (.slice A0_0 l0_0.length c0_0) := (zl0 BK282.1 0).trans rfl; have hfz18_0 := zk0 BK282.1 0) | (go_at_call 65; (with_reducible refine (yd0.calls k _ _ l0_0 _ _ l2 a1 false _ ?side1 ?side2 ?side3 ?side4 A6.1).mono ?_); (case side1 => repeat (first | exact (Kd.C_below HR0_0.1 HB.1) | with_reducible first | refine Kd.C_alloc ?_ _ | refine Kd.C_drewN ?_ _ | refine Kd.C_drew ?_)); (case side2 => exact HC0_0.1); (case side3 => repeat (first | exact (Kd.C_below HR2.1 HB.1) | with_reducible first | refine Kd.C_alloc ?_ _ | refine Kd.C_drewN ?_ _ | refine Kd.C_drew ?_)); (case side4 => exact HC2.1); rintro e w19 ⟨rfl, hb⟩; have n0_ := za0.mk (zm0 (g := gb282) (o := .cells #[.slice A0_0 l0_0.length c0_0] 29 (0, 0)) (by (with_reducible repeat (first | refine zg0 ?_ _ | refine zj0 ?_ | refine zf0 ?_ _)); exact BK282.1) hb); have n1_ := za0.mk (zi0 (by repeat (first | exact HB.1 | apply zc0 | apply zb0 | apply zd0 | refine ze0 ?_ GE282.1)) hb); clear BK282; clear HB; have BK282 := n0_; have HB := n1_; clear n0_ n1_; (try clear hb); (try clear hb2); (try clear hk); (try clear hi)))
  go_ret
  exact ⟨by first | rfl | (simp [errW_none, errW_some] <;> rfl) | (simp [*, errW_none, errW_some] <;> rfl), by repeat (first | exact HB.1 | apply zc0 | apply zb0 | apply zd0 | refine ze0 ?_ GE282.1)⟩
 subst c7
 have H1 : (if 0 ≤ a1 then (if a1 < (l2.length : Int) then (some ((rd l2 a1) == 0)) else (none)) else (none)) = some r := by rw [if_pos rfl] at H; exact H
 clear H
 have H := H1
 clear H1
 by_cases c8 : 0 ≤ a1
 rotate_left
 ·rw [if_neg c8] at H
  exact absurd H (by simp)
 rw [if_pos c8] at H
 have c8b0 : decide (0 ≤ a1) = true := decide_eq_true c8
 clear c8
 by_cases c9 : a1 < (l2.length : Int)
 rotate_left
 ·rw [if_neg c9] at H
  exact absurd H (by simp)
 rw [if_pos c9] at H
 have c9b0 : decide (a1 < (l2.length : Int)) = true := decide_eq_true c9
 clear c9
 obtain rfl := Option.some.inj H
 go_enter Try.func42, Try.ntmps42
 go_wp2_with (first | ((with_reducible refine zo0 (N := 3) rfl ?_); refine zp0 ?hg (N := 3) ?hd (cs := #[.slice A0_0 l0_0.length c0_0]) (t := 29) ?hr ?_; (case hd | hg => rfl); (case hr => go_simp <;> rfl); intro gb282 hg w10 hbox hb; have n0_ := za0.mk (zi0 (by repeat (first | exact HB.1 | apply zc0 | apply zb0 | apply zd0)) hb); have n1_ := za0.mk (hbox); have n2_ := za0.mk ((by rw [hg]; exact (zh0 (by repeat (first | exact HB.1 | apply zc0 | apply zb0 | apply zd0))) : w.heap.size ≤ gb282)); have n3_ := za0.mk ((by rw [hg]; exact (zh0 (by repeat (first | exact HB.1 | apply zc0 | apply zb0 | apply zd0))) : w.heap.size ≤ gb282)); clear HB; have HB := n0_; have BK282 := n1_; have GW282 := n2_; have GE282 := n3_; clear n0_ n1_ n2_ n3_; clear hb hbox hg; have hcz11_0 : w10.cell? ⟨gb282, 0, none⟩ = some (.slice A0_0 l0_0.length c0_0) := (zl0 BK282.1 0).trans rfl; have hfz11_0 := zk0 BK282.1 0) | ((with_reducible refine zn0 (f := 28) rfl ?_); refine za1 (some 9) rfl rfl Try.func28 (by kernel_rfl) rfl #[.agg #[.slice A0_0 l0_0.length c0_0], .int .i64 a1] rfl (by (try simp only [List.map_toArray, List.map_cons, List.map_nil]); first | done | rfl | (simp only [List.length_drop, List.length_take]; rfl)) ?_; (with_reducible refine (yl0.calls k _ _ l0_0 a1 true _ ?side1 ?side2 A4.1).mono ?_); (case side1 => repeat (first | exact (Kd.C_below HR0_0.1 HB.1) | with_reducible first | refine Kd.C_alloc ?_ _ | refine Kd.C_drewN ?_ _ | refine Kd.C_drew ?_)); (case side2 => exact HC0_0.1); rintro e w12 ⟨rfl, hb⟩; refine ⟨_, rfl, ?_⟩; have n0_ := za0.mk (zm0 (g := gb282) (o := .cells #[.slice A0_0 l0_0.length c0_0] 29 (0, 0)) (by (with_reducible repeat (first | refine zg0 ?_ _ | refine zj0 ?_ | refine zf0 ?_ _)); exact BK282.1) hb); have n1_ := za0.mk (zi0 (by repeat (first | exact HB.1 | apply zc0 | apply zb0 | apply zd0 | refine ze0 ?_ GE282.1)) hb); clear BK282; clear HB; have BK282 := n0_; have HB := n1_; clear n0_ n1_; (try clear hb); (try clear hb2); (try clear hk); (try clear hi); have hcz13_0 : w12.cell? ⟨gb282, 0, none⟩ = some (.slice A0_0 l0_0.length c0_0) := (zl0 BK282.1 0).trans rfl; have hfz13_0 := zk0 BK282.1 0) | (go_at_call 65; (with_reducible refine (yd0.calls k _ _ l0_0 _ _ l2 a1 true _ ?side1 ?side2 ?side3 ?side4 A6.1).mono ?_); (case side1 => repeat (first | exact (Kd.C_below HR0_0.1 HB.1) | with_reducible first | refine Kd.C_alloc ?_ _ | refine Kd.C_drewN ?_ _ | refine Kd.C_drew ?_)); (case side2 => exact HC0_0.1); (case side3 => repeat (first | exact (Kd.C_below HR2.1 HB.1) | with_reducible first | refine Kd.C_alloc ?_ _ | refine Kd.C_drewN ?_ _ | refine Kd.C_drew ?_)); (case side4 => exact HC2.1); rintro e w14 ⟨rfl, hb⟩; have n0_ := za0.mk (zm0 (g := gb282) (o := .cells #[.slice A0_0 l0_0.length c0_0] 29 (0, 0)) (by (with_reducible repeat (first | refine zg0 ?_ _ | refine zj0 ?_ | refine zf0 ?_ _)); exact BK282.1) hb); have n1_ := za0.mk (zi0 (by repeat (first | exact HB.1 | apply zc0 | apply zb0 | apply zd0 | refine ze0 ?_ GE282.1)) hb); clear BK282; clear HB; have BK282 := n0_; have HB := n1_; clear n0_ n1_; (try clear hb); (try clear hb2); (try clear hk); (try clear hi); have p285 : 0 ≤ (a1 : Int) := of_decide_eq_true (by assumption); have q285 : a1 < (l2.length : Int) := of_decide_eq_true (by assumption); obtain ⟨ad285, e285, hx285_0⟩ := Kd.at_int HR2.1 a1 p285 q285; cases e285; replace hx285_0 := (HB.1.cell (World.block_lt_of_cell? w _ hx285_0)).trans hx285_0; replace p285 := eq_true p285; replace q285 := eq_true q285))
 go_ret
 exact ⟨by first | rfl | (simp [errW_none, errW_some] <;> rfl) | (simp [*, errW_none, errW_some] <;> rfl), by repeat (first | exact HB.1 | apply zc0 | apply zb0 | apply zd0 | refine ze0 ?_ GE282.1)⟩
def yx0.l0 : Nat → Int → List Int → Int → Int → List (List Int) → Option (Int)
 | 0, _, _, _, _, _ => none
 | k + 1, x1, x2, x3, x9, x287000 => if x9 < (x287000.length : Int) then (if x3 = x1 then (some x9) else ((ya2.f x287000 x2 x3).bind fun t287 => (if t287 < 0 then (some (-1)) else (yx0.l0 k x1 x2 t287 (wrap64 (x9 + 1)) x287000)))) else (some (-1))
def yx0.f (k : Nat) (l0_0 : List (List Int)) (a1 : Int) (l2 : List Int) (a3 : Int) : Option (Int) := yx0.l0 k a1 l2 a3 0 l0_0
theorem yx0.mono_l : ∀ k, (∀ y0 y1 y2 y3 y4, LeO (yx0.l0 k y0 y1 y2 y3 y4) (yx0.l0 (k + 1) y0 y1 y2 y3 y4))
 | 0 => fun _ _ _ _ _ r h => by simp [yx0.l0] at h
 | k + 1 => by
  have ih0 := yx0.mono_l k
  ·intro y0 y1 y2 y3 y4
   unfold yx0.l0
   repeat' (with_reducible first | exact ih0 _ _ _ _ _ | exact LeO.refl _ | exact LeO.none _ | refine LeO.ite ?_ ?_ | refine LeO.bind ?_ (fun _ => ?_))
theorem yx0.mono : ∀ a0 a1 a2 a3 k, LeO (yx0.f k a0 a1 a2 a3) (yx0.f (k + 1) a0 a1 a2 a3) := by
 intro a0 a1 a2 a3 k
 have ih0 := yx0.mono_l k
 unfold yx0.f
 repeat' (with_reducible first | exact ih0 _ _ _ _ _ | exact LeO.refl _ | exact LeO.none _ | refine LeO.ite ?_ ?_ | refine LeO.bind ?_ (fun _ => ?_))
theorem yx0.calls (k : Nat) (A0_0 : Option Addr) (c0_0 : Nat) (l0_0 : List (List Int)) (a1 : Int) (A2 : Option Addr) (c2 : Nat) (l2 : List Int) (a3 : Int) (r : Int) (w : World) (hr0_0 : Kd.C (Kd.slice 3 (Kd.int .i64)) w A0_0 l0_0.length l0_0) (hc0_0 : l0_0.length ≤ c0_0) (hr2 : Kd.C (Kd.int .i64) w A2 l2.length l2) (hc2 : l2.length ≤ c2) (h : yx0.f k l0_0 a1 l2 a3 = some r) :
  Calls Try.prog 66 #[.agg #[.slice A0_0 l0_0.length c0_0], .int .i64 a1, .slice A2 l2.length c2, .int .i64 a3] w fun e w' => e = .returned (.int .i64 r) ∧ Below w.heap.size w w' := by
 have hu29 := Try.underlying29
 have HR0_0 := za0.mk hr0_0
 have HC0_0 := za0.mk hc0_0
 clear hr0_0 hc0_0
 have HR2 := za0.mk hr2
 have HC2 := za0.mk hc2
 clear hr2 hc2
 have HB := za0.mk (Below.refl w.heap.size w)
 have H : (yx0.l0 k a1 l2 a3 0 l0_0) = some r := h
 clear h
 have H' := za0.mk H
 clear H
 go_enter Try.func66, Try.ntmps66
 go_wp2_with (first | ((with_reducible refine zo0 (N := 4) rfl ?_); refine zp0 ?hg (N := 4) ?hd (cs := #[.slice A0_0 l0_0.length c0_0]) (t := 29) ?hr ?_; (case hd | hg => rfl); (case hr => go_simp <;> rfl); intro gb286 hg w5 hbox hb; have n0_ := za0.mk (zi0 (by repeat (first | exact HB.1 | apply zc0 | apply zb0 | apply zd0)) hb); have n1_ := za0.mk (hbox); have n2_ := za0.mk ((by rw [hg]; exact (zh0 (by repeat (first | exact HB.1 | apply zc0 | apply zb0 | apply zd0))) : w.heap.size ≤ gb286)); have n3_ := za0.mk ((by rw [hg]; exact (zh0 (by repeat (first | exact HB.1 | apply zc0 | apply zb0 | apply zd0))) : w.heap.size ≤ gb286)); clear HB; have HB := n0_; have BK286 := n1_; have GW286 := n2_; have GE286 := n3_; clear n0_ n1_ n2_ n3_; clear hb hbox hg))
 go_loopg [3, 9] k (fun kq v3 v9 w' => ∃ (x3_1 : Int) (x9_1 : Int), v3 = .int .i64 x3_1 ∧ v9 = .int .i64 x9_1 ∧ za0 (yx0.l0 kq a1 l2 x3_1 x9_1 l0_0 = some r) ∧ za0 (kq ≤ k) ∧ za0 (w'.heap[gb286]? = some (.cells #[(.slice A0_0 l0_0.length c0_0)] 29 (0, 0))) ∧ za0 (Below w.heap.size w w'))
 case atStart => exact ⟨(a3), (0), (by first | rfl | (simp; done) | (simp [*]; done)), (by first | rfl | (simp; done) | (simp [*]; done)), H', ⟨Nat.le_refl _⟩, ⟨by (with_reducible repeat (first | refine zg0 ?_ _ | refine zj0 ?_ | refine zf0 ?_ _)); exact BK286.1⟩, ⟨by repeat (first | exact HB.1 | apply zc0 | apply zb0 | apply zd0 | refine ze0 ?_ GE286.1)⟩⟩
 case round =>
  clear H'
  try clear c2
  try clear p2
  obtain ⟨x3_1, x9_1, rfl, rfl, HA, HK1, BK286, HB⟩ := hrel
  obtain _ | k1 := gk
  ·exact absurd HA.1 (by simp [yx0.l0])
  have H := HA.1
  clear HA
  simp only [yx0.l0] at H
  by_cases c6 : x9_1 < (l0_0.length : Int)
  rotate_left
  ·rw [if_neg c6] at H
   have c6b0 : decide (x9_1 < (l0_0.length : Int)) = false := decide_eq_false c6
   clear c6
   obtain rfl := Option.some.inj H
   have hcz15_0 : wr.cell? ⟨gb286, 0, none⟩ = some (.slice A0_0 l0_0.length c0_0) := (zl0 BK286.1 0).trans rfl
   have hfz15_0 := zk0 BK286.1 0
   go_wp2
   go_ret
   exact ⟨by first | rfl | (simp [errW_none, errW_some] <;> rfl) | (simp [*, errW_none, errW_some] <;> rfl), by repeat (first | exact HB.1 | apply zc0 | apply zb0 | apply zd0 | refine ze0 ?_ GE286.1)⟩
  rw [if_pos c6] at H
  have c6b0 : decide (x9_1 < (l0_0.length : Int)) = true := decide_eq_true c6
  clear c6
  by_cases c7 : x3_1 = a1
  ·rw [if_pos c7] at H
   have c7b0 : (x3_1 == a1) = true := beq_iff_eq.mpr c7
   have c7b1 : (x3_1 != a1) = false := bne_eq_false_iff_eq.mpr c7
   clear c7
   obtain rfl := Option.some.inj H
   have hcz8_0 : wr.cell? ⟨gb286, 0, none⟩ = some (.slice A0_0 l0_0.length c0_0) := (zl0 BK286.1 0).trans rfl
   have hfz8_0 := zk0 BK286.1 0
   go_wp2
   go_ret
   exact ⟨by first | rfl | (simp [errW_none, errW_some] <;> rfl) | (simp [*, errW_none, errW_some] <;> rfl), by repeat (first | exact HB.1 | apply zc0 | apply zb0 | apply zd0 | refine ze0 ?_ GE286.1)⟩
  rw [if_neg c7] at H
  have c7b0 : (x3_1 == a1) = false := beq_eq_false_iff_ne.mpr c7
  have c7b1 : (x3_1 != a1) = true := bne_iff_ne.mpr c7
  replace H := Option.bind_eq_some_iff.mp H
  obtain ⟨t287, A90, H⟩ := H
  replace H : (if t287 < 0 then (some (-1)) else (yx0.l0 k1 a1 l2 t287 (wrap64 (x9_1 + 1)) l0_0)) = some r := H
  have A9 := za0.mk A90
  clear A90
  by_cases c10 : t287 < 0
  ·rw [if_pos c10] at H
   have c10b0 : decide (t287 < 0) = true := decide_eq_true c10
   clear c10
   obtain rfl := Option.some.inj H
   have hcz11_0 : wr.cell? ⟨gb286, 0, none⟩ = some (.slice A0_0 l0_0.length c0_0) := (zl0 BK286.1 0).trans rfl
   have hfz11_0 := zk0 BK286.1 0
   go_wp2_with (first | ((with_reducible refine zn0 (f := 80) rfl ?_); refine za1 (some 24) rfl rfl Try.func80 (by kernel_rfl) rfl #[.agg #[.slice A0_0 l0_0.length c0_0], .slice A2 l2.length c2, .int .i64 x3_1] rfl (by (try simp only [List.map_toArray, List.map_cons, List.map_nil]); first | done | rfl | (simp only [List.length_drop, List.length_take]; rfl)) ?_; (with_reducible refine (ya2.calls _ _ l0_0 _ _ l2 x3_1 t287 _ ?side1 ?side2 ?side3 ?side4 A9.1).mono ?_); (case side1 => repeat (first | exact (Kd.C_below HR0_0.1 HB.1) | with_reducible first | refine Kd.C_alloc ?_ _ | refine Kd.C_drewN ?_ _ | refine Kd.C_drew ?_)); (case side2 => exact HC0_0.1); (case side3 => repeat (first | exact (Kd.C_below HR2.1 HB.1) | with_reducible first | refine Kd.C_alloc ?_ _ | refine Kd.C_drewN ?_ _ | refine Kd.C_drew ?_)); (case side4 => exact HC2.1); rintro e w12 ⟨rfl, hb⟩; refine ⟨_, rfl, ?_⟩; have n0_ := za0.mk (zm0 (g := gb286) (o := .cells #[.slice A0_0 l0_0.length c0_0] 29 (0, 0)) (by (with_reducible repeat (first | refine zg0 ?_ _ | refine zj0 ?_ | refine zf0 ?_ _)); exact BK286.1) hb); have n1_ := za0.mk (zi0 (by repeat (first | exact HB.1 | apply zc0 | apply zb0 | apply zd0 | refine ze0 ?_ GE286.1)) hb); clear BK286; clear HB; have BK286 := n0_; have HB := n1_; clear n0_ n1_; (try clear hb); (try clear hb2); (try clear hk); (try clear hi)))
   go_ret
   exact ⟨by first | rfl | (simp [errW_none, errW_some] <;> rfl) | (simp [*, errW_none, errW_some] <;> rfl), by repeat (first | exact HB.1 | apply zc0 | apply zb0 | apply zd0 | refine ze0 ?_ GE286.1)⟩
  rw [if_neg c10] at H
  have c10b0 : decide (t287 < 0) = false := decide_eq_false c10
  clear c10
  have H' := za0.mk H
  clear H
  have hcz13_0 : wr.cell? ⟨gb286, 0, none⟩ = some (.slice A0_0 l0_0.length c0_0) := (zl0 BK286.1 0).trans rfl
  have hfz13_0 := zk0 BK286.1 0
  go_wp2_with (first | ((with_reducible refine zn0 (f := 80) rfl ?_); refine za1 (some 24) rfl rfl Try.func80 (by kernel_rfl) rfl #[.agg #[.slice A0_0 l0_0.length c0_0], .slice A2 l2.length c2, .int .i64 x3_1] rfl (by (try simp only [List.map_toArray, List.map_cons, List.map_nil]); first | done | rfl | (simp only [List.length_drop, List.length_take]; rfl)) ?_; (with_reducible refine (ya2.calls _ _ l0_0 _ _ l2 x3_1 t287 _ ?side1 ?side2 ?side3 ?side4 A9.1).mono ?_); (case side1 => repeat (first | exact (Kd.C_below HR0_0.1 HB.1) | with_reducible first | refine Kd.C_alloc ?_ _ | refine Kd.C_drewN ?_ _ | refine Kd.C_drew ?_)); (case side2 => exact HC0_0.1); (case side3 => repeat (first | exact (Kd.C_below HR2.1 HB.1) | with_reducible first | refine Kd.C_alloc ?_ _ | refine Kd.C_drewN ?_ _ | refine Kd.C_drew ?_)); (case side4 => exact HC2.1); rintro e w14 ⟨rfl, hb⟩; refine ⟨_, rfl, ?_⟩; have n0_ := za0.mk (zm0 (g := gb286) (o := .cells #[.slice A0_0 l0_0.length c0_0] 29 (0, 0)) (by (with_reducible repeat (first | refine zg0 ?_ _ | refine zj0 ?_ | refine zf0 ?_ _)); exact BK286.1) hb); have n1_ := za0.mk (zi0 (by repeat (first | exact HB.1 | apply zc0 | apply zb0 | apply zd0 | refine ze0 ?_ GE286.1)) hb); clear BK286; clear HB; have BK286 := n0_; have HB := n1_; clear n0_ n1_; (try clear hb); (try clear hb2); (try clear hk); (try clear hi)))
  go_roundg k1
  case measure => have := HK1.1; omega
  case rel => exact ⟨(t287), (wrap64 (x9_1 + 1)), (by first | rfl | (simp; done) | (simp [*]; done)), (by first | rfl | (simp; done) | (simp [*]; done)), H', ⟨by have := HK1.1; omega⟩, ⟨by (with_reducible repeat (first | refine zg0 ?_ _ | refine zj0 ?_ | refine zf0 ?_ _)); exact BK286.1⟩, ⟨by repeat (first | exact HB.1 | apply zc0 | apply zb0 | apply zd0 | refine ze0 ?_ GE286.1)⟩⟩
def ys0.l0 : Nat → Int → List Int → Int → Int → List (List Int) → Option (Bool)
 | 0, _, _, _, _, _ => none
 | k + 1, x1, x2, x10, x11, x289000 => if x11 < x10 then ((yx0.f k x289000 x1 x2 x11).bind fun t289 => (if t289 < 0 then (some false) else (ys0.l0 k x1 x2 x10 (wrap64 (x11 + 1)) x289000))) else (some true)
def ys0.f (k : Nat) (l0_0 : List (List Int)) (a1 : Int) (l2 : List Int) : Option (Bool) := ys0.l0 k a1 l2 (l0_0.length : Int) 0 l0_0
theorem ys0.mono_l : ∀ k, (∀ y0 y1 y2 y3 y4, LeO (ys0.l0 k y0 y1 y2 y3 y4) (ys0.l0 (k + 1) y0 y1 y2 y3 y4))
 | 0 => fun _ _ _ _ _ r h => by simp [ys0.l0] at h
 | k + 1 => by
  have ih0 := ys0.mono_l k
  ·intro y0 y1 y2 y3 y4
   unfold ys0.l0
   repeat' (with_reducible first | exact ih0 _ _ _ _ _ | exact yx0.mono _ _ _ _ _ | exact LeO.refl _ | exact LeO.none _ | refine LeO.ite ?_ ?_ | refine LeO.bind ?_ (fun _ => ?_))
theorem ys0.mono : ∀ a0 a1 a2 k, LeO (ys0.f k a0 a1 a2) (ys0.f (k + 1) a0 a1 a2) := by
 intro a0 a1 a2 k
 have ih0 := ys0.mono_l k
 unfold ys0.f
 repeat' (with_reducible first | exact ih0 _ _ _ _ _ | exact yx0.mono _ _ _ _ _ | exact LeO.refl _ | exact LeO.none _ | refine LeO.ite ?_ ?_ | refine LeO.bind ?_ (fun _ => ?_))
theorem ys0.calls (k : Nat) (A0_0 : Option Addr) (c0_0 : Nat) (l0_0 : List (List Int)) (a1 : Int) (A2 : Option Addr) (c2 : Nat) (l2 : List Int) (r : Bool) (w : World) (hr0_0 : Kd.C (Kd.slice 3 (Kd.int .i64)) w A0_0 l0_0.length l0_0) (hc0_0 : l0_0.length ≤ c0_0) (hr2 : Kd.C (Kd.int .i64) w A2 l2.length l2) (hc2 : l2.length ≤ c2) (h : ys0.f k l0_0 a1 l2 = some r) :
  Calls Try.prog 43 #[.agg #[.slice A0_0 l0_0.length c0_0], .int .i64 a1, .slice A2 l2.length c2] w fun e w' => e = .returned (.bool r) ∧ Below w.heap.size w w' := by
 have hu29 := Try.underlying29
 have HR0_0 := za0.mk hr0_0
 have HC0_0 := za0.mk hc0_0
 clear hr0_0 hc0_0
 have HR2 := za0.mk hr2
 have HC2 := za0.mk hc2
 clear hr2 hc2
 have HB := za0.mk (Below.refl w.heap.size w)
 have H : (ys0.l0 k a1 l2 (l0_0.length : Int) 0 l0_0) = some r := h
 clear h
 have H' := za0.mk H
 clear H
 go_enter Try.func43, Try.ntmps43
 go_wp2_with (first | ((with_reducible refine zo0 (N := 3) rfl ?_); refine zp0 ?hg (N := 3) ?hd (cs := #[.slice A0_0 l0_0.length c0_0]) (t := 29) ?hr ?_; (case hd | hg => rfl); (case hr => go_simp <;> rfl); intro gb288 hg w4 hbox hb; have n0_ := za0.mk (zi0 (by repeat (first | exact HB.1 | apply zc0 | apply zb0 | apply zd0)) hb); have n1_ := za0.mk (hbox); have n2_ := za0.mk ((by rw [hg]; exact (zh0 (by repeat (first | exact HB.1 | apply zc0 | apply zb0 | apply zd0))) : w.heap.size ≤ gb288)); have n3_ := za0.mk ((by rw [hg]; exact (zh0 (by repeat (first | exact HB.1 | apply zc0 | apply zb0 | apply zd0))) : w.heap.size ≤ gb288)); clear HB; have HB := n0_; have BK288 := n1_; have GW288 := n2_; have GE288 := n3_; clear n0_ n1_ n2_ n3_; clear hb hbox hg; have hcz5_0 : w4.cell? ⟨gb288, 0, none⟩ = some (.slice A0_0 l0_0.length c0_0) := (zl0 BK288.1 0).trans rfl; have hfz5_0 := zk0 BK288.1 0))
 go_loopg [11] k (fun kq v11 w' => ∃ (x11_1 : Int), v11 = .int .i64 x11_1 ∧ za0 (ys0.l0 kq a1 l2 (l0_0.length : Int) x11_1 l0_0 = some r) ∧ za0 (kq ≤ k) ∧ za0 (w'.heap[gb288]? = some (.cells #[(.slice A0_0 l0_0.length c0_0)] 29 (0, 0))) ∧ za0 (Below w.heap.size w w'))
 case atStart => exact ⟨(0), (by first | rfl | (simp; done) | (simp [*]; done)), H', ⟨Nat.le_refl _⟩, ⟨by (with_reducible repeat (first | refine zg0 ?_ _ | refine zj0 ?_ | refine zf0 ?_ _)); exact BK288.1⟩, ⟨by repeat (first | exact HB.1 | apply zc0 | apply zb0 | apply zd0 | refine ze0 ?_ GE288.1)⟩⟩
 case round =>
  clear H'
  try clear c2
  try clear p2
  try clear c4
  try clear hcz5_0
  try clear hfz5_0
  obtain ⟨x11_1, rfl, HA, HK1, BK288, HB⟩ := hrel
  obtain _ | k1 := gk
  ·exact absurd HA.1 (by simp [ys0.l0])
  have H := HA.1
  clear HA
  simp only [ys0.l0] at H
  by_cases c6 : x11_1 < (l0_0.length : Int)
  rotate_left
  ·rw [if_neg c6] at H
   have c6b0 : decide (x11_1 < (l0_0.length : Int)) = false := decide_eq_false c6
   clear c6
   obtain rfl := Option.some.inj H
   go_wp2
   go_ret
   exact ⟨by first | rfl | (simp [errW_none, errW_some] <;> rfl) | (simp [*, errW_none, errW_some] <;> rfl), by repeat (first | exact HB.1 | apply zc0 | apply zb0 | apply zd0 | refine ze0 ?_ GE288.1)⟩
  rw [if_pos c6] at H
  have c6b0 : decide (x11_1 < (l0_0.length : Int)) = true := decide_eq_true c6
  clear c6
  replace H := Option.bind_eq_some_iff.mp H
  obtain ⟨t289, A70, H⟩ := H
  replace H : (if t289 < 0 then (some false) else (ys0.l0 k1 a1 l2 (l0_0.length : Int) (wrap64 (x11_1 + 1)) l0_0)) = some r := H
  have A7 := za0.mk A70
  clear A70
  by_cases c8 : t289 < 0
  ·rw [if_pos c8] at H
   have c8b0 : decide (t289 < 0) = true := decide_eq_true c8
   clear c8
   obtain rfl := Option.some.inj H
   have hcz9_0 : wr.cell? ⟨gb288, 0, none⟩ = some (.slice A0_0 l0_0.length c0_0) := (zl0 BK288.1 0).trans rfl
   have hfz9_0 := zk0 BK288.1 0
   go_wp2_with (first | ((with_reducible refine zn0 (f := 66) rfl ?_); refine za1 (some 18) rfl rfl Try.func66 (by kernel_rfl) rfl #[.agg #[.slice A0_0 l0_0.length c0_0], .int .i64 a1, .slice A2 l2.length c2, .int .i64 x11_1] rfl (by (try simp only [List.map_toArray, List.map_cons, List.map_nil]); first | done | rfl | (simp only [List.length_drop, List.length_take]; rfl)) ?_; (with_reducible refine (yx0.calls k1 _ _ l0_0 a1 _ _ l2 x11_1 t289 _ ?side1 ?side2 ?side3 ?side4 A7.1).mono ?_); (case side1 => repeat (first | exact (Kd.C_below HR0_0.1 HB.1) | with_reducible first | refine Kd.C_alloc ?_ _ | refine Kd.C_drewN ?_ _ | refine Kd.C_drew ?_)); (case side2 => exact HC0_0.1); (case side3 => repeat (first | exact (Kd.C_below HR2.1 HB.1) | with_reducible first | refine Kd.C_alloc ?_ _ | refine Kd.C_drewN ?_ _ | refine Kd.C_drew ?_)); (case side4 => exact HC2.1); rintro e w10 ⟨rfl, hb⟩; refine ⟨_, rfl, ?_⟩; have n0_ := za0.mk (zm0 (g := gb288) (o := .cells #[.slice A0_0 l0_0.length c0_0] 29 (0, 0)) (by (with_reducible repeat (first | refine zg0 ?_ _ | refine zj0 ?_ | refine zf0 ?_ _)); exact BK288.1) hb); have n1_ := za0.mk (zi0 (by repeat (first | exact HB.1 | apply zc0 | apply zb0 | apply zd0 | refine ze0 ?_ GE288.1)) hb); clear BK288; clear HB; have BK288 := n0_; have HB := n1_; clear n0_ n1_; (try clear hb); (try clear hb2); (try clear hk); (try clear hi)))
   go_ret
   exact ⟨by first | rfl | (simp [errW_none, errW_some] <;> rfl) | (simp [*, errW_none, errW_some] <;> rfl), by repeat (first | exact HB.1 | apply zc0 | apply zb0 | apply zd0 | refine ze0 ?_ GE288.1)⟩
  rw [if_neg c8] at H
  have c8b0 : decide (t289 < 0) = false := decide_eq_false c8
  clear c8
  have H' := za0.mk H
  clear H
  have hcz11_0 : wr.cell? ⟨gb288, 0, none⟩ = some (.slice A0_0 l0_0.length c0_0) := (zl0 BK288.1 0).trans rfl
  have hfz11_0 := zk0 BK288.1 0
  go_wp2_with (first | ((with_reducible refine zn0 (f := 66) rfl ?_); refine za1 (some 18) rfl rfl Try.func66 (by kernel_rfl) rfl #[.agg #[.slice A0_0 l0_0.length c0_0], .int .i64 a1, .slice A2 l2.length c2, .int .i64 x11_1] rfl (by (try simp only [List.map_toArray, List.map_cons, List.map_nil]); first | done | rfl | (simp only [List.length_drop, List.length_take]; rfl)) ?_; (with_reducible refine (yx0.calls k1 _ _ l0_0 a1 _ _ l2 x11_1 t289 _ ?side1 ?side2 ?side3 ?side4 A7.1).mono ?_); (case side1 => repeat (first | exact (Kd.C_below HR0_0.1 HB.1) | with_reducible first | refine Kd.C_alloc ?_ _ | refine Kd.C_drewN ?_ _ | refine Kd.C_drew ?_)); (case side2 => exact HC0_0.1); (case side3 => repeat (first | exact (Kd.C_below HR2.1 HB.1) | with_reducible first | refine Kd.C_alloc ?_ _ | refine Kd.C_drewN ?_ _ | refine Kd.C_drew ?_)); (case side4 => exact HC2.1); rintro e w12 ⟨rfl, hb⟩; refine ⟨_, rfl, ?_⟩; have n0_ := za0.mk (zm0 (g := gb288) (o := .cells #[.slice A0_0 l0_0.length c0_0] 29 (0, 0)) (by (with_reducible repeat (first | refine zg0 ?_ _ | refine zj0 ?_ | refine zf0 ?_ _)); exact BK288.1) hb); have n1_ := za0.mk (zi0 (by repeat (first | exact HB.1 | apply zc0 | apply zb0 | apply zd0 | refine ze0 ?_ GE288.1)) hb); clear BK288; clear HB; have BK288 := n0_; have HB := n1_; clear n0_ n1_; (try clear hb); (try clear hb2); (try clear hk); (try clear hi)))
  go_roundg k1
  case measure => have := HK1.1; omega
  case rel => exact ⟨(wrap64 (x11_1 + 1)), (by first | rfl | (simp; done) | (simp [*]; done)), H', ⟨by have := HK1.1; omega⟩, ⟨by (with_reducible repeat (first | refine zg0 ?_ _ | refine zj0 ?_ | refine zf0 ?_ _)); exact BK288.1⟩, ⟨by repeat (first | exact HB.1 | apply zc0 | apply zb0 | apply zd0 | refine ze0 ?_ GE288.1)⟩⟩
end Go.Proofs.Ytlbgajpbdbgmkaa.P
