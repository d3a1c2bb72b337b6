/- Texts of this session on the way to the law FnExactOrderOfPlace, part 4: words of the print, walks, plain laws; only what the law's proof uses. -/
import Derived.Test.YtlbgajpbdbgmkaaCFnExactOrderOfPlacea
import Derived.Test.YtlbgajpbdbgmkaaCFnExactOrderOfPlacec
import Derived.Test.YtlbgajpbdbgmkaaCFnExactOrderOfPlaceb
namespace Go.Proofs.Ytlbgajpbdbgmkaa.P
open Go.RowKit Go.Proofs.YtlbgajpbdbgmkaaW.PrintWords Go.Proofs.YtlbgajpbdbgmkaaW.PrintLast Go.Proofs.YtlbgajpbdbgmkaaW.PrintMore
attribute [local go_sem] zw0 zv0 zb1 za1 zq0 zp0 zx0 zu0
set_option linter.unusedVariables false
set_option linter.unusedSimpArgs false
mutual
def impl_Graph_treeWays.l0 : Nat → Int → List Int → List Int → Int → Int → List (List Int) → Option (List Int × Bool)
 | 0, _, _, _, _, _, _ => none
 | k + 1, x1, x2, x8, x15, x16, x209000 => if x16 < x15 then (impl_Graph_treeWays.l1 k x1 x2 x8 0 x16 x15 x16 x209000) else (some (x8, true))
def impl_Graph_treeWays.l1 : Nat → Int → List Int → List Int → Int → Int → Int → Int → List (List Int) → Option (List Int × Bool)
 | 0, _, _, _, _, _, _, _, _ => none
 | k + 1, x1, x2, x8, x10, x11, x15, x16, x209000 => if x11 = x1 then (if x8.length < 17592186044416 then (impl_Graph_treeWays.l0 k x1 x2 (x8 ++ [x10]) x15 (wrap64 (x16 + 1)) x209000) else (none)) else ((impl_Graph_next.f x209000 x2 x11).bind fun t215 => (if t215 < 0 then (some (([] : List Int), false)) else (if x10 > (x209000.length : Int) then (some (([] : List Int), false)) else (impl_Graph_treeWays.l1 k x1 x2 x8 (wrap64 (x10 + 1)) t215 x15 x16 x209000))))
end
def impl_Graph_treeWays.f (k : Nat) (l0_0 : List (List Int)) (a1 : Int) (l2 : List Int) : Option (List Int × Bool) := impl_Graph_treeWays.l0 k a1 l2 (([] : List Int)) (l0_0.length : Int) 0 l0_0
theorem impl_Graph_treeWays.mono_l : ∀ k, (∀ y0 y1 y2 y3 y4 y5, LeO (impl_Graph_treeWays.l0 k y0 y1 y2 y3 y4 y5) (impl_Graph_treeWays.l0 (k + 1) y0 y1 y2 y3 y4 y5)) ∧ (∀ y0 y1 y2 y3 y4 y5 y6 y7, LeO (impl_Graph_treeWays.l1 k y0 y1 y2 y3 y4 y5 y6 y7) (impl_Graph_treeWays.l1 (k + 1) y0 y1 y2 y3 y4 y5 y6 y7))
 | 0 => ⟨fun _ _ _ _ _ _ r h => by simp [impl_Graph_treeWays.l0] at h, fun _ _ _ _ _ _ _ _ r h => by simp [impl_Graph_treeWays.l1] at h⟩
 | k + 1 => by
  obtain ⟨ih0, ih1⟩ := impl_Graph_treeWays.mono_l k
  refine ⟨?_, ?_⟩
  ·intro y0 y1 y2 y3 y4 y5
   unfold impl_Graph_treeWays.l0
   repeat' first
   | (with_reducible exact ih0 _ _ _ _ _ _)
   | (with_reducible exact ih1 _ _ _ _ _ _ _ _)
   | (with_reducible exact LeO.refl _)
   | (with_reducible exact LeO.none _)
   | (with_reducible refine LeO.ite ?_ ?_)
   | (with_reducible refine LeO.bind ?_ (fun _ => ?_))
   | exact ih0 _ _ _ _ _ _
   | exact ih1 _ _ _ _ _ _ _ _
   | exact LeO.none _
   | refine LeO.ite ?_ ?_
   | refine LeO.bind ?_ (fun _ => ?_)
  ·intro y0 y1 y2 y3 y4 y5 y6 y7
   unfold impl_Graph_treeWays.l1
   repeat' first
   | (with_reducible exact ih0 _ _ _ _ _ _)
   | (with_reducible exact ih1 _ _ _ _ _ _ _ _)
   | (with_reducible exact LeO.refl _)
   | (with_reducible exact LeO.none _)
   | (with_reducible refine LeO.ite ?_ ?_)
   | (with_reducible refine LeO.bind ?_ (fun _ => ?_))
   | exact ih0 _ _ _ _ _ _
   | exact ih1 _ _ _ _ _ _ _ _
   | exact LeO.none _
   | refine LeO.ite ?_ ?_
   | refine LeO.bind ?_ (fun _ => ?_)
theorem impl_Graph_treeWays.mono : ∀ a0 a1 a2 k, LeO (impl_Graph_treeWays.f k a0 a1 a2) (impl_Graph_treeWays.f (k + 1) a0 a1 a2) := by
 intro a0 a1 a2 k
 obtain ⟨ih0, ih1⟩ := impl_Graph_treeWays.mono_l k
 unfold impl_Graph_treeWays.f
 repeat' first
   | (with_reducible exact ih0 _ _ _ _ _ _)
   | (with_reducible exact ih1 _ _ _ _ _ _ _ _)
   | (with_reducible exact LeO.refl _)
   | (with_reducible exact LeO.none _)
   | (with_reducible refine LeO.ite ?_ ?_)
   | (with_reducible refine LeO.bind ?_ (fun _ => ?_))
   | exact ih0 _ _ _ _ _ _
   | exact ih1 _ _ _ _ _ _ _ _
   | exact LeO.none _
   | refine LeO.ite ?_ ?_
   | refine LeO.bind ?_ (fun _ => ?_)
set_option maxHeartbeats 8000000 in
set_option maxRecDepth 100000 in
theorem impl_Graph_treeWays.calls (k : Nat) (A0_0 : Option Addr) (c0_0 : Nat) (l0_0 : List (List Int)) (a1 : Int) (A2 : Option Addr) (c2 : Nat) (l2 : List Int) (r1 : List Int) (r2 : Bool) (w : World) (hr0_0 : Kd.C (Kd.slice 3 (Kd.int .i64)) w A0_0 l0_0.length l0_0) (hc0_0 : l0_0.length ≤ c0_0) (hr2 : Kd.C (Kd.int .i64) w A2 l2.length l2) (hc2 : l2.length ≤ c2) (h : impl_Graph_treeWays.f k l0_0 a1 l2 = some (r1, r2)) :
  Calls Try.prog 82 #[.agg #[.slice A0_0 l0_0.length c0_0], .int .i64 a1, .slice A2 l2.length c2] w fun e w' => ∃ v0_ : Value, e = .returned (.tuple #[v0_, .bool r2]) ∧ Kd.R (Kd.int .i64) 3 w' w.heap.size (fun _ => True) v0_ r1 ∧ Below w.heap.size w w' := by
 have hu29 := Try.underlying29
 have HR0_0 := za0.mk hr0_0
 have HC0_0 := za0.mk hc0_0
 clear hr0_0 hc0_0
 have HR2 := za0.mk hr2
 have HC2 := za0.mk hc2
 clear hr2 hc2
 have HB := za0.mk (Below.refl w.heap.size w)
 have H : (impl_Graph_treeWays.l0 k a1 l2 (([] : List Int)) (l0_0.length : Int) 0 l0_0) = some (r1, r2) := h
 clear h
 obtain ⟨y209, hy209⟩ : ∃ y_ : List Int, y_ = (([] : List Int)) := ⟨_, rfl⟩
 replace H : (impl_Graph_treeWays.l0 k a1 l2 y209 (l0_0.length : Int) 0 l0_0) = some (r1, r2) := by first | (rw [hy209]; with_reducible exact H) | (have H2_ := (Option.bind_some _ _).symm.trans H; rw [hy209]; with_reducible exact H2_) | (have H2_ := (Option.bind_some _ _).symm.trans H; with_reducible exact H2_) | with_reducible exact H | (rw [hy209]; exact H) | exact H
 have Ny209 := za0.mk hy209
 clear hy209
 have H' := za0.mk H
 clear H
 go_enter Try.func82, Try.ntmps82
 go_wp2_with (first | ((with_reducible refine zn0 (N := 3) rfl ?_); (try (refine gate_guard (by rfl) ?_; dsimp only)); refine zo0 ?hg (N := 3) ?hd (cs := #[.slice A0_0 l0_0.length c0_0]) (t := 29) ?hr ?_; (case hd => rfl); (case hg => rfl); (case hr => first | (go_simp; done) | (go_simp; rfl)); intro gb208 hg w4 hbox hb; have n0_ := za0.mk (zj0 (by repeat (first | (with_reducible first | exact HB.out | apply zc0 | apply zb0 | apply zd0) | exact HB.out)) hb); have n1_ := za0.mk (hbox); have n2_ := za0.mk ((by rw [hg]; exact (zg0 (by repeat (first | (with_reducible first | exact HB.out | apply zc0 | apply zb0 | apply zd0) | exact HB.out))) : w.heap.size ≤ gb208)); have n3_ := za0.mk ((by rw [hg]; exact (zg0 (by repeat (first | (with_reducible first | exact HB.out | apply zc0 | apply zb0 | apply zd0) | exact HB.out))) : w.heap.size ≤ gb208)); clear HB; have HB := n0_; have BK208 := n1_; have GW208 := n2_; have GE208 := n3_; clear n0_ n1_ n2_ n3_; clear hb hbox hg) | ((with_reducible refine zn0 (N := 12) rfl ?_); (try (refine gate_guard (by rfl) ?_; dsimp only)); refine Kd.R_lit (Kd.int .i64) _ 3 ?hg (N := 12) ?hd (xs := ([] : List Int)) (inner := []) (ok := fun _ => True) (okp := fun _ => True) ?hr ?hp (fun _ hk => hk) trivial (Below.refl _ _) (Nat.le_refl _) (by simp) ?_; (case hd => rfl); (case hg => rfl); (case hr => first | (go_simp; done) | (go_simp; rfl)); (case hp => exact (Reps.none _ _)); intro v210 w5 ho6 hb hg_ hnew_; clear hg_ hnew_; (first | rw [← Ny209.out] at ho6 | (simp only [Int.reduceToNat] at ho6; rw [← Ny209.out] at ho6)); have n0_ := za0.mk (Kd.R_lower ho6 (zg0 (by repeat (first | (with_reducible first | exact HB.out | apply zc0 | apply zb0 | apply zd0 | refine ze0 ?_ GE208.out) | exact HB.out)))); have n1_ := za0.mk (zl0 (g := gb208) (o := .cells #[.slice A0_0 l0_0.length c0_0] 29 (0, 0)) (by (with_reducible repeat (first | refine zh0 ?_ _ | refine zi0 ?_ | refine zf0 ?_ _)); exact BK208.out) hb); have n2_ := za0.mk (zj0 (by repeat (first | (with_reducible first | exact HB.out | apply zc0 | apply zb0 | apply zd0 | refine ze0 ?_ GE208.out) | exact HB.out)) hb); clear BK208; clear HB; have HO211 := n0_; have BK208 := n1_; have HB := n2_; clear n0_ n1_ n2_; clear hb ho6; have hcz7_0 : w5.cell? ⟨gb208, 0, none⟩ = some (.slice A0_0 l0_0.length c0_0) := (zk0 BK208.out 0).trans rfl; have hfz7_0 := zm0 BK208.out 0))
 go_loopg [8, 16] k (fun kq v8 v16 w' => ∃ (x8_1 : List Int) (x16_1 : Int), v16 = .int .i64 x16_1 ∧ za0 (impl_Graph_treeWays.l0 kq a1 l2 x8_1 (l0_0.length : Int) x16_1 l0_0 = some (r1, r2)) ∧ za0 (kq ≤ k) ∧ za0 (Kd.R (Kd.int .i64) 3 w' w.heap.size (fun _ => True) v8 x8_1) ∧ za0 (w'.heap[gb208]? = some (.cells #[(.slice A0_0 l0_0.length c0_0)] 29 (0, 0))) ∧ za0 (Below w.heap.size w w'))
 case atStart => exact ⟨(y209), (0), (by first | rfl | (simp; done) | (simp [*]; done)), H', ⟨Nat.le_refl _⟩, ⟨by (with_reducible repeat (first | apply Kd.R_alloc | apply Kd.R_drewN | apply Kd.R_drew)); exact HO211.out⟩, ⟨by (with_reducible repeat (first | refine zh0 ?_ _ | refine zi0 ?_ | refine zf0 ?_ _)); exact BK208.out⟩, ⟨by repeat (first | (with_reducible first | exact HB.out | apply zc0 | apply zb0 | apply zd0 | refine ze0 ?_ GE208.out) | exact HB.out)⟩⟩
 case round =>
  clear H'
  try clear c2
  try clear p2
  try clear hcz7_0
  try clear hfz7_0
  obtain ⟨x8_1, x16_1, rfl, HA, HK1, HO_8, BK208, HB⟩ := hrel
  cases gk with
  | zero => exact absurd HA.out (by simp [impl_Graph_treeWays.l0])
  | succ k1 =>
   have H := HA.out
   clear HA
   simp only [impl_Graph_treeWays.l0] at H
   by_cases c8 : x16_1 < (l0_0.length : Int)
   ·rw [if_pos c8] at H
    have c8b0 : decide (x16_1 < (l0_0.length : Int)) = true := decide_eq_true c8
    clear c8
    have H' := za0.mk H
    clear H
    go_wp2
    go_loopg [10, 11] k1 (fun kq v10 v11 w' => ∃ (x10_2 : Int) (x11_2 : Int), v10 = .int .i64 x10_2 ∧ v11 = .int .i64 x11_2 ∧ za0 (impl_Graph_treeWays.l1 kq a1 l2 x8_1 x10_2 x11_2 (l0_0.length : Int) x16_1 l0_0 = some (r1, r2)) ∧ za0 (kq ≤ k1) ∧ za0 (Kd.R (Kd.int .i64) 3 w' w.heap.size (fun _ => True) u8 x8_1) ∧ za0 (w'.heap[gb208]? = some (.cells #[(.slice A0_0 l0_0.length c0_0)] 29 (0, 0))) ∧ za0 (Below w.heap.size w w'))
    case atStart => exact ⟨(0), (x16_1), (by first | rfl | (simp; done) | (simp [*]; done)), (by first | rfl | (simp; done) | (simp [*]; done)), H', ⟨Nat.le_refl _⟩, ⟨by (with_reducible repeat (first | apply Kd.R_alloc | apply Kd.R_drewN | apply Kd.R_drew)); exact HO_8.out⟩, ⟨by (with_reducible repeat (first | refine zh0 ?_ _ | refine zi0 ?_ | refine zf0 ?_ _)); exact BK208.out⟩, ⟨by repeat (first | (with_reducible first | exact HB.out | apply zc0 | apply zb0 | apply zd0 | refine ze0 ?_ GE208.out) | exact HB.out)⟩⟩
    case round =>
     clear H'
     try clear c2
     try clear p2
     try clear c8
     try clear c8b0
     try clear hcz7_0
     try clear hfz7_0
     try clear p2
     obtain ⟨x10_2, x11_2, rfl, rfl, HA, HK2, HO_8, BK208, HB⟩ := hrel
     cases gk with
     | zero => exact absurd HA.out (by simp [impl_Graph_treeWays.l1])
     | succ k2 =>
      have H := HA.out
      clear HA
      simp only [impl_Graph_treeWays.l1] at H
      by_cases c9 : x11_2 = a1
      ·rw [if_pos c9] at H
       have c9b0 : (x11_2 == a1) = true := beq_iff_eq.mpr c9
       have c9b1 : (x11_2 != a1) = false := bne_eq_false_iff_eq.mpr c9
       clear c9
       by_cases c10 : x8_1.length < 17592186044416
       ·rw [if_pos c10] at H
        have LMc10 := za0.mk c10
        clear c10
        obtain ⟨y212, hy212⟩ : ∃ y_ : List Int, y_ = (x8_1 ++ [x10_2]) := ⟨_, rfl⟩
        replace H : (impl_Graph_treeWays.l0 k2 a1 l2 y212 (l0_0.length : Int) (wrap64 (x16_1 + 1)) l0_0) = some (r1, r2) := by first | (rw [hy212]; with_reducible exact H) | (have H2_ := (Option.bind_some _ _).symm.trans H; rw [hy212]; with_reducible exact H2_) | (have H2_ := (Option.bind_some _ _).symm.trans H; with_reducible exact H2_) | with_reducible exact H | (rw [hy212]; exact H) | exact H
        have Ny212 := za0.mk hy212
        clear hy212
        have H' := za0.mk H
        clear H
        go_wp2_with (first | ((with_reducible refine gate_builtin (b := .append) (xs := #[.tmp 38, .tmp 40]) rfl ?_); (try (refine gate_guard (by rfl) ?_; dsimp only)); at_builtin; refine Kd.R_append (Kd.int .i64) (w0 := w) w.heap.size rfl (.tmp 38) (.tmp 40) 25 3 (.int .i64 0) 8 rfl Try.underlying25 info3 rfl (by decide) (by omega) u8 x8_1 x10_2 [.int .i64 x10_2] (fun _ => True) (fun _ => False) rfl rfl ?aP (fun _ hk => hk.elim) ?aF ?aO ?aB ?aS ?aL ?_; (case aP => exact rfl); (case aB => exact (by repeat (first | (with_reducible first | exact HB.out | apply zc0 | apply zb0 | apply zd0 | refine ze0 ?_ GE208.out) | exact HB.out))); (case aF => exact (fun _ _ => trivial)); (case aO => exact (by (with_reducible repeat (first | apply Kd.R_alloc | apply Kd.R_drewN | apply Kd.R_drew)); first | exact HO_8.out | exact Kd.R_mono HO_8.out (fun _ hk => ⟨hk.2, hk.1⟩))); (case aS => exact (zg0 (by repeat (first | (with_reducible first | exact HB.out | apply zc0 | apply zb0 | apply zd0 | refine ze0 ?_ GE208.out) | exact HB.out)))); (case aL => have := LMc10.out; omega); intro v213 w11 ho hb hg hat; rw [← Ny212.out] at ho; have n0_ := za0.mk (zy0 (g := gb208) (o := .cells #[.slice A0_0 l0_0.length c0_0] 29 (0, 0)) (by (with_reducible repeat (first | refine zh0 ?_ _ | refine zi0 ?_ | refine zf0 ?_ _)); exact BK208.out) hg (Kd.R_ne HO_8.out BK208.out (by decide))); have n1_ := za0.mk (hb); have n2_ := za0.mk (ho); clear BK208; clear HB; clear HO_8; have BK208 := n0_; have HB := n1_; have HO214 := n2_; clear n0_ n1_ n2_; clear ho hb hg hat))
        go_roundg k2
        case measure => have := HK1.out; have := HK2.out; omega
        case rel => exact ⟨(y212), (wrap64 (x16_1 + 1)), (by first | rfl | (simp; done) | (simp [*]; done)), H', ⟨by have := HK1.out; have := HK2.out; omega⟩, ⟨by (with_reducible repeat (first | apply Kd.R_alloc | apply Kd.R_drewN | apply Kd.R_drew)); exact HO214.out⟩, ⟨by (with_reducible repeat (first | refine zh0 ?_ _ | refine zi0 ?_ | refine zf0 ?_ _)); exact BK208.out⟩, ⟨by repeat (first | (with_reducible first | exact HB.out | apply zc0 | apply zb0 | apply zd0 | refine ze0 ?_ GE208.out) | exact HB.out)⟩⟩
       ·rw [if_neg c10] at H
        exact absurd H (by simp)
      ·rw [if_neg c9] at H
       have c9b0 : (x11_2 == a1) = false := beq_eq_false_iff_ne.mpr c9
       have c9b1 : (x11_2 != a1) = true := bne_iff_ne.mpr c9
       replace H := Option.bind_eq_some_iff.mp H
       obtain ⟨t215, A120, H⟩ := H
       replace H : (if t215 < 0 then (some (([] : List Int), false)) else (if x10_2 > (l0_0.length : Int) then (some (([] : List Int), false)) else (impl_Graph_treeWays.l1 k2 a1 l2 x8_1 (wrap64 (x10_2 + 1)) t215 (l0_0.length : Int) x16_1 l0_0))) = some (r1, r2) := H
       have A12 := za0.mk A120
       clear A120
       by_cases c13 : t215 < 0
       ·rw [if_pos c13] at H
        have c13b0 : decide (t215 < 0) = true := decide_eq_true c13
        clear c13
        simp only [Option.some.injEq, Prod.mk.injEq] at H
        obtain ⟨rfl, rfl⟩ := H
        have hcz14_0 : wr.cell? ⟨gb208, 0, none⟩ = some (.slice A0_0 l0_0.length c0_0) := (zk0 BK208.out 0).trans rfl
        have hfz14_0 := zm0 BK208.out 0
        go_wp2_with (first | ((with_reducible refine zs0 (f := 87) rfl ?_); refine goesL_ (some 28) rfl rfl Try.func87 (by kernel_rfl) rfl #[.agg #[.slice A0_0 l0_0.length c0_0], .slice A2 l2.length c2, .int .i64 x11_2] rfl (by (try simp only [List.map_toArray, List.map_cons, List.map_nil]); first | done | rfl | (simp only [List.length_drop, List.length_take]; rfl)) ?_; (with_reducible refine (impl_Graph_next.calls _ _ l0_0 _ _ l2 x11_2 t215 _ ?side1 ?side2 ?side3 ?side4 A12.out).mono ?_); (case side1 => repeat (first | exact (Kd.C_below HR0_0.out HB.out) | (with_reducible refine Kd.C_alloc ?_ _) | (with_reducible refine Kd.C_drewN ?_ _) | (with_reducible refine Kd.C_drew ?_))); (case side2 => exact HC0_0.out); (case side3 => repeat (first | exact (Kd.C_below HR2.out HB.out) | (with_reducible refine Kd.C_alloc ?_ _) | (with_reducible refine Kd.C_drewN ?_ _) | (with_reducible refine Kd.C_drew ?_))); (case side4 => exact HC2.out); rintro e w15 ⟨rfl, hb⟩; refine ⟨_, rfl, ?_⟩; have n0_ := za0.mk (Kd.R_below (by (with_reducible repeat (first | apply Kd.R_alloc | apply Kd.R_drewN | apply Kd.R_drew)); exact HO_8.out) hb); have n1_ := za0.mk (zl0 (g := gb208) (o := .cells #[.slice A0_0 l0_0.length c0_0] 29 (0, 0)) (by (with_reducible repeat (first | refine zh0 ?_ _ | refine zi0 ?_ | refine zf0 ?_ _)); exact BK208.out) hb); have n2_ := za0.mk (zj0 (by repeat (first | (with_reducible first | exact HB.out | apply zc0 | apply zb0 | apply zd0 | refine ze0 ?_ GE208.out) | exact HB.out)) hb); clear HO_8; clear BK208; clear HB; have HO_8 := n0_; have BK208 := n1_; have HB := n2_; clear n0_ n1_ n2_; (try clear hb); (try clear hb2); (try clear hk); (try clear hi)))
        go_ret2
        exact ⟨_, by first | rfl | (simp [errW_none, errW_some] <;> rfl) | (simp [*, errW_none, errW_some] <;> rfl), by first | exact Kd.R_nil _ _ _ _ _ | exact Kd.N_nil _ _ _ _ _ | exact Kd.V_nil _ _ _ _ _ | exact Kd.Q_nil _ _ _ _ _ | exact Kd.S_nil _ _ _ _ _, by repeat (first | (with_reducible first | exact HB.out | apply zc0 | apply zb0 | apply zd0 | refine ze0 ?_ GE208.out) | exact HB.out)⟩
       ·rw [if_neg c13] at H
        have c13b0 : decide (t215 < 0) = false := decide_eq_false c13
        clear c13
        by_cases c16 : x10_2 > (l0_0.length : Int)
        ·rw [if_pos c16] at H
         have c16b0 : decide ((l0_0.length : Int) < x10_2) = true := decide_eq_true c16
         clear c16
         simp only [Option.some.injEq, Prod.mk.injEq] at H
         obtain ⟨rfl, rfl⟩ := H
         have hcz17_0 : wr.cell? ⟨gb208, 0, none⟩ = some (.slice A0_0 l0_0.length c0_0) := (zk0 BK208.out 0).trans rfl
         have hfz17_0 := zm0 BK208.out 0
         go_wp2_with (first | ((with_reducible refine zs0 (f := 87) rfl ?_); refine goesL_ (some 28) rfl rfl Try.func87 (by kernel_rfl) rfl #[.agg #[.slice A0_0 l0_0.length c0_0], .slice A2 l2.length c2, .int .i64 x11_2] rfl (by (try simp only [List.map_toArray, List.map_cons, List.map_nil]); first | done | rfl | (simp only [List.length_drop, List.length_take]; rfl)) ?_; (with_reducible refine (impl_Graph_next.calls _ _ l0_0 _ _ l2 x11_2 t215 _ ?side1 ?side2 ?side3 ?side4 A12.out).mono ?_); (case side1 => repeat (first | exact (Kd.C_below HR0_0.out HB.out) | (with_reducible refine Kd.C_alloc ?_ _) | (with_reducible refine Kd.C_drewN ?_ _) | (with_reducible refine Kd.C_drew ?_))); (case side2 => exact HC0_0.out); (case side3 => repeat (first | exact (Kd.C_below HR2.out HB.out) | (with_reducible refine Kd.C_alloc ?_ _) | (with_reducible refine Kd.C_drewN ?_ _) | (with_reducible refine Kd.C_drew ?_))); (case side4 => exact HC2.out); rintro e w18 ⟨rfl, hb⟩; refine ⟨_, rfl, ?_⟩; have n0_ := za0.mk (Kd.R_below (by (with_reducible repeat (first | apply Kd.R_alloc | apply Kd.R_drewN | apply Kd.R_drew)); exact HO_8.out) hb); have n1_ := za0.mk (zl0 (g := gb208) (o := .cells #[.slice A0_0 l0_0.length c0_0] 29 (0, 0)) (by (with_reducible repeat (first | refine zh0 ?_ _ | refine zi0 ?_ | refine zf0 ?_ _)); exact BK208.out) hb); have n2_ := za0.mk (zj0 (by repeat (first | (with_reducible first | exact HB.out | apply zc0 | apply zb0 | apply zd0 | refine ze0 ?_ GE208.out) | exact HB.out)) hb); clear HO_8; clear BK208; clear HB; have HO_8 := n0_; have BK208 := n1_; have HB := n2_; clear n0_ n1_ n2_; (try clear hb); (try clear hb2); (try clear hk); (try clear hi); have hcz19_0 : w18.cell? ⟨gb208, 0, none⟩ = some (.slice A0_0 l0_0.length c0_0) := (zk0 BK208.out 0).trans rfl; have hfz19_0 := zm0 BK208.out 0))
         go_ret2
         exact ⟨_, by first | rfl | (simp [errW_none, errW_some] <;> rfl) | (simp [*, errW_none, errW_some] <;> rfl), by first | exact Kd.R_nil _ _ _ _ _ | exact Kd.N_nil _ _ _ _ _ | exact Kd.V_nil _ _ _ _ _ | exact Kd.Q_nil _ _ _ _ _ | exact Kd.S_nil _ _ _ _ _, by repeat (first | (with_reducible first | exact HB.out | apply zc0 | apply zb0 | apply zd0 | refine ze0 ?_ GE208.out) | exact HB.out)⟩
        ·rw [if_neg c16] at H
         have c16b0 : decide ((l0_0.length : Int) < x10_2) = false := decide_eq_false c16
         clear c16
         have H' := za0.mk H
         clear H
         have hcz20_0 : wr.cell? ⟨gb208, 0, none⟩ = some (.slice A0_0 l0_0.length c0_0) := (zk0 BK208.out 0).trans rfl
         have hfz20_0 := zm0 BK208.out 0
         go_wp2_with (first | ((with_reducible refine zs0 (f := 87) rfl ?_); refine goesL_ (some 28) rfl rfl Try.func87 (by kernel_rfl) rfl #[.agg #[.slice A0_0 l0_0.length c0_0], .slice A2 l2.length c2, .int .i64 x11_2] rfl (by (try simp only [List.map_toArray, List.map_cons, List.map_nil]); first | done | rfl | (simp only [List.length_drop, List.length_take]; rfl)) ?_; (with_reducible refine (impl_Graph_next.calls _ _ l0_0 _ _ l2 x11_2 t215 _ ?side1 ?side2 ?side3 ?side4 A12.out).mono ?_); (case side1 => repeat (first | exact (Kd.C_below HR0_0.out HB.out) | (with_reducible refine Kd.C_alloc ?_ _) | (with_reducible refine Kd.C_drewN ?_ _) | (with_reducible refine Kd.C_drew ?_))); (case side2 => exact HC0_0.out); (case side3 => repeat (first | exact (Kd.C_below HR2.out HB.out) | (with_reducible refine Kd.C_alloc ?_ _) | (with_reducible refine Kd.C_drewN ?_ _) | (with_reducible refine Kd.C_drew ?_))); (case side4 => exact HC2.out); rintro e w21 ⟨rfl, hb⟩; refine ⟨_, rfl, ?_⟩; have n0_ := za0.mk (Kd.R_below (by (with_reducible repeat (first | apply Kd.R_alloc | apply Kd.R_drewN | apply Kd.R_drew)); exact HO_8.out) hb); have n1_ := za0.mk (zl0 (g := gb208) (o := .cells #[.slice A0_0 l0_0.length c0_0] 29 (0, 0)) (by (with_reducible repeat (first | refine zh0 ?_ _ | refine zi0 ?_ | refine zf0 ?_ _)); exact BK208.out) hb); have n2_ := za0.mk (zj0 (by repeat (first | (with_reducible first | exact HB.out | apply zc0 | apply zb0 | apply zd0 | refine ze0 ?_ GE208.out) | exact HB.out)) hb); clear HO_8; clear BK208; clear HB; have HO_8 := n0_; have BK208 := n1_; have HB := n2_; clear n0_ n1_ n2_; (try clear hb); (try clear hb2); (try clear hk); (try clear hi); have hcz22_0 : w21.cell? ⟨gb208, 0, none⟩ = some (.slice A0_0 l0_0.length c0_0) := (zk0 BK208.out 0).trans rfl; have hfz22_0 := zm0 BK208.out 0))
         go_roundg k2
         case measure => have := HK1.out; have := HK2.out; omega
         case rel => exact ⟨(wrap64 (x10_2 + 1)), (t215), (by first | rfl | (simp; done) | (simp [*]; done)), (by first | rfl | (simp; done) | (simp [*]; done)), H', ⟨by have := HK1.out; have := HK2.out; omega⟩, ⟨by (with_reducible repeat (first | apply Kd.R_alloc | apply Kd.R_drewN | apply Kd.R_drew)); exact HO_8.out⟩, ⟨by (with_reducible repeat (first | refine zh0 ?_ _ | refine zi0 ?_ | refine zf0 ?_ _)); exact BK208.out⟩, ⟨by repeat (first | (with_reducible first | exact HB.out | apply zc0 | apply zb0 | apply zd0 | refine ze0 ?_ GE208.out) | exact HB.out)⟩⟩
   ·rw [if_neg c8] at H
    have c8b0 : decide (x16_1 < (l0_0.length : Int)) = false := decide_eq_false c8
    clear c8
    simp only [Option.some.injEq, Prod.mk.injEq] at H
    obtain ⟨rfl, rfl⟩ := H
    go_wp2
    go_ret2
    exact ⟨_, by first | rfl | (simp [errW_none, errW_some] <;> rfl) | (simp [*, errW_none, errW_some] <;> rfl), by (with_reducible repeat (first | apply Kd.R_alloc | apply Kd.R_drewN | apply Kd.R_drew)); exact HO_8.out, by repeat (first | (with_reducible first | exact HB.out | apply zc0 | apply zb0 | apply zd0 | refine ze0 ?_ GE208.out) | exact HB.out)⟩
def impl_Graph_isTree.f (k : Nat) (l0_0 : List (List Int)) (a1 : Int) (l2 : List Int) : Option (Bool) := (impl_Graph_treeWays.f k l0_0 a1 l2).bind fun bt217 => (some bt217.2)
theorem impl_Graph_isTree.mono : ∀ a0 a1 a2 k, LeO (impl_Graph_isTree.f k a0 a1 a2) (impl_Graph_isTree.f (k + 1) a0 a1 a2) := by
 intro a0 a1 a2 k
 unfold impl_Graph_isTree.f
 repeat' first
   | (with_reducible exact impl_Graph_treeWays.mono _ _ _ _)
   | (with_reducible exact LeO.refl _)
   | (with_reducible exact LeO.none _)
   | (with_reducible refine LeO.ite ?_ ?_)
   | (with_reducible refine LeO.bind ?_ (fun _ => ?_))
   | exact impl_Graph_treeWays.mono _ _ _ _
   | exact LeO.none _
   | refine LeO.ite ?_ ?_
   | refine LeO.bind ?_ (fun _ => ?_)
set_option maxHeartbeats 8000000 in
set_option maxRecDepth 100000 in
theorem impl_Graph_isTree.calls (k : Nat) (A0_0 : Option Addr) (c0_0 : Nat) (l0_0 : List (List Int)) (a1 : Int) (A2 : Option Addr) (c2 : Nat) (l2 : List Int) (r : Bool) (w : World) (hr0_0 : Kd.C (Kd.slice 3 (Kd.int .i64)) w A0_0 l0_0.length l0_0) (hc0_0 : l0_0.length ≤ c0_0) (hr2 : Kd.C (Kd.int .i64) w A2 l2.length l2) (hc2 : l2.length ≤ c2) (h : impl_Graph_isTree.f k l0_0 a1 l2 = some r) :
  Calls Try.prog 70 #[.agg #[.slice A0_0 l0_0.length c0_0], .int .i64 a1, .slice A2 l2.length c2] w fun e w' => e = .returned (.bool r) ∧ Below w.heap.size w w' := by
 have hu29 := Try.underlying29
 have HR0_0 := za0.mk hr0_0
 have HC0_0 := za0.mk hc0_0
 clear hr0_0 hc0_0
 have HR2 := za0.mk hr2
 have HC2 := za0.mk hc2
 clear hr2 hc2
 have HB := za0.mk (Below.refl w.heap.size w)
 have H : ((impl_Graph_treeWays.f k l0_0 a1 l2).bind fun bt217 => (some bt217.2)) = some r := h
 clear h
 replace H := Option.bind_eq_some_iff.mp H
 obtain ⟨⟨t217, t220⟩, A40, H⟩ := H
 replace H : (some t220) = some r := H
 have A4 := za0.mk A40
 clear A40
 obtain rfl := Option.some.inj H
 go_enter Try.func70, Try.ntmps70
 go_wp2_with (first | ((with_reducible refine zn0 (N := 3) rfl ?_); refine zo0 ?hg (N := 3) ?hd (cs := #[.slice A0_0 l0_0.length c0_0]) (t := 29) ?hr ?_; (case hd => rfl); (case hg => rfl); (case hr => first | (go_simp; done) | (go_simp; rfl)); intro gb216 hg w5 hbox hb; have n0_ := za0.mk (zj0 (by repeat (first | (with_reducible first | exact HB.out | apply zc0 | apply zb0 | apply zd0) | exact HB.out)) hb); have n1_ := za0.mk (hbox); have n2_ := za0.mk ((by rw [hg]; exact (zg0 (by repeat (first | (with_reducible first | exact HB.out | apply zc0 | apply zb0 | apply zd0) | exact HB.out))) : w.heap.size ≤ gb216)); have n3_ := za0.mk ((by rw [hg]; exact (zg0 (by repeat (first | (with_reducible first | exact HB.out | apply zc0 | apply zb0 | apply zd0) | exact HB.out))) : w.heap.size ≤ gb216)); clear HB; have HB := n0_; have BK216 := n1_; have GW216 := n2_; have GE216 := n3_; clear n0_ n1_ n2_ n3_; clear hb hbox hg; have hcz6_0 : w5.cell? ⟨gb216, 0, none⟩ = some (.slice A0_0 l0_0.length c0_0) := (zk0 BK216.out 0).trans rfl; have hfz6_0 := zm0 BK216.out 0) | ((with_reducible refine zs0 (f := 82) rfl ?_); refine goesL_ (some 13) rfl rfl Try.func82 (by kernel_rfl) rfl #[.agg #[.slice A0_0 l0_0.length c0_0], .int .i64 a1, .slice A2 l2.length c2] rfl (by (try simp only [List.map_toArray, List.map_cons, List.map_nil]); first | done | rfl | (simp only [List.length_drop, List.length_take]; rfl)) ?_; (with_reducible refine (impl_Graph_treeWays.calls k _ _ l0_0 a1 _ _ l2 t217 t220 _ ?side1 ?side2 ?side3 ?side4 A4.out).mono ?_); (case side1 => repeat (first | exact (Kd.C_below HR0_0.out HB.out) | (with_reducible refine Kd.C_alloc ?_ _) | (with_reducible refine Kd.C_drewN ?_ _) | (with_reducible refine Kd.C_drew ?_))); (case side2 => exact HC0_0.out); (case side3 => repeat (first | exact (Kd.C_below HR2.out HB.out) | (with_reducible refine Kd.C_alloc ?_ _) | (with_reducible refine Kd.C_drewN ?_ _) | (with_reducible refine Kd.C_drew ?_))); (case side4 => exact HC2.out); rintro e w7 ⟨v218, rfl, ho0, hb⟩; refine ⟨_, rfl, ?_⟩; have n0_ := za0.mk (Kd.R_lower ho0 (zg0 (by repeat (first | (with_reducible first | exact HB.out | apply zc0 | apply zb0 | apply zd0 | refine ze0 ?_ GE216.out) | exact HB.out)))); have n1_ := za0.mk (zl0 (g := gb216) (o := .cells #[.slice A0_0 l0_0.length c0_0] 29 (0, 0)) (by (with_reducible repeat (first | refine zh0 ?_ _ | refine zi0 ?_ | refine zf0 ?_ _)); exact BK216.out) hb); have n2_ := za0.mk (zj0 (by repeat (first | (with_reducible first | exact HB.out | apply zc0 | apply zb0 | apply zd0 | refine ze0 ?_ GE216.out) | exact HB.out)) hb); clear BK216; clear HB; have HO219 := n0_; have BK216 := n1_; have HB := n2_; clear n0_ n1_ n2_; (try clear hb); (try clear hb2); (try clear hk); (try clear hi); (try clear ho0)))
 go_ret
 exact ⟨by first | rfl | (simp [errW_none, errW_some] <;> rfl) | (simp [*, errW_none, errW_some] <;> rfl), by repeat (first | (with_reducible first | exact HB.out | apply zc0 | apply zb0 | apply zd0 | refine ze0 ?_ GE216.out) | exact HB.out)⟩
theorem blk_putR {w : World} {B j t : Nat} {cs : Array Value} {u : Value} (h : w.heap[B]? = some (.cells cs t (0, 0))) : (w.setCell ⟨B, j, none⟩ u).heap[B]? = some (.cells (cs.setIfInBounds j u) t (0, 0)) := by
 simp only [World.setCell, Array.getElem?_modify, if_true, h, Option.map_some]
 rfl
structure RotSt (w0 w : World) (Bg Bs Bo Bm Bx nb n cap c0 : Nat) (A0 : Option Addr) (m : Nat) (s most : Int) (now : List Int) (out : List (List Int)) (Ao : Option Addr) (co : Nat) : Prop where
 hb : Below w0.heap.size w0 w
 hn : n = now.length
 cap_ : n ≤ cap
 bg : w.heap[Bg]? = some (.cells #[.slice A0 m c0] 29 (0, 0))
 bx : w.heap[Bx]? = some (.cells #[.slice A0 m c0] 29 (0, 0))
 bs : w.heap[Bs]? = some (.cells #[.int .i64 s] 3 (0, 0))
 bm : w.heap[Bm]? = some (.cells #[.int .i64 most] 3 (0, 0))
 bo : w.heap[Bo]? = some (.cells #[.slice Ao out.length co] 22 (0, 0))
 rt : Kd.R (Kd.int .i64) 3 w w0.heap.size (fun k => k = nb) (.slice (some ⟨nb, 0, none⟩) n cap) now
 fd : Kd.S (Kd.slice 3 (Kd.int .i64)) 25 w w0.heap.size (fun k => k ≠ nb ∧ k ≠ Bs ∧ k ≠ Bm) (.slice Ao out.length co) out
 ne : (Bg ≠ nb ∧ Bx ≠ nb ∧ Bs ≠ nb ∧ Bm ≠ nb ∧ Bo ≠ nb) ∧ Bg ≠ Bo ∧ Bx ≠ Bo ∧ Bs ≠ Bo ∧ Bm ≠ Bo
 ge : w0.heap.size ≤ nb ∧ w0.heap.size ≤ Bo
section
variable {w0 w w1 : World} {Bg Bs Bo Bm Bx nb n cap c0 : Nat} {A0 : Option Addr} {m : Nat} {s most : Int} {now : List Int} {out : List (List Int)} {Ao : Option Addr} {co : Nat}
theorem RotSt.below (h : RotSt w0 w Bg Bs Bo Bm Bx nb n cap c0 A0 m s most now out Ao co) (hb : Below w.heap.size w w1) : RotSt w0 w1 Bg Bs Bo Bm Bx nb n cap c0 A0 m s most now out Ao co :=
 ⟨zj0 h.hb hb, h.hn, h.cap_, zl0 h.bg hb, zl0 h.bx hb, zl0 h.bs hb, zl0 h.bm hb, zl0 h.bo hb, Kd.R_below h.rt hb, Kd.S_below h.fd hb, h.ne, h.ge⟩
theorem RotSt.drew (h : RotSt w0 w Bg Bs Bo Bm Bx nb n cap c0 A0 m s most now out Ao co) : RotSt w0 w.drew Bg Bs Bo Bm Bx nb n cap c0 A0 m s most now out Ao co := h.below (below_drew (Below.refl _ _))
theorem RotSt.put (h : RotSt w0 w Bg Bs Bo Bm Bx nb n cap c0 A0 m s most now out Ao co) (i x : Int) : RotSt w0 (w.setCell ⟨nb, i.toNat, none⟩ (.int .i64 x)) Bg Bs Bo Bm Bx nb n cap c0 A0 m s most (now.set i.toNat x) out Ao co :=
 ⟨ze0 h.hb h.ge.1, by rw [List.length_set]; exact h.hn, h.cap_, (Below.heap_setCell w ⟨nb, i.toNat, none⟩ _ _ h.ne.1.1).trans h.bg, (Below.heap_setCell w ⟨nb, i.toNat, none⟩ _ _ h.ne.1.2.1).trans h.bx,
  (Below.heap_setCell w ⟨nb, i.toNat, none⟩ _ _ h.ne.1.2.2.1).trans h.bs, (Below.heap_setCell w ⟨nb, i.toNat, none⟩ _ _ h.ne.1.2.2.2.1).trans h.bm, (Below.heap_setCell w ⟨nb, i.toNat, none⟩ _ _ h.ne.1.2.2.2.2).trans h.bo,
  (Kd.R_putg h.rt i x).1, Kd.S_far h.fd (fun k hk => hk.1) _, h.ne, h.ge⟩
theorem RotSt.putN (h : RotSt w0 w Bg Bs Bo Bm Bx nb n cap c0 A0 m s most now out Ao co) (i : Nat) (x : Int) : RotSt w0 (w.setCell ⟨nb, i, none⟩ (.int .i64 x)) Bg Bs Bo Bm Bx nb n cap c0 A0 m s most (now.set i x) out Ao co := by
 have := h.put (i : Int) x
 rwa [Int.toNat_natCast] at this
theorem RotSt.grow (h : RotSt w0 w Bg Bs Bo Bm Bx nb n cap c0 A0 m s most now out Ao co) {out' : List (List Int)} {Ao' : Option Addr} {co' : Nat} (hb : Below w0.heap.size w0 w1) (hg : w.grownBy w1 (.slice Ao out.length co : Value).ownBlock)
  (fd : Kd.S (Kd.slice 3 (Kd.int .i64)) 25 w1 w0.heap.size (fun k => k ≠ nb ∧ k ≠ Bs ∧ k ≠ Bm) (.slice Ao' out'.length co') out') : RotSt w0 (w1.setCell ⟨Bo, 0, none⟩ (.slice Ao' out'.length co')) Bg Bs Bo Bm Bx nb n cap c0 A0 m s most now out' Ao' co' :=
 have bo := zy0 h.bo hg (Kd.S_ne h.fd h.bo (by decide))
 ⟨ze0 hb h.ge.2, h.hn, h.cap_, (Below.heap_setCell _ ⟨Bo, 0, none⟩ _ _ h.ne.2.1).trans (zy0 h.bg hg (Kd.S_ne h.fd h.bg (by decide))), (Below.heap_setCell _ ⟨Bo, 0, none⟩ _ _ h.ne.2.2.1).trans (zy0 h.bx hg (Kd.S_ne h.fd h.bx (by decide))),
  (Below.heap_setCell _ ⟨Bo, 0, none⟩ _ _ h.ne.2.2.2.1).trans (zy0 h.bs hg (Kd.S_ne h.fd h.bs (by decide))), (Below.heap_setCell _ ⟨Bo, 0, none⟩ _ _ h.ne.2.2.2.2).trans (zy0 h.bm hg (Kd.S_ne h.fd h.bm (by decide))),
  (blk_putR bo).trans rfl, Kd.R_set (Kd.R_over' h.rt (Kd.S_typed h.fd) (by decide) hg) bo (by decide) 0 _, Kd.S_set fd bo (by decide) 0 _, h.ne, h.ge⟩
end
set_option maxHeartbeats 8000000 in
set_option maxRecDepth 100000 in
theorem allTrees_1.calls (k : Nat) (l : List (List Int)) (s most : Int) (A0 : Option Addr) (c0 Bg Bs Bo Bm Bx nb n cap : Nat) (w0 w : World) (hr0 : Kd.C (Kd.slice 3 (Kd.int .i64)) w0 A0 l.length l) (hc0 : l.length ≤ c0) (now : List Int) (out : List (List Int)) (Ao : Option Addr) (co : Nat) (b : Bool)
  (st : RotSt w0 w Bg Bs Bo Bm Bx nb n cap c0 A0 l.length s most now out Ao co) (hT : impl_Graph_isTree.f k l s now = some b) (hl : (out.length + 1) * 24 ≤ 140737488355328) (hl2 : now.length < 17592186044416) :
  Calls Try.prog 78 #[.slice (some ⟨nb, 0, none⟩) n cap, .pointer (some ⟨Bg, 0, none⟩), .pointer (some ⟨Bs, 0, none⟩), .pointer (some ⟨Bo, 0, none⟩), .pointer (some ⟨Bm, 0, none⟩)] w fun e w' =>
   e = .returned (.bool (decide (((if b then out ++ [now] else out).length : Int) < most))) ∧ ∃ Ao' co', RotSt w0 w' Bg Bs Bo Bm Bx nb n cap c0 A0 l.length s most now (if b then out ++ [now] else out) Ao' co' := by
 have hu1 := Try.underlying29
 have hu3 := Try.underlying25
 have HR0 := za0.mk hr0
 have HC0 := za0.mk hc0
 have HT := za0.mk hT
 have LM := za0.mk hl
 have L2 := za0.mk hl2
 have hn := st.hn
 subst hn
 have ST := za0.mk st
 clear hr0 hc0 hT hl hl2 st
 have hcg : w.cell? ⟨Bg, 0, none⟩ = some (.slice A0 l.length c0) := (zk0 ST.out.bg 0).trans rfl
 have hcs : w.cell? ⟨Bs, 0, none⟩ = some (.int .i64 s) := (zk0 ST.out.bs 0).trans rfl
 cases b with
 | false =>
  by_cases c1 : (out.length : Int) < most
  ·have c1b : decide ((out.length : Int) < most) = true := decide_eq_true c1
   clear c1
   go_enter Try.func78, Try.ntmps78
   go_wp2_with (go_at_call 70; refine (impl_Graph_isTree.calls k A0 c0 l s (some ⟨nb, 0, none⟩) cap now false w (Kd.C_below HR0.out ST.out.hb) HC0.out (Kd.R_reads' ST.out.rt).2.2 ST.out.cap_ HT.out).mono ?_; rintro e w2 ⟨rfl, hb⟩; have ST2 := za0.mk (ST.out.below hb); clear hb; have hco : w2.cell? ⟨Bo, 0, none⟩ = some (.slice Ao out.length co) := (zk0 ST2.out.bo 0).trans rfl; have hcm : w2.cell? ⟨Bm, 0, none⟩ = some (.int .i64 most) := (zk0 ST2.out.bm 0).trans rfl)
   go_ret
   exact ⟨by simp [c1b], _, _, ST2.out⟩
  ·have c1b : decide ((out.length : Int) < most) = false := decide_eq_false c1
   clear c1
   go_enter Try.func78, Try.ntmps78
   go_wp2_with (go_at_call 70; refine (impl_Graph_isTree.calls k A0 c0 l s (some ⟨nb, 0, none⟩) cap now false w (Kd.C_below HR0.out ST.out.hb) HC0.out (Kd.R_reads' ST.out.rt).2.2 ST.out.cap_ HT.out).mono ?_; rintro e w2 ⟨rfl, hb⟩; have ST2 := za0.mk (ST.out.below hb); clear hb; have hco : w2.cell? ⟨Bo, 0, none⟩ = some (.slice Ao out.length co) := (zk0 ST2.out.bo 0).trans rfl; have hcm : w2.cell? ⟨Bm, 0, none⟩ = some (.int .i64 most) := (zk0 ST2.out.bm 0).trans rfl)
   go_ret
   exact ⟨by simp [c1b], _, _, ST2.out⟩
 | true =>
  by_cases c1 : ((out.length : Int) + 1) < most
  ·have c1b : decide (((out.length : Int) + 1) < most) = true := decide_eq_true c1
   clear c1
   go_enter Try.func78, Try.ntmps78
   go_wp2_with (go_at_call 70; refine (impl_Graph_isTree.calls k A0 c0 l s (some ⟨nb, 0, none⟩) cap now true w (Kd.C_below HR0.out ST.out.hb) HC0.out (Kd.R_reads' ST.out.rt).2.2 ST.out.cap_ HT.out).mono ?_; rintro e w2 ⟨rfl, hb⟩; have ST2 := za0.mk (ST.out.below hb); clear hb; have hco : w2.cell? ⟨Bo, 0, none⟩ = some (.slice Ao out.length co) := (zk0 ST2.out.bo 0).trans rfl; have hcm : w2.cell? ⟨Bm, 0, none⟩ = some (.int .i64 most) := (zk0 ST2.out.bm 0).trans rfl)
   have ST3 := za0.mk ST2.out.drew
   have hcy : w2.drew.cell? ⟨Bo, 0, none⟩ = some (.slice Ao out.length co) := (zk0 ST3.out.bo 0).trans rfl
   clear hco hcm ST2
   have hcl : slices_Clone_int_int.f now = some now := by unfold slices_Clone_int_int.f; rw [if_pos L2.out]
   have A3 := za0.mk hcl
   clear hcl
   refine start_ (n := 6) (S := fun w' => w'.cell? ⟨Bo, 0, none⟩ = some (.slice Ao out.length co)) (ds := [5]) #[false, false, false, false, false, false] (by kernel_rfl) rfl rfl hcy (fun hHeld => ?_)
   clear hcy
   refine take_ (i := 0) (N := some 11) (v := ?_) (a' := ?_) (bf 6 1) rfl rfl (by kernel_rfl) (fun _ _ _ h => h) (Or.inl ⟨by rfl, ?_⟩) hHeld ?_ ?_
   rotate_left
   ·rintro w' s0; go_simp; with_reducible rfl
   rotate_left
   ·simp only [Act.put, zA, zB, zC, i64_w, i32_w]; rfl
   refine pure_ (i := 1) (N := some 12) (v := ?_) (a' := ?_) (bf 6 3) rfl rfl (by kernel_rfl) (fun _ _ _ h => h) (Or.inl ⟨by rfl, ?_⟩) ?_ ?_
   rotate_left
   ·intro w'; go_simp; with_reducible rfl
   rotate_left
   ·simp only [Act.put, zA, zB, zC, i64_w, i32_w]; rfl
   refine one_ (i := 2) (N := some 13) (bf 6 7) rfl rfl (by kernel_rfl) (by decide) (fun K hK => ?_)
   refine goes_ Try.func35 (by kernel_rfl) rfl #[.slice (some ⟨nb, 0, none⟩) now.length cap] (by rfl) rfl rfl (by (try simp only [List.map_toArray, List.map_cons, List.map_nil]); first | done | rfl) ?_
   refine (slices_Clone_int_int.calls _ _ now now _ (Kd.R_reads' ST3.out.rt).2.2 ST3.out.cap_ A3.out).mono ?_
   rintro e w3 ⟨v3, rfl, ho0, hb⟩
   refine ⟨_, rfl, ?_⟩
   have HN := za0.mk (Kd.R_base ho0)
   have HLT := za0.mk (show nb < w2.drew.heap.size ∧ Bs < w2.drew.heap.size ∧ Bm < w2.drew.heap.size from ⟨Kd.R_lt ST3.out.rt nb rfl, blk_lt ST3.out.bs, blk_lt ST3.out.bm⟩)
   have ST4 := za0.mk (ST3.out.below hb)
   have HSZ := za0.mk hb.size
   have HF := za0.mk (Kd.S_elder' ST3.out.fd (Kd.R_base ho0) hb)
   have HW := za0.mk (Kd.R_lower ho0 (zg0 ST3.out.hb))
   clear ho0 hb ST3
   obtain ⟨Ao2, co2, eo⟩ := Kd.R_slice HW.out
   subst eo
   refine hK.out _ _ ((zk0 ST4.out.bo 0).trans rfl) (fun hHeld => ?_)
   clear hK K
   refine norm_ (a' := ?_) ?_ ?_
   rotate_left
   ·show Act.put _ (some 13) _ = _; simp only [Act.put, zA, zB, zC, i64_w, i32_w]; rfl
   refine one_ (i := 3) (N := some 14) (bf 6 15) rfl rfl (by kernel_rfl) (by decide) (fun K hK => ?_)
   refine value_ (w1 := ?_) (v := ?_) (by rfl) rfl ?_ ?_
   rotate_left 2
   ·go_simp
    constructor
    ·rfl
    ·rfl
   have BKA := za0.mk (zf0 ST4.out.bo (.cells #[.slice Ao2 now.length co2] 25))
   refine hK.out _ _ ((zk0 BKA.out 0).trans rfl) (fun hHeld => ?_)
   clear hK K
   refine norm_ (a' := ?_) ?_ ?_
   rotate_left
   ·show Act.put _ (some 14) _ = _; simp only [Act.put, zA, zB, zC, i64_w, i32_w]; rfl
   refine one_ (i := 4) (N := some 15) (bf 6 31) rfl rfl (by kernel_rfl) (by decide) (fun K hK => ?_)
   refine Kd.S_append_step (Kd.slice 3 (Kd.int .i64)) (w0 := w0) w0.heap.size (by rfl) (.tmp 11) (.tmp 14) 22 25 (.slice none 0 0) 24 rfl Try.underlying22 info25 rfl (by decide) (by omega) (.slice Ao out.length co) out now [.slice Ao2 now.length co2] (fun k => k ≠ nb ∧ k ≠ Bs ∧ k ≠ Bm) (fun k_ => some k_ = (.slice Ao2 now.length co2 : Value).ownBlock) rfl rfl ?aP ?aK ?aF ?aO ?aB ?aS ?aL ?_
   (case aP => exact Kd.M_row (Kd.R_mono (Kd.R_tight rfl HW.out) (fun _ h_ => h_)))
   (case aK => exact fun k_ hk_ => ⟨by have h1 := HN.out k_ hk_.symm; have h2 := HLT.out; omega, ((Kd.R_apart' HW.out (Kd.S_typed ST4.out.fd) (by decide)).1 k_ hk_.symm).2⟩)
   (case aB => exact ST4.out.hb)
   (case aF => exact fun k_ hk => by have h1 := HSZ.out; have h2 := HLT.out; omega)
   (case aO => exact Kd.S_mono HF.out (fun k_ hk => ⟨hk.1, fun e_ => hk.2 e_⟩))
   (case aS => exact zg0 ST4.out.hb)
   (case aL => exact LM.out)
   intro v9 w9 ho hb hg hat
   obtain ⟨Af9, cf9, e9⟩ := Kd.S_slice ho
   subst e9
   have ST9 := za0.mk (RotSt.grow ST4.out hb hg ho)
   have BK9 := za0.mk (zy0 ST4.out.bo hg (Kd.S_ne ST4.out.fd ST4.out.bo (by decide)))
   have hcx : w9.cell? ⟨Bo, 0, none⟩ = some (.slice Ao out.length co) := (zk0 BK9.out 0).trans rfl
   have hfx := zm0 BK9.out 0
   clear ho hb hg hat
   refine hK.out _ _ ((zk0 BK9.out 0).trans rfl) (fun hHeld => ?_)
   clear hK K
   refine norm_ (a' := ?_) ?_ ?_
   rotate_left
   ·show Act.put _ (some 15) _ = _; simp only [Act.put, zA, zB, zC, i64_w, i32_w]; rfl
   refine last_ (i := 5) (N := none) (bf 6 63) rfl rfl (by kernel_rfl) (by decide) (fun K hK => ?_)
   refine skip_ (w1 := ?_) (by rfl) rfl ?_ ?_
   rotate_left
   ·go_simp
    rfl
   refine hK.out _ _ ?_
   clear hK K
   refine done_ (by kernel_rfl) ?_
   have hco : (w9.setCell ⟨Bo, 0, none⟩ (.slice Af9 (out ++ [now]).length cf9)).cell? ⟨Bo, 0, none⟩ = some (.slice Af9 (out ++ [now]).length cf9) := (zk0 ST9.out.bo 0).trans rfl
   have hcm : (w9.setCell ⟨Bo, 0, none⟩ (.slice Af9 (out ++ [now]).length cf9)).cell? ⟨Bm, 0, none⟩ = some (.int .i64 most) := (zk0 ST9.out.bm 0).trans rfl
   simp only [List.length_append, List.length_cons, List.length_nil, Nat.zero_add] at hco hcm
   go_wp2
   go_ret
   refine ⟨by simp [c1b], Af9, cf9, ?_⟩
   have h9 := ST9.out
   simp only [List.length_append, List.length_cons, List.length_nil, Nat.zero_add] at h9
   exact h9
  ·have c1b : decide (((out.length : Int) + 1) < most) = false := decide_eq_false c1
   clear c1
   go_enter Try.func78, Try.ntmps78
   go_wp2_with (go_at_call 70; refine (impl_Graph_isTree.calls k A0 c0 l s (some ⟨nb, 0, none⟩) cap now true w (Kd.C_below HR0.out ST.out.hb) HC0.out (Kd.R_reads' ST.out.rt).2.2 ST.out.cap_ HT.out).mono ?_; rintro e w2 ⟨rfl, hb⟩; have ST2 := za0.mk (ST.out.below hb); clear hb; have hco : w2.cell? ⟨Bo, 0, none⟩ = some (.slice Ao out.length co) := (zk0 ST2.out.bo 0).trans rfl; have hcm : w2.cell? ⟨Bm, 0, none⟩ = some (.int .i64 most) := (zk0 ST2.out.bm 0).trans rfl)
   have ST3 := za0.mk ST2.out.drew
   have hcy : w2.drew.cell? ⟨Bo, 0, none⟩ = some (.slice Ao out.length co) := (zk0 ST3.out.bo 0).trans rfl
   clear hco hcm ST2
   have hcl : slices_Clone_int_int.f now = some now := by unfold slices_Clone_int_int.f; rw [if_pos L2.out]
   have A3 := za0.mk hcl
   clear hcl
   refine start_ (n := 6) (S := fun w' => w'.cell? ⟨Bo, 0, none⟩ = some (.slice Ao out.length co)) (ds := [5]) #[false, false, false, false, false, false] (by kernel_rfl) rfl rfl hcy (fun hHeld => ?_)
   clear hcy
   refine take_ (i := 0) (N := some 11) (v := ?_) (a' := ?_) (bf 6 1) rfl rfl (by kernel_rfl) (fun _ _ _ h => h) (Or.inl ⟨by rfl, ?_⟩) hHeld ?_ ?_
   rotate_left
   ·rintro w' s0; go_simp; with_reducible rfl
   rotate_left
   ·simp only [Act.put, zA, zB, zC, i64_w, i32_w]; rfl
   refine pure_ (i := 1) (N := some 12) (v := ?_) (a' := ?_) (bf 6 3) rfl rfl (by kernel_rfl) (fun _ _ _ h => h) (Or.inl ⟨by rfl, ?_⟩) ?_ ?_
   rotate_left
   ·intro w'; go_simp; with_reducible rfl
   rotate_left
   ·simp only [Act.put, zA, zB, zC, i64_w, i32_w]; rfl
   refine one_ (i := 2) (N := some 13) (bf 6 7) rfl rfl (by kernel_rfl) (by decide) (fun K hK => ?_)
   refine goes_ Try.func35 (by kernel_rfl) rfl #[.slice (some ⟨nb, 0, none⟩) now.length cap] (by rfl) rfl rfl (by (try simp only [List.map_toArray, List.map_cons, List.map_nil]); first | done | rfl) ?_
   refine (slices_Clone_int_int.calls _ _ now now _ (Kd.R_reads' ST3.out.rt).2.2 ST3.out.cap_ A3.out).mono ?_
   rintro e w3 ⟨v3, rfl, ho0, hb⟩
   refine ⟨_, rfl, ?_⟩
   have HN := za0.mk (Kd.R_base ho0)
   have HLT := za0.mk (show nb < w2.drew.heap.size ∧ Bs < w2.drew.heap.size ∧ Bm < w2.drew.heap.size from ⟨Kd.R_lt ST3.out.rt nb rfl, blk_lt ST3.out.bs, blk_lt ST3.out.bm⟩)
   have ST4 := za0.mk (ST3.out.below hb)
   have HSZ := za0.mk hb.size
   have HF := za0.mk (Kd.S_elder' ST3.out.fd (Kd.R_base ho0) hb)
   have HW := za0.mk (Kd.R_lower ho0 (zg0 ST3.out.hb))
   clear ho0 hb ST3
   obtain ⟨Ao2, co2, eo⟩ := Kd.R_slice HW.out
   subst eo
   refine hK.out _ _ ((zk0 ST4.out.bo 0).trans rfl) (fun hHeld => ?_)
   clear hK K
   refine norm_ (a' := ?_) ?_ ?_
   rotate_left
   ·show Act.put _ (some 13) _ = _; simp only [Act.put, zA, zB, zC, i64_w, i32_w]; rfl
   refine one_ (i := 3) (N := some 14) (bf 6 15) rfl rfl (by kernel_rfl) (by decide) (fun K hK => ?_)
   refine value_ (w1 := ?_) (v := ?_) (by rfl) rfl ?_ ?_
   rotate_left 2
   ·go_simp
    constructor
    ·rfl
    ·rfl
   have BKA := za0.mk (zf0 ST4.out.bo (.cells #[.slice Ao2 now.length co2] 25))
   refine hK.out _ _ ((zk0 BKA.out 0).trans rfl) (fun hHeld => ?_)
   clear hK K
   refine norm_ (a' := ?_) ?_ ?_
   rotate_left
   ·show Act.put _ (some 14) _ = _; simp only [Act.put, zA, zB, zC, i64_w, i32_w]; rfl
   refine one_ (i := 4) (N := some 15) (bf 6 31) rfl rfl (by kernel_rfl) (by decide) (fun K hK => ?_)
   refine Kd.S_append_step (Kd.slice 3 (Kd.int .i64)) (w0 := w0) w0.heap.size (by rfl) (.tmp 11) (.tmp 14) 22 25 (.slice none 0 0) 24 rfl Try.underlying22 info25 rfl (by decide) (by omega) (.slice Ao out.length co) out now [.slice Ao2 now.length co2] (fun k => k ≠ nb ∧ k ≠ Bs ∧ k ≠ Bm) (fun k_ => some k_ = (.slice Ao2 now.length co2 : Value).ownBlock) rfl rfl ?aP ?aK ?aF ?aO ?aB ?aS ?aL ?_
   (case aP => exact Kd.M_row (Kd.R_mono (Kd.R_tight rfl HW.out) (fun _ h_ => h_)))
   (case aK => exact fun k_ hk_ => ⟨by have h1 := HN.out k_ hk_.symm; have h2 := HLT.out; omega, ((Kd.R_apart' HW.out (Kd.S_typed ST4.out.fd) (by decide)).1 k_ hk_.symm).2⟩)
   (case aB => exact ST4.out.hb)
   (case aF => exact fun k_ hk => by have h1 := HSZ.out; have h2 := HLT.out; omega)
   (case aO => exact Kd.S_mono HF.out (fun k_ hk => ⟨hk.1, fun e_ => hk.2 e_⟩))
   (case aS => exact zg0 ST4.out.hb)
   (case aL => exact LM.out)
   intro v9 w9 ho hb hg hat
   obtain ⟨Af9, cf9, e9⟩ := Kd.S_slice ho
   subst e9
   have ST9 := za0.mk (RotSt.grow ST4.out hb hg ho)
   have BK9 := za0.mk (zy0 ST4.out.bo hg (Kd.S_ne ST4.out.fd ST4.out.bo (by decide)))
   have hcx : w9.cell? ⟨Bo, 0, none⟩ = some (.slice Ao out.length co) := (zk0 BK9.out 0).trans rfl
   have hfx := zm0 BK9.out 0
   clear ho hb hg hat
   refine hK.out _ _ ((zk0 BK9.out 0).trans rfl) (fun hHeld => ?_)
   clear hK K
   refine norm_ (a' := ?_) ?_ ?_
   rotate_left
   ·show Act.put _ (some 15) _ = _; simp only [Act.put, zA, zB, zC, i64_w, i32_w]; rfl
   refine last_ (i := 5) (N := none) (bf 6 63) rfl rfl (by kernel_rfl) (by decide) (fun K hK => ?_)
   refine skip_ (w1 := ?_) (by rfl) rfl ?_ ?_
   rotate_left
   ·go_simp
    rfl
   refine hK.out _ _ ?_
   clear hK K
   refine done_ (by kernel_rfl) ?_
   have hco : (w9.setCell ⟨Bo, 0, none⟩ (.slice Af9 (out ++ [now]).length cf9)).cell? ⟨Bo, 0, none⟩ = some (.slice Af9 (out ++ [now]).length cf9) := (zk0 ST9.out.bo 0).trans rfl
   have hcm : (w9.setCell ⟨Bo, 0, none⟩ (.slice Af9 (out ++ [now]).length cf9)).cell? ⟨Bm, 0, none⟩ = some (.int .i64 most) := (zk0 ST9.out.bm 0).trans rfl
   simp only [List.length_append, List.length_cons, List.length_nil, Nat.zero_add] at hco hcm
   go_wp2
   go_ret
   refine ⟨by simp [c1b], Af9, cf9, ?_⟩
   have h9 := ST9.out
   simp only [List.length_append, List.length_cons, List.length_nil, Nat.zero_add] at h9
   exact h9
def odoN (g : List (List Int)) (s : Int) : Nat → List Int → Option (List Int)
 | 0, _ => none
 | p + 1, now => if (p : Int) = s ∨ wrap64 (((rd_L1 g (p : Int)).length : Int) - 1) ≤ rd now (p : Int) then odoN g s p (now.set p 0) else some (now.set p (wrap64 (rd now (p : Int) + 1)))
def rots (g : List (List Int)) (s most : Int) : Nat → List (List Int) → List Int → Option (List (List Int))
 | 0, _, _ => none
 | k + 1, out, now => if (out.length + 1) * 24 ≤ 140737488355328 then ((impl_Graph_isTree.f k g s now).bind fun b => if ((if b then out ++ [now] else out).length : Int) < most then (match odoN g s g.length now with
  | none => some (if b then out ++ [now] else out)
  | some now2 => rots g s most k (if b then out ++ [now] else out) now2) else some (if b then out ++ [now] else out)) else none
theorem rots_mono (g : List (List Int)) (s most : Int) : ∀ k out now, LeO (rots g s most k out now) (rots g s most (k + 1) out now) := by
 intro k
 induction k with
 | zero => intro out now; exact LeO.none _
 | succ k ih =>
  intro out now
  rw [rots.eq_2, rots.eq_2]
  refine LeO.ite (LeO.bind (impl_Graph_isTree.mono _ _ _ _) (fun b => LeO.ite ?_ (LeO.refl _))) (LeO.refl _)
  cases odoN g s g.length now with
  | none => exact LeO.refl _
  | some now2 => exact ih _ _
set_option maxHeartbeats 16000000 in
set_option maxRecDepth 100000 in
theorem allRotors_.calls (k : Nat) (l : List (List Int)) (s most : Int) (A0 : Option Addr) (c0 Bg Bs Bo Bm : Nat) (w0 w : World) (hr0 : Kd.C (Kd.slice 3 (Kd.int .i64)) w0 A0 l.length l) (hc0 : l.length ≤ c0) (hl1 : 0 < l.length) (hl2 : l.length ≤ 1000)
  (hb : Below w0.heap.size w0 w) (bg : w.heap[Bg]? = some (.cells #[.slice A0 l.length c0] 29 (0, 0))) (bs : w.heap[Bs]? = some (.cells #[.int .i64 s] 3 (0, 0))) (bm : w.heap[Bm]? = some (.cells #[.int .i64 most] 3 (0, 0)))
  (Ao : Option Addr) (co : Nat) (bo : w.heap[Bo]? = some (.cells #[.slice Ao 0 co] 22 (0, 0))) (fd : Kd.S (Kd.slice 3 (Kd.int .i64)) 25 w w0.heap.size (fun k => k ≠ Bs ∧ k ≠ Bm) (.slice Ao 0 co) [])
  (hBo : w0.heap.size ≤ Bo) (hne : Bg ≠ Bo ∧ Bs ≠ Bo ∧ Bm ≠ Bo) (r : List (List Int)) (h : rots l s most k [] (List.replicate l.length 0) = some r) :
  Calls Try.prog 77 #[.agg #[.slice A0 l.length c0], .int .i64 s, .func (.func 78) #[] #[.pointer (some ⟨Bg, 0, none⟩), .pointer (some ⟨Bs, 0, none⟩), .pointer (some ⟨Bo, 0, none⟩), .pointer (some ⟨Bm, 0, none⟩)]] w fun e w' =>
   e = .returned (.tuple #[]) ∧ ∃ Bx nb n cap now Ao' co', RotSt w0 w' Bg Bs Bo Bm Bx nb n cap c0 A0 l.length s most now r Ao' co' := by
 have hu1 := Try.underlying29
 have hu3 := Try.underlying25
 have eg : ∀ args w, (callFunc 78 args).run Try.prog w = .ok (.enter 78 args) w := fun args w => rfl
 obtain ⟨ad0, _, _, ead, _⟩ := at_L1 hr0 0 (by omega) (by omega)
 subst ead
 have HR0 := za0.mk hr0
 have HC0 := za0.mk hc0
 have H1 := za0.mk hl1
 have H2 := za0.mk hl2
 have H' := za0.mk h
 have HB := za0.mk (zc0 hb (.cells #[.slice (some ad0) l.length c0] 29))
 have BX := za0.mk (blk_new w (.cells #[.slice (some ad0) l.length c0] 29))
 have BG := za0.mk (zf0 bg (.cells #[.slice (some ad0) l.length c0] 29))
 have BS := za0.mk (zf0 bs (.cells #[.slice (some ad0) l.length c0] 29))
 have BM := za0.mk (zf0 bm (.cells #[.slice (some ad0) l.length c0] 29))
 have BO := za0.mk (zf0 bo (.cells #[.slice (some ad0) l.length c0] 29))
 have FD := za0.mk (Kd.S_alloc fd (.cells #[.slice (some ad0) l.length c0] 29))
 have HXO := za0.mk (show w.heap.size ≠ Bo from fun e => by have := blk_lt bo; omega)
 have HBO := za0.mk hBo
 have HNE := za0.mk hne
 have hcx : (w.alloc (.cells #[.slice (some ad0) l.length c0] 29)).cell? ⟨w.heap.size, 0, none⟩ = some (.slice (some ad0) l.length c0) := (zk0 BX.out 0).trans rfl
 clear hr0 hc0 hl1 hl2 h hb bg bs bm bo fd hBo hne
 go_enter Try.func77, Try.ntmps77
 go_wp2_with ((with_reducible refine zn0 (N := 11) rfl ?_); refine Kd.R_make (Kd.int .i64) (w0 := w0) w0.heap.size 3 rfl (N := 11) rfl 25 _ _ rfl (l.length : Int) rfl rfl Try.underlying25 (.int .i64 0) 8 info3 rfl (by decide) (by omega) 0 (ok := fun _ => True) (okp := fun _ => False) rfl (fun _ _ => trivial) trivial (by omega) (by have := H2.out; omega) HB.out (zg0 HB.out) ?_; intro v2 w2 hr2 hb2 hg2 hnew2)
 rw [Int.toNat_natCast] at hr2
 obtain ⟨nb, cap, e2, hnb, _, _⟩ := Kd.R_form hr2 (by rw [List.length_replicate]; exact H1.out)
 rw [List.length_replicate] at e2
 subst e2
 obtain ⟨bn, hbn, hbn2⟩ := hnew2
 obtain rfl : bn = nb := by injection hbn with e; exact e.symm
 have ST := za0.mk (show RotSt w0 w2 Bg Bs Bo Bm w.heap.size bn l.length cap c0 (some ad0) l.length s most (List.replicate l.length 0) [] Ao co from
  ⟨hb2, by simp, (Kd.R_reads' hr2).2.1, zy0 BG.out hg2 (by simp), zy0 BX.out hg2 (by simp), zy0 BS.out hg2 (by simp), zy0 BM.out hg2 (by simp), zy0 BO.out hg2 (by simp),
   Kd.R_mono (ok' := fun k => k = bn) (Kd.R_tight rfl hr2) (fun k hk => by injection hk), Kd.S_grown (Kd.S_mono (Kd.S_bound FD.out) (fun k hk => ⟨by have := hk.2.2.1; omega, hk.1⟩)) hg2 (by simp),
   ⟨⟨by have := blk_lt BG.out; omega, by have := blk_lt BX.out; omega, by have := blk_lt BS.out; omega, by have := blk_lt BM.out; omega, by have := blk_lt BO.out; omega⟩, HNE.out.1, HXO.out, HNE.out.2.1, HNE.out.2.2⟩, hnb, HBO.out⟩)
 clear hr2 hb2 hg2 hnb hbn hbn2 BG BX BS BM BO FD HB hcx
 generalize w.heap.size = Bx at ST ⊢
 go_wp2
 go_loopg [7] k (fun kq _ w' => ∃ (now : List Int) (out : List (List Int)) (Ao' : Option Addr) (co' : Nat), za0 (rots l s most kq out now = some r) ∧ za0 (kq ≤ k) ∧ za0 (RotSt w0 w' Bg Bs Bo Bm Bx bn l.length cap c0 (some ad0) l.length s most now out Ao' co'))
 case atStart => exact ⟨_, _, _, _, H', ⟨Nat.le_refl _⟩, ST⟩
 case round =>
  clear H' ST
  obtain ⟨now, out, Ao1, co1, HA, HK1, ST⟩ := hrel
  cases gk with
  | zero => exact absurd HA.out (by simp [rots])
  | succ k1 =>
   have H := HA.out
   clear HA
   simp only [rots] at H
   by_cases c0_ : (out.length + 1) * 24 ≤ 140737488355328
   ·rw [if_pos c0_] at H
    have LM := za0.mk c0_
    clear c0_
    replace H := Option.bind_eq_some_iff.mp H
    obtain ⟨b, A80, H⟩ := H
    have A8 := za0.mk A80
    clear A80
    obtain ⟨out2, ho2⟩ : ∃ o : List (List Int), o = (if b then out ++ [now] else out) := ⟨_, rfl⟩
    rw [← ho2] at H
    have hlen : now.length < 17592186044416 := by have := ST.out.hn; have := H2.out; omega
    have hcall := allTrees_1.calls k1 l s most (some ad0) c0 Bg Bs Bo Bm Bx bn l.length cap w0 wr HR0.out HC0.out now out Ao1 co1 b ST.out A8.out LM.out hlen
    rw [← ho2] at hcall
    clear ho2 hlen
    by_cases c1 : (out2.length : Int) < most
    ·rw [if_pos c1] at H
     rw [decide_eq_true c1] at hcall
     clear c1
     have H' := za0.mk H
     clear H
     have HCALL := za0.mk hcall
     clear hcall
     go_wp2_with (fail)
     refine HCALL.out.mono ?_
     rintro e w3 ⟨rfl, Ao2, co2, st2⟩
     have ST2 := za0.mk st2
     clear st2 ST HCALL A8
     go_wp2
     have hw : wrap64 ((l.length : Int) - 1) = (l.length : Int) - 1 := by have := H2.out; unfold wrap64; omega
     go_loopg [7] l.length (fun kq v7 w' => ∃ now' : List Int, v7 = .int .i64 ((kq : Int) - 1) ∧ za0 (kq ≤ l.length) ∧ za0 (odoN l s kq now' = odoN l s l.length now) ∧ za0 (RotSt w0 w' Bg Bs Bo Bm Bx bn l.length cap c0 (some ad0) l.length s most now' out2 Ao2 co2))
     case atStart => exact ⟨now, by rw [hw], ⟨Nat.le_refl _⟩, ⟨rfl⟩, ST2⟩
     case round =>
      clear ST2
      obtain ⟨now2, rfl, HQ, HO, ST2⟩ := hrel
      cases gk with
      | zero =>
       rw [show (((0 : Nat) : Int) - 1) = -1 by omega]
       have e : odoN l s l.length now = none := HO.out.symm.trans rfl
       have H := H'.out
       rw [e] at H
       obtain rfl := Option.some.inj H
       have ST3 := za0.mk ST2.out.drew
       clear ST2 H H'
       have c0b : decide ((0 : Int) ≤ -1) = false := by decide
       have c1b : decide ((-1 : Int) < 0) = true := by decide
       go_wp2
       refine start_ (n := 21) (S := fun w' => True) (ds := []) #[false, false, false, false, false, false, false, false, false, false, false, false, false, false, false, false, false, false, false, false, false] (by kernel_rfl) rfl rfl trivial (fun hHeld => ?_)
       generalize wr.drew = w4 at ST3 hHeld ⊢
       refine pure_ (i := 0) (N := some 19) (v := ?_) (a' := ?_) (bf 21 1) rfl rfl (by kernel_rfl) (fun _ _ _ h => h) (Or.inl ⟨by rfl, ?_⟩) ?_ ?_
       rotate_left
       ·intro w'; go_simp; with_reducible rfl
       rotate_left
       ·simp only [Act.put, zA, zB, zC, i64_w, i32_w]; rfl
       refine pure_ (i := 1) (N := some 20) (v := ?_) (a' := ?_) (bf 21 3) rfl rfl (by kernel_rfl) (fun _ _ _ h => h) (Or.inl ⟨by rfl, ?_⟩) ?_ ?_
       rotate_left
       ·intro w'; go_simp; with_reducible rfl
       rotate_left
       ·simp only [Act.put, zA, zB, zC, i64_w, i32_w]; rfl
       refine pure_ (i := 2) (N := some 21) (v := ?_) (a' := ?_) (bf 21 7) rfl rfl (by kernel_rfl) (fun _ _ _ h => h) (Or.inl ⟨by rfl, ?_⟩) ?_ ?_
       rotate_left
       ·intro w'; go_simp; with_reducible rfl
       rotate_left
       ·simp only [Act.put, zA, zB, zC, i64_w, i32_w]; rfl
       refine pure_ (i := 3) (N := some 22) (v := undef) (a' := ?_) (bf 21 15) rfl rfl (by kernel_rfl) (fun _ _ _ h => h) (Or.inr ⟨by rfl, rfl⟩) ?_ ?_
       rotate_left
       ·simp only [Act.put, zA, zB, zC, i64_w, i32_w]; rfl
       refine pure_ (i := 4) (N := some 23) (v := undef) (a' := ?_) (bf 21 31) rfl rfl (by kernel_rfl) (fun _ _ _ h => h) (Or.inr ⟨by rfl, rfl⟩) ?_ ?_
       rotate_left
       ·simp only [Act.put, zA, zB, zC, i64_w, i32_w]; rfl
       refine pure_ (i := 5) (N := some 24) (v := undef) (a' := ?_) (bf 21 63) rfl rfl (by kernel_rfl) (fun _ _ _ h => h) (Or.inr ⟨by rfl, rfl⟩) ?_ ?_
       rotate_left
       ·simp only [Act.put, zA, zB, zC, i64_w, i32_w]; rfl
       refine pure_ (i := 6) (N := some 25) (v := undef) (a' := ?_) (bf 21 127) rfl rfl (by kernel_rfl) (fun _ _ _ h => h) (Or.inr ⟨by rfl, rfl⟩) ?_ ?_
       rotate_left
       ·simp only [Act.put, zA, zB, zC, i64_w, i32_w]; rfl
       refine pure_ (i := 7) (N := some 26) (v := undef) (a' := ?_) (bf 21 255) rfl rfl (by kernel_rfl) (fun _ _ _ h => h) (Or.inr ⟨by rfl, rfl⟩) ?_ ?_
       rotate_left
       ·simp only [Act.put, zA, zB, zC, i64_w, i32_w]; rfl
       refine pure_ (i := 8) (N := some 27) (v := undef) (a' := ?_) (bf 21 511) rfl rfl (by kernel_rfl) (fun _ _ _ h => h) (Or.inr ⟨by rfl, rfl⟩) ?_ ?_
       rotate_left
       ·simp only [Act.put, zA, zB, zC, i64_w, i32_w]; rfl
       refine pure_ (i := 9) (N := some 28) (v := undef) (a' := ?_) (bf 21 1023) rfl rfl (by kernel_rfl) (fun _ _ _ h => h) (Or.inr ⟨by rfl, rfl⟩) ?_ ?_
       rotate_left
       ·simp only [Act.put, zA, zB, zC, i64_w, i32_w]; rfl
       refine pure_ (i := 10) (N := some 29) (v := undef) (a' := ?_) (bf 21 2047) rfl rfl (by kernel_rfl) (fun _ _ _ h => h) (Or.inr ⟨by rfl, rfl⟩) ?_ ?_
       rotate_left
       ·simp only [Act.put, zA, zB, zC, i64_w, i32_w]; rfl
       refine pure_ (i := 11) (N := some 30) (v := undef) (a' := ?_) (bf 21 4095) rfl rfl (by kernel_rfl) (fun _ _ _ h => h) (Or.inr ⟨by rfl, rfl⟩) ?_ ?_
       rotate_left
       ·simp only [Act.put, zA, zB, zC, i64_w, i32_w]; rfl
       refine pure_ (i := 12) (N := some 31) (v := undef) (a' := ?_) (bf 21 8191) rfl rfl (by kernel_rfl) (fun _ _ _ h => h) (Or.inr ⟨by rfl, rfl⟩) ?_ ?_
       rotate_left
       ·simp only [Act.put, zA, zB, zC, i64_w, i32_w]; rfl
       refine pure_ (i := 13) (N := some 32) (v := undef) (a' := ?_) (bf 21 16383) rfl rfl (by kernel_rfl) (fun _ _ _ h => h) (Or.inr ⟨by rfl, rfl⟩) ?_ ?_
       rotate_left
       ·simp only [Act.put, zA, zB, zC, i64_w, i32_w]; rfl
       refine pure_ (i := 14) (N := some 33) (v := undef) (a' := ?_) (bf 21 32767) rfl rfl (by kernel_rfl) (fun _ _ _ h => h) (Or.inr ⟨by rfl, rfl⟩) ?_ ?_
       rotate_left
       ·simp only [Act.put, zA, zB, zC, i64_w, i32_w]; rfl
       refine pure_ (i := 15) (N := some 34) (v := undef) (a' := ?_) (bf 21 65535) rfl rfl (by kernel_rfl) (fun _ _ _ h => h) (Or.inr ⟨by rfl, rfl⟩) ?_ ?_
       rotate_left
       ·simp only [Act.put, zA, zB, zC, i64_w, i32_w]; rfl
       refine pure_ (i := 16) (N := some 35) (v := undef) (a' := ?_) (bf 21 131071) rfl rfl (by kernel_rfl) (fun _ _ _ h => h) (Or.inr ⟨by rfl, rfl⟩) ?_ ?_
       rotate_left
       ·simp only [Act.put, zA, zB, zC, i64_w, i32_w]; rfl
       refine pure_ (i := 17) (N := some 36) (v := undef) (a' := ?_) (bf 21 262143) rfl rfl (by kernel_rfl) (fun _ _ _ h => h) (Or.inr ⟨by rfl, rfl⟩) ?_ ?_
       rotate_left
       ·simp only [Act.put, zA, zB, zC, i64_w, i32_w]; rfl
       refine pure_ (i := 18) (N := some 37) (v := undef) (a' := ?_) (bf 21 524287) rfl rfl (by kernel_rfl) (fun _ _ _ h => h) (Or.inr ⟨by rfl, rfl⟩) ?_ ?_
       rotate_left
       ·simp only [Act.put, zA, zB, zC, i64_w, i32_w]; rfl
       refine pure_ (i := 19) (N := some 38) (v := undef) (a' := ?_) (bf 21 1048575) rfl rfl (by kernel_rfl) (fun _ _ _ h => h) (Or.inr ⟨by rfl, rfl⟩) ?_ ?_
       rotate_left
       ·simp only [Act.put, zA, zB, zC, i64_w, i32_w]; rfl
       refine pure_ (i := 20) (N := some 39) (v := ?_) (a' := ?_) (bf 21 2097151) rfl rfl (by kernel_rfl) (fun _ _ _ h => h) (Or.inl ⟨by rfl, ?_⟩) ?_ ?_
       rotate_left
       ·intro w'; go_simp; with_reducible rfl
       rotate_left
       ·simp only [Act.put, zA, zB, zC, i64_w, i32_w]; rfl
       refine done_ (by kernel_rfl) ?_
       go_wp2
       first | (refine bodyPost_ret (results_none rfl _ _ _) rfl ?_) | go_end0
       exact ⟨rfl, _, _, _, _, _, _, _, ST3.out⟩
      | succ q =>
       rw [show (((q + 1 : Nat) : Int) - 1) = (q : Int) by omega]
       have hq : q < l.length := HQ.out
       have hq0 : (0 : Int) ≤ (q : Int) := by omega
       have hq1 : (q : Int) < (l.length : Int) := by omega
       have ST3 := za0.mk ST2.out.drew
       clear ST2
       obtain ⟨hx2, hf2⟩ := Kd.R_celln 0 ST3.out.rt (q : Int) hq0 hq1
       obtain ⟨ad, A1, c1_, e1, hx1, hl1, hi1⟩ := at_L1 HR0.out (q : Int) hq0 hq1
       injection e1 with e1
       subst e1
       replace hx1 := (ST3.out.hb.cell (World.block_lt_of_cell? _ _ hx1)).trans hx1
       have hcx : wr.drew.cell? ⟨Bx, 0, none⟩ = some (.slice (some ad0) l.length c0) := (zk0 ST3.out.bx 0).trans rfl
       have c0b : decide ((0 : Int) ≤ (q : Int)) = true := decide_eq_true hq0
       have c1b : decide ((q : Int) < 0) = false := decide_eq_false (by omega)
       have hwq : wrap64 ((q : Int) - 1) = (q : Int) - 1 := by have := H2.out; unfold wrap64; omega
       have HQI := za0.mk hq
       replace hq0 := eq_true hq0
       replace hq1 := eq_true hq1
       clear hl1 hi1 hq
       rw [Int.toNat_natCast] at hx1 hx2 hf2
       by_cases c5 : (q : Int) = s
       ·have c5b : ((q : Int) == s) = true := beq_iff_eq.mpr c5
        have HO2 := za0.mk (show odoN l s q (now2.set q 0) = odoN l s l.length now from by have := HO.out; simp only [odoN] at this; rw [if_pos (.inl c5)] at this; exact this)
        clear c5 HO
        go_wp2
        refine start_ (n := 21) (S := fun w' => w'.cell? ⟨bn, q, none⟩ = some (.int .i64 (rd now2 (q : Int))) ∧ w'.cell? ⟨Bx, 0, none⟩ = some (.slice (some ad0) l.length c0) ∧ w'.cell? (ad0.add q) = some (.slice A1 (rd_L1 l (q : Int)).length c1_)) (ds := []) #[false, false, false, false, false, false, false, false, false, false, false, false, false, false, false, false, false, false, false, false, false] (by kernel_rfl) rfl rfl ⟨hx2, hcx, hx1⟩ (fun hHeld => ?_)
        generalize wr.drew = w4 at ST3 hx2 hf2 hcx hx1 hHeld ⊢
        refine pure_ (i := 0) (N := some 19) (v := ?_) (a' := ?_) (bf 21 1) rfl rfl (by kernel_rfl) (fun _ _ _ h => h) (Or.inl ⟨by rfl, ?_⟩) ?_ ?_
        rotate_left
        ·intro w'; go_simp; with_reducible rfl
        rotate_left
        ·simp only [Act.put, zA, zB, zC, i64_w, i32_w]; rfl
        refine pure_ (i := 1) (N := some 20) (v := ?_) (a' := ?_) (bf 21 3) rfl rfl (by kernel_rfl) (fun _ _ _ h => h) (Or.inl ⟨by rfl, ?_⟩) ?_ ?_
        rotate_left
        ·intro w'; go_simp; with_reducible rfl
        rotate_left
        ·simp only [Act.put, zA, zB, zC, i64_w, i32_w]; rfl
        refine pure_ (i := 2) (N := some 21) (v := ?_) (a' := ?_) (bf 21 7) rfl rfl (by kernel_rfl) (fun _ _ _ h => h) (Or.inl ⟨by rfl, ?_⟩) ?_ ?_
        rotate_left
        ·intro w'; go_simp; with_reducible rfl
        rotate_left
        ·simp only [Act.put, zA, zB, zC, i64_w, i32_w]; rfl
        refine pure_ (i := 3) (N := some 22) (v := ?_) (a' := ?_) (bf 21 15) rfl rfl (by kernel_rfl) (fun _ _ _ h => h) (Or.inl ⟨by rfl, ?_⟩) ?_ ?_
        rotate_left
        ·intro w'; go_simp; with_reducible rfl
        rotate_left
        ·simp only [Act.put, zA, zB, zC, i64_w, i32_w]; rfl
        refine pure_ (i := 4) (N := some 23) (v := ?_) (a' := ?_) (bf 21 31) rfl rfl (by kernel_rfl) (fun _ _ _ h => h) (Or.inl ⟨by rfl, ?_⟩) ?_ ?_
        rotate_left
        ·intro w'; go_simp; with_reducible rfl
        rotate_left
        ·simp only [Act.put, zA, zB, zC, i64_w, i32_w]; rfl
        refine pure_ (i := 5) (N := some 24) (v := ?_) (a' := ?_) (bf 21 63) rfl rfl (by kernel_rfl) (fun _ _ _ h => h) (Or.inl ⟨by rfl, ?_⟩) ?_ ?_
        rotate_left
        ·intro w'; go_simp; with_reducible rfl
        rotate_left
        ·simp only [Act.put, zA, zB, zC, i64_w, i32_w]; rfl
        refine pure_ (i := 6) (N := some 25) (v := ?_) (a' := ?_) (bf 21 127) rfl rfl (by kernel_rfl) (fun _ _ _ h => h) (Or.inl ⟨by rfl, ?_⟩) ?_ ?_
        rotate_left
        ·intro w'; go_simp; with_reducible rfl
        rotate_left
        ·simp only [Act.put, zA, zB, zC, i64_w, i32_w]; rfl
        refine pure_ (i := 7) (N := some 26) (v := undef) (a' := ?_) (bf 21 255) rfl rfl (by kernel_rfl) (fun _ _ _ h => h) (Or.inr ⟨by rfl, rfl⟩) ?_ ?_
        rotate_left
        ·simp only [Act.put, zA, zB, zC, i64_w, i32_w]; rfl
        refine pure_ (i := 8) (N := some 27) (v := undef) (a' := ?_) (bf 21 511) rfl rfl (by kernel_rfl) (fun _ _ _ h => h) (Or.inr ⟨by rfl, rfl⟩) ?_ ?_
        rotate_left
        ·simp only [Act.put, zA, zB, zC, i64_w, i32_w]; rfl
        refine pure_ (i := 9) (N := some 28) (v := undef) (a' := ?_) (bf 21 1023) rfl rfl (by kernel_rfl) (fun _ _ _ h => h) (Or.inr ⟨by rfl, rfl⟩) ?_ ?_
        rotate_left
        ·simp only [Act.put, zA, zB, zC, i64_w, i32_w]; rfl
        refine pure_ (i := 10) (N := some 29) (v := undef) (a' := ?_) (bf 21 2047) rfl rfl (by kernel_rfl) (fun _ _ _ h => h) (Or.inr ⟨by rfl, rfl⟩) ?_ ?_
        rotate_left
        ·simp only [Act.put, zA, zB, zC, i64_w, i32_w]; rfl
        refine pure_ (i := 11) (N := some 30) (v := undef) (a' := ?_) (bf 21 4095) rfl rfl (by kernel_rfl) (fun _ _ _ h => h) (Or.inr ⟨by rfl, rfl⟩) ?_ ?_
        rotate_left
        ·simp only [Act.put, zA, zB, zC, i64_w, i32_w]; rfl
        refine pure_ (i := 12) (N := some 31) (v := undef) (a' := ?_) (bf 21 8191) rfl rfl (by kernel_rfl) (fun _ _ _ h => h) (Or.inr ⟨by rfl, rfl⟩) ?_ ?_
        rotate_left
        ·simp only [Act.put, zA, zB, zC, i64_w, i32_w]; rfl
        refine pure_ (i := 13) (N := some 32) (v := undef) (a' := ?_) (bf 21 16383) rfl rfl (by kernel_rfl) (fun _ _ _ h => h) (Or.inr ⟨by rfl, rfl⟩) ?_ ?_
        rotate_left
        ·simp only [Act.put, zA, zB, zC, i64_w, i32_w]; rfl
        refine pure_ (i := 14) (N := some 33) (v := undef) (a' := ?_) (bf 21 32767) rfl rfl (by kernel_rfl) (fun _ _ _ h => h) (Or.inr ⟨by rfl, rfl⟩) ?_ ?_
        rotate_left
        ·simp only [Act.put, zA, zB, zC, i64_w, i32_w]; rfl
        refine pure_ (i := 15) (N := some 34) (v := undef) (a' := ?_) (bf 21 65535) rfl rfl (by kernel_rfl) (fun _ _ _ h => h) (Or.inr ⟨by rfl, rfl⟩) ?_ ?_
        rotate_left
        ·simp only [Act.put, zA, zB, zC, i64_w, i32_w]; rfl
        refine pure_ (i := 16) (N := some 35) (v := undef) (a' := ?_) (bf 21 131071) rfl rfl (by kernel_rfl) (fun _ _ _ h => h) (Or.inr ⟨by rfl, rfl⟩) ?_ ?_
        rotate_left
        ·simp only [Act.put, zA, zB, zC, i64_w, i32_w]; rfl
        refine pure_ (i := 17) (N := some 36) (v := undef) (a' := ?_) (bf 21 262143) rfl rfl (by kernel_rfl) (fun _ _ _ h => h) (Or.inr ⟨by rfl, rfl⟩) ?_ ?_
        rotate_left
        ·simp only [Act.put, zA, zB, zC, i64_w, i32_w]; rfl
        refine pure_ (i := 18) (N := some 37) (v := undef) (a' := ?_) (bf 21 524287) rfl rfl (by kernel_rfl) (fun _ _ _ h => h) (Or.inr ⟨by rfl, rfl⟩) ?_ ?_
        rotate_left
        ·simp only [Act.put, zA, zB, zC, i64_w, i32_w]; rfl
        refine pure_ (i := 19) (N := some 38) (v := ?_) (a' := ?_) (bf 21 1048575) rfl rfl (by kernel_rfl) (fun _ _ _ h => h) (Or.inl ⟨by rfl, ?_⟩) ?_ ?_
        rotate_left
        ·intro w'; go_simp; with_reducible rfl
        rotate_left
        ·simp only [Act.put, zA, zB, zC, i64_w, i32_w]; rfl
        refine pure_ (i := 20) (N := some 39) (v := ?_) (a' := ?_) (bf 21 2097151) rfl rfl (by kernel_rfl) (fun _ _ _ h => h) (Or.inl ⟨by rfl, ?_⟩) ?_ ?_
        rotate_left
        ·intro w'; go_simp; with_reducible rfl
        rotate_left
        ·simp only [Act.put, zA, zB, zC, i64_w, i32_w]; rfl
        refine done_ (by kernel_rfl) ?_
        have ST4 := za0.mk (ST3.out.putN q 0)
        clear ST3
        go_wp2
        go_roundg q
        case measure => omega
        case rel => exact ⟨now2.set q 0, by first | rfl | (rw [hwq]), ⟨by have := HQI.out; omega⟩, HO2, ST4⟩
       ·have c5b : ((q : Int) == s) = false := beq_eq_false_iff_ne.mpr c5
        by_cases c6 : wrap64 (((rd_L1 l (q : Int)).length : Int) - 1) ≤ rd now2 (q : Int)
        ·have c6b : decide (wrap64 (((rd_L1 l (q : Int)).length : Int) - 1) ≤ rd now2 (q : Int)) = true := decide_eq_true c6
         have HO2 := za0.mk (show odoN l s q (now2.set q 0) = odoN l s l.length now from by have := HO.out; simp only [odoN] at this; rw [if_pos (.inr c6)] at this; exact this)
         clear c5 c6 HO
         go_wp2
         refine start_ (n := 21) (S := fun w' => w'.cell? ⟨bn, q, none⟩ = some (.int .i64 (rd now2 (q : Int))) ∧ w'.cell? ⟨Bx, 0, none⟩ = some (.slice (some ad0) l.length c0) ∧ w'.cell? (ad0.add q) = some (.slice A1 (rd_L1 l (q : Int)).length c1_)) (ds := []) #[false, false, false, false, false, false, false, false, false, false, false, false, false, false, false, false, false, false, false, false, false] (by kernel_rfl) rfl rfl ⟨hx2, hcx, hx1⟩ (fun hHeld => ?_)
         generalize wr.drew = w4 at ST3 hx2 hf2 hcx hx1 hHeld ⊢
         refine pure_ (i := 0) (N := some 19) (v := ?_) (a' := ?_) (bf 21 1) rfl rfl (by kernel_rfl) (fun _ _ _ h => h) (Or.inl ⟨by rfl, ?_⟩) ?_ ?_
         rotate_left
         ·intro w'; go_simp; with_reducible rfl
         rotate_left
         ·simp only [Act.put, zA, zB, zC, i64_w, i32_w]; rfl
         refine pure_ (i := 1) (N := some 20) (v := ?_) (a' := ?_) (bf 21 3) rfl rfl (by kernel_rfl) (fun _ _ _ h => h) (Or.inl ⟨by rfl, ?_⟩) ?_ ?_
         rotate_left
         ·intro w'; go_simp; with_reducible rfl
         rotate_left
         ·simp only [Act.put, zA, zB, zC, i64_w, i32_w]; rfl
         refine pure_ (i := 2) (N := some 21) (v := ?_) (a' := ?_) (bf 21 7) rfl rfl (by kernel_rfl) (fun _ _ _ h => h) (Or.inl ⟨by rfl, ?_⟩) ?_ ?_
         rotate_left
         ·intro w'; go_simp; with_reducible rfl
         rotate_left
         ·simp only [Act.put, zA, zB, zC, i64_w, i32_w]; rfl
         refine pure_ (i := 3) (N := some 22) (v := ?_) (a' := ?_) (bf 21 15) rfl rfl (by kernel_rfl) (fun _ _ _ h => h) (Or.inl ⟨by rfl, ?_⟩) ?_ ?_
         rotate_left
         ·intro w'; go_simp; with_reducible rfl
         rotate_left
         ·simp only [Act.put, zA, zB, zC, i64_w, i32_w]; rfl
         refine pure_ (i := 4) (N := some 23) (v := ?_) (a' := ?_) (bf 21 31) rfl rfl (by kernel_rfl) (fun _ _ _ h => h) (Or.inl ⟨by rfl, ?_⟩) ?_ ?_
         rotate_left
         ·intro w'; go_simp; with_reducible rfl
         rotate_left
         ·simp only [Act.put, zA, zB, zC, i64_w, i32_w]; rfl
         refine pure_ (i := 5) (N := some 24) (v := ?_) (a' := ?_) (bf 21 63) rfl rfl (by kernel_rfl) (fun _ _ _ h => h) (Or.inl ⟨by rfl, ?_⟩) ?_ ?_
         rotate_left
         ·intro w'; go_simp; with_reducible rfl
         rotate_left
         ·simp only [Act.put, zA, zB, zC, i64_w, i32_w]; rfl
         refine pure_ (i := 6) (N := some 25) (v := ?_) (a' := ?_) (bf 21 127) rfl rfl (by kernel_rfl) (fun _ _ _ h => h) (Or.inl ⟨by rfl, ?_⟩) ?_ ?_
         rotate_left
         ·intro w'; go_simp; with_reducible rfl
         rotate_left
         ·simp only [Act.put, zA, zB, zC, i64_w, i32_w]; rfl
         refine pure_ (i := 7) (N := some 26) (v := ?_) (a' := ?_) (bf 21 255) rfl rfl (by kernel_rfl) (fun _ _ _ h => h) (Or.inl ⟨by rfl, ?_⟩) ?_ ?_
         rotate_left
         ·intro w'; go_simp; with_reducible rfl
         rotate_left
         ·simp only [Act.put, zA, zB, zC, i64_w, i32_w]; rfl
         refine pure_ (i := 8) (N := some 27) (v := ?_) (a' := ?_) (bf 21 511) rfl rfl (by kernel_rfl) (fun _ _ _ h => h) (Or.inl ⟨by rfl, ?_⟩) ?_ ?_
         rotate_left
         ·intro w'; go_simp; with_reducible rfl
         rotate_left
         ·simp only [Act.put, zA, zB, zC, i64_w, i32_w]; rfl
         refine pure_ (i := 9) (N := some 28) (v := ?_) (a' := ?_) (bf 21 1023) rfl rfl (by kernel_rfl) (fun _ _ _ h => h) (Or.inl ⟨by rfl, ?_⟩) ?_ ?_
         rotate_left
         ·intro w'; go_simp; with_reducible rfl
         rotate_left
         ·simp only [Act.put, zA, zB, zC, i64_w, i32_w]; rfl
         refine take_ (i := 10) (N := some 29) (v := ?_) (a' := ?_) (bf 21 2047) rfl rfl (by kernel_rfl) (fun _ _ _ h => h) (Or.inl ⟨by rfl, ?_⟩) hHeld ?_ ?_
         rotate_left
         ·rintro w' ⟨s0, s1, s2⟩; go_simp; with_reducible rfl
         rotate_left
         ·simp only [Act.put, zA, zB, zC, i64_w, i32_w]; rfl
         refine pure_ (i := 11) (N := some 30) (v := ?_) (a' := ?_) (bf 21 4095) rfl rfl (by kernel_rfl) (fun _ _ _ h => h) (Or.inl ⟨by rfl, ?_⟩) ?_ ?_
         rotate_left
         ·intro w'; go_simp; with_reducible rfl
         rotate_left
         ·simp only [Act.put, zA, zB, zC, i64_w, i32_w]; rfl
         refine take_ (i := 12) (N := some 31) (v := ?_) (a' := ?_) (bf 21 8191) rfl rfl (by kernel_rfl) (fun _ _ _ h => h) (Or.inl ⟨by rfl, ?_⟩) hHeld ?_ ?_
         rotate_left
         ·rintro w' ⟨s0, s1, s2⟩; go_simp; with_reducible rfl
         rotate_left
         ·simp only [Act.put, zA, zB, zC, i64_w, i32_w]; rfl
         refine pure_ (i := 13) (N := some 32) (v := ?_) (a' := ?_) (bf 21 16383) rfl rfl (by kernel_rfl) (fun _ _ _ h => h) (Or.inl ⟨by rfl, ?_⟩) ?_ ?_
         rotate_left
         ·intro w'; go_simp; with_reducible rfl
         rotate_left
         ·simp only [Act.put, zA, zB, zC, i64_w, i32_w]; rfl
         refine pure_ (i := 14) (N := some 33) (v := ?_) (a' := ?_) (bf 21 32767) rfl rfl (by kernel_rfl) (fun _ _ _ h => h) (Or.inl ⟨by rfl, ?_⟩) ?_ ?_
         rotate_left
         ·intro w'; go_simp; with_reducible rfl
         rotate_left
         ·simp only [Act.put, zA, zB, zC, i64_w, i32_w]; rfl
         refine take_ (i := 15) (N := some 34) (v := ?_) (a' := ?_) (bf 21 65535) rfl rfl (by kernel_rfl) (fun _ _ _ h => h) (Or.inl ⟨by rfl, ?_⟩) hHeld ?_ ?_
         rotate_left
         ·rintro w' ⟨s0, s1, s2⟩; go_simp; with_reducible rfl
         rotate_left
         ·simp only [Act.put, zA, zB, zC, i64_w, i32_w]; rfl
         refine pure_ (i := 16) (N := some 35) (v := ?_) (a' := ?_) (bf 21 131071) rfl rfl (by kernel_rfl) (fun _ _ _ h => h) (Or.inl ⟨by rfl, ?_⟩) ?_ ?_
         rotate_left
         ·intro w'; go_simp; with_reducible rfl
         rotate_left
         ·simp only [Act.put, zA, zB, zC, i64_w, i32_w]; rfl
         refine pure_ (i := 17) (N := some 36) (v := ?_) (a' := ?_) (bf 21 262143) rfl rfl (by kernel_rfl) (fun _ _ _ h => h) (Or.inl ⟨by rfl, ?_⟩) ?_ ?_
         rotate_left
         ·intro w'; go_simp; with_reducible rfl
         rotate_left
         ·simp only [Act.put, zA, zB, zC, i64_w, i32_w]; rfl
         refine pure_ (i := 18) (N := some 37) (v := ?_) (a' := ?_) (bf 21 524287) rfl rfl (by kernel_rfl) (fun _ _ _ h => h) (Or.inl ⟨by rfl, ?_⟩) ?_ ?_
         rotate_left
         ·intro w'; go_simp; with_reducible rfl
         rotate_left
         ·simp only [Act.put, zA, zB, zC, i64_w, i32_w]; rfl
         refine pure_ (i := 19) (N := some 38) (v := ?_) (a' := ?_) (bf 21 1048575) rfl rfl (by kernel_rfl) (fun _ _ _ h => h) (Or.inl ⟨by rfl, ?_⟩) ?_ ?_
         rotate_left
         ·intro w'; go_simp; with_reducible rfl
         rotate_left
         ·simp only [Act.put, zA, zB, zC, i64_w, i32_w]; rfl
         refine pure_ (i := 20) (N := some 39) (v := ?_) (a' := ?_) (bf 21 2097151) rfl rfl (by kernel_rfl) (fun _ _ _ h => h) (Or.inl ⟨by rfl, ?_⟩) ?_ ?_
         rotate_left
         ·intro w'; go_simp; with_reducible rfl
         rotate_left
         ·simp only [Act.put, zA, zB, zC, i64_w, i32_w]; rfl
         refine done_ (by kernel_rfl) ?_
         have ST4 := za0.mk (ST3.out.putN q 0)
         clear ST3
         go_wp2
         go_roundg q
         case measure => omega
         case rel => exact ⟨now2.set q 0, by first | rfl | (rw [hwq]), ⟨by have := HQI.out; omega⟩, HO2, ST4⟩
        ·have c6b : decide (wrap64 (((rd_L1 l (q : Int)).length : Int) - 1) ≤ rd now2 (q : Int)) = false := decide_eq_false c6
         have e : odoN l s l.length now = some (now2.set q (wrap64 (rd now2 (q : Int) + 1))) := by have := HO.out; simp only [odoN] at this; rw [if_neg (fun h => h.elim c5 c6)] at this; exact this.symm
         have H := H'.out
         rw [e] at H
         have H3 := za0.mk (show rots l s most k1 out2 (now2.set q (wrap64 (rd now2 (q : Int) + 1))) = some r from H)
         clear c5 c6 HO H H' e
         go_wp2
         refine start_ (n := 21) (S := fun w' => w'.cell? ⟨bn, q, none⟩ = some (.int .i64 (rd now2 (q : Int))) ∧ w'.cell? ⟨Bx, 0, none⟩ = some (.slice (some ad0) l.length c0) ∧ w'.cell? (ad0.add q) = some (.slice A1 (rd_L1 l (q : Int)).length c1_)) (ds := []) #[false, false, false, false, false, false, false, false, false, false, false, false, false, false, false, false, false, false, false, false, false] (by kernel_rfl) rfl rfl ⟨hx2, hcx, hx1⟩ (fun hHeld => ?_)
         generalize wr.drew = w4 at ST3 hx2 hf2 hcx hx1 hHeld ⊢
         refine pure_ (i := 0) (N := some 19) (v := ?_) (a' := ?_) (bf 21 1) rfl rfl (by kernel_rfl) (fun _ _ _ h => h) (Or.inl ⟨by rfl, ?_⟩) ?_ ?_
         rotate_left
         ·intro w'; go_simp; with_reducible rfl
         rotate_left
         ·simp only [Act.put, zA, zB, zC, i64_w, i32_w]; rfl
         refine pure_ (i := 1) (N := some 20) (v := ?_) (a' := ?_) (bf 21 3) rfl rfl (by kernel_rfl) (fun _ _ _ h => h) (Or.inl ⟨by rfl, ?_⟩) ?_ ?_
         rotate_left
         ·intro w'; go_simp; with_reducible rfl
         rotate_left
         ·simp only [Act.put, zA, zB, zC, i64_w, i32_w]; rfl
         refine pure_ (i := 2) (N := some 21) (v := ?_) (a' := ?_) (bf 21 7) rfl rfl (by kernel_rfl) (fun _ _ _ h => h) (Or.inl ⟨by rfl, ?_⟩) ?_ ?_
         rotate_left
         ·intro w'; go_simp; with_reducible rfl
         rotate_left
         ·simp only [Act.put, zA, zB, zC, i64_w, i32_w]; rfl
         refine pure_ (i := 3) (N := some 22) (v := ?_) (a' := ?_) (bf 21 15) rfl rfl (by kernel_rfl) (fun _ _ _ h => h) (Or.inl ⟨by rfl, ?_⟩) ?_ ?_
         rotate_left
         ·intro w'; go_simp; with_reducible rfl
         rotate_left
         ·simp only [Act.put, zA, zB, zC, i64_w, i32_w]; rfl
         refine pure_ (i := 4) (N := some 23) (v := ?_) (a' := ?_) (bf 21 31) rfl rfl (by kernel_rfl) (fun _ _ _ h => h) (Or.inl ⟨by rfl, ?_⟩) ?_ ?_
         rotate_left
         ·intro w'; go_simp; with_reducible rfl
         rotate_left
         ·simp only [Act.put, zA, zB, zC, i64_w, i32_w]; rfl
         refine pure_ (i := 5) (N := some 24) (v := ?_) (a' := ?_) (bf 21 63) rfl rfl (by kernel_rfl) (fun _ _ _ h => h) (Or.inl ⟨by rfl, ?_⟩) ?_ ?_
         rotate_left
         ·intro w'; go_simp; with_reducible rfl
         rotate_left
         ·simp only [Act.put, zA, zB, zC, i64_w, i32_w]; rfl
         refine pure_ (i := 6) (N := some 25) (v := ?_) (a' := ?_) (bf 21 127) rfl rfl (by kernel_rfl) (fun _ _ _ h => h) (Or.inl ⟨by rfl, ?_⟩) ?_ ?_
         rotate_left
         ·intro w'; go_simp; with_reducible rfl
         rotate_left
         ·simp only [Act.put, zA, zB, zC, i64_w, i32_w]; rfl
         refine pure_ (i := 7) (N := some 26) (v := ?_) (a' := ?_) (bf 21 255) rfl rfl (by kernel_rfl) (fun _ _ _ h => h) (Or.inl ⟨by rfl, ?_⟩) ?_ ?_
         rotate_left
         ·intro w'; go_simp; with_reducible rfl
         rotate_left
         ·simp only [Act.put, zA, zB, zC, i64_w, i32_w]; rfl
         refine pure_ (i := 8) (N := some 27) (v := ?_) (a' := ?_) (bf 21 511) rfl rfl (by kernel_rfl) (fun _ _ _ h => h) (Or.inl ⟨by rfl, ?_⟩) ?_ ?_
         rotate_left
         ·intro w'; go_simp; with_reducible rfl
         rotate_left
         ·simp only [Act.put, zA, zB, zC, i64_w, i32_w]; rfl
         refine pure_ (i := 9) (N := some 28) (v := ?_) (a' := ?_) (bf 21 1023) rfl rfl (by kernel_rfl) (fun _ _ _ h => h) (Or.inl ⟨by rfl, ?_⟩) ?_ ?_
         rotate_left
         ·intro w'; go_simp; with_reducible rfl
         rotate_left
         ·simp only [Act.put, zA, zB, zC, i64_w, i32_w]; rfl
         refine take_ (i := 10) (N := some 29) (v := ?_) (a' := ?_) (bf 21 2047) rfl rfl (by kernel_rfl) (fun _ _ _ h => h) (Or.inl ⟨by rfl, ?_⟩) hHeld ?_ ?_
         rotate_left
         ·rintro w' ⟨s0, s1, s2⟩; go_simp; with_reducible rfl
         rotate_left
         ·simp only [Act.put, zA, zB, zC, i64_w, i32_w]; rfl
         refine pure_ (i := 11) (N := some 30) (v := ?_) (a' := ?_) (bf 21 4095) rfl rfl (by kernel_rfl) (fun _ _ _ h => h) (Or.inl ⟨by rfl, ?_⟩) ?_ ?_
         rotate_left
         ·intro w'; go_simp; with_reducible rfl
         rotate_left
         ·simp only [Act.put, zA, zB, zC, i64_w, i32_w]; rfl
         refine take_ (i := 12) (N := some 31) (v := ?_) (a' := ?_) (bf 21 8191) rfl rfl (by kernel_rfl) (fun _ _ _ h => h) (Or.inl ⟨by rfl, ?_⟩) hHeld ?_ ?_
         rotate_left
         ·rintro w' ⟨s0, s1, s2⟩; go_simp; with_reducible rfl
         rotate_left
         ·simp only [Act.put, zA, zB, zC, i64_w, i32_w]; rfl
         refine pure_ (i := 13) (N := some 32) (v := ?_) (a' := ?_) (bf 21 16383) rfl rfl (by kernel_rfl) (fun _ _ _ h => h) (Or.inl ⟨by rfl, ?_⟩) ?_ ?_
         rotate_left
         ·intro w'; go_simp; with_reducible rfl
         rotate_left
         ·simp only [Act.put, zA, zB, zC, i64_w, i32_w]; rfl
         refine pure_ (i := 14) (N := some 33) (v := ?_) (a' := ?_) (bf 21 32767) rfl rfl (by kernel_rfl) (fun _ _ _ h => h) (Or.inl ⟨by rfl, ?_⟩) ?_ ?_
         rotate_left
         ·intro w'; go_simp; with_reducible rfl
         rotate_left
         ·simp only [Act.put, zA, zB, zC, i64_w, i32_w]; rfl
         refine take_ (i := 15) (N := some 34) (v := ?_) (a' := ?_) (bf 21 65535) rfl rfl (by kernel_rfl) (fun _ _ _ h => h) (Or.inl ⟨by rfl, ?_⟩) hHeld ?_ ?_
         rotate_left
         ·rintro w' ⟨s0, s1, s2⟩; go_simp; with_reducible rfl
         rotate_left
         ·simp only [Act.put, zA, zB, zC, i64_w, i32_w]; rfl
         refine pure_ (i := 16) (N := some 35) (v := ?_) (a' := ?_) (bf 21 131071) rfl rfl (by kernel_rfl) (fun _ _ _ h => h) (Or.inl ⟨by rfl, ?_⟩) ?_ ?_
         rotate_left
         ·intro w'; go_simp; with_reducible rfl
         rotate_left
         ·simp only [Act.put, zA, zB, zC, i64_w, i32_w]; rfl
         refine pure_ (i := 17) (N := some 36) (v := ?_) (a' := ?_) (bf 21 262143) rfl rfl (by kernel_rfl) (fun _ _ _ h => h) (Or.inl ⟨by rfl, ?_⟩) ?_ ?_
         rotate_left
         ·intro w'; go_simp; with_reducible rfl
         rotate_left
         ·simp only [Act.put, zA, zB, zC, i64_w, i32_w]; rfl
         refine pure_ (i := 18) (N := some 37) (v := ?_) (a' := ?_) (bf 21 524287) rfl rfl (by kernel_rfl) (fun _ _ _ h => h) (Or.inl ⟨by rfl, ?_⟩) ?_ ?_
         rotate_left
         ·intro w'; go_simp; with_reducible rfl
         rotate_left
         ·simp only [Act.put, zA, zB, zC, i64_w, i32_w]; rfl
         refine pure_ (i := 19) (N := some 38) (v := ?_) (a' := ?_) (bf 21 1048575) rfl rfl (by kernel_rfl) (fun _ _ _ h => h) (Or.inl ⟨by rfl, ?_⟩) ?_ ?_
         rotate_left
         ·intro w'; go_simp; with_reducible rfl
         rotate_left
         ·simp only [Act.put, zA, zB, zC, i64_w, i32_w]; rfl
         refine pure_ (i := 20) (N := some 39) (v := ?_) (a' := ?_) (bf 21 2097151) rfl rfl (by kernel_rfl) (fun _ _ _ h => h) (Or.inl ⟨by rfl, ?_⟩) ?_ ?_
         rotate_left
         ·intro w'; go_simp; with_reducible rfl
         rotate_left
         ·simp only [Act.put, zA, zB, zC, i64_w, i32_w]; rfl
         refine done_ (by kernel_rfl) ?_
         have ST4 := za0.mk (ST3.out.putN q (wrap64 (rd now2 (q : Int) + 1)))
         clear ST3
         go_wp2
         go_roundg k1
         case measure => have := HK1.out; omega
         case rel => exact ⟨_, out2, Ao2, co2, H3, ⟨by have := HK1.out; omega⟩, ST4⟩
    ·rw [if_neg c1] at H
     rw [decide_eq_false c1] at hcall
     clear c1
     obtain rfl := Option.some.inj H
     have HCALL := za0.mk hcall
     clear hcall
     go_wp2_with (fail)
     refine HCALL.out.mono ?_
     rintro e w3 ⟨rfl, Ao2, co2, st2⟩
     go_wp2
     first | (refine bodyPost_ret (results_none rfl _ _ _) rfl ?_) | go_end0
     exact ⟨rfl, _, _, _, _, _, _, _, st2⟩
   ·rw [if_neg c0_] at H; cases H
def impl_allTrees.f (k : Nat) (l0_0 : List (List Int)) (a1 a2 : Int) : Option (List (List Int)) := if 0 < l0_0.length then (if l0_0.length ≤ 1000 then rots l0_0 a1 a2 k [] (List.replicate l0_0.length 0) else none) else none
theorem impl_allTrees.mono : ∀ a0 a1 a2 k, LeO (impl_allTrees.f k a0 a1 a2) (impl_allTrees.f (k + 1) a0 a1 a2) := by
 intro a0 a1 a2 k
 unfold impl_allTrees.f
 exact LeO.ite (LeO.ite (rots_mono _ _ _ _ _ _) (LeO.refl _)) (LeO.refl _)
set_option maxHeartbeats 8000000 in
set_option maxRecDepth 100000 in
theorem impl_allTrees.calls (k : Nat) (A0_0 : Option Addr) (c0_0 : Nat) (l0_0 : List (List Int)) (a1 a2 : Int) (r : List (List Int)) (w : World) (hr0_0 : Kd.C (Kd.slice 3 (Kd.int .i64)) w A0_0 l0_0.length l0_0) (hc0_0 : l0_0.length ≤ c0_0) (h : impl_allTrees.f k l0_0 a1 a2 = some r) :
  Calls Try.prog 64 #[.agg #[.slice A0_0 l0_0.length c0_0], .int .i64 a1, .int .i64 a2] w fun e w' => ∃ v0_ : Value, e = .returned v0_ ∧ Kd.S (Kd.slice 3 (Kd.int .i64)) 25 w' w.heap.size (fun _ => True) v0_ r ∧ Below w.heap.size w w' := by
 have hu1 := Try.underlying29
 have hu3 := Try.underlying25
 unfold impl_allTrees.f at h
 by_cases h1 : 0 < l0_0.length
 ·rw [if_pos h1] at h
  by_cases h2 : l0_0.length ≤ 1000
  ·rw [if_pos h2] at h
   have HX := za0.mk h
   have HR := za0.mk hr0_0
   have HC := za0.mk hc0_0
   have H1 := za0.mk h1
   have H2 := za0.mk h2
   clear h hr0_0 hc0_0 h1 h2
   go_enter Try.func64, Try.ntmps64
   go_wp2_with (first | ((with_reducible refine zn0 (N := 3) rfl ?_); refine zo0 ?hg (N := 3) ?hd (cs := #[.slice A0_0 l0_0.length c0_0]) (t := 29) ?hr ?_; (case hd => rfl); (case hg => rfl); (case hr => first | (go_simp; done) | (go_simp; rfl)); intro b3 e3 w3 k3 h3; have K3 := za0.mk k3; have B3 := za0.mk h3; have E3 := za0.mk e3; clear k3 h3 e3) | ((with_reducible refine zn0 (N := 4) rfl ?_); refine zo0 ?hg (N := 4) ?hd (cs := #[.int .i64 a1]) (t := 3) ?hr ?_; (case hd => rfl); (case hg => rfl); (case hr => first | (go_simp; done) | (go_simp; rfl)); intro b4 e4 w4 k4 h4; have K4 := za0.mk k4; have B4 := za0.mk h4; have E4 := za0.mk e4; clear k4 h4 e4) | ((with_reducible refine zn0 (N := 5) rfl ?_); refine zo0 ?hg (N := 5) ?hd (cs := #[.int .i64 a2]) (t := 3) ?hr ?_; (case hd => rfl); (case hg => rfl); (case hr => first | (go_simp; done) | (go_simp; rfl)); intro b5 e5 w5 k5 h5; have K5 := za0.mk k5; have B5 := za0.mk h5; have E5 := za0.mk e5; clear k5 h5 e5) | ((with_reducible refine zn0 (N := 8) rfl ?_); refine Kd.S_lit (Kd.slice 3 (Kd.int .i64)) _ 25 ?hg (N := 8) ?hd (xs := ([] : List (List Int))) (inner := []) (ok := fun _ => True) (okp := fun _ => True) ?hr ?hp (fun _ hk => hk) trivial (Below.refl _ _) (Nat.le_refl _) (by simp) ?_; (case hd => rfl); (case hg => rfl); (case hr => first | (go_simp; done) | (go_simp; rfl)); (case hp => exact (Reps.none _ _)); intro v8 w8 ho8 hb8 hg_ hnew_; clear hg_ hnew_; have O8 := za0.mk ho8; have B8 := za0.mk hb8; clear ho8 hb8; obtain ⟨Ao, co, e8⟩ := Kd.S_slice O8.out; simp only [List.length_nil] at e8; subst e8; have G3 := za0.mk (zf0 (zl0 (zl0 (zl0 K3.out B4.out) B5.out) B8.out) (.cells #[.slice Ao 0 co] 22)); have G4 := za0.mk (zf0 (zl0 (zl0 K4.out B5.out) B8.out) (.cells #[.slice Ao 0 co] 22)); have hc3 : (w8.alloc (.cells #[.slice Ao 0 co] 22)).cell? ⟨b3, 0, none⟩ = some (.slice A0_0 l0_0.length c0_0) := (zk0 G3.out 0).trans rfl; have hc4 : (w8.alloc (.cells #[.slice Ao 0 co] 22)).cell? ⟨b4, 0, none⟩ = some (.int .i64 a1) := (zk0 G4.out 0).trans rfl) | (go_at_call 77; refine (allRotors_.calls k l0_0 a1 a2 A0_0 c0_0 b3 b4 w8.heap.size b5 w _ HR.out HC.out H1.out H2.out ?hb ?bg ?bs ?bm Ao co ?bo ?fd ?hBo ?hne r HX.out).mono ?_; (case hb => exact zc0 (zj0 (zj0 (zj0 B3.out B4.out) B5.out) B8.out) _); (case bg => exact G3.out); (case bs => exact G4.out); (case bm => exact zf0 (zl0 K5.out B8.out) _); (case bo => exact blk_new w8 _); (case fd => exact Kd.S_alloc (Kd.S_lower (Kd.S_mono (Kd.S_bound O8.out) (fun k_ hk => by have h1 := blk_lt K5.out; have h2 := blk_lt (zl0 K4.out B5.out); have h3 := hk.2.1; omega)) (zg0 (zj0 (zj0 B3.out B4.out) B5.out))) _); (case hBo => exact zg0 (zj0 (zj0 (zj0 B3.out B4.out) B5.out) B8.out)); (case hne => exact ⟨by have := blk_lt (zl0 (zl0 (zl0 K3.out B4.out) B5.out) B8.out); omega, by have := blk_lt (zl0 (zl0 K4.out B5.out) B8.out); omega, by have := blk_lt (zl0 K5.out B8.out); omega⟩); rintro e w9 ⟨rfl, Bx, nb, n, cap, now, Ao9, co9, st9⟩; have ST9 := za0.mk st9; have hco : w9.cell? ⟨w8.heap.size, 0, none⟩ = some (.slice Ao9 r.length co9) := (zk0 st9.bo 0).trans rfl; clear st9))
   go_ret
   exact ⟨_, rfl, Kd.S_mono ST9.out.fd (fun _ _ => trivial), ST9.out.hb⟩
  ·rw [if_neg h2] at h; cases h
 ·rw [if_neg h1] at h; cases h
set_option maxHeartbeats 8000000 in
set_option maxRecDepth 100000 in
theorem impl_actor_trees.calls (k : Nat) (l : List (List Int)) (s : Int) (A0 : Option Addr) (c0 Ba : Nat) (r : List (List Int)) (w : World) (hr0 : Kd.C (Kd.slice 3 (Kd.int .i64)) w A0 l.length l) (hc0 : l.length ≤ c0)
  (ba : w.heap[Ba]? = some (.cells #[.slice A0 l.length c0, .int .i64 s] 71 (0, 0))) (h : impl_allTrees.f k l s 61 = some r) :
  Calls Try.prog 40 #[.pointer (some ⟨Ba, 0, none⟩)] w fun e w' => ∃ v, e = .returned v ∧ Kd.S (Kd.slice 3 (Kd.int .i64)) 25 w' w.heap.size (fun _ => True) v r ∧ Below w.heap.size w w' := by
 have hu1 := Try.underlying29
 have hu3 := Try.underlying71
 have HR0 := za0.mk hr0
 have HC0 := za0.mk hc0
 have A1 := za0.mk h
 have HB := za0.mk (below_drew (Below.refl w.heap.size w))
 have BA := za0.mk (show w.drew.heap[Ba]? = _ from ba)
 have hcg : w.drew.cell? ⟨Ba, 0, none⟩ = some (.slice A0 l.length c0) := (zk0 BA.out 0).trans rfl
 have hcs : w.drew.cell? ⟨Ba, 1, none⟩ = some (.int .i64 s) := (zk0 BA.out 1).trans rfl
 clear hr0 hc0 ba h
 go_enter Try.func40, Try.ntmps40
 go_wp2
 refine start_ (n := 10) (S := fun w' => w'.cell? ⟨Ba, 0, none⟩ = some (.slice A0 l.length c0) ∧ w'.cell? ⟨Ba, 1, none⟩ = some (.int .i64 s)) (ds := []) #[false, false, false, false, false, false, false, false, false, false] (by kernel_rfl) rfl rfl ⟨hcg, hcs⟩ (fun hHeld => ?_)
 generalize w.drew = w1 at HB BA hcg hcs hHeld ⊢
 refine pure_ (i := 0) (N := some 3) (v := ?_) (a' := ?_) (bf 10 1) rfl rfl (by kernel_rfl) (fun _ _ _ h => h) (Or.inl ⟨by rfl, ?_⟩) ?_ ?_
 rotate_left
 ·intro w'; go_simp; with_reducible rfl
 rotate_left
 ·simp only [Act.put, zA, zB, zC, i64_w, i32_w]; rfl
 refine pure_ (i := 1) (N := some 4) (v := ?_) (a' := ?_) (bf 10 3) rfl rfl (by kernel_rfl) (fun _ _ _ h => h) (Or.inl ⟨by rfl, ?_⟩) ?_ ?_
 rotate_left
 ·intro w'; go_simp; with_reducible rfl
 rotate_left
 ·simp only [Act.put, zA, zB, zC, i64_w, i32_w]; rfl
 refine pure_ (i := 2) (N := some 5) (v := ?_) (a' := ?_) (bf 10 7) rfl rfl (by kernel_rfl) (fun _ _ _ h => h) (Or.inl ⟨by rfl, ?_⟩) ?_ ?_
 rotate_left
 ·intro w'; go_simp; with_reducible rfl
 rotate_left
 ·simp only [Act.put, zA, zB, zC, i64_w, i32_w]; rfl
 refine take_ (i := 3) (N := some 6) (v := ?_) (a' := ?_) (bf 10 15) rfl rfl (by kernel_rfl) (fun _ _ _ h => h) (Or.inl ⟨by rfl, ?_⟩) hHeld ?_ ?_
 rotate_left
 ·rintro w' ⟨s0, s1⟩; go_simp; with_reducible rfl
 rotate_left
 ·simp only [Act.put, zA, zB, zC, i64_w, i32_w]; rfl
 refine pure_ (i := 4) (N := some 7) (v := ?_) (a' := ?_) (bf 10 31) rfl rfl (by kernel_rfl) (fun _ _ _ h => h) (Or.inl ⟨by rfl, ?_⟩) ?_ ?_
 rotate_left
 ·intro w'; go_simp; with_reducible rfl
 rotate_left
 ·simp only [Act.put, zA, zB, zC, i64_w, i32_w]; rfl
 refine pure_ (i := 5) (N := some 8) (v := ?_) (a' := ?_) (bf 10 63) rfl rfl (by kernel_rfl) (fun _ _ _ h => h) (Or.inl ⟨by rfl, ?_⟩) ?_ ?_
 rotate_left
 ·intro w'; go_simp; with_reducible rfl
 rotate_left
 ·simp only [Act.put, zA, zB, zC, i64_w, i32_w]; rfl
 refine pure_ (i := 6) (N := some 9) (v := ?_) (a' := ?_) (bf 10 127) rfl rfl (by kernel_rfl) (fun _ _ _ h => h) (Or.inl ⟨by rfl, ?_⟩) ?_ ?_
 rotate_left
 ·intro w'; go_simp; with_reducible rfl
 rotate_left
 ·simp only [Act.put, zA, zB, zC, i64_w, i32_w]; rfl
 refine take_ (i := 7) (N := some 10) (v := ?_) (a' := ?_) (bf 10 255) rfl rfl (by kernel_rfl) (fun _ _ _ h => h) (Or.inl ⟨by rfl, ?_⟩) hHeld ?_ ?_
 rotate_left
 ·rintro w' ⟨s0, s1⟩; go_simp; with_reducible rfl
 rotate_left
 ·simp only [Act.put, zA, zB, zC, i64_w, i32_w]; rfl
 refine one_ (i := 8) (N := some 11) (bf 10 511) rfl rfl (by kernel_rfl) (by decide) (fun K hK => ?_)
 refine goes_ Try.func64 (by kernel_rfl) rfl #[.agg #[.slice A0 l.length c0], .int .i64 s, .int .i64 61] (by rfl) rfl rfl (by (try simp only [List.map_toArray, List.map_cons, List.map_nil]); first | done | rfl) ?_
 refine (impl_allTrees.calls k _ _ l s 61 r _ (Kd.C_below HR0.out HB.out) HC0.out A1.out).mono ?_
 rintro e w2 ⟨v2, rfl, ho, hb⟩
 refine ⟨_, rfl, ?_⟩
 have HS := za0.mk (Kd.S_lower ho (zg0 HB.out))
 have n0_ := za0.mk (zj0 HB.out hb)
 have n1_ := za0.mk (zl0 BA.out hb)
 clear HB BA hb ho
 have HB := n0_
 have BA := n1_
 clear n0_ n1_
 refine hK.out _ _ ⟨(zk0 BA.out 0).trans rfl, (zk0 BA.out 1).trans rfl⟩ (fun hHeld => ?_)
 clear hK K
 refine norm_ (a' := ?_) ?_ ?_
 rotate_left
 ·show Act.put _ (some 11) _ = _; simp only [Act.put, zA, zB, zC, i64_w, i32_w]; rfl
 refine pure_ (i := 9) (N := some 2) (v := ?_) (a' := ?_) (bf 10 1023) rfl rfl (by kernel_rfl) (fun _ _ _ h => h) (Or.inl ⟨by rfl, ?_⟩) ?_ ?_
 rotate_left
 ·intro w'; go_simp; with_reducible rfl
 rotate_left
 ·simp only [Act.put, zA, zB, zC, i64_w, i32_w]; rfl
 refine done_ (by kernel_rfl) ?_
 go_wp2
 go_ret
 exact ⟨_, rfl, HS.out, HB.out⟩
def impl_OrderOfPlace.f (k : Nat) (l : List (List Int)) (s : Int) (p : Int) : Option (Int × Bool) := (actorL k l s).bind fun b => if b = true then ((impl_has.f l [p]).bind fun h => if h = true then ((impl_allTrees.f k l s 61).bind fun t => if 0 < t.length then ((impl_actor_orbit.f k l s (rd_L1 t 0) p).bind fun o => some ((o.1.length : Int), o.2)) else none) else some (0, false)) else some (0, false)
theorem impl_OrderOfPlace.mono (l : List (List Int)) (s : Int) (p : Int) (k : Nat) : LeO (impl_OrderOfPlace.f k l s p) (impl_OrderOfPlace.f (k + 1) l s p) := by
 unfold impl_OrderOfPlace.f
 exact LeO.bind (actorL_mono _ _ _) (fun b => LeO.ite (LeO.bind (LeO.refl _) (fun h => LeO.ite (LeO.bind (impl_allTrees.mono _ _ _ _) (fun t => LeO.ite (LeO.bind (impl_actor_orbit.mono _ _ _ _ _) (fun o => LeO.refl _)) (LeO.refl _))) (LeO.refl _))) (LeO.refl _))
set_option maxHeartbeats 8000000 in
set_option maxRecDepth 100000 in
theorem impl_OrderOfPlace.calls0 (k : Nat) (A0 : Option Addr) (c0 : Nat) (l : List (List Int)) (s : Int) (p : Int) (r1 : Int) (r2 : Bool) (w : World) (hr0 : Kd.C (Kd.slice 3 (Kd.int .i64)) w A0 l.length l) (hc0 : l.length ≤ c0) (h : impl_OrderOfPlace.f k l s p = some (r1, r2)) :
  Calls Try.prog 25 #[.agg #[.slice A0 l.length c0], .int .i64 s, .int .i64 p] w fun e w' => e = .returned (.tuple #[.int .i64 r1, .bool r2]) ∧ Below w.heap.size w w' := by
 have hu1 := Try.underlying29
 have hu3 := Try.underlying71
 have hu4 := Try.underlying25
 have HR0 := za0.mk hr0
 have HC0 := za0.mk hc0
 unfold impl_OrderOfPlace.f at h
 obtain ⟨b, h1, h⟩ := Option.bind_eq_some_iff.mp h
 have A1 := za0.mk h1
 clear hr0 hc0 h1
 cases b with
 | false =>
  rw [if_neg (by decide)] at h
  simp only [Option.some.injEq, Prod.mk.injEq] at h
  obtain ⟨rfl, rfl⟩ := h
  go_enter Try.func25, Try.ntmps25
  go_wp2_with (first | ((with_reducible refine zn0 (N := 3) rfl ?_); refine zo0 ?hg (N := 3) ?hd (cs := #[.slice A0 l.length c0]) (t := 29) ?hr ?_; (case hd => rfl); (case hg => rfl); (case hr => first | (go_simp; done) | (go_simp; rfl)); intro gb hg w2 hbox hb; have HB := za0.mk (hb); have BG := za0.mk hbox; clear hb hbox hg; have hcg : w2.cell? ⟨gb, 0, none⟩ = some (.slice A0 l.length c0) := (zk0 BG.out 0).trans rfl) | (go_at_call 39; refine (impl_actorOf.calls k l s _ _ false _ (Kd.C_below HR0.out HB.out) HC0.out A1.out).mono ?_; rintro e w3 ⟨Ba, rfl, hba, hb⟩; have n0_ := za0.mk (zj0 HB.out hb); have n1_ := za0.mk (zl0 BG.out hb); clear HB BG hcg hb; have HB := n0_; have BG := n1_; clear n0_ n1_; have hcg : w3.cell? ⟨gb, 0, none⟩ = some (.slice A0 l.length c0) := (zk0 BG.out 0).trans rfl; clear hba))
  go_ret2
  exact ⟨by first | rfl | (simp; done), HB.out⟩
 | true =>
  rw [if_pos rfl] at h
  obtain ⟨hb, h2, h⟩ := Option.bind_eq_some_iff.mp h
  have A2' := za0.mk h2
  clear h2
  cases hb with
  | false =>
   rw [if_neg (by decide)] at h
   simp only [Option.some.injEq, Prod.mk.injEq] at h
   obtain ⟨rfl, rfl⟩ := h
   go_enter Try.func25, Try.ntmps25
   go_wp2_with (first | ((with_reducible refine zn0 (N := 3) rfl ?_); refine zo0 ?hg (N := 3) ?hd (cs := #[.slice A0 l.length c0]) (t := 29) ?hr ?_; (case hd => rfl); (case hg => rfl); (case hr => first | (go_simp; done) | (go_simp; rfl)); intro gb hg w2 hbox hb; have HB := za0.mk (hb); have BG := za0.mk hbox; clear hb hbox hg; have hcg : w2.cell? ⟨gb, 0, none⟩ = some (.slice A0 l.length c0) := (zk0 BG.out 0).trans rfl) | (go_at_call 39; refine (impl_actorOf.calls k l s _ _ true _ (Kd.C_below HR0.out HB.out) HC0.out A1.out).mono ?_; rintro e w3 ⟨Ba, rfl, hba, hb⟩; have n0_ := za0.mk (zj0 HB.out hb); have n1_ := za0.mk (zl0 BG.out hb); clear HB BG hcg hb; have HB := n0_; have BG := n1_; clear n0_ n1_; have hcg : w3.cell? ⟨gb, 0, none⟩ = some (.slice A0 l.length c0) := (zk0 BG.out 0).trans rfl; have BA := za0.mk (hba rfl).2; clear hba) | ((with_reducible refine zn0 (N := 22) rfl ?_); refine gate_guard (by rfl) ?_; refine Kd.R_lit (Kd.int .i64) _ 3 ?hg (N := 22) ?hd (xs := ([p] : List Int)) (inner := [.int .i64 p]) (ok := fun _ => True) (okp := fun _ => True) ?hr ?hp (fun _ hk => hk) trivial (Below.refl _ _) (Nat.le_refl _) (by simp) ?_; (case hd => rfl); (case hg => rfl); (case hr => first | (go_simp; done) | (go_simp; rfl)); (case hp => exact (Reps.one (show Kd.M (Kd.int .i64) _ _ _ p [.int .i64 p] from rfl) (Reps.none _ _))); intro v4 w4 ho hb hg_ hnew_; clear hg_ hnew_; have HP := za0.mk ho; have n0_ := za0.mk (zj0 HB.out hb); have n1_ := za0.mk (zl0 BA.out hb); clear HB BA BG hcg hb ho; have HB := n0_; have BA := n1_; clear n0_ n1_; obtain ⟨Ap, cp, ep⟩ := Kd.R_slice HP.out; subst ep) | (go_at_call 32; refine (impl_has.calls _ _ l _ _ [p] false _ (Kd.C_below HR0.out HB.out) HC0.out (Kd.R_reads' HP.out).2.2 (Kd.R_reads' HP.out).2.1 A2'.out).mono ?_; rintro e w5 ⟨rfl, hb⟩; have n0_ := za0.mk (zj0 HB.out hb); have n1_ := za0.mk (zl0 BA.out hb); clear HB BA hb HP; have HB := n0_; have BA := n1_; clear n0_ n1_))
   go_ret2
   exact ⟨by first | rfl | (simp; done), HB.out⟩
  | true =>
   rw [if_pos rfl] at h
   obtain ⟨t, h3, h⟩ := Option.bind_eq_some_iff.mp h
   by_cases ht : 0 < t.length
   ·rw [if_pos ht] at h
    obtain ⟨⟨o1, o2⟩, h4, h⟩ := Option.bind_eq_some_iff.mp h
    simp only [Option.some.injEq, Prod.mk.injEq] at h
    obtain ⟨rfl, rfl⟩ := h
    have A3 := za0.mk h3
    have A4 := za0.mk h4
    have HT := za0.mk ht
    have ht2 : (0 : Int) < (t.length : Int) := by omega
    replace ht2 := eq_true ht2
    have ht3 := eq_true ht
    clear h3 h4 ht
    go_enter Try.func25, Try.ntmps25
    go_wp2_with (first | ((with_reducible refine zn0 (N := 3) rfl ?_); refine zo0 ?hg (N := 3) ?hd (cs := #[.slice A0 l.length c0]) (t := 29) ?hr ?_; (case hd => rfl); (case hg => rfl); (case hr => first | (go_simp; done) | (go_simp; rfl)); intro gb hg w2 hbox hb; have HB := za0.mk (hb); have BG := za0.mk hbox; clear hb hbox hg; have hcg : w2.cell? ⟨gb, 0, none⟩ = some (.slice A0 l.length c0) := (zk0 BG.out 0).trans rfl) | (go_at_call 39; refine (impl_actorOf.calls k l s _ _ true _ (Kd.C_below HR0.out HB.out) HC0.out A1.out).mono ?_; rintro e w3 ⟨Ba, rfl, hba, hb⟩; have n0_ := za0.mk (zj0 HB.out hb); have n1_ := za0.mk (zl0 BG.out hb); clear HB BG hcg hb; have HB := n0_; have BG := n1_; clear n0_ n1_; have hcg : w3.cell? ⟨gb, 0, none⟩ = some (.slice A0 l.length c0) := (zk0 BG.out 0).trans rfl; have BA := za0.mk (hba rfl).2; clear hba) | ((with_reducible refine zn0 (N := 22) rfl ?_); refine gate_guard (by rfl) ?_; refine Kd.R_lit (Kd.int .i64) _ 3 ?hg (N := 22) ?hd (xs := ([p] : List Int)) (inner := [.int .i64 p]) (ok := fun _ => True) (okp := fun _ => True) ?hr ?hp (fun _ hk => hk) trivial (Below.refl _ _) (Nat.le_refl _) (by simp) ?_; (case hd => rfl); (case hg => rfl); (case hr => first | (go_simp; done) | (go_simp; rfl)); (case hp => exact (Reps.one (show Kd.M (Kd.int .i64) _ _ _ p [.int .i64 p] from rfl) (Reps.none _ _))); intro v4 w4 ho hb hg_ hnew_; clear hg_ hnew_; have HP := za0.mk ho; have n0_ := za0.mk (zj0 HB.out hb); have n1_ := za0.mk (zl0 BA.out hb); clear HB BA BG hcg hb ho; have HB := n0_; have BA := n1_; clear n0_ n1_; obtain ⟨Ap, cp, ep⟩ := Kd.R_slice HP.out; subst ep) | (go_at_call 32; refine (impl_has.calls _ _ l _ _ [p] true _ (Kd.C_below HR0.out HB.out) HC0.out (Kd.R_reads' HP.out).2.2 (Kd.R_reads' HP.out).2.1 A2'.out).mono ?_; rintro e w5 ⟨rfl, hb⟩; have n0_ := za0.mk (zj0 HB.out hb); have n1_ := za0.mk (zl0 BA.out hb); clear HB BA hb HP; have HB := n0_; have BA := n1_; clear n0_ n1_) | (go_at_call 40; refine (impl_actor_trees.calls k l s A0 c0 Ba t w5 (Kd.C_below HR0.out HB.out) HC0.out BA.out A3.out).mono ?_; rintro e w6 ⟨v6, rfl, ho, hb⟩; have HS := za0.mk ho; have n0_ := za0.mk (zj0 HB.out hb); have n1_ := za0.mk (zl0 BA.out hb); clear HB BA hb ho; have HB := n0_; have BA := n1_; clear n0_ n1_; obtain ⟨At, ct, et⟩ := Kd.S_slice HS.out; subst et; obtain ⟨adt, Aj, cj, ej, hxj, hlj, hij⟩ := at_L1 (Kd.S_reads' HS.out).2.2 0 (by omega) (by have := HT.out; omega); cases ej; have e0 : adt.add (0 : Int).toNat = adt := (by simp [Addr.add]); rw [e0] at hxj; have HIJ := za0.mk hij; have HLJ := za0.mk hlj; clear hij hlj e0) | (go_at_call 37; refine (impl_actor_orbit.calls k l s A0 c0 Ba _ _ (rd_L1 t 0) p o1 _ w6 (Kd.C_below HR0.out HB.out) HC0.out BA.out HIJ.out HLJ.out A4.out).mono ?_; rintro e w7 ⟨v7, rfl, ho, hb⟩; have n0_ := za0.mk (zj0 HB.out hb); obtain ⟨Ao, co, eo⟩ := Kd.S_slice ho; subst eo; clear HB hb ho; have HB := n0_; clear n0_))
    go_ret2
    exact ⟨by first | rfl | (simp; done), HB.out⟩
   ·rw [if_neg ht] at h; exact absurd h (by simp)
theorem impl_OrderOfPlace.calls (k : Nat) (A0_0 : Option Addr) (c0_0 : Nat) (l0_0 : List (List Int)) (a1 : Int) (a2 : Int) (r1 : Int) (r2 : Bool) (w : World) (hr0_0 : Kd.C (Kd.slice 3 (Kd.int .i64)) w A0_0 l0_0.length l0_0) (hc0_0 : l0_0.length ≤ c0_0) (h : impl_OrderOfPlace.f k l0_0 a1 a2 = some (r1, r2)) :
  Calls Try.prog 25 #[.agg #[.slice A0_0 l0_0.length c0_0], .int .i64 a1, .int .i64 a2] w fun e w' => e = .returned (.tuple #[.int .i64 r1, .bool r2]) ∧ Below w.heap.size w w' := by
 exact impl_OrderOfPlace.calls0 k A0_0 c0_0 l0_0 a1 a2 r1 r2 w hr0_0 hc0_0 h
def spec_l1In.f (a0 : Int) (a1 : Int) (a2 : Int) : Option (Bool) := if a0 ≥ a1 then (some (decide (a0 ≤ a2))) else (some false)
set_option maxHeartbeats 8000000 in
set_option maxRecDepth 100000 in
theorem spec_l1In.calls (a0 : Int) (a1 : Int) (a2 : Int) (r : Bool) (w : World) (h : spec_l1In.f a0 a1 a2 = some r) :
  Calls Try.prog 45 #[.int .i64 a0, .int .i64 a1, .int .i64 a2] w fun e w' => e = .returned (.bool r) ∧ zz0 w w' := by
 have H : (if a0 ≥ a1 then (some (decide (a0 ≤ a2))) else (some false)) = some r := h
 clear h
 by_cases c4 : a0 ≥ a1
 ·rw [if_pos c4] at H
  have c4b0 : decide (a1 ≤ a0) = true := decide_eq_true c4
  clear c4
  obtain rfl := Option.some.inj H
  go_enter Try.func45, Try.ntmps45
  go_wp2
  go_ret
  exact ⟨by first | rfl | (simp; done) | (simp [*]; done), by repeat (first | exact zz0.refl _ | apply zz0.step)⟩
 ·rw [if_neg c4] at H
  have c4b0 : decide (a1 ≤ a0) = false := decide_eq_false c4
  clear c4
  obtain rfl := Option.some.inj H
  go_enter Try.func45, Try.ntmps45
  go_wp2
  go_ret
  exact ⟨by first | rfl | (simp; done) | (simp [*]; done), by repeat (first | exact zz0.refl _ | apply zz0.step)⟩
def spec_l1All.l0 : Nat → Int → Int → List Int → Int → Int → Option (Bool)
 | 0, _, _, _, _, _ => none
 | k + 1, x1, x2, x9, x10, x11 => if x11 < x10 then (if 0 ≤ x11 then (if x11 < (x9.length : Int) then ((spec_l1In.f (rd x9 x11) x1 x2).bind fun t224 => (if t224 = true then (spec_l1All.l0 k x1 x2 x9 x10 (wrap64 (x11 + 1))) else (some false))) else (none)) else (none)) else (some true)
def spec_l1All.f (k : Nat) (l0 : List Int) (a1 : Int) (a2 : Int) : Option (Bool) := spec_l1All.l0 k a1 a2 l0 (l0.length : Int) 0
theorem spec_l1All.mono_l : ∀ k, (∀ y0 y1 y2 y3 y4, LeO (spec_l1All.l0 k y0 y1 y2 y3 y4) (spec_l1All.l0 (k + 1) y0 y1 y2 y3 y4))
 | 0 => fun _ _ _ _ _ r h => by simp [spec_l1All.l0] at h
 | k + 1 => by
  have ih0 := spec_l1All.mono_l k
  ·intro y0 y1 y2 y3 y4
   unfold spec_l1All.l0
   repeat' first
   | (with_reducible exact ih0 _ _ _ _ _)
   | (with_reducible exact LeO.refl _)
   | (with_reducible exact LeO.none _)
   | (with_reducible refine LeO.ite ?_ ?_)
   | (with_reducible refine LeO.bind ?_ (fun _ => ?_))
   | exact ih0 _ _ _ _ _
   | exact LeO.none _
   | refine LeO.ite ?_ ?_
   | refine LeO.bind ?_ (fun _ => ?_)
theorem spec_l1All.mono : ∀ a0 a1 a2 k, LeO (spec_l1All.f k a0 a1 a2) (spec_l1All.f (k + 1) a0 a1 a2) := by
 intro a0 a1 a2 k
 have ih0 := spec_l1All.mono_l k
 unfold spec_l1All.f
 repeat' first
   | (with_reducible exact ih0 _ _ _ _ _)
   | (with_reducible exact LeO.refl _)
   | (with_reducible exact LeO.none _)
   | (with_reducible refine LeO.ite ?_ ?_)
   | (with_reducible refine LeO.bind ?_ (fun _ => ?_))
   | exact ih0 _ _ _ _ _
   | exact LeO.none _
   | refine LeO.ite ?_ ?_
   | refine LeO.bind ?_ (fun _ => ?_)
set_option maxHeartbeats 8000000 in
set_option maxRecDepth 100000 in
theorem spec_l1All.calls (k : Nat) (A0 : Option Addr) (c0 : Nat) (l0 : List Int) (a1 : Int) (a2 : Int) (r : Bool) (w : World) (hr0 : Kd.C (Kd.int .i64) w A0 l0.length l0) (hc0 : l0.length ≤ c0) (h : spec_l1All.f k l0 a1 a2 = some r) :
  Calls Try.prog 67 #[.slice A0 l0.length c0, .int .i64 a1, .int .i64 a2] w fun e w' => e = .returned (.bool r) ∧ zz0 w w' := by
 have HR0 := za0.mk hr0
 have HC0 := za0.mk hc0
 clear hr0 hc0
 have H : (spec_l1All.l0 k a1 a2 l0 (l0.length : Int) 0) = some r := h
 clear h
 have H' := za0.mk H
 clear H
 go_enter Try.func67, Try.ntmps67
 go_wp2
 go_loopg [11] k (fun kq v11 w' => ∃ (x11_1 : Int), v11 = .int .i64 x11_1 ∧ za0 (spec_l1All.l0 kq a1 a2 l0 (l0.length : Int) x11_1 = some r) ∧ za0 (kq ≤ k) ∧ zz0 w w')
 case atStart => exact ⟨(0), (by first | rfl | (simp; done) | (simp [*]; done)), H', ⟨Nat.le_refl _⟩, by repeat (first | exact zz0.refl _ | apply zz0.step)⟩
 case round =>
  clear H'
  try clear p2
  obtain ⟨x11_1, rfl, HA, HK1, ⟨m1, rfl⟩⟩ := hrel
  cases gk with
  | zero => exact absurd HA.out (by simp [spec_l1All.l0])
  | succ k1 =>
   have H := HA.out
   clear HA
   simp only [spec_l1All.l0] at H
   by_cases c4 : x11_1 < (l0.length : Int)
   ·rw [if_pos c4] at H
    have c4b0 : decide (x11_1 < (l0.length : Int)) = true := decide_eq_true c4
    clear c4
    by_cases c5 : 0 ≤ x11_1
    ·rw [if_pos c5] at H
     have c5b0 : decide (0 ≤ x11_1) = true := decide_eq_true c5
     clear c5
     by_cases c6 : x11_1 < (l0.length : Int)
     ·rw [if_pos c6] at H
      have c6b0 : decide (x11_1 < (l0.length : Int)) = true := decide_eq_true c6
      clear c6
      replace H := Option.bind_eq_some_iff.mp H
      obtain ⟨t224, A70, H⟩ := H
      replace H : (if t224 = true then (spec_l1All.l0 k1 a1 a2 l0 (l0.length : Int) (wrap64 (x11_1 + 1))) else (some false)) = some r := H
      have A7 := za0.mk A70
      clear A70
      by_cases c8 : t224 = true
      ·subst c8
       have H1 : (spec_l1All.l0 k1 a1 a2 l0 (l0.length : Int) (wrap64 (x11_1 + 1))) = some r := by rw [if_pos rfl] at H; exact H
       clear H
       have H := H1
       clear H1
       have H' := za0.mk H
       clear H
       have p223 : 0 ≤ (x11_1 : Int) := of_decide_eq_true (by first | (with_reducible assumption) | assumption)
       have q223 : x11_1 < (l0.length : Int) := of_decide_eq_true (by first | (with_reducible assumption) | assumption)
       obtain ⟨ad223, e223, hx223_0⟩ := Kd.at_int HR0.out x11_1 p223 q223
       cases e223
       replace p223 := eq_true p223
       replace q223 := eq_true q223
       go_wp2_with (first | ((with_reducible refine zs0 (f := 45) rfl ?_); refine goesL_ (some 18) rfl rfl Try.func45 (by kernel_rfl) rfl #[.int .i64 (rd l0 x11_1), .int .i64 a1, .int .i64 a2] rfl (by (try simp only [List.map_toArray, List.map_cons, List.map_nil]); first | done | rfl | (simp only [List.length_drop, List.length_take]; rfl)) ?_; (with_reducible refine (spec_l1In.calls (rd l0 x11_1) a1 a2 true _ A7.out).mono ?_); rintro e w' ⟨rfl, ⟨nd, rfl⟩⟩; refine ⟨_, rfl, ?_⟩))
       go_roundg k1
       case measure => have := HK1.out; omega
       case rel => exact ⟨(wrap64 (x11_1 + 1)), (by first | rfl | (simp; done) | (simp [*]; done)), H', ⟨by have := HK1.out; omega⟩, by repeat (first | exact zz0.refl _ | apply zz0.step)⟩
      ·replace c8 := Bool.eq_false_iff.mpr c8
       subst c8
       have H1 : (some false) = some r := by rw [if_neg (show ¬ (false = true) by decide)] at H; exact H
       clear H
       have H := H1
       clear H1
       obtain rfl := Option.some.inj H
       have p223 : 0 ≤ (x11_1 : Int) := of_decide_eq_true (by first | (with_reducible assumption) | assumption)
       have q223 : x11_1 < (l0.length : Int) := of_decide_eq_true (by first | (with_reducible assumption) | assumption)
       obtain ⟨ad223, e223, hx223_0⟩ := Kd.at_int HR0.out x11_1 p223 q223
       cases e223
       replace p223 := eq_true p223
       replace q223 := eq_true q223
       go_wp2_with (first | ((with_reducible refine zs0 (f := 45) rfl ?_); refine goesL_ (some 18) rfl rfl Try.func45 (by kernel_rfl) rfl #[.int .i64 (rd l0 x11_1), .int .i64 a1, .int .i64 a2] rfl (by (try simp only [List.map_toArray, List.map_cons, List.map_nil]); first | done | rfl | (simp only [List.length_drop, List.length_take]; rfl)) ?_; (with_reducible refine (spec_l1In.calls (rd l0 x11_1) a1 a2 false _ A7.out).mono ?_); rintro e w' ⟨rfl, ⟨nd, rfl⟩⟩; refine ⟨_, rfl, ?_⟩))
       go_ret
       exact ⟨by first | rfl | (simp; done) | (simp [*]; done), by repeat (first | exact zz0.refl _ | apply zz0.step)⟩
     ·rw [if_neg c6] at H
      exact absurd H (by simp)
    ·rw [if_neg c5] at H
     exact absurd H (by simp)
   ·rw [if_neg c4] at H
    have c4b0 : decide (x11_1 < (l0.length : Int)) = false := decide_eq_false c4
    clear c4
    obtain rfl := Option.some.inj H
    go_wp2
    go_ret
    exact ⟨by first | rfl | (simp; done) | (simp [*]; done), by repeat (first | exact zz0.refl _ | apply zz0.step)⟩
def spec_grGood.l0 : Nat → Int → List (List Int) → Int → Int → Option (Bool)
 | 0, _, _, _, _ => none
 | k + 1, x3, x13, x14, x15 => if x15 < x14 then (if 0 ≤ x15 then (if x15 < (x13.length : Int) then (if ((rd_L1 x13 x15).length : Int) > 5 then (some false) else ((spec_l1All.f k (rd_L1 x13 x15) 0 (wrap64 (x3 - 1))).bind fun t228 => (if t228 = true then (spec_grGood.l0 k x3 x13 x14 (wrap64 (x15 + 1))) else (some false)))) else (none)) else (none)) else (some true)
def spec_grGood.f (k : Nat) (l0_0 : List (List Int)) : Option (Bool) := (spec_l1In.f (l0_0.length : Int) 1 8).bind fun t226 => (if t226 = true then (spec_grGood.l0 k (l0_0.length : Int) l0_0 (l0_0.length : Int) 0) else (some false))
theorem spec_grGood.mono_l : ∀ k, (∀ y0 y1 y2 y3, LeO (spec_grGood.l0 k y0 y1 y2 y3) (spec_grGood.l0 (k + 1) y0 y1 y2 y3))
 | 0 => fun _ _ _ _ r h => by simp [spec_grGood.l0] at h
 | k + 1 => by
  have ih0 := spec_grGood.mono_l k
  ·intro y0 y1 y2 y3
   unfold spec_grGood.l0
   repeat' first
   | (with_reducible exact ih0 _ _ _ _)
   | (with_reducible exact spec_l1All.mono _ _ _ _)
   | (with_reducible exact LeO.refl _)
   | (with_reducible exact LeO.none _)
   | (with_reducible refine LeO.ite ?_ ?_)
   | (with_reducible refine LeO.bind ?_ (fun _ => ?_))
   | exact ih0 _ _ _ _
   | exact spec_l1All.mono _ _ _ _
   | exact LeO.none _
   | refine LeO.ite ?_ ?_
   | refine LeO.bind ?_ (fun _ => ?_)
theorem spec_grGood.mono : ∀ a0 k, LeO (spec_grGood.f k a0) (spec_grGood.f (k + 1) a0) := by
 intro a0 k
 have ih0 := spec_grGood.mono_l k
 unfold spec_grGood.f
 repeat' first
   | (with_reducible exact ih0 _ _ _ _)
   | (with_reducible exact spec_l1All.mono _ _ _ _)
   | (with_reducible exact LeO.refl _)
   | (with_reducible exact LeO.none _)
   | (with_reducible refine LeO.ite ?_ ?_)
   | (with_reducible refine LeO.bind ?_ (fun _ => ?_))
   | exact ih0 _ _ _ _
   | exact spec_l1All.mono _ _ _ _
   | exact LeO.none _
   | refine LeO.ite ?_ ?_
   | refine LeO.bind ?_ (fun _ => ?_)
set_option maxHeartbeats 8000000 in
set_option maxRecDepth 100000 in
theorem spec_grGood.calls (k : Nat) (A0_0 : Option Addr) (c0_0 : Nat) (l0_0 : List (List Int)) (r : Bool) (w : World) (hr0_0 : Kd.C (Kd.slice 3 (Kd.int .i64)) w A0_0 l0_0.length l0_0) (hc0_0 : l0_0.length ≤ c0_0) (h : spec_grGood.f k l0_0 = some r) :
  Calls Try.prog 44 #[.agg #[.slice A0_0 l0_0.length c0_0]] w fun e w' => e = .returned (.bool r) ∧ Below w.heap.size w w' := by
 have hu29 := Try.underlying29
 have HR0_0 := za0.mk hr0_0
 have HC0_0 := za0.mk hc0_0
 clear hr0_0 hc0_0
 have HB := za0.mk (Below.refl w.heap.size w)
 have H : ((spec_l1In.f (l0_0.length : Int) 1 8).bind fun t226 => (if t226 = true then (spec_grGood.l0 k (l0_0.length : Int) l0_0 (l0_0.length : Int) 0) else (some false))) = some r := h
 clear h
 replace H := Option.bind_eq_some_iff.mp H
 obtain ⟨t226, A20, H⟩ := H
 replace H : (if t226 = true then (spec_grGood.l0 k (l0_0.length : Int) l0_0 (l0_0.length : Int) 0) else (some false)) = some r := H
 have A2 := za0.mk A20
 clear A20
 by_cases c3 : t226 = true
 ·subst c3
  have H1 : (spec_grGood.l0 k (l0_0.length : Int) l0_0 (l0_0.length : Int) 0) = some r := by rw [if_pos rfl] at H; exact H
  clear H
  have H := H1
  clear H1
  have H' := za0.mk H
  clear H
  go_enter Try.func44, Try.ntmps44
  go_wp2_with (first | ((with_reducible refine zn0 (N := 1) rfl ?_); refine zo0 ?hg (N := 1) ?hd (cs := #[.slice A0_0 l0_0.length c0_0]) (t := 29) ?hr ?_; (case hd => rfl); (case hg => rfl); (case hr => first | (go_simp; done) | (go_simp; rfl)); intro gb225 hg w4 hbox hb; have n0_ := za0.mk (zj0 (by repeat (first | (with_reducible first | exact HB.out | apply zc0 | apply zb0 | apply zd0) | exact HB.out)) hb); have n1_ := za0.mk (hbox); have n2_ := za0.mk ((by rw [hg]; exact (zg0 (by repeat (first | (with_reducible first | exact HB.out | apply zc0 | apply zb0 | apply zd0) | exact HB.out))) : w.heap.size ≤ gb225)); have n3_ := za0.mk ((by rw [hg]; exact (zg0 (by repeat (first | (with_reducible first | exact HB.out | apply zc0 | apply zb0 | apply zd0) | exact HB.out))) : w.heap.size ≤ gb225)); clear HB; have HB := n0_; have BK225 := n1_; have GW225 := n2_; have GE225 := n3_; clear n0_ n1_ n2_ n3_; clear hb hbox hg; have hcz5_0 : w4.cell? ⟨gb225, 0, none⟩ = some (.slice A0_0 l0_0.length c0_0) := (zk0 BK225.out 0).trans rfl; have hfz5_0 := zm0 BK225.out 0) | ((with_reducible refine zs0 (f := 45) rfl ?_); refine goesL_ (some 10) rfl rfl Try.func45 (by kernel_rfl) rfl #[.int .i64 (l0_0.length : Int), .int .i64 1, .int .i64 8] rfl (by (try simp only [List.map_toArray, List.map_cons, List.map_nil]); first | done | rfl | (simp only [List.length_drop, List.length_take]; rfl)) ?_; (with_reducible refine (spec_l1In.calls (l0_0.length : Int) 1 8 true _ A2.out).mono ?_); rintro e w' ⟨rfl, ⟨nd, rfl⟩⟩; refine ⟨_, rfl, ?_⟩))
  go_loopg [15] k (fun kq v15 w' => ∃ (x15_1 : Int), v15 = .int .i64 x15_1 ∧ za0 (spec_grGood.l0 kq (l0_0.length : Int) l0_0 (l0_0.length : Int) x15_1 = some r) ∧ za0 (kq ≤ k) ∧ za0 (w'.heap[gb225]? = some (.cells #[(.slice A0_0 l0_0.length c0_0)] 29 (0, 0))) ∧ za0 (Below w.heap.size w w'))
  case atStart => exact ⟨(0), (by first | rfl | (simp; done) | (simp [*]; done)), H', ⟨Nat.le_refl _⟩, ⟨by (with_reducible repeat (first | refine zh0 ?_ _ | refine zi0 ?_ | refine zf0 ?_ _)); exact BK225.out⟩, ⟨by repeat (first | (with_reducible first | exact HB.out | apply zc0 | apply zb0 | apply zd0 | refine ze0 ?_ GE225.out) | exact HB.out)⟩⟩
  case round =>
   clear H'
   try clear p2
   try clear c3
   try clear c4
   try clear hcz5_0
   try clear hfz5_0
   obtain ⟨x15_1, rfl, HA, HK1, BK225, HB⟩ := hrel
   cases gk with
   | zero => exact absurd HA.out (by simp [spec_grGood.l0])
   | succ k1 =>
    have H := HA.out
    clear HA
    simp only [spec_grGood.l0] at H
    by_cases c6 : x15_1 < (l0_0.length : Int)
    ·rw [if_pos c6] at H
     have c6b0 : decide (x15_1 < (l0_0.length : Int)) = true := decide_eq_true c6
     clear c6
     by_cases c7 : 0 ≤ x15_1
     ·rw [if_pos c7] at H
      have c7b0 : decide (0 ≤ x15_1) = true := decide_eq_true c7
      clear c7
      by_cases c8 : x15_1 < (l0_0.length : Int)
      ·rw [if_pos c8] at H
       have c8b0 : decide (x15_1 < (l0_0.length : Int)) = true := decide_eq_true c8
       clear c8
       by_cases c9 : ((rd_L1 l0_0 x15_1).length : Int) > 5
       ·rw [if_pos c9] at H
        have c9b0 : decide (5 < ((rd_L1 l0_0 x15_1).length : Int)) = true := decide_eq_true c9
        have c9b1 : decide (5 < (rd_L1 l0_0 x15_1).length) = true := decide_eq_true (by omega)
        clear c9
        obtain rfl := Option.some.inj H
        have p227 : 0 ≤ (x15_1 : Int) := of_decide_eq_true (by first | (with_reducible assumption) | assumption)
        have q227 : x15_1 < (l0_0.length : Int) := of_decide_eq_true (by first | (with_reducible assumption) | assumption)
        obtain ⟨ad227, A227_0, c227_0, e227, hx227_0, hl227_0, hi227_0⟩ := at_L1 HR0_0.out x15_1 p227 q227
        cases e227
        replace hx227_0 := (HB.out.cell (World.block_lt_of_cell? w _ hx227_0)).trans hx227_0
        have HR227_0 := za0.mk hi227_0
        have HC227_0 := za0.mk hl227_0
        clear hi227_0 hl227_0
        replace p227 := eq_true p227
        replace q227 := eq_true q227
        go_wp2
        go_ret
        exact ⟨by first | rfl | (simp [errW_none, errW_some] <;> rfl) | (simp [*, errW_none, errW_some] <;> rfl), by repeat (first | (with_reducible first | exact HB.out | apply zc0 | apply zb0 | apply zd0 | refine ze0 ?_ GE225.out) | exact HB.out)⟩
       ·rw [if_neg c9] at H
        have c9b0 : decide (5 < ((rd_L1 l0_0 x15_1).length : Int)) = false := decide_eq_false c9
        have c9b1 : decide (5 < (rd_L1 l0_0 x15_1).length) = false := decide_eq_false (by omega)
        clear c9
        replace H := Option.bind_eq_some_iff.mp H
        obtain ⟨t228, A100, H⟩ := H
        replace H : (if t228 = true then (spec_grGood.l0 k1 (l0_0.length : Int) l0_0 (l0_0.length : Int) (wrap64 (x15_1 + 1))) else (some false)) = some r := H
        have A10 := za0.mk A100
        clear A100
        by_cases c11 : t228 = true
        ·subst c11
         have H1 : (spec_grGood.l0 k1 (l0_0.length : Int) l0_0 (l0_0.length : Int) (wrap64 (x15_1 + 1))) = some r := by rw [if_pos rfl] at H; exact H
         clear H
         have H := H1
         clear H1
         have H' := za0.mk H
         clear H
         have p227 : 0 ≤ (x15_1 : Int) := of_decide_eq_true (by first | (with_reducible assumption) | assumption)
         have q227 : x15_1 < (l0_0.length : Int) := of_decide_eq_true (by first | (with_reducible assumption) | assumption)
         obtain ⟨ad227, A227_0, c227_0, e227, hx227_0, hl227_0, hi227_0⟩ := at_L1 HR0_0.out x15_1 p227 q227
         cases e227
         replace hx227_0 := (HB.out.cell (World.block_lt_of_cell? w _ hx227_0)).trans hx227_0
         have HR227_0 := za0.mk hi227_0
         have HC227_0 := za0.mk hl227_0
         clear hi227_0 hl227_0
         replace p227 := eq_true p227
         replace q227 := eq_true q227
         go_wp2_with (first | (go_at_call 67; (with_reducible refine (spec_l1All.calls k1 _ _ (rd_L1 l0_0 x15_1) 0 (wrap64 ((l0_0.length : Int) - 1)) true _ ?side1 ?side2 A10.out).mono ?_); (case side1 => repeat (first | exact (Kd.C_below HR227_0.out HB.out) | (with_reducible refine Kd.C_alloc ?_ _) | (with_reducible refine Kd.C_drewN ?_ _) | (with_reducible refine Kd.C_drew ?_))); (case side2 => exact HC227_0.out); rintro e w' ⟨rfl, ⟨nd, rfl⟩⟩))
         go_roundg k1
         case measure => have := HK1.out; omega
         case rel => exact ⟨(wrap64 (x15_1 + 1)), (by first | rfl | (simp; done) | (simp [*]; done)), H', ⟨by have := HK1.out; omega⟩, ⟨by (with_reducible repeat (first | refine zh0 ?_ _ | refine zi0 ?_ | refine zf0 ?_ _)); exact BK225.out⟩, ⟨by repeat (first | (with_reducible first | exact HB.out | apply zc0 | apply zb0 | apply zd0 | refine ze0 ?_ GE225.out) | exact HB.out)⟩⟩
        ·replace c11 := Bool.eq_false_iff.mpr c11
         subst c11
         have H1 : (some false) = some r := by rw [if_neg (show ¬ (false = true) by decide)] at H; exact H
         clear H
         have H := H1
         clear H1
         obtain rfl := Option.some.inj H
         have p227 : 0 ≤ (x15_1 : Int) := of_decide_eq_true (by first | (with_reducible assumption) | assumption)
         have q227 : x15_1 < (l0_0.length : Int) := of_decide_eq_true (by first | (with_reducible assumption) | assumption)
         obtain ⟨ad227, A227_0, c227_0, e227, hx227_0, hl227_0, hi227_0⟩ := at_L1 HR0_0.out x15_1 p227 q227
         cases e227
         replace hx227_0 := (HB.out.cell (World.block_lt_of_cell? w _ hx227_0)).trans hx227_0
         have HR227_0 := za0.mk hi227_0
         have HC227_0 := za0.mk hl227_0
         clear hi227_0 hl227_0
         replace p227 := eq_true p227
         replace q227 := eq_true q227
         go_wp2_with (first | (go_at_call 67; (with_reducible refine (spec_l1All.calls k1 _ _ (rd_L1 l0_0 x15_1) 0 (wrap64 ((l0_0.length : Int) - 1)) false _ ?side1 ?side2 A10.out).mono ?_); (case side1 => repeat (first | exact (Kd.C_below HR227_0.out HB.out) | (with_reducible refine Kd.C_alloc ?_ _) | (with_reducible refine Kd.C_drewN ?_ _) | (with_reducible refine Kd.C_drew ?_))); (case side2 => exact HC227_0.out); rintro e w' ⟨rfl, ⟨nd, rfl⟩⟩))
         go_ret
         exact ⟨by first | rfl | (simp [errW_none, errW_some] <;> rfl) | (simp [*, errW_none, errW_some] <;> rfl), by repeat (first | (with_reducible first | exact HB.out | apply zc0 | apply zb0 | apply zd0 | refine ze0 ?_ GE225.out) | exact HB.out)⟩
      ·rw [if_neg c8] at H
       exact absurd H (by simp)
     ·rw [if_neg c7] at H
      exact absurd H (by simp)
    ·rw [if_neg c6] at H
     have c6b0 : decide (x15_1 < (l0_0.length : Int)) = false := decide_eq_false c6
     clear c6
     obtain rfl := Option.some.inj H
     go_wp2
     go_ret
     exact ⟨by first | rfl | (simp [errW_none, errW_some] <;> rfl) | (simp [*, errW_none, errW_some] <;> rfl), by repeat (first | (with_reducible first | exact HB.out | apply zc0 | apply zb0 | apply zd0 | refine ze0 ?_ GE225.out) | exact HB.out)⟩
 ·replace c3 := Bool.eq_false_iff.mpr c3
  subst c3
  have H1 : (some false) = some r := by rw [if_neg (show ¬ (false = true) by decide)] at H; exact H
  clear H
  have H := H1
  clear H1
  obtain rfl := Option.some.inj H
  go_enter Try.func44, Try.ntmps44
  go_wp2_with (first | ((with_reducible refine zn0 (N := 1) rfl ?_); refine zo0 ?hg (N := 1) ?hd (cs := #[.slice A0_0 l0_0.length c0_0]) (t := 29) ?hr ?_; (case hd => rfl); (case hg => rfl); (case hr => first | (go_simp; done) | (go_simp; rfl)); intro gb225 hg w12 hbox hb; have n0_ := za0.mk (zj0 (by repeat (first | (with_reducible first | exact HB.out | apply zc0 | apply zb0 | apply zd0) | exact HB.out)) hb); have n1_ := za0.mk (hbox); have n2_ := za0.mk ((by rw [hg]; exact (zg0 (by repeat (first | (with_reducible first | exact HB.out | apply zc0 | apply zb0 | apply zd0) | exact HB.out))) : w.heap.size ≤ gb225)); have n3_ := za0.mk ((by rw [hg]; exact (zg0 (by repeat (first | (with_reducible first | exact HB.out | apply zc0 | apply zb0 | apply zd0) | exact HB.out))) : w.heap.size ≤ gb225)); clear HB; have HB := n0_; have BK225 := n1_; have GW225 := n2_; have GE225 := n3_; clear n0_ n1_ n2_ n3_; clear hb hbox hg; have hcz13_0 : w12.cell? ⟨gb225, 0, none⟩ = some (.slice A0_0 l0_0.length c0_0) := (zk0 BK225.out 0).trans rfl; have hfz13_0 := zm0 BK225.out 0) | ((with_reducible refine zs0 (f := 45) rfl ?_); refine goesL_ (some 10) rfl rfl Try.func45 (by kernel_rfl) rfl #[.int .i64 (l0_0.length : Int), .int .i64 1, .int .i64 8] rfl (by (try simp only [List.map_toArray, List.map_cons, List.map_nil]); first | done | rfl | (simp only [List.length_drop, List.length_take]; rfl)) ?_; (with_reducible refine (spec_l1In.calls (l0_0.length : Int) 1 8 false _ A2.out).mono ?_); rintro e w' ⟨rfl, ⟨nd, rfl⟩⟩; refine ⟨_, rfl, ?_⟩))
  go_ret
  exact ⟨by first | rfl | (simp [errW_none, errW_some] <;> rfl) | (simp [*, errW_none, errW_some] <;> rfl), by repeat (first | (with_reducible first | exact HB.out | apply zc0 | apply zb0 | apply zd0 | refine ze0 ?_ GE225.out) | exact HB.out)⟩
def spec_grPlace.f (k : Nat) (l0_0 : List (List Int)) (a1 : Int) : Option (Bool) := (spec_grGood.f k l0_0).bind fun t230 => (if t230 = true then ((spec_l1In.f a1 0 (wrap64 ((l0_0.length : Int) - 1))).bind fun t231 => (some t231)) else (some false))
theorem spec_grPlace.mono : ∀ a0 a1 k, LeO (spec_grPlace.f k a0 a1) (spec_grPlace.f (k + 1) a0 a1) := by
 intro a0 a1 k
 unfold spec_grPlace.f
 repeat' first
   | (with_reducible exact spec_grGood.mono _ _)
   | (with_reducible exact LeO.refl _)
   | (with_reducible exact LeO.none _)
   | (with_reducible refine LeO.ite ?_ ?_)
   | (with_reducible refine LeO.bind ?_ (fun _ => ?_))
   | exact spec_grGood.mono _ _
   | exact LeO.none _
   | refine LeO.ite ?_ ?_
   | refine LeO.bind ?_ (fun _ => ?_)
set_option maxHeartbeats 8000000 in
set_option maxRecDepth 100000 in
theorem spec_grPlace.calls (k : Nat) (A0_0 : Option Addr) (c0_0 : Nat) (l0_0 : List (List Int)) (a1 : Int) (r : Bool) (w : World) (hr0_0 : Kd.C (Kd.slice 3 (Kd.int .i64)) w A0_0 l0_0.length l0_0) (hc0_0 : l0_0.length ≤ c0_0) (h : spec_grPlace.f k l0_0 a1 = some r) :
  Calls Try.prog 28 #[.agg #[.slice A0_0 l0_0.length c0_0], .int .i64 a1] w fun e w' => e = .returned (.bool r) ∧ Below w.heap.size w w' := by
 have hu29 := Try.underlying29
 have HR0_0 := za0.mk hr0_0
 have HC0_0 := za0.mk hc0_0
 clear hr0_0 hc0_0
 have HB := za0.mk (Below.refl w.heap.size w)
 have H : ((spec_grGood.f k l0_0).bind fun t230 => (if t230 = true then ((spec_l1In.f a1 0 (wrap64 ((l0_0.length : Int) - 1))).bind fun t231 => (some t231)) else (some false))) = some r := h
 clear h
 replace H := Option.bind_eq_some_iff.mp H
 obtain ⟨t230, A30, H⟩ := H
 replace H : (if t230 = true then ((spec_l1In.f a1 0 (wrap64 ((l0_0.length : Int) - 1))).bind fun t231 => (some t231)) else (some false)) = some r := H
 have A3 := za0.mk A30
 clear A30
 by_cases c4 : t230 = true
 ·subst c4
  have H1 : ((spec_l1In.f a1 0 (wrap64 ((l0_0.length : Int) - 1))).bind fun t231 => (some t231)) = some r := by rw [if_pos rfl] at H; exact H
  clear H
  have H := H1
  clear H1
  replace H := Option.bind_eq_some_iff.mp H
  obtain ⟨t231, A50, H⟩ := H
  replace H : (some t231) = some r := H
  have A5 := za0.mk A50
  clear A50
  obtain rfl := Option.some.inj H
  go_enter Try.func28, Try.ntmps28
  go_wp2_with (first | ((with_reducible refine zn0 (N := 2) rfl ?_); (try (refine gate_guard (by rfl) ?_; dsimp only)); refine zo0 ?hg (N := 2) ?hd (cs := #[.slice A0_0 l0_0.length c0_0]) (t := 29) ?hr ?_; (case hd => rfl); (case hg => rfl); (case hr => first | (go_simp; done) | (go_simp; rfl)); intro gb229 hg w6 hbox hb; have n0_ := za0.mk (zj0 (by repeat (first | (with_reducible first | exact HB.out | apply zc0 | apply zb0 | apply zd0) | exact HB.out)) hb); have n1_ := za0.mk (hbox); have n2_ := za0.mk ((by rw [hg]; exact (zg0 (by repeat (first | (with_reducible first | exact HB.out | apply zc0 | apply zb0 | apply zd0) | exact HB.out))) : w.heap.size ≤ gb229)); have n3_ := za0.mk ((by rw [hg]; exact (zg0 (by repeat (first | (with_reducible first | exact HB.out | apply zc0 | apply zb0 | apply zd0) | exact HB.out))) : w.heap.size ≤ gb229)); clear HB; have HB := n0_; have BK229 := n1_; have GW229 := n2_; have GE229 := n3_; clear n0_ n1_ n2_ n3_; clear hb hbox hg; have hcz7_0 : w6.cell? ⟨gb229, 0, none⟩ = some (.slice A0_0 l0_0.length c0_0) := (zk0 BK229.out 0).trans rfl; have hfz7_0 := zm0 BK229.out 0) | ((with_reducible refine zs0 (f := 44) rfl ?_); refine goesL_ (some 6) rfl rfl Try.func44 (by kernel_rfl) rfl #[.agg #[.slice A0_0 l0_0.length c0_0]] rfl (by (try simp only [List.map_toArray, List.map_cons, List.map_nil]); first | done | rfl | (simp only [List.length_drop, List.length_take]; rfl)) ?_; (with_reducible refine (spec_grGood.calls k _ _ l0_0 true _ ?side1 ?side2 A3.out).mono ?_); (case side1 => repeat (first | exact (Kd.C_below HR0_0.out HB.out) | (with_reducible refine Kd.C_alloc ?_ _) | (with_reducible refine Kd.C_drewN ?_ _) | (with_reducible refine Kd.C_drew ?_))); (case side2 => exact HC0_0.out); rintro e w8 ⟨rfl, hb⟩; refine ⟨_, rfl, ?_⟩; have n0_ := za0.mk (zl0 (g := gb229) (o := .cells #[.slice A0_0 l0_0.length c0_0] 29 (0, 0)) (by (with_reducible repeat (first | refine zh0 ?_ _ | refine zi0 ?_ | refine zf0 ?_ _)); exact BK229.out) hb); have n1_ := za0.mk (zj0 (by repeat (first | (with_reducible first | exact HB.out | apply zc0 | apply zb0 | apply zd0 | refine ze0 ?_ GE229.out) | exact HB.out)) hb); clear BK229; clear HB; have BK229 := n0_; have HB := n1_; clear n0_ n1_; (try clear hb); (try clear hb2); (try clear hk); (try clear hi); have hcz9_0 : w8.cell? ⟨gb229, 0, none⟩ = some (.slice A0_0 l0_0.length c0_0) := (zk0 BK229.out 0).trans rfl; have hfz9_0 := zm0 BK229.out 0) | (go_at_call 45; (with_reducible refine (spec_l1In.calls a1 0 (wrap64 ((l0_0.length : Int) - 1)) t231 _ A5.out).mono ?_); rintro e w' ⟨rfl, ⟨nd, rfl⟩⟩))
  go_ret
  exact ⟨by first | rfl | (simp [errW_none, errW_some] <;> rfl) | (simp [*, errW_none, errW_some] <;> rfl), by repeat (first | (with_reducible first | exact HB.out | apply zc0 | apply zb0 | apply zd0 | refine ze0 ?_ GE229.out) | exact HB.out)⟩
 ·replace c4 := Bool.eq_false_iff.mpr c4
  subst c4
  have H1 : (some false) = some r := by rw [if_neg (show ¬ (false = true) by decide)] at H; exact H
  clear H
  have H := H1
  clear H1
  obtain rfl := Option.some.inj H
  go_enter Try.func28, Try.ntmps28
  go_wp2_with (first | ((with_reducible refine zn0 (N := 2) rfl ?_); (try (refine gate_guard (by rfl) ?_; dsimp only)); refine zo0 ?hg (N := 2) ?hd (cs := #[.slice A0_0 l0_0.length c0_0]) (t := 29) ?hr ?_; (case hd => rfl); (case hg => rfl); (case hr => first | (go_simp; done) | (go_simp; rfl)); intro gb229 hg w10 hbox hb; have n0_ := za0.mk (zj0 (by repeat (first | (with_reducible first | exact HB.out | apply zc0 | apply zb0 | apply zd0) | exact HB.out)) hb); have n1_ := za0.mk (hbox); have n2_ := za0.mk ((by rw [hg]; exact (zg0 (by repeat (first | (with_reducible first | exact HB.out | apply zc0 | apply zb0 | apply zd0) | exact HB.out))) : w.heap.size ≤ gb229)); have n3_ := za0.mk ((by rw [hg]; exact (zg0 (by repeat (first | (with_reducible first | exact HB.out | apply zc0 | apply zb0 | apply zd0) | exact HB.out))) : w.heap.size ≤ gb229)); clear HB; have HB := n0_; have BK229 := n1_; have GW229 := n2_; have GE229 := n3_; clear n0_ n1_ n2_ n3_; clear hb hbox hg; have hcz11_0 : w10.cell? ⟨gb229, 0, none⟩ = some (.slice A0_0 l0_0.length c0_0) := (zk0 BK229.out 0).trans rfl; have hfz11_0 := zm0 BK229.out 0) | ((with_reducible refine zs0 (f := 44) rfl ?_); refine goesL_ (some 6) rfl rfl Try.func44 (by kernel_rfl) rfl #[.agg #[.slice A0_0 l0_0.length c0_0]] rfl (by (try simp only [List.map_toArray, List.map_cons, List.map_nil]); first | done | rfl | (simp only [List.length_drop, List.length_take]; rfl)) ?_; (with_reducible refine (spec_grGood.calls k _ _ l0_0 false _ ?side1 ?side2 A3.out).mono ?_); (case side1 => repeat (first | exact (Kd.C_below HR0_0.out HB.out) | (with_reducible refine Kd.C_alloc ?_ _) | (with_reducible refine Kd.C_drewN ?_ _) | (with_reducible refine Kd.C_drew ?_))); (case side2 => exact HC0_0.out); rintro e w12 ⟨rfl, hb⟩; refine ⟨_, rfl, ?_⟩; have n0_ := za0.mk (zl0 (g := gb229) (o := .cells #[.slice A0_0 l0_0.length c0_0] 29 (0, 0)) (by (with_reducible repeat (first | refine zh0 ?_ _ | refine zi0 ?_ | refine zf0 ?_ _)); exact BK229.out) hb); have n1_ := za0.mk (zj0 (by repeat (first | (with_reducible first | exact HB.out | apply zc0 | apply zb0 | apply zd0 | refine ze0 ?_ GE229.out) | exact HB.out)) hb); clear BK229; clear HB; have BK229 := n0_; have HB := n1_; clear n0_ n1_; (try clear hb); (try clear hb2); (try clear hk); (try clear hi)))
  go_ret
  exact ⟨by first | rfl | (simp [errW_none, errW_some] <;> rfl) | (simp [*, errW_none, errW_some] <;> rfl), by repeat (first | (with_reducible first | exact HB.out | apply zc0 | apply zb0 | apply zd0 | refine ze0 ?_ GE229.out) | exact HB.out)⟩
mutual
def spec_grFar.l0 : Nat → Int → List Int → Int → Int → List (List Int) → Option (List Int)
 | 0, _, _, _, _, _ => none
 | k + 1, x1, x5, x16, x17, x233000 => if x17 < x16 then (if 0 ≤ x17 then (if x17 < (x5.length : Int) then (spec_grFar.l0 k x1 (x5.set (x17 : Int).toNat (-1)) x16 (wrap64 (x17 + 1)) x233000) else (none)) else (none)) else (if 0 ≤ x1 then (if x1 < (x5.length : Int) then (spec_grFar.l1 k (x5.set (x1 : Int).toNat 0) (([x1] : List Int)) 0 x233000) else (none)) else (none))
def spec_grFar.l1 : Nat → List Int → List Int → Int → List (List Int) → Option (List Int)
 | 0, _, _, _, _ => none
 | k + 1, x5, x7, x8, x233000 => if x8 < (x7.length : Int) then (if 0 ≤ x8 then (if 0 ≤ (rd x7 x8) then (if (rd x7 x8) < (x233000.length : Int) then (spec_grFar.l2 k x5 x7 x8 (rd_L1 x233000 (rd x7 x8)) ((rd_L1 x233000 (rd x7 x8)).length : Int) 0 x233000) else (none)) else (none)) else (none)) else (some x5)
def spec_grFar.l2 : Nat → List Int → List Int → Int → List Int → Int → Int → List (List Int) → Option (List Int)
 | 0, _, _, _, _, _, _, _ => none
 | k + 1, x5, x7, x8, x42, x43, x44, x233000 => if x44 < x43 then (if 0 ≤ x44 then (if x44 < (x42.length : Int) then (if 0 ≤ (rd x42 x44) then (if (rd x42 x44) < (x5.length : Int) then (if (rd x5 (rd x42 x44)) < 0 then (if 0 ≤ x8 then (if x8 < (x7.length : Int) then (if 0 ≤ (rd x7 x8) then (if (rd x7 x8) < (x5.length : Int) then (if x7.length < 17592186044416 then (spec_grFar.l2 k (x5.set ((rd x42 x44) : Int).toNat (wrap64 ((rd x5 (rd x7 x8)) + 1))) (x7 ++ [rd x42 x44]) x8 x42 x43 (wrap64 (x44 + 1)) x233000) else (none)) else (none)) else (none)) else (none)) else (none)) else (spec_grFar.l2 k x5 x7 x8 x42 x43 (wrap64 (x44 + 1)) x233000)) else (none)) else (none)) else (none)) else (none)) else (spec_grFar.l1 k x5 x7 (wrap64 (x8 + 1)) x233000)
end
def spec_grFar.f (k : Nat) (l0_0 : List (List Int)) (a1 : Int) : Option (List Int) := if 0 ≤ (l0_0.length : Int) then (if ((l0_0.length : Int) : Int).toNat ≤ 35184372088832 then ((some (List.replicate ((l0_0.length : Int) : Int).toNat 0 : List Int)).bind fun y233 => (spec_grFar.l0 k a1 y233 (y233.length : Int) 0 l0_0)) else (none)) else (none)
theorem spec_grFar.mono_l : ∀ k, (∀ y0 y1 y2 y3 y4, LeO (spec_grFar.l0 k y0 y1 y2 y3 y4) (spec_grFar.l0 (k + 1) y0 y1 y2 y3 y4)) ∧ (∀ y0 y1 y2 y3, LeO (spec_grFar.l1 k y0 y1 y2 y3) (spec_grFar.l1 (k + 1) y0 y1 y2 y3)) ∧ (∀ y0 y1 y2 y3 y4 y5 y6, LeO (spec_grFar.l2 k y0 y1 y2 y3 y4 y5 y6) (spec_grFar.l2 (k + 1) y0 y1 y2 y3 y4 y5 y6))
 | 0 => ⟨fun _ _ _ _ _ r h => by simp [spec_grFar.l0] at h, fun _ _ _ _ r h => by simp [spec_grFar.l1] at h, fun _ _ _ _ _ _ _ r h => by simp [spec_grFar.l2] at h⟩
 | k + 1 => by
  obtain ⟨ih0, ih1, ih2⟩ := spec_grFar.mono_l k
  refine ⟨?_, ?_, ?_⟩
  ·intro y0 y1 y2 y3 y4
   unfold spec_grFar.l0
   repeat' first
   | (with_reducible exact ih0 _ _ _ _ _)
   | (with_reducible exact ih1 _ _ _ _)
   | (with_reducible exact ih2 _ _ _ _ _ _ _)
   | (with_reducible exact LeO.refl _)
   | (with_reducible exact LeO.none _)
   | (with_reducible refine LeO.ite ?_ ?_)
   | (with_reducible refine LeO.bind ?_ (fun _ => ?_))
   | exact ih0 _ _ _ _ _
   | exact ih1 _ _ _ _
   | exact ih2 _ _ _ _ _ _ _
   | exact LeO.none _
   | refine LeO.ite ?_ ?_
   | refine LeO.bind ?_ (fun _ => ?_)
  ·intro y0 y1 y2 y3
   unfold spec_grFar.l1
   repeat' first
   | (with_reducible exact ih0 _ _ _ _ _)
   | (with_reducible exact ih1 _ _ _ _)
   | (with_reducible exact ih2 _ _ _ _ _ _ _)
   | (with_reducible exact LeO.refl _)
   | (with_reducible exact LeO.none _)
   | (with_reducible refine LeO.ite ?_ ?_)
   | (with_reducible refine LeO.bind ?_ (fun _ => ?_))
   | exact ih0 _ _ _ _ _
   | exact ih1 _ _ _ _
   | exact ih2 _ _ _ _ _ _ _
   | exact LeO.none _
   | refine LeO.ite ?_ ?_
   | refine LeO.bind ?_ (fun _ => ?_)
  ·intro y0 y1 y2 y3 y4 y5 y6
   unfold spec_grFar.l2
   repeat' first
   | (with_reducible exact ih0 _ _ _ _ _)
   | (with_reducible exact ih1 _ _ _ _)
   | (with_reducible exact ih2 _ _ _ _ _ _ _)
   | (with_reducible exact LeO.refl _)
   | (with_reducible exact LeO.none _)
   | (with_reducible refine LeO.ite ?_ ?_)
   | (with_reducible refine LeO.bind ?_ (fun _ => ?_))
   | exact ih0 _ _ _ _ _
   | exact ih1 _ _ _ _
   | exact ih2 _ _ _ _ _ _ _
   | exact LeO.none _
   | refine LeO.ite ?_ ?_
   | refine LeO.bind ?_ (fun _ => ?_)
theorem spec_grFar.mono : ∀ a0 a1 k, LeO (spec_grFar.f k a0 a1) (spec_grFar.f (k + 1) a0 a1) := by
 intro a0 a1 k
 obtain ⟨ih0, ih1, ih2⟩ := spec_grFar.mono_l k
 unfold spec_grFar.f
 repeat' first
   | (with_reducible exact ih0 _ _ _ _ _)
   | (with_reducible exact ih1 _ _ _ _)
   | (with_reducible exact ih2 _ _ _ _ _ _ _)
   | (with_reducible exact LeO.refl _)
   | (with_reducible exact LeO.none _)
   | (with_reducible refine LeO.ite ?_ ?_)
   | (with_reducible refine LeO.bind ?_ (fun _ => ?_))
   | exact ih0 _ _ _ _ _
   | exact ih1 _ _ _ _
   | exact ih2 _ _ _ _ _ _ _
   | exact LeO.none _
   | refine LeO.ite ?_ ?_
   | refine LeO.bind ?_ (fun _ => ?_)
set_option maxHeartbeats 8000000 in
set_option maxRecDepth 100000 in
theorem spec_grFar.calls (k : Nat) (A0_0 : Option Addr) (c0_0 : Nat) (l0_0 : List (List Int)) (a1 : Int) (r : List Int) (w : World) (hr0_0 : Kd.C (Kd.slice 3 (Kd.int .i64)) w A0_0 l0_0.length l0_0) (hc0_0 : l0_0.length ≤ c0_0) (h : spec_grFar.f k l0_0 a1 = some r) :
  Calls Try.prog 83 #[.agg #[.slice A0_0 l0_0.length c0_0], .int .i64 a1] w fun e w' => ∃ v0_ : Value, e = .returned (v0_) ∧ Kd.R (Kd.int .i64) 3 w' w.heap.size (fun _ => True) v0_ r ∧ Below w.heap.size w w' := by
 have hu29 := Try.underlying29
 have HR0_0 := za0.mk hr0_0
 have HC0_0 := za0.mk hc0_0
 clear hr0_0 hc0_0
 have HB := za0.mk (Below.refl w.heap.size w)
 have H : (if 0 ≤ (l0_0.length : Int) then (if ((l0_0.length : Int) : Int).toNat ≤ 35184372088832 then ((some (List.replicate ((l0_0.length : Int) : Int).toNat 0 : List Int)).bind fun y233 => (spec_grFar.l0 k a1 y233 (y233.length : Int) 0 l0_0)) else (none)) else (none)) = some r := h
 clear h
 by_cases c3 : 0 ≤ (l0_0.length : Int)
 ·rw [if_pos c3] at H
  have c3b0 := eq_true c3
  have c3b1 : decide (0 ≤ (l0_0.length : Int)) = true := decide_eq_true c3
  clear c3
  by_cases c4 : ((l0_0.length : Int) : Int).toNat ≤ 35184372088832
  ·rw [if_pos c4] at H
   have c4b0 := eq_true c4
   have c4b1 : decide (((l0_0.length : Int) : Int).toNat ≤ 35184372088832) = true := decide_eq_true c4
   clear c4
   obtain ⟨y233, hy233⟩ : ∃ y_ : List Int, y_ = (List.replicate ((l0_0.length : Int) : Int).toNat 0) := ⟨_, rfl⟩
   replace H : (spec_grFar.l0 k a1 y233 (y233.length : Int) 0 l0_0) = some r := by first | (rw [hy233]; with_reducible exact H) | (have H2_ := (Option.bind_some _ _).symm.trans H; rw [hy233]; with_reducible exact H2_) | (have H2_ := (Option.bind_some _ _).symm.trans H; with_reducible exact H2_) | with_reducible exact H | (rw [hy233]; exact H) | exact H
   have Ny233 := za0.mk hy233
   clear hy233
   have H' := za0.mk H
   clear H
   go_enter Try.func83, Try.ntmps83
   go_wp2_with (first | ((with_reducible refine zn0 (N := 2) rfl ?_); refine zo0 ?hg (N := 2) ?hd (cs := #[.slice A0_0 l0_0.length c0_0]) (t := 29) ?hr ?_; (case hd => rfl); (case hg => rfl); (case hr => first | (go_simp; done) | (go_simp; rfl)); intro gb232 hg w5 hbox hb; have n0_ := za0.mk (zj0 (by repeat (first | (with_reducible first | exact HB.out | apply zc0 | apply zb0 | apply zd0) | exact HB.out)) hb); have n1_ := za0.mk (hbox); have n2_ := za0.mk ((by rw [hg]; exact (zg0 (by repeat (first | (with_reducible first | exact HB.out | apply zc0 | apply zb0 | apply zd0) | exact HB.out))) : w.heap.size ≤ gb232)); have n3_ := za0.mk ((by rw [hg]; exact (zg0 (by repeat (first | (with_reducible first | exact HB.out | apply zc0 | apply zb0 | apply zd0) | exact HB.out))) : w.heap.size ≤ gb232)); clear HB; have HB := n0_; have BK232 := n1_; have GW232 := n2_; have GE232 := n3_; clear n0_ n1_ n2_ n3_; clear hb hbox hg; have hcz6_0 : w5.cell? ⟨gb232, 0, none⟩ = some (.slice A0_0 l0_0.length c0_0) := (zk0 BK232.out 0).trans rfl; have hfz6_0 := zm0 BK232.out 0) | ((with_reducible refine zn0 (N := 14) rfl ?_); refine Kd.R_make (Kd.int .i64) _ 3 rfl (N := 14) rfl 25 _ _ rfl (l0_0.length : Int) rfl rfl Try.underlying25 (.int .i64 0) 8 info3 rfl (by decide) (by omega) 0 (ok := fun _ => True) (okp := fun _ => True) rfl (fun _ hk => hk) trivial (of_decide_eq_true (by first | (with_reducible assumption) | assumption)) (Nat.le_trans (Nat.mul_le_mul_right _ (of_decide_eq_true (by first | (with_reducible assumption) | assumption) : (l0_0.length : Int).toNat ≤ 35184372088832)) (by omega)) (Below.refl _ _) (Nat.le_refl _) ?_; intro v234 w7 ho8 hb hg_ hnew_; clear hg_ hnew_; (first | rw [← Ny233.out] at ho8 | (simp only [Int.reduceToNat] at ho8; rw [← Ny233.out] at ho8)); have n0_ := za0.mk (Kd.R_lower ho8 (zg0 (by repeat (first | (with_reducible first | exact HB.out | apply zc0 | apply zb0 | apply zd0 | refine ze0 ?_ GE232.out) | exact HB.out)))); have n1_ := za0.mk (zl0 (g := gb232) (o := .cells #[.slice A0_0 l0_0.length c0_0] 29 (0, 0)) (by (with_reducible repeat (first | refine zh0 ?_ _ | refine zi0 ?_ | refine zf0 ?_ _)); exact BK232.out) hb); have n2_ := za0.mk (zj0 (by repeat (first | (with_reducible first | exact HB.out | apply zc0 | apply zb0 | apply zd0 | refine ze0 ?_ GE232.out) | exact HB.out)) hb); clear BK232; clear HB; have HO235 := n0_; have BK232 := n1_; have HB := n2_; clear n0_ n1_ n2_; clear hb ho8; obtain ⟨Ao9, co9, eo9⟩ := Kd.R_slice HO235.out; subst eo9))
   repeat (go_quiet (first | ((with_reducible refine zn0 (N := 2) rfl ?_); refine zo0 ?hg (N := 2) ?hd (cs := #[.slice A0_0 l0_0.length c0_0]) (t := 29) ?hr ?_; (case hd => rfl); (case hg => rfl); (case hr => first | (go_simp; done) | (go_simp; rfl)); intro gb232 hg w5 hbox hb; have n0_ := za0.mk (zj0 (by repeat (first | (with_reducible first | exact HB.out | apply zc0 | apply zb0 | apply zd0) | exact HB.out)) hb); have n1_ := za0.mk (hbox); have n2_ := za0.mk ((by rw [hg]; exact (zg0 (by repeat (first | (with_reducible first | exact HB.out | apply zc0 | apply zb0 | apply zd0) | exact HB.out))) : w.heap.size ≤ gb232)); have n3_ := za0.mk ((by rw [hg]; exact (zg0 (by repeat (first | (with_reducible first | exact HB.out | apply zc0 | apply zb0 | apply zd0) | exact HB.out))) : w.heap.size ≤ gb232)); clear HB; have HB := n0_; have BK232 := n1_; have GW232 := n2_; have GE232 := n3_; clear n0_ n1_ n2_ n3_; clear hb hbox hg; have hcz6_0 : w5.cell? ⟨gb232, 0, none⟩ = some (.slice A0_0 l0_0.length c0_0) := (zk0 BK232.out 0).trans rfl; have hfz6_0 := zm0 BK232.out 0) | ((with_reducible refine zn0 (N := 14) rfl ?_); refine Kd.R_make (Kd.int .i64) _ 3 rfl (N := 14) rfl 25 _ _ rfl (l0_0.length : Int) rfl rfl Try.underlying25 (.int .i64 0) 8 info3 rfl (by decide) (by omega) 0 (ok := fun _ => True) (okp := fun _ => True) rfl (fun _ hk => hk) trivial (of_decide_eq_true (by first | (with_reducible assumption) | assumption)) (Nat.le_trans (Nat.mul_le_mul_right _ (of_decide_eq_true (by first | (with_reducible assumption) | assumption) : (l0_0.length : Int).toNat ≤ 35184372088832)) (by omega)) (Below.refl _ _) (Nat.le_refl _) ?_; intro v234 w7 ho8 hb hg_ hnew_; clear hg_ hnew_; (first | rw [← Ny233.out] at ho8 | (simp only [Int.reduceToNat] at ho8; rw [← Ny233.out] at ho8)); have n0_ := za0.mk (Kd.R_lower ho8 (zg0 (by repeat (first | (with_reducible first | exact HB.out | apply zc0 | apply zb0 | apply zd0 | refine ze0 ?_ GE232.out) | exact HB.out)))); have n1_ := za0.mk (zl0 (g := gb232) (o := .cells #[.slice A0_0 l0_0.length c0_0] 29 (0, 0)) (by (with_reducible repeat (first | refine zh0 ?_ _ | refine zi0 ?_ | refine zf0 ?_ _)); exact BK232.out) hb); have n2_ := za0.mk (zj0 (by repeat (first | (with_reducible first | exact HB.out | apply zc0 | apply zb0 | apply zd0 | refine ze0 ?_ GE232.out) | exact HB.out)) hb); clear BK232; clear HB; have HO235 := n0_; have BK232 := n1_; have HB := n2_; clear n0_ n1_ n2_; clear hb ho8; obtain ⟨Ao9, co9, eo9⟩ := Kd.R_slice HO235.out; subst eo9)); try go_wp2_with (first | ((with_reducible refine zn0 (N := 2) rfl ?_); refine zo0 ?hg (N := 2) ?hd (cs := #[.slice A0_0 l0_0.length c0_0]) (t := 29) ?hr ?_; (case hd => rfl); (case hg => rfl); (case hr => first | (go_simp; done) | (go_simp; rfl)); intro gb232 hg w5 hbox hb; have n0_ := za0.mk (zj0 (by repeat (first | (with_reducible first | exact HB.out | apply zc0 | apply zb0 | apply zd0) | exact HB.out)) hb); have n1_ := za0.mk (hbox); have n2_ := za0.mk ((by rw [hg]; exact (zg0 (by repeat (first | (with_reducible first | exact HB.out | apply zc0 | apply zb0 | apply zd0) | exact HB.out))) : w.heap.size ≤ gb232)); have n3_ := za0.mk ((by rw [hg]; exact (zg0 (by repeat (first | (with_reducible first | exact HB.out | apply zc0 | apply zb0 | apply zd0) | exact HB.out))) : w.heap.size ≤ gb232)); clear HB; have HB := n0_; have BK232 := n1_; have GW232 := n2_; have GE232 := n3_; clear n0_ n1_ n2_ n3_; clear hb hbox hg; have hcz6_0 : w5.cell? ⟨gb232, 0, none⟩ = some (.slice A0_0 l0_0.length c0_0) := (zk0 BK232.out 0).trans rfl; have hfz6_0 := zm0 BK232.out 0) | ((with_reducible refine zn0 (N := 14) rfl ?_); refine Kd.R_make (Kd.int .i64) _ 3 rfl (N := 14) rfl 25 _ _ rfl (l0_0.length : Int) rfl rfl Try.underlying25 (.int .i64 0) 8 info3 rfl (by decide) (by omega) 0 (ok := fun _ => True) (okp := fun _ => True) rfl (fun _ hk => hk) trivial (of_decide_eq_true (by first | (with_reducible assumption) | assumption)) (Nat.le_trans (Nat.mul_le_mul_right _ (of_decide_eq_true (by first | (with_reducible assumption) | assumption) : (l0_0.length : Int).toNat ≤ 35184372088832)) (by omega)) (Below.refl _ _) (Nat.le_refl _) ?_; intro v234 w7 ho8 hb hg_ hnew_; clear hg_ hnew_; (first | rw [← Ny233.out] at ho8 | (simp only [Int.reduceToNat] at ho8; rw [← Ny233.out] at ho8)); have n0_ := za0.mk (Kd.R_lower ho8 (zg0 (by repeat (first | (with_reducible first | exact HB.out | apply zc0 | apply zb0 | apply zd0 | refine ze0 ?_ GE232.out) | exact HB.out)))); have n1_ := za0.mk (zl0 (g := gb232) (o := .cells #[.slice A0_0 l0_0.length c0_0] 29 (0, 0)) (by (with_reducible repeat (first | refine zh0 ?_ _ | refine zi0 ?_ | refine zf0 ?_ _)); exact BK232.out) hb); have n2_ := za0.mk (zj0 (by repeat (first | (with_reducible first | exact HB.out | apply zc0 | apply zb0 | apply zd0 | refine ze0 ?_ GE232.out) | exact HB.out)) hb); clear BK232; clear HB; have HO235 := n0_; have BK232 := n1_; have HB := n2_; clear n0_ n1_ n2_; clear hb ho8; obtain ⟨Ao9, co9, eo9⟩ := Kd.R_slice HO235.out; subst eo9)))
   go_loopg [17] k (fun kq v17 w' => ∃ (x5_1 : List Int) (x17_1 : Int), v17 = .int .i64 x17_1 ∧ za0 (spec_grFar.l0 kq a1 x5_1 (y233.length : Int) x17_1 l0_0 = some r) ∧ za0 (kq ≤ k) ∧ za0 (Kd.R (Kd.int .i64) 3 w' w.heap.size (fun _ => True) (.slice Ao9 y233.length co9) x5_1) ∧ za0 (w'.heap[gb232]? = some (.cells #[(.slice A0_0 l0_0.length c0_0)] 29 (0, 0))) ∧ za0 (Below w.heap.size w w'))
   case atStart => exact ⟨(y233), (0), (by first | rfl | (simp; done) | (simp [*]; done)), H', ⟨Nat.le_refl _⟩, ⟨by (with_reducible repeat (first | apply Kd.R_alloc | apply Kd.R_drewN | apply Kd.R_drew)); exact HO235.out⟩, ⟨by (with_reducible repeat (first | refine zh0 ?_ _ | refine zi0 ?_ | refine zf0 ?_ _)); exact BK232.out⟩, ⟨by repeat (first | (with_reducible first | exact HB.out | apply zc0 | apply zb0 | apply zd0 | refine ze0 ?_ GE232.out) | exact HB.out)⟩⟩
   case round =>
    clear H'
    try clear p2
    try clear c3
    try clear c3b0
    try clear c3b1
    try clear c4
    try clear c4b0
    try clear c4b1
    try clear c8
    try clear hcz6_0
    try clear hfz6_0
    obtain ⟨x5_1, x17_1, rfl, HA, HK1, HO_5, BK232, HB⟩ := hrel
    have hl5_1 := (Kd.R_reads' HO_5.out).1
    rw [hl5_1] at HO_5
    (try simp only [hl5_1])
    (try simp only [hl5_1] at BK232)
    cases gk with
    | zero => exact absurd HA.out (by simp [spec_grFar.l0])
    | succ k1 =>
     have H := HA.out
     clear HA
     simp only [spec_grFar.l0] at H
     by_cases c10 : x17_1 < (y233.length : Int)
     ·rw [if_pos c10] at H
      have c10b0 : decide (x17_1 < (y233.length : Int)) = true := decide_eq_true c10
      (try (have c10b0h := c10b0; simp only [hl5_1] at c10b0h))
      clear c10
      by_cases c11 : 0 ≤ x17_1
      ·rw [if_pos c11] at H
       have c11b0 : decide (0 ≤ x17_1) = true := decide_eq_true c11
       (try (have c11b0h := c11b0; simp only [hl5_1] at c11b0h))
       clear c11
       by_cases c12 : x17_1 < (x5_1.length : Int)
       ·rw [if_pos c12] at H
        have c12b0 : decide (x17_1 < (x5_1.length : Int)) = true := decide_eq_true c12
        (try (have c12b0h := c12b0; simp only [hl5_1] at c12b0h))
        clear c12
        obtain ⟨y236, hy236⟩ : ∃ y_ : List Int, y_ = (x5_1.set (x17_1 : Int).toNat (-1)) := ⟨_, rfl⟩
        replace H : (spec_grFar.l0 k1 a1 y236 (y233.length : Int) (wrap64 (x17_1 + 1)) l0_0) = some r := by first | (rw [hy236]; with_reducible exact H) | (have H2_ := (Option.bind_some _ _).symm.trans H; rw [hy236]; with_reducible exact H2_) | (have H2_ := (Option.bind_some _ _).symm.trans H; with_reducible exact H2_) | with_reducible exact H | (rw [hy236]; exact H) | exact H
        have Ny236 := za0.mk hy236
        clear hy236
        have H' := za0.mk H
        clear H
        have p13 : 0 ≤ (x17_1 : Int) := of_decide_eq_true (by first | (with_reducible assumption) | assumption)
        have q13 : (x17_1 : Int) < ((x5_1.length : Int) : Int) := of_decide_eq_true (by first | (with_reducible assumption) | assumption)
        obtain ⟨go13, co13, eo13, gb13, gl13, cl13, HG13⟩ := Kd.R_form HO_5.out (by omega)
        (first | cases eo13 | (injection eo13 with ea_ en_ ec_; (first | subst ea_ | (injection ea_ with ea_; subst ea_)); subst ec_; clear en_))
        have GB13 := za0.mk gb13
        have GG13 := za0.mk HG13
        clear gb13 gl13 HG13
        obtain ⟨hx13_0, hf13_0⟩ := Kd.R_celln 0 HO_5.out (x17_1 : Int) p13 q13
        replace p13 := eq_true p13
        replace q13 := eq_true q13
        have HP14 := Kd.R_putg HO_5.out (x17_1 : Int) (-1)
        go_wp2_with (first | ((with_reducible refine gate_store (t := 3) (p := 22) rfl ?_); (try (rw [drewN_self wr]; generalize hq_ : World.drewN wr _ = wr; have n0_ := za0.mk (Kd.R_at hq_ HO_5.out); have n1_ := za0.mk (blk_at hq_ BK232.out); have n2_ := za0.mk (below_at hq_ HB.out); clear hq_ HO_5 BK232 HB; have HO_5 := n0_; have BK232 := n1_; have HB := n2_; clear n0_ n1_ n2_; (try (have HP14 := Kd.R_putg HO_5.out (x17_1 : Int) (-1))))); refine store_event (t := 3) (p := 22) (v := ?vo_w15) (w1 := (wr.setCell ⟨go13, (x17_1 : Int).toNat, none⟩ (.int .i64 (-1)))) ?hg ?ho ?hn ?hr ?_; (case ho => rfl); (case hg => rfl); (case hn => rfl); (case hr => first | (go_simp; done) | (go_simp; rfl)); intro w15 hw; have hg : wr.grownBy w15 (some go13) := (by rw [hw]; exact HP14.2); have hp_ : Kd.R (Kd.int .i64) 3 w15 w.heap.size (fun _ => True) (.slice (some ⟨go13, 0, none⟩) x5_1.length co9) y236 := (by rw [hw, Ny236.out]; exact HP14.1); clear HP14; have n0_ := za0.mk (hp_); have n1_ := za0.mk (zy0 (g := gb232) (o := .cells #[.slice A0_0 l0_0.length c0_0] 29 (0, 0)) (by (with_reducible repeat (first | refine zh0 ?_ _ | refine zi0 ?_ | refine zf0 ?_ _)); exact BK232.out) hg (Kd.R_ne HO_5.out BK232.out (by decide))); have n2_ := za0.mk ((by rw [hw]; exact ze0 (HB.out) GB13.out : Below w.heap.size w w15)); clear HO_5; clear BK232; clear HB; have HO_5 := n0_; have BK232 := n1_; have HB := n2_; clear n0_ n1_ n2_; clear hg hw hp_))
        repeat (go_quiet (first | ((with_reducible refine gate_store (t := 3) (p := 22) rfl ?_); (try (rw [drewN_self wr]; generalize hq_ : World.drewN wr _ = wr; have n0_ := za0.mk (Kd.R_at hq_ HO_5.out); have n1_ := za0.mk (blk_at hq_ BK232.out); have n2_ := za0.mk (below_at hq_ HB.out); clear hq_ HO_5 BK232 HB; have HO_5 := n0_; have BK232 := n1_; have HB := n2_; clear n0_ n1_ n2_; (try (have HP14 := Kd.R_putg HO_5.out (x17_1 : Int) (-1))))); refine store_event (t := 3) (p := 22) (v := ?vo_w15) (w1 := (wr.setCell ⟨go13, (x17_1 : Int).toNat, none⟩ (.int .i64 (-1)))) ?hg ?ho ?hn ?hr ?_; (case ho => rfl); (case hg => rfl); (case hn => rfl); (case hr => first | (go_simp; done) | (go_simp; rfl)); intro w15 hw; have hg : wr.grownBy w15 (some go13) := (by rw [hw]; exact HP14.2); have hp_ : Kd.R (Kd.int .i64) 3 w15 w.heap.size (fun _ => True) (.slice (some ⟨go13, 0, none⟩) x5_1.length co9) y236 := (by rw [hw, Ny236.out]; exact HP14.1); clear HP14; have n0_ := za0.mk (hp_); have n1_ := za0.mk (zy0 (g := gb232) (o := .cells #[.slice A0_0 l0_0.length c0_0] 29 (0, 0)) (by (with_reducible repeat (first | refine zh0 ?_ _ | refine zi0 ?_ | refine zf0 ?_ _)); exact BK232.out) hg (Kd.R_ne HO_5.out BK232.out (by decide))); have n2_ := za0.mk ((by rw [hw]; exact ze0 (HB.out) GB13.out : Below w.heap.size w w15)); clear HO_5; clear BK232; clear HB; have HO_5 := n0_; have BK232 := n1_; have HB := n2_; clear n0_ n1_ n2_; clear hg hw hp_)); try go_wp2_with (first | ((with_reducible refine gate_store (t := 3) (p := 22) rfl ?_); (try (rw [drewN_self wr]; generalize hq_ : World.drewN wr _ = wr; have n0_ := za0.mk (Kd.R_at hq_ HO_5.out); have n1_ := za0.mk (blk_at hq_ BK232.out); have n2_ := za0.mk (below_at hq_ HB.out); clear hq_ HO_5 BK232 HB; have HO_5 := n0_; have BK232 := n1_; have HB := n2_; clear n0_ n1_ n2_; (try (have HP14 := Kd.R_putg HO_5.out (x17_1 : Int) (-1))))); refine store_event (t := 3) (p := 22) (v := ?vo_w15) (w1 := (wr.setCell ⟨go13, (x17_1 : Int).toNat, none⟩ (.int .i64 (-1)))) ?hg ?ho ?hn ?hr ?_; (case ho => rfl); (case hg => rfl); (case hn => rfl); (case hr => first | (go_simp; done) | (go_simp; rfl)); intro w15 hw; have hg : wr.grownBy w15 (some go13) := (by rw [hw]; exact HP14.2); have hp_ : Kd.R (Kd.int .i64) 3 w15 w.heap.size (fun _ => True) (.slice (some ⟨go13, 0, none⟩) x5_1.length co9) y236 := (by rw [hw, Ny236.out]; exact HP14.1); clear HP14; have n0_ := za0.mk (hp_); have n1_ := za0.mk (zy0 (g := gb232) (o := .cells #[.slice A0_0 l0_0.length c0_0] 29 (0, 0)) (by (with_reducible repeat (first | refine zh0 ?_ _ | refine zi0 ?_ | refine zf0 ?_ _)); exact BK232.out) hg (Kd.R_ne HO_5.out BK232.out (by decide))); have n2_ := za0.mk ((by rw [hw]; exact ze0 (HB.out) GB13.out : Below w.heap.size w w15)); clear HO_5; clear BK232; clear HB; have HO_5 := n0_; have BK232 := n1_; have HB := n2_; clear n0_ n1_ n2_; clear hg hw hp_)))
        (try simp only [← hl5_1])
        go_roundg k1
        case measure => have := HK1.out; omega
        case rel => exact ⟨(y236), (wrap64 (x17_1 + 1)), (by first | rfl | (simp; done) | (simp [*]; done)), H', ⟨by have := HK1.out; omega⟩, ⟨by (try simp only [hl5_1]); (with_reducible repeat (first | apply Kd.R_alloc | apply Kd.R_drewN | apply Kd.R_drew)); exact HO_5.out⟩, ⟨by (try simp only [hl5_1]); (with_reducible repeat (first | refine zh0 ?_ _ | refine zi0 ?_ | refine zf0 ?_ _)); exact BK232.out⟩, ⟨by repeat (first | (with_reducible first | exact HB.out | apply zc0 | apply zb0 | apply zd0 | refine ze0 ?_ GE232.out) | exact HB.out)⟩⟩
       ·rw [if_neg c12] at H
        exact absurd H (by simp)
      ·rw [if_neg c11] at H
       exact absurd H (by simp)
     ·rw [if_neg c10] at H
      have c10b0 : decide (x17_1 < (y233.length : Int)) = false := decide_eq_false c10
      (try (have c10b0h := c10b0; simp only [hl5_1] at c10b0h))
      clear c10
      by_cases c16 : 0 ≤ a1
      ·rw [if_pos c16] at H
       have c16b0 : decide (0 ≤ a1) = true := decide_eq_true c16
       (try (have c16b0h := c16b0; simp only [hl5_1] at c16b0h))
       clear c16
       by_cases c17 : a1 < (x5_1.length : Int)
       ·rw [if_pos c17] at H
        have c17b0 : decide (a1 < (x5_1.length : Int)) = true := decide_eq_true c17
        (try (have c17b0h := c17b0; simp only [hl5_1] at c17b0h))
        clear c17
        obtain ⟨y237, hy237⟩ : ∃ y_ : List Int, y_ = (x5_1.set (a1 : Int).toNat 0) := ⟨_, rfl⟩
        replace H : (spec_grFar.l1 k1 y237 (([a1] : List Int)) 0 l0_0) = some r := by first | (rw [hy237]; with_reducible exact H) | (have H2_ := (Option.bind_some _ _).symm.trans H; rw [hy237]; with_reducible exact H2_) | (have H2_ := (Option.bind_some _ _).symm.trans H; with_reducible exact H2_) | with_reducible exact H | (rw [hy237]; exact H) | exact H
        have Ny237 := za0.mk hy237
        clear hy237
        obtain ⟨y238, hy238⟩ : ∃ y_ : List Int, y_ = (([a1] : List Int)) := ⟨_, rfl⟩
        replace H : (spec_grFar.l1 k1 y237 y238 0 l0_0) = some r := by first | (rw [hy238]; with_reducible exact H) | (have H2_ := (Option.bind_some _ _).symm.trans H; rw [hy238]; with_reducible exact H2_) | (have H2_ := (Option.bind_some _ _).symm.trans H; with_reducible exact H2_) | with_reducible exact H | (rw [hy238]; exact H) | exact H
        have Ny238 := za0.mk hy238
        clear hy238
        have H' := za0.mk H
        clear H
        have p18 : 0 ≤ (a1 : Int) := of_decide_eq_true (by first | (with_reducible assumption) | assumption)
        have q18 : (a1 : Int) < ((x5_1.length : Int) : Int) := of_decide_eq_true (by first | (with_reducible assumption) | assumption)
        obtain ⟨go18, co18, eo18, gb18, gl18, cl18, HG18⟩ := Kd.R_form HO_5.out (by omega)
        (first | cases eo18 | (injection eo18 with ea_ en_ ec_; (first | subst ea_ | (injection ea_ with ea_; subst ea_)); subst ec_; clear en_))
        have GB18 := za0.mk gb18
        have GG18 := za0.mk HG18
        clear gb18 gl18 HG18
        obtain ⟨hx18_0, hf18_0⟩ := Kd.R_celln 0 HO_5.out (a1 : Int) p18 q18
        replace p18 := eq_true p18
        replace q18 := eq_true q18
        have HP19 := Kd.R_putg HO_5.out (a1 : Int) 0
        go_wp2_with (first | ((with_reducible refine gate_store (t := 3) (p := 26) rfl ?_); (try (rw [drewN_self wr]; generalize hq_ : World.drewN wr _ = wr; have n0_ := za0.mk (Kd.R_at hq_ HO_5.out); have n1_ := za0.mk (blk_at hq_ BK232.out); have n2_ := za0.mk (below_at hq_ HB.out); clear hq_ HO_5 BK232 HB; have HO_5 := n0_; have BK232 := n1_; have HB := n2_; clear n0_ n1_ n2_; (try (have HP19 := Kd.R_putg HO_5.out (a1 : Int) 0)))); refine store_event (t := 3) (p := 26) (v := ?vo_w20) (w1 := (wr.setCell ⟨go18, (a1 : Int).toNat, none⟩ (.int .i64 0))) ?hg ?ho ?hn ?hr ?_; (case ho => rfl); (case hg => rfl); (case hn => rfl); (case hr => first | (go_simp; done) | (go_simp; rfl)); intro w20 hw; have hg : wr.grownBy w20 (some go18) := (by rw [hw]; exact HP19.2); have hp_ : Kd.R (Kd.int .i64) 3 w20 w.heap.size (fun _ => True) (.slice (some ⟨go18, 0, none⟩) x5_1.length co9) y237 := (by rw [hw, Ny237.out]; exact HP19.1); clear HP19; have n0_ := za0.mk (hp_); have n1_ := za0.mk (zy0 (g := gb232) (o := .cells #[.slice A0_0 l0_0.length c0_0] 29 (0, 0)) (by (with_reducible repeat (first | refine zh0 ?_ _ | refine zi0 ?_ | refine zf0 ?_ _)); exact BK232.out) hg (Kd.R_ne HO_5.out BK232.out (by decide))); have n2_ := za0.mk ((by rw [hw]; exact ze0 (HB.out) GB18.out : Below w.heap.size w w20)); clear HO_5; clear BK232; clear HB; have HO_5 := n0_; have BK232 := n1_; have HB := n2_; clear n0_ n1_ n2_; clear hg hw hp_) | ((with_reducible refine zn0 (N := 28) rfl ?_); refine Kd.R_lit (Kd.int .i64) _ 3 ?hg (N := 28) ?hd (xs := ([a1] : List Int)) (inner := [.int .i64 a1]) (ok := fun _ => True) (okp := fun _ => True) ?hr ?hp (fun _ hk => hk) trivial (Below.refl _ _) (Nat.le_refl _) (by simp) ?_; (case hd => rfl); (case hg => rfl); (case hr => first | (go_simp; done) | (go_simp; rfl)); (case hp => exact (Reps.one (show Kd.M (Kd.int .i64) _ _ _ a1 [.int .i64 a1] from rfl) (Reps.none _ _))); intro v239 w21 ho22 hb hg_ hnew_; clear hg_ hnew_; (first | rw [← Ny238.out] at ho22 | (simp only [Int.reduceToNat] at ho22; rw [← Ny238.out] at ho22)); have n0_ := za0.mk (Kd.R_elder' (by (with_reducible repeat (first | apply Kd.R_alloc | apply Kd.R_drewN | apply Kd.R_drew)); exact HO_5.out) (Kd.R_base ho22) hb); have n1_ := za0.mk (Kd.R_lower (Kd.R_new' ho22 (Kd.R_lt (by (with_reducible repeat (first | apply Kd.R_alloc | apply Kd.R_drewN | apply Kd.R_drew)); exact HO_5.out))) (zg0 (by repeat (first | (with_reducible first | exact HB.out | apply zc0 | apply zb0 | apply zd0 | refine ze0 ?_ GE232.out) | exact HB.out)))); have n2_ := za0.mk (zl0 (g := gb232) (o := .cells #[.slice A0_0 l0_0.length c0_0] 29 (0, 0)) (by (with_reducible repeat (first | refine zh0 ?_ _ | refine zi0 ?_ | refine zf0 ?_ _)); exact BK232.out) hb); have n3_ := za0.mk (zj0 (by repeat (first | (with_reducible first | exact HB.out | apply zc0 | apply zb0 | apply zd0 | refine ze0 ?_ GE232.out) | exact HB.out)) hb); clear HO_5; clear BK232; clear HB; have HO_5 := n0_; have HO240 := n1_; have BK232 := n2_; have HB := n3_; clear n0_ n1_ n2_ n3_; clear hb ho22))
        repeat (go_quiet (first | ((with_reducible refine gate_store (t := 3) (p := 26) rfl ?_); (try (rw [drewN_self wr]; generalize hq_ : World.drewN wr _ = wr; have n0_ := za0.mk (Kd.R_at hq_ HO_5.out); have n1_ := za0.mk (blk_at hq_ BK232.out); have n2_ := za0.mk (below_at hq_ HB.out); clear hq_ HO_5 BK232 HB; have HO_5 := n0_; have BK232 := n1_; have HB := n2_; clear n0_ n1_ n2_; (try (have HP19 := Kd.R_putg HO_5.out (a1 : Int) 0)))); refine store_event (t := 3) (p := 26) (v := ?vo_w20) (w1 := (wr.setCell ⟨go18, (a1 : Int).toNat, none⟩ (.int .i64 0))) ?hg ?ho ?hn ?hr ?_; (case ho => rfl); (case hg => rfl); (case hn => rfl); (case hr => first | (go_simp; done) | (go_simp; rfl)); intro w20 hw; have hg : wr.grownBy w20 (some go18) := (by rw [hw]; exact HP19.2); have hp_ : Kd.R (Kd.int .i64) 3 w20 w.heap.size (fun _ => True) (.slice (some ⟨go18, 0, none⟩) x5_1.length co9) y237 := (by rw [hw, Ny237.out]; exact HP19.1); clear HP19; have n0_ := za0.mk (hp_); have n1_ := za0.mk (zy0 (g := gb232) (o := .cells #[.slice A0_0 l0_0.length c0_0] 29 (0, 0)) (by (with_reducible repeat (first | refine zh0 ?_ _ | refine zi0 ?_ | refine zf0 ?_ _)); exact BK232.out) hg (Kd.R_ne HO_5.out BK232.out (by decide))); have n2_ := za0.mk ((by rw [hw]; exact ze0 (HB.out) GB18.out : Below w.heap.size w w20)); clear HO_5; clear BK232; clear HB; have HO_5 := n0_; have BK232 := n1_; have HB := n2_; clear n0_ n1_ n2_; clear hg hw hp_) | ((with_reducible refine zn0 (N := 28) rfl ?_); refine Kd.R_lit (Kd.int .i64) _ 3 ?hg (N := 28) ?hd (xs := ([a1] : List Int)) (inner := [.int .i64 a1]) (ok := fun _ => True) (okp := fun _ => True) ?hr ?hp (fun _ hk => hk) trivial (Below.refl _ _) (Nat.le_refl _) (by simp) ?_; (case hd => rfl); (case hg => rfl); (case hr => first | (go_simp; done) | (go_simp; rfl)); (case hp => exact (Reps.one (show Kd.M (Kd.int .i64) _ _ _ a1 [.int .i64 a1] from rfl) (Reps.none _ _))); intro v239 w21 ho22 hb hg_ hnew_; clear hg_ hnew_; (first | rw [← Ny238.out] at ho22 | (simp only [Int.reduceToNat] at ho22; rw [← Ny238.out] at ho22)); have n0_ := za0.mk (Kd.R_elder' (by (with_reducible repeat (first | apply Kd.R_alloc | apply Kd.R_drewN | apply Kd.R_drew)); exact HO_5.out) (Kd.R_base ho22) hb); have n1_ := za0.mk (Kd.R_lower (Kd.R_new' ho22 (Kd.R_lt (by (with_reducible repeat (first | apply Kd.R_alloc | apply Kd.R_drewN | apply Kd.R_drew)); exact HO_5.out))) (zg0 (by repeat (first | (with_reducible first | exact HB.out | apply zc0 | apply zb0 | apply zd0 | refine ze0 ?_ GE232.out) | exact HB.out)))); have n2_ := za0.mk (zl0 (g := gb232) (o := .cells #[.slice A0_0 l0_0.length c0_0] 29 (0, 0)) (by (with_reducible repeat (first | refine zh0 ?_ _ | refine zi0 ?_ | refine zf0 ?_ _)); exact BK232.out) hb); have n3_ := za0.mk (zj0 (by repeat (first | (with_reducible first | exact HB.out | apply zc0 | apply zb0 | apply zd0 | refine ze0 ?_ GE232.out) | exact HB.out)) hb); clear HO_5; clear BK232; clear HB; have HO_5 := n0_; have HO240 := n1_; have BK232 := n2_; have HB := n3_; clear n0_ n1_ n2_ n3_; clear hb ho22)); try go_wp2_with (first | ((with_reducible refine gate_store (t := 3) (p := 26) rfl ?_); (try (rw [drewN_self wr]; generalize hq_ : World.drewN wr _ = wr; have n0_ := za0.mk (Kd.R_at hq_ HO_5.out); have n1_ := za0.mk (blk_at hq_ BK232.out); have n2_ := za0.mk (below_at hq_ HB.out); clear hq_ HO_5 BK232 HB; have HO_5 := n0_; have BK232 := n1_; have HB := n2_; clear n0_ n1_ n2_; (try (have HP19 := Kd.R_putg HO_5.out (a1 : Int) 0)))); refine store_event (t := 3) (p := 26) (v := ?vo_w20) (w1 := (wr.setCell ⟨go18, (a1 : Int).toNat, none⟩ (.int .i64 0))) ?hg ?ho ?hn ?hr ?_; (case ho => rfl); (case hg => rfl); (case hn => rfl); (case hr => first | (go_simp; done) | (go_simp; rfl)); intro w20 hw; have hg : wr.grownBy w20 (some go18) := (by rw [hw]; exact HP19.2); have hp_ : Kd.R (Kd.int .i64) 3 w20 w.heap.size (fun _ => True) (.slice (some ⟨go18, 0, none⟩) x5_1.length co9) y237 := (by rw [hw, Ny237.out]; exact HP19.1); clear HP19; have n0_ := za0.mk (hp_); have n1_ := za0.mk (zy0 (g := gb232) (o := .cells #[.slice A0_0 l0_0.length c0_0] 29 (0, 0)) (by (with_reducible repeat (first | refine zh0 ?_ _ | refine zi0 ?_ | refine zf0 ?_ _)); exact BK232.out) hg (Kd.R_ne HO_5.out BK232.out (by decide))); have n2_ := za0.mk ((by rw [hw]; exact ze0 (HB.out) GB18.out : Below w.heap.size w w20)); clear HO_5; clear BK232; clear HB; have HO_5 := n0_; have BK232 := n1_; have HB := n2_; clear n0_ n1_ n2_; clear hg hw hp_) | ((with_reducible refine zn0 (N := 28) rfl ?_); refine Kd.R_lit (Kd.int .i64) _ 3 ?hg (N := 28) ?hd (xs := ([a1] : List Int)) (inner := [.int .i64 a1]) (ok := fun _ => True) (okp := fun _ => True) ?hr ?hp (fun _ hk => hk) trivial (Below.refl _ _) (Nat.le_refl _) (by simp) ?_; (case hd => rfl); (case hg => rfl); (case hr => first | (go_simp; done) | (go_simp; rfl)); (case hp => exact (Reps.one (show Kd.M (Kd.int .i64) _ _ _ a1 [.int .i64 a1] from rfl) (Reps.none _ _))); intro v239 w21 ho22 hb hg_ hnew_; clear hg_ hnew_; (first | rw [← Ny238.out] at ho22 | (simp only [Int.reduceToNat] at ho22; rw [← Ny238.out] at ho22)); have n0_ := za0.mk (Kd.R_elder' (by (with_reducible repeat (first | apply Kd.R_alloc | apply Kd.R_drewN | apply Kd.R_drew)); exact HO_5.out) (Kd.R_base ho22) hb); have n1_ := za0.mk (Kd.R_lower (Kd.R_new' ho22 (Kd.R_lt (by (with_reducible repeat (first | apply Kd.R_alloc | apply Kd.R_drewN | apply Kd.R_drew)); exact HO_5.out))) (zg0 (by repeat (first | (with_reducible first | exact HB.out | apply zc0 | apply zb0 | apply zd0 | refine ze0 ?_ GE232.out) | exact HB.out)))); have n2_ := za0.mk (zl0 (g := gb232) (o := .cells #[.slice A0_0 l0_0.length c0_0] 29 (0, 0)) (by (with_reducible repeat (first | refine zh0 ?_ _ | refine zi0 ?_ | refine zf0 ?_ _)); exact BK232.out) hb); have n3_ := za0.mk (zj0 (by repeat (first | (with_reducible first | exact HB.out | apply zc0 | apply zb0 | apply zd0 | refine ze0 ?_ GE232.out) | exact HB.out)) hb); clear HO_5; clear BK232; clear HB; have HO_5 := n0_; have HO240 := n1_; have BK232 := n2_; have HB := n3_; clear n0_ n1_ n2_ n3_; clear hb ho22)))
        go_loopg [7, 8] k1 (fun kq v7 v8 w' => ∃ (x5_2 : List Int) (x7_2 : List Int) (x8_2 : Int), v8 = .int .i64 x8_2 ∧ za0 (spec_grFar.l1 kq x5_2 x7_2 x8_2 l0_0 = some r) ∧ za0 (kq ≤ k1) ∧ za0 (Kd.R (Kd.int .i64) 3 w' w.heap.size (fun k_ => some k_ ≠ (v7 : Value).ownBlock) (.slice (some ⟨go18, 0, none⟩) x5_1.length co9) x5_2) ∧ za0 (Kd.R (Kd.int .i64) 3 w' w.heap.size (fun k_ => some k_ ≠ ((.slice (some ⟨go18, 0, none⟩) x5_1.length co9) : Value).ownBlock) v7 x7_2) ∧ za0 (w'.heap[gb232]? = some (.cells #[(.slice A0_0 l0_0.length c0_0)] 29 (0, 0))) ∧ za0 (Below w.heap.size w w'))
        case atStart => exact ⟨(y237), (y238), (0), (by first | rfl | (simp; done) | (simp [*]; done)), H', ⟨Nat.le_refl _⟩, ⟨by (try simp only [hl5_1]); (with_reducible repeat (first | apply Kd.R_alloc | apply Kd.R_drewN | apply Kd.R_drew)); exact Kd.R_mono HO_5.out (fun _ hk => hk.2)⟩, ⟨by (try simp only [hl5_1]); (with_reducible repeat (first | apply Kd.R_alloc | apply Kd.R_drewN | apply Kd.R_drew)); exact Kd.R_mono HO240.out (fun _ hk => hk.2)⟩, ⟨by (try simp only [hl5_1]); (with_reducible repeat (first | refine zh0 ?_ _ | refine zi0 ?_ | refine zf0 ?_ _)); exact BK232.out⟩, ⟨by repeat (first | (with_reducible first | exact HB.out | apply zc0 | apply zb0 | apply zd0 | refine ze0 ?_ GE232.out) | exact HB.out)⟩⟩
        case round =>
         clear H'
         try clear c1
         try clear p1
         try clear q1
         try clear hx1
         try clear p2
         try clear c3
         try clear c3b0
         try clear c3b1
         try clear c4
         try clear c4b0
         try clear c4b1
         try clear p6
         try clear c8
         try clear c10
         try clear c10b0
         try clear c11
         try clear c11b0
         try clear c12
         try clear c12b0
         try clear p13
         try clear q13
         try clear hx13
         try clear hf13
         try clear c16
         try clear c16b0
         try clear c17
         try clear c17b0
         try clear p18
         try clear q18
         try clear hx18
         try clear hf18
         try clear hcz6_0
         try clear hfz6_0
         try clear hx13_0
         try clear hx18_0
         try clear p13
         try clear p18
         try clear p2
         try clear q13
         try clear q18
         obtain ⟨x5_2, x7_2, x8_2, rfl, HA, HK2, HO_5, HO_7, BK232, HB⟩ := hrel
         have hl5_2 := (Kd.R_reads' HO_5.out).1
         rw [hl5_2] at HO_5
         (try simp only [hl5_2])
         (try simp only [hl5_2] at BK232)
         (try simp only [hl5_2] at HO_7)
         cases gk with
         | zero => exact absurd HA.out (by simp [spec_grFar.l1])
         | succ k2 =>
          have H := HA.out
          clear HA
          simp only [spec_grFar.l1] at H
          by_cases c23 : x8_2 < (x7_2.length : Int)
          ·rw [if_pos c23] at H
           have c23b0 : decide (x8_2 < (x7_2.length : Int)) = true := decide_eq_true c23
           (try (have c23b0h := c23b0; simp only [hl5_1, hl5_2] at c23b0h))
           clear c23
           by_cases c24 : 0 ≤ x8_2
           ·rw [if_pos c24] at H
            have c24b0 : decide (0 ≤ x8_2) = true := decide_eq_true c24
            (try (have c24b0h := c24b0; simp only [hl5_1, hl5_2] at c24b0h))
            clear c24
            by_cases c25 : 0 ≤ (rd x7_2 x8_2)
            ·rw [if_pos c25] at H
             have c25b0 : decide (0 ≤ (rd x7_2 x8_2)) = true := decide_eq_true c25
             (try (have c25b0h := c25b0; simp only [hl5_1, hl5_2] at c25b0h))
             clear c25
             by_cases c26 : (rd x7_2 x8_2) < (l0_0.length : Int)
             ·rw [if_pos c26] at H
              have c26b0 : decide ((rd x7_2 x8_2) < (l0_0.length : Int)) = true := decide_eq_true c26
              (try (have c26b0h := c26b0; simp only [hl5_1, hl5_2] at c26b0h))
              clear c26
              have H' := za0.mk H
              clear H
              obtain ⟨Ao27, co27, eo27⟩ := Kd.R_slice HO_7.out
              subst eo27
              have hcz28_0 : wr.cell? ⟨gb232, 0, none⟩ = some (.slice A0_0 l0_0.length c0_0) := (zk0 BK232.out 0).trans rfl
              have hfz28_0 := zm0 BK232.out 0
              have p241 : 0 ≤ (x8_2 : Int) := of_decide_eq_true (by first | (with_reducible assumption) | assumption)
              have q241 : x8_2 < (x7_2.length : Int) := of_decide_eq_true (by first | (with_reducible assumption) | assumption)
              obtain ⟨ad241, e241, hx241_0⟩ := Kd.at_int (Kd.R_reads' HO_7.out).2.2 x8_2 p241 q241
              cases e241
              replace p241 := eq_true p241
              replace q241 := eq_true q241
              have p242 : 0 ≤ ((rd x7_2 x8_2) : Int) := of_decide_eq_true (by first | (with_reducible assumption) | assumption)
              have q242 : (rd x7_2 x8_2) < (l0_0.length : Int) := of_decide_eq_true (by first | (with_reducible assumption) | assumption)
              obtain ⟨ad242, A242_0, c242_0, e242, hx242_0, hl242_0, hi242_0⟩ := at_L1 HR0_0.out (rd x7_2 x8_2) p242 q242
              cases e242
              replace hx242_0 := (HB.out.cell (World.block_lt_of_cell? w _ hx242_0)).trans hx242_0
              have HR242_0 := za0.mk hi242_0
              have HC242_0 := za0.mk hl242_0
              clear hi242_0 hl242_0
              replace p242 := eq_true p242
              replace q242 := eq_true q242
              go_wp2
              repeat (go_quiet (fail); try go_wp2)
              go_loopg [7, 44] k2 (fun kq v7 v44 w' => ∃ (x5_3 : List Int) (x7_3 : List Int) (x44_3 : Int), v44 = .int .i64 x44_3 ∧ za0 (spec_grFar.l2 kq x5_3 x7_3 x8_2 (rd_L1 l0_0 (rd x7_2 x8_2)) ((rd_L1 l0_0 (rd x7_2 x8_2)).length : Int) x44_3 l0_0 = some r) ∧ za0 (kq ≤ k2) ∧ za0 (Kd.R (Kd.int .i64) 3 w' w.heap.size (fun k_ => some k_ ≠ (v7 : Value).ownBlock) (.slice (some ⟨go18, 0, none⟩) x5_2.length co9) x5_3) ∧ za0 (Kd.R (Kd.int .i64) 3 w' w.heap.size (fun k_ => some k_ ≠ ((.slice (some ⟨go18, 0, none⟩) x5_2.length co9) : Value).ownBlock) v7 x7_3) ∧ za0 (w'.heap[gb232]? = some (.cells #[(.slice (some ad242) l0_0.length c0_0)] 29 (0, 0))) ∧ za0 (Below w.heap.size w w'))
              case atStart => exact ⟨(x5_2), (x7_2), (0), (by first | rfl | (simp; done) | (simp [*]; done)), H', ⟨Nat.le_refl _⟩, ⟨by (try simp only [hl5_1]); (try simp only [hl5_2]); (with_reducible repeat (first | apply Kd.R_alloc | apply Kd.R_drewN | apply Kd.R_drew)); exact HO_5.out⟩, ⟨by (try simp only [hl5_1]); (try simp only [hl5_2]); (with_reducible repeat (first | apply Kd.R_alloc | apply Kd.R_drewN | apply Kd.R_drew)); exact HO_7.out⟩, ⟨by (try simp only [hl5_1]); (try simp only [hl5_2]); (with_reducible repeat (first | refine zh0 ?_ _ | refine zi0 ?_ | refine zf0 ?_ _)); exact BK232.out⟩, ⟨by repeat (first | (with_reducible first | exact HB.out | apply zc0 | apply zb0 | apply zd0 | refine ze0 ?_ GE232.out) | exact HB.out)⟩⟩
              case round =>
               clear H'
               try clear c1
               try clear p1
               try clear q1
               try clear hx1
               try clear c2
               try clear p2
               try clear q2
               try clear hx2
               try clear c3
               try clear c3b0
               try clear c3b1
               try clear c4
               try clear c4b0
               try clear c4b1
               try clear p6
               try clear c8
               try clear c10
               try clear c10b0
               try clear c11
               try clear c11b0
               try clear c12
               try clear c12b0
               try clear p13
               try clear q13
               try clear hx13
               try clear hf13
               try clear c16
               try clear c16b0
               try clear c17
               try clear c17b0
               try clear p18
               try clear q18
               try clear hx18
               try clear hf18
               try clear c23
               try clear c23b0
               try clear c24
               try clear c24b0
               try clear p24
               try clear q24
               try clear hx24
               try clear c25
               try clear c25b0
               try clear c26
               try clear c26b0
               try clear hcz28_0
               try clear hcz6_0
               try clear hfz28_0
               try clear hfz6_0
               try clear hx13_0
               try clear hx18_0
               try clear hx241_0
               try clear hx242_0
               try clear p1
               try clear p13
               try clear p18
               try clear p2
               try clear p241
               try clear p242
               try clear p6
               try clear q1
               try clear q13
               try clear q18
               try clear q241
               try clear q242
               obtain ⟨x5_3, x7_3, x44_3, rfl, HA, HK3, HO_5, HO_7, BK232, HB⟩ := hrel
               have hl5_3 := (Kd.R_reads' HO_5.out).1
               rw [hl5_3] at HO_5
               (try simp only [hl5_3])
               (try simp only [hl5_3] at BK232)
               (try simp only [hl5_3] at HO_7)
               cases gk with
               | zero => exact absurd HA.out (by simp [spec_grFar.l2])
               | succ k3 =>
                have H := HA.out
                clear HA
                simp only [spec_grFar.l2] at H
                by_cases c29 : x44_3 < ((rd_L1 l0_0 (rd x7_2 x8_2)).length : Int)
                ·rw [if_pos c29] at H
                 have c29b0 : decide (x44_3 < ((rd_L1 l0_0 (rd x7_2 x8_2)).length : Int)) = true := decide_eq_true c29
                 (try (have c29b0h := c29b0; simp only [hl5_1, hl5_2, hl5_3] at c29b0h))
                 clear c29
                 by_cases c30 : 0 ≤ x44_3
                 ·rw [if_pos c30] at H
                  have c30b0 : decide (0 ≤ x44_3) = true := decide_eq_true c30
                  (try (have c30b0h := c30b0; simp only [hl5_1, hl5_2, hl5_3] at c30b0h))
                  clear c30
                  by_cases c31 : x44_3 < ((rd_L1 l0_0 (rd x7_2 x8_2)).length : Int)
                  ·rw [if_pos c31] at H
                   have c31b0 : decide (x44_3 < ((rd_L1 l0_0 (rd x7_2 x8_2)).length : Int)) = true := decide_eq_true c31
                   (try (have c31b0h := c31b0; simp only [hl5_1, hl5_2, hl5_3] at c31b0h))
                   clear c31
                   by_cases c32 : 0 ≤ (rd (rd_L1 l0_0 (rd x7_2 x8_2)) x44_3)
                   ·rw [if_pos c32] at H
                    have c32b0 : decide (0 ≤ (rd (rd_L1 l0_0 (rd x7_2 x8_2)) x44_3)) = true := decide_eq_true c32
                    (try (have c32b0h := c32b0; simp only [hl5_1, hl5_2, hl5_3] at c32b0h))
                    clear c32
                    by_cases c33 : (rd (rd_L1 l0_0 (rd x7_2 x8_2)) x44_3) < (x5_3.length : Int)
                    ·rw [if_pos c33] at H
                     have c33b0 : decide ((rd (rd_L1 l0_0 (rd x7_2 x8_2)) x44_3) < (x5_3.length : Int)) = true := decide_eq_true c33
                     (try (have c33b0h := c33b0; simp only [hl5_1, hl5_2, hl5_3] at c33b0h))
                     clear c33
                     by_cases c34 : (rd x5_3 (rd (rd_L1 l0_0 (rd x7_2 x8_2)) x44_3)) < 0
                     ·rw [if_pos c34] at H
                      have c34b0 : decide ((rd x5_3 (rd (rd_L1 l0_0 (rd x7_2 x8_2)) x44_3)) < 0) = true := decide_eq_true c34
                      (try (have c34b0h := c34b0; simp only [hl5_1, hl5_2, hl5_3] at c34b0h))
                      clear c34
                      by_cases c35 : 0 ≤ x8_2
                      ·rw [if_pos c35] at H
                       have c35b0 : decide (0 ≤ x8_2) = true := decide_eq_true c35
                       (try (have c35b0h := c35b0; simp only [hl5_1, hl5_2, hl5_3] at c35b0h))
                       clear c35
                       by_cases c36 : x8_2 < (x7_3.length : Int)
                       ·rw [if_pos c36] at H
                        have c36b0 : decide (x8_2 < (x7_3.length : Int)) = true := decide_eq_true c36
                        (try (have c36b0h := c36b0; simp only [hl5_1, hl5_2, hl5_3] at c36b0h))
                        clear c36
                        by_cases c37 : 0 ≤ (rd x7_3 x8_2)
                        ·rw [if_pos c37] at H
                         have c37b0 : decide (0 ≤ (rd x7_3 x8_2)) = true := decide_eq_true c37
                         (try (have c37b0h := c37b0; simp only [hl5_1, hl5_2, hl5_3] at c37b0h))
                         clear c37
                         by_cases c38 : (rd x7_3 x8_2) < (x5_3.length : Int)
                         ·rw [if_pos c38] at H
                          have c38b0 : decide ((rd x7_3 x8_2) < (x5_3.length : Int)) = true := decide_eq_true c38
                          (try (have c38b0h := c38b0; simp only [hl5_1, hl5_2, hl5_3] at c38b0h))
                          clear c38
                          obtain ⟨y247, hy247⟩ : ∃ y_ : List Int, y_ = (x5_3.set ((rd (rd_L1 l0_0 (rd x7_2 x8_2)) x44_3) : Int).toNat (wrap64 ((rd x5_3 (rd x7_3 x8_2)) + 1))) := ⟨_, rfl⟩
                          replace H : (if x7_3.length < 17592186044416 then (spec_grFar.l2 k3 y247 (x7_3 ++ [rd (rd_L1 l0_0 (rd x7_2 x8_2)) x44_3]) x8_2 (rd_L1 l0_0 (rd x7_2 x8_2)) ((rd_L1 l0_0 (rd x7_2 x8_2)).length : Int) (wrap64 (x44_3 + 1)) l0_0) else (none)) = some r := by first | (rw [hy247]; with_reducible exact H) | (have H2_ := (Option.bind_some _ _).symm.trans H; rw [hy247]; with_reducible exact H2_) | (have H2_ := (Option.bind_some _ _).symm.trans H; with_reducible exact H2_) | with_reducible exact H | (rw [hy247]; exact H) | exact H
                          have Ny247 := za0.mk hy247
                          clear hy247
                          by_cases c40 : x7_3.length < 17592186044416
                          ·rw [if_pos c40] at H
                           have LMc40 := za0.mk c40
                           clear c40
                           obtain ⟨y248, hy248⟩ : ∃ y_ : List Int, y_ = (x7_3 ++ [rd (rd_L1 l0_0 (rd x7_2 x8_2)) x44_3]) := ⟨_, rfl⟩
                           replace H : (spec_grFar.l2 k3 y247 y248 x8_2 (rd_L1 l0_0 (rd x7_2 x8_2)) ((rd_L1 l0_0 (rd x7_2 x8_2)).length : Int) (wrap64 (x44_3 + 1)) l0_0) = some r := by first | (rw [hy248]; with_reducible exact H) | (have H2_ := (Option.bind_some _ _).symm.trans H; rw [hy248]; with_reducible exact H2_) | (have H2_ := (Option.bind_some _ _).symm.trans H; with_reducible exact H2_) | with_reducible exact H | (rw [hy248]; exact H) | exact H
                           have Ny248 := za0.mk hy248
                           clear hy248
                           have H' := za0.mk H
                           clear H
                           have p243 : 0 ≤ (x44_3 : Int) := of_decide_eq_true (by first | (with_reducible assumption) | assumption)
                           have q243 : x44_3 < ((rd_L1 l0_0 (rd x7_2 x8_2)).length : Int) := of_decide_eq_true (by first | (with_reducible assumption) | assumption)
                           obtain ⟨ad243, e243, hx243_0⟩ := Kd.at_int HR242_0.out x44_3 p243 q243
                           cases e243
                           replace hx243_0 := (HB.out.cell (World.block_lt_of_cell? w _ hx243_0)).trans hx243_0
                           replace p243 := eq_true p243
                           replace q243 := eq_true q243
                           have p244 : 0 ≤ ((rd (rd_L1 l0_0 (rd x7_2 x8_2)) x44_3) : Int) := of_decide_eq_true (by first | (with_reducible assumption) | assumption)
                           have q244 : (rd (rd_L1 l0_0 (rd x7_2 x8_2)) x44_3) < (x5_3.length : Int) := of_decide_eq_true (by first | (with_reducible assumption) | assumption)
                           obtain ⟨ad244, e244, hx244_0⟩ := Kd.at_int (Kd.R_reads' HO_5.out).2.2 (rd (rd_L1 l0_0 (rd x7_2 x8_2)) x44_3) p244 q244
                           obtain rfl : (⟨go18, 0, none⟩ : Addr) = ad244 := (by injection e244)
                           (first | simp only [add_plain] at hx244_0 | simp only [add_at] at hx244_0 | simp only [Addr.add, Nat.zero_add] at hx244_0 | skip)
                           replace p244 := eq_true p244
                           replace q244 := eq_true q244
                           obtain ⟨Ao41, co41, eo41⟩ := Kd.R_slice HO_7.out
                           subst eo41
                           have p245 : 0 ≤ (x8_2 : Int) := of_decide_eq_true (by first | (with_reducible assumption) | assumption)
                           have q245 : x8_2 < (x7_3.length : Int) := of_decide_eq_true (by first | (with_reducible assumption) | assumption)
                           obtain ⟨ad245, e245, hx245_0⟩ := Kd.at_int (Kd.R_reads' HO_7.out).2.2 x8_2 p245 q245
                           cases e245
                           replace p245 := eq_true p245
                           replace q245 := eq_true q245
                           have p246 : 0 ≤ ((rd x7_3 x8_2) : Int) := of_decide_eq_true (by first | (with_reducible assumption) | assumption)
                           have q246 : (rd x7_3 x8_2) < (x5_3.length : Int) := of_decide_eq_true (by first | (with_reducible assumption) | assumption)
                           obtain ⟨ad246, e246, hx246_0⟩ := Kd.at_int (Kd.R_reads' HO_5.out).2.2 (rd x7_3 x8_2) p246 q246
                           obtain rfl : (⟨go18, 0, none⟩ : Addr) = ad246 := (by injection e246)
                           (first | simp only [add_plain] at hx246_0 | simp only [add_at] at hx246_0 | simp only [Addr.add, Nat.zero_add] at hx246_0 | skip)
                           replace p246 := eq_true p246
                           replace q246 := eq_true q246
                           have p39 : 0 ≤ ((rd (rd_L1 l0_0 (rd x7_2 x8_2)) x44_3) : Int) := of_decide_eq_true (by first | (with_reducible assumption) | assumption)
                           have q39 : ((rd (rd_L1 l0_0 (rd x7_2 x8_2)) x44_3) : Int) < ((x5_3.length : Int) : Int) := of_decide_eq_true (by first | (with_reducible assumption) | assumption)
                           obtain ⟨hx39_0, hf39_0⟩ := Kd.R_celln 0 HO_5.out ((rd (rd_L1 l0_0 (rd x7_2 x8_2)) x44_3) : Int) p39 q39
                           replace p39 := eq_true p39
                           replace q39 := eq_true q39
                           have HP42 := Kd.R_putg HO_5.out ((rd (rd_L1 l0_0 (rd x7_2 x8_2)) x44_3) : Int) (wrap64 ((rd x5_3 (rd x7_3 x8_2)) + 1))
                           go_wp2_with (first | ((with_reducible refine gate_store (t := 3) (p := 63) rfl ?_); (try (rw [drewN_self wr]; generalize hq_ : World.drewN wr _ = wr; have n0_ := za0.mk (Kd.R_at hq_ HO_5.out); have n1_ := za0.mk (Kd.R_at hq_ HO_7.out); have n2_ := za0.mk (blk_at hq_ BK232.out); have n3_ := za0.mk (below_at hq_ HB.out); clear hq_ HO_5 HO_7 BK232 HB; have HO_5 := n0_; have HO_7 := n1_; have BK232 := n2_; have HB := n3_; clear n0_ n1_ n2_ n3_; (try (have HP42 := Kd.R_putg HO_5.out ((rd (rd_L1 l0_0 (rd x7_2 x8_2)) x44_3) : Int) (wrap64 ((rd x5_3 (rd x7_3 x8_2)) + 1)))))); refine store_event (t := 3) (p := 63) (v := ?vo_w43) (w1 := (wr.setCell ⟨go18, ((rd (rd_L1 l0_0 (rd x7_2 x8_2)) x44_3) : Int).toNat, none⟩ (.int .i64 (wrap64 ((rd x5_3 (rd x7_3 x8_2)) + 1))))) ?hg ?ho ?hn ?hr ?_; (case ho => rfl); (case hg => rfl); (case hn => rfl); (case hr => first | (go_simp; done) | (go_simp; rfl)); intro w43 hw; have hg : wr.grownBy w43 (some go18) := (by rw [hw]; exact HP42.2); have hp_ : Kd.R (Kd.int .i64) 3 w43 w.heap.size (fun k_ => some k_ ≠ (.slice (some ad245) x7_3.length co41 : Value).ownBlock) (.slice (some ⟨go18, 0, none⟩) x5_3.length co9) y247 := (by rw [hw, Ny247.out]; exact HP42.1); clear HP42; have n0_ := za0.mk (hp_); have n1_ := za0.mk (Kd.R_after (v := (.slice (some ⟨go18, 0, none⟩) x5_3.length co9)) (v1 := (.slice (some ⟨go18, 0, none⟩) x5_3.length co9)) (ok := (fun _ => True)) (by (with_reducible repeat (first | apply Kd.R_alloc | apply Kd.R_drewN | apply Kd.R_drew)); exact Kd.R_mono HO_7.out (fun _ hk => ⟨trivial, hk⟩)) hg (.inl rfl)); have n2_ := za0.mk (zy0 (g := gb232) (o := .cells #[.slice (some ad242) l0_0.length c0_0] 29 (0, 0)) (by (with_reducible repeat (first | refine zh0 ?_ _ | refine zi0 ?_ | refine zf0 ?_ _)); exact BK232.out) hg (Kd.R_ne HO_5.out BK232.out (by decide))); have n3_ := za0.mk ((by rw [hw]; exact ze0 (HB.out) GB18.out : Below w.heap.size w w43)); clear HO_5; clear HO_7; clear BK232; clear HB; have HO_5 := n0_; have HO_7 := n1_; have BK232 := n2_; have HB := n3_; clear n0_ n1_ n2_ n3_; clear hg hw hp_) | ((with_reducible refine gate_builtin (b := .append) (xs := #[.tmp 64, .tmp 66]) rfl ?_); at_builtin; refine Kd.R_append (Kd.int .i64) (w0 := w) w.heap.size rfl (.tmp 64) (.tmp 66) 25 3 (.int .i64 0) 8 rfl Try.underlying25 info3 rfl (by decide) (by omega) (.slice (some ad245) x7_3.length co41) x7_3 (rd (rd_L1 l0_0 (rd x7_2 x8_2)) x44_3) [.int .i64 (rd (rd_L1 l0_0 (rd x7_2 x8_2)) x44_3)] (fun k_ => some k_ ≠ (.slice (some ⟨go18, 0, none⟩) x5_3.length co9 : Value).ownBlock) (fun _ => False) rfl rfl ?aP (fun _ hk => hk.elim) ?aF ?aO ?aB ?aS ?aL ?_; (case aP => exact rfl); (case aB => exact (by repeat (first | (with_reducible first | exact HB.out | apply zc0 | apply zb0 | apply zd0 | refine ze0 ?_ GE232.out) | exact HB.out))); (case aF => exact (fun k_ hk => Kd.fresh' (Kd.R_lt (by (with_reducible repeat (first | apply Kd.R_alloc | apply Kd.R_drewN | apply Kd.R_drew)); exact HO_5.out)) k_ hk)); (case aO => exact (by (with_reducible repeat (first | apply Kd.R_alloc | apply Kd.R_drewN | apply Kd.R_drew)); exact Kd.R_mono HO_7.out (fun _ hk => hk.2))); (case aS => exact (zg0 (by repeat (first | (with_reducible first | exact HB.out | apply zc0 | apply zb0 | apply zd0 | refine ze0 ?_ GE232.out) | exact HB.out)))); (case aL => have := LMc40.out; omega); intro v249 w44 ho hb hg hat; rw [← Ny248.out] at ho; have n0_ := za0.mk (Kd.R_after (ok := (fun _ => True)) (by (with_reducible repeat (first | apply Kd.R_alloc | apply Kd.R_drewN | apply Kd.R_drew)); exact Kd.R_mono HO_5.out (fun _ hk => ⟨trivial, hk⟩)) hg hat); have n1_ := za0.mk (zy0 (g := gb232) (o := .cells #[.slice (some ad242) l0_0.length c0_0] 29 (0, 0)) (by (with_reducible repeat (first | refine zh0 ?_ _ | refine zi0 ?_ | refine zf0 ?_ _)); exact BK232.out) hg (Kd.R_ne HO_7.out BK232.out (by decide))); have n2_ := za0.mk (hb); have n3_ := za0.mk (ho); clear HO_5; clear BK232; clear HB; clear HO_7; have HO_5 := n0_; have BK232 := n1_; have HB := n2_; have HO250 := n3_; clear n0_ n1_ n2_ n3_; clear ho hb hg hat))
                           repeat (go_quiet (first | ((with_reducible refine gate_store (t := 3) (p := 63) rfl ?_); (try (rw [drewN_self wr]; generalize hq_ : World.drewN wr _ = wr; have n0_ := za0.mk (Kd.R_at hq_ HO_5.out); have n1_ := za0.mk (Kd.R_at hq_ HO_7.out); have n2_ := za0.mk (blk_at hq_ BK232.out); have n3_ := za0.mk (below_at hq_ HB.out); clear hq_ HO_5 HO_7 BK232 HB; have HO_5 := n0_; have HO_7 := n1_; have BK232 := n2_; have HB := n3_; clear n0_ n1_ n2_ n3_; (try (have HP42 := Kd.R_putg HO_5.out ((rd (rd_L1 l0_0 (rd x7_2 x8_2)) x44_3) : Int) (wrap64 ((rd x5_3 (rd x7_3 x8_2)) + 1)))))); refine store_event (t := 3) (p := 63) (v := ?vo_w43) (w1 := (wr.setCell ⟨go18, ((rd (rd_L1 l0_0 (rd x7_2 x8_2)) x44_3) : Int).toNat, none⟩ (.int .i64 (wrap64 ((rd x5_3 (rd x7_3 x8_2)) + 1))))) ?hg ?ho ?hn ?hr ?_; (case ho => rfl); (case hg => rfl); (case hn => rfl); (case hr => first | (go_simp; done) | (go_simp; rfl)); intro w43 hw; have hg : wr.grownBy w43 (some go18) := (by rw [hw]; exact HP42.2); have hp_ : Kd.R (Kd.int .i64) 3 w43 w.heap.size (fun k_ => some k_ ≠ (.slice (some ad245) x7_3.length co41 : Value).ownBlock) (.slice (some ⟨go18, 0, none⟩) x5_3.length co9) y247 := (by rw [hw, Ny247.out]; exact HP42.1); clear HP42; have n0_ := za0.mk (hp_); have n1_ := za0.mk (Kd.R_after (v := (.slice (some ⟨go18, 0, none⟩) x5_3.length co9)) (v1 := (.slice (some ⟨go18, 0, none⟩) x5_3.length co9)) (ok := (fun _ => True)) (by (with_reducible repeat (first | apply Kd.R_alloc | apply Kd.R_drewN | apply Kd.R_drew)); exact Kd.R_mono HO_7.out (fun _ hk => ⟨trivial, hk⟩)) hg (.inl rfl)); have n2_ := za0.mk (zy0 (g := gb232) (o := .cells #[.slice (some ad242) l0_0.length c0_0] 29 (0, 0)) (by (with_reducible repeat (first | refine zh0 ?_ _ | refine zi0 ?_ | refine zf0 ?_ _)); exact BK232.out) hg (Kd.R_ne HO_5.out BK232.out (by decide))); have n3_ := za0.mk ((by rw [hw]; exact ze0 (HB.out) GB18.out : Below w.heap.size w w43)); clear HO_5; clear HO_7; clear BK232; clear HB; have HO_5 := n0_; have HO_7 := n1_; have BK232 := n2_; have HB := n3_; clear n0_ n1_ n2_ n3_; clear hg hw hp_) | ((with_reducible refine gate_builtin (b := .append) (xs := #[.tmp 64, .tmp 66]) rfl ?_); at_builtin; refine Kd.R_append (Kd.int .i64) (w0 := w) w.heap.size rfl (.tmp 64) (.tmp 66) 25 3 (.int .i64 0) 8 rfl Try.underlying25 info3 rfl (by decide) (by omega) (.slice (some ad245) x7_3.length co41) x7_3 (rd (rd_L1 l0_0 (rd x7_2 x8_2)) x44_3) [.int .i64 (rd (rd_L1 l0_0 (rd x7_2 x8_2)) x44_3)] (fun k_ => some k_ ≠ (.slice (some ⟨go18, 0, none⟩) x5_3.length co9 : Value).ownBlock) (fun _ => False) rfl rfl ?aP (fun _ hk => hk.elim) ?aF ?aO ?aB ?aS ?aL ?_; (case aP => exact rfl); (case aB => exact (by repeat (first | (with_reducible first | exact HB.out | apply zc0 | apply zb0 | apply zd0 | refine ze0 ?_ GE232.out) | exact HB.out))); (case aF => exact (fun k_ hk => Kd.fresh' (Kd.R_lt (by (with_reducible repeat (first | apply Kd.R_alloc | apply Kd.R_drewN | apply Kd.R_drew)); exact HO_5.out)) k_ hk)); (case aO => exact (by (with_reducible repeat (first | apply Kd.R_alloc | apply Kd.R_drewN | apply Kd.R_drew)); exact Kd.R_mono HO_7.out (fun _ hk => hk.2))); (case aS => exact (zg0 (by repeat (first | (with_reducible first | exact HB.out | apply zc0 | apply zb0 | apply zd0 | refine ze0 ?_ GE232.out) | exact HB.out)))); (case aL => have := LMc40.out; omega); intro v249 w44 ho hb hg hat; rw [← Ny248.out] at ho; have n0_ := za0.mk (Kd.R_after (ok := (fun _ => True)) (by (with_reducible repeat (first | apply Kd.R_alloc | apply Kd.R_drewN | apply Kd.R_drew)); exact Kd.R_mono HO_5.out (fun _ hk => ⟨trivial, hk⟩)) hg hat); have n1_ := za0.mk (zy0 (g := gb232) (o := .cells #[.slice (some ad242) l0_0.length c0_0] 29 (0, 0)) (by (with_reducible repeat (first | refine zh0 ?_ _ | refine zi0 ?_ | refine zf0 ?_ _)); exact BK232.out) hg (Kd.R_ne HO_7.out BK232.out (by decide))); have n2_ := za0.mk (hb); have n3_ := za0.mk (ho); clear HO_5; clear BK232; clear HB; clear HO_7; have HO_5 := n0_; have BK232 := n1_; have HB := n2_; have HO250 := n3_; clear n0_ n1_ n2_ n3_; clear ho hb hg hat)); try go_wp2_with (first | ((with_reducible refine gate_store (t := 3) (p := 63) rfl ?_); (try (rw [drewN_self wr]; generalize hq_ : World.drewN wr _ = wr; have n0_ := za0.mk (Kd.R_at hq_ HO_5.out); have n1_ := za0.mk (Kd.R_at hq_ HO_7.out); have n2_ := za0.mk (blk_at hq_ BK232.out); have n3_ := za0.mk (below_at hq_ HB.out); clear hq_ HO_5 HO_7 BK232 HB; have HO_5 := n0_; have HO_7 := n1_; have BK232 := n2_; have HB := n3_; clear n0_ n1_ n2_ n3_; (try (have HP42 := Kd.R_putg HO_5.out ((rd (rd_L1 l0_0 (rd x7_2 x8_2)) x44_3) : Int) (wrap64 ((rd x5_3 (rd x7_3 x8_2)) + 1)))))); refine store_event (t := 3) (p := 63) (v := ?vo_w43) (w1 := (wr.setCell ⟨go18, ((rd (rd_L1 l0_0 (rd x7_2 x8_2)) x44_3) : Int).toNat, none⟩ (.int .i64 (wrap64 ((rd x5_3 (rd x7_3 x8_2)) + 1))))) ?hg ?ho ?hn ?hr ?_; (case ho => rfl); (case hg => rfl); (case hn => rfl); (case hr => first | (go_simp; done) | (go_simp; rfl)); intro w43 hw; have hg : wr.grownBy w43 (some go18) := (by rw [hw]; exact HP42.2); have hp_ : Kd.R (Kd.int .i64) 3 w43 w.heap.size (fun k_ => some k_ ≠ (.slice (some ad245) x7_3.length co41 : Value).ownBlock) (.slice (some ⟨go18, 0, none⟩) x5_3.length co9) y247 := (by rw [hw, Ny247.out]; exact HP42.1); clear HP42; have n0_ := za0.mk (hp_); have n1_ := za0.mk (Kd.R_after (v := (.slice (some ⟨go18, 0, none⟩) x5_3.length co9)) (v1 := (.slice (some ⟨go18, 0, none⟩) x5_3.length co9)) (ok := (fun _ => True)) (by (with_reducible repeat (first | apply Kd.R_alloc | apply Kd.R_drewN | apply Kd.R_drew)); exact Kd.R_mono HO_7.out (fun _ hk => ⟨trivial, hk⟩)) hg (.inl rfl)); have n2_ := za0.mk (zy0 (g := gb232) (o := .cells #[.slice (some ad242) l0_0.length c0_0] 29 (0, 0)) (by (with_reducible repeat (first | refine zh0 ?_ _ | refine zi0 ?_ | refine zf0 ?_ _)); exact BK232.out) hg (Kd.R_ne HO_5.out BK232.out (by decide))); have n3_ := za0.mk ((by rw [hw]; exact ze0 (HB.out) GB18.out : Below w.heap.size w w43)); clear HO_5; clear HO_7; clear BK232; clear HB; have HO_5 := n0_; have HO_7 := n1_; have BK232 := n2_; have HB := n3_; clear n0_ n1_ n2_ n3_; clear hg hw hp_) | ((with_reducible refine gate_builtin (b := .append) (xs := #[.tmp 64, .tmp 66]) rfl ?_); at_builtin; refine Kd.R_append (Kd.int .i64) (w0 := w) w.heap.size rfl (.tmp 64) (.tmp 66) 25 3 (.int .i64 0) 8 rfl Try.underlying25 info3 rfl (by decide) (by omega) (.slice (some ad245) x7_3.length co41) x7_3 (rd (rd_L1 l0_0 (rd x7_2 x8_2)) x44_3) [.int .i64 (rd (rd_L1 l0_0 (rd x7_2 x8_2)) x44_3)] (fun k_ => some k_ ≠ (.slice (some ⟨go18, 0, none⟩) x5_3.length co9 : Value).ownBlock) (fun _ => False) rfl rfl ?aP (fun _ hk => hk.elim) ?aF ?aO ?aB ?aS ?aL ?_; (case aP => exact rfl); (case aB => exact (by repeat (first | (with_reducible first | exact HB.out | apply zc0 | apply zb0 | apply zd0 | refine ze0 ?_ GE232.out) | exact HB.out))); (case aF => exact (fun k_ hk => Kd.fresh' (Kd.R_lt (by (with_reducible repeat (first | apply Kd.R_alloc | apply Kd.R_drewN | apply Kd.R_drew)); exact HO_5.out)) k_ hk)); (case aO => exact (by (with_reducible repeat (first | apply Kd.R_alloc | apply Kd.R_drewN | apply Kd.R_drew)); exact Kd.R_mono HO_7.out (fun _ hk => hk.2))); (case aS => exact (zg0 (by repeat (first | (with_reducible first | exact HB.out | apply zc0 | apply zb0 | apply zd0 | refine ze0 ?_ GE232.out) | exact HB.out)))); (case aL => have := LMc40.out; omega); intro v249 w44 ho hb hg hat; rw [← Ny248.out] at ho; have n0_ := za0.mk (Kd.R_after (ok := (fun _ => True)) (by (with_reducible repeat (first | apply Kd.R_alloc | apply Kd.R_drewN | apply Kd.R_drew)); exact Kd.R_mono HO_5.out (fun _ hk => ⟨trivial, hk⟩)) hg hat); have n1_ := za0.mk (zy0 (g := gb232) (o := .cells #[.slice (some ad242) l0_0.length c0_0] 29 (0, 0)) (by (with_reducible repeat (first | refine zh0 ?_ _ | refine zi0 ?_ | refine zf0 ?_ _)); exact BK232.out) hg (Kd.R_ne HO_7.out BK232.out (by decide))); have n2_ := za0.mk (hb); have n3_ := za0.mk (ho); clear HO_5; clear BK232; clear HB; clear HO_7; have HO_5 := n0_; have BK232 := n1_; have HB := n2_; have HO250 := n3_; clear n0_ n1_ n2_ n3_; clear ho hb hg hat)))
                           (try simp only [← hl5_3])
                           go_roundg k3
                           case measure => have := HK1.out; have := HK2.out; have := HK3.out; omega
                           case rel => exact ⟨(y247), (y248), (wrap64 (x44_3 + 1)), (by first | rfl | (simp; done) | (simp [*]; done)), H', ⟨by have := HK1.out; have := HK2.out; have := HK3.out; omega⟩, ⟨by (try simp only [hl5_1]); (try simp only [hl5_2]); (try simp only [hl5_3]); (with_reducible repeat (first | apply Kd.R_alloc | apply Kd.R_drewN | apply Kd.R_drew)); exact Kd.R_mono HO_5.out (fun _ hk => hk.2)⟩, ⟨by (try simp only [hl5_1]); (try simp only [hl5_2]); (try simp only [hl5_3]); (with_reducible repeat (first | apply Kd.R_alloc | apply Kd.R_drewN | apply Kd.R_drew)); exact HO250.out⟩, ⟨by (try simp only [hl5_1]); (try simp only [hl5_2]); (try simp only [hl5_3]); (with_reducible repeat (first | refine zh0 ?_ _ | refine zi0 ?_ | refine zf0 ?_ _)); exact BK232.out⟩, ⟨by repeat (first | (with_reducible first | exact HB.out | apply zc0 | apply zb0 | apply zd0 | refine ze0 ?_ GE232.out) | exact HB.out)⟩⟩
                          ·rw [if_neg c40] at H
                           exact absurd H (by simp)
                         ·rw [if_neg c38] at H
                          exact absurd H (by simp)
                        ·rw [if_neg c37] at H
                         exact absurd H (by simp)
                       ·rw [if_neg c36] at H
                        exact absurd H (by simp)
                      ·rw [if_neg c35] at H
                       exact absurd H (by simp)
                     ·rw [if_neg c34] at H
                      have c34b0 : decide ((rd x5_3 (rd (rd_L1 l0_0 (rd x7_2 x8_2)) x44_3)) < 0) = false := decide_eq_false c34
                      (try (have c34b0h := c34b0; simp only [hl5_1, hl5_2, hl5_3] at c34b0h))
                      clear c34
                      have H' := za0.mk H
                      clear H
                      have p243 : 0 ≤ (x44_3 : Int) := of_decide_eq_true (by first | (with_reducible assumption) | assumption)
                      have q243 : x44_3 < ((rd_L1 l0_0 (rd x7_2 x8_2)).length : Int) := of_decide_eq_true (by first | (with_reducible assumption) | assumption)
                      obtain ⟨ad243, e243, hx243_0⟩ := Kd.at_int HR242_0.out x44_3 p243 q243
                      cases e243
                      replace hx243_0 := (HB.out.cell (World.block_lt_of_cell? w _ hx243_0)).trans hx243_0
                      replace p243 := eq_true p243
                      replace q243 := eq_true q243
                      have p244 : 0 ≤ ((rd (rd_L1 l0_0 (rd x7_2 x8_2)) x44_3) : Int) := of_decide_eq_true (by first | (with_reducible assumption) | assumption)
                      have q244 : (rd (rd_L1 l0_0 (rd x7_2 x8_2)) x44_3) < (x5_3.length : Int) := of_decide_eq_true (by first | (with_reducible assumption) | assumption)
                      obtain ⟨ad244, e244, hx244_0⟩ := Kd.at_int (Kd.R_reads' HO_5.out).2.2 (rd (rd_L1 l0_0 (rd x7_2 x8_2)) x44_3) p244 q244
                      obtain rfl : (⟨go18, 0, none⟩ : Addr) = ad244 := (by injection e244)
                      (first | simp only [add_plain] at hx244_0 | simp only [add_at] at hx244_0 | simp only [Addr.add, Nat.zero_add] at hx244_0 | skip)
                      replace p244 := eq_true p244
                      replace q244 := eq_true q244
                      go_wp2
                      repeat (go_quiet (fail); try go_wp2)
                      (try simp only [← hl5_3])
                      go_roundg k3
                      case measure => have := HK1.out; have := HK2.out; have := HK3.out; omega
                      case rel => exact ⟨(x5_3), (x7_3), (wrap64 (x44_3 + 1)), (by first | rfl | (simp; done) | (simp [*]; done)), H', ⟨by have := HK1.out; have := HK2.out; have := HK3.out; omega⟩, ⟨by (try simp only [hl5_1]); (try simp only [hl5_2]); (try simp only [hl5_3]); (with_reducible repeat (first | apply Kd.R_alloc | apply Kd.R_drewN | apply Kd.R_drew)); exact HO_5.out⟩, ⟨by (try simp only [hl5_1]); (try simp only [hl5_2]); (try simp only [hl5_3]); (with_reducible repeat (first | apply Kd.R_alloc | apply Kd.R_drewN | apply Kd.R_drew)); exact HO_7.out⟩, ⟨by (try simp only [hl5_1]); (try simp only [hl5_2]); (try simp only [hl5_3]); (with_reducible repeat (first | refine zh0 ?_ _ | refine zi0 ?_ | refine zf0 ?_ _)); exact BK232.out⟩, ⟨by repeat (first | (with_reducible first | exact HB.out | apply zc0 | apply zb0 | apply zd0 | refine ze0 ?_ GE232.out) | exact HB.out)⟩⟩
                    ·rw [if_neg c33] at H
                     exact absurd H (by simp)
                   ·rw [if_neg c32] at H
                    exact absurd H (by simp)
                  ·rw [if_neg c31] at H
                   exact absurd H (by simp)
                 ·rw [if_neg c30] at H
                  exact absurd H (by simp)
                ·rw [if_neg c29] at H
                 have c29b0 : decide (x44_3 < ((rd_L1 l0_0 (rd x7_2 x8_2)).length : Int)) = false := decide_eq_false c29
                 (try (have c29b0h := c29b0; simp only [hl5_1, hl5_2, hl5_3] at c29b0h))
                 clear c29
                 have H' := za0.mk H
                 clear H
                 go_wp2
                 repeat (go_quiet (fail); try go_wp2)
                 (try simp only [← hl5_2, ← hl5_3])
                 go_roundg k3
                 case measure => have := HK1.out; have := HK2.out; have := HK3.out; omega
                 case rel => exact ⟨(x5_3), (x7_3), (wrap64 (x8_2 + 1)), (by first | rfl | (simp; done) | (simp [*]; done)), H', ⟨by have := HK1.out; have := HK2.out; have := HK3.out; omega⟩, ⟨by (try simp only [hl5_1]); (try simp only [hl5_2]); (try simp only [hl5_3]); (with_reducible repeat (first | apply Kd.R_alloc | apply Kd.R_drewN | apply Kd.R_drew)); exact HO_5.out⟩, ⟨by (try simp only [hl5_1]); (try simp only [hl5_2]); (try simp only [hl5_3]); (with_reducible repeat (first | apply Kd.R_alloc | apply Kd.R_drewN | apply Kd.R_drew)); exact HO_7.out⟩, ⟨by (try simp only [hl5_1]); (try simp only [hl5_2]); (try simp only [hl5_3]); (with_reducible repeat (first | refine zh0 ?_ _ | refine zi0 ?_ | refine zf0 ?_ _)); exact BK232.out⟩, ⟨by repeat (first | (with_reducible first | exact HB.out | apply zc0 | apply zb0 | apply zd0 | refine ze0 ?_ GE232.out) | exact HB.out)⟩⟩
             ·rw [if_neg c26] at H
              exact absurd H (by simp)
            ·rw [if_neg c25] at H
             exact absurd H (by simp)
           ·rw [if_neg c24] at H
            exact absurd H (by simp)
          ·rw [if_neg c23] at H
           have c23b0 : decide (x8_2 < (x7_2.length : Int)) = false := decide_eq_false c23
           (try (have c23b0h := c23b0; simp only [hl5_1, hl5_2] at c23b0h))
           clear c23
           obtain rfl := Option.some.inj H
           obtain ⟨Ao45, co45, eo45⟩ := Kd.R_slice HO_7.out
           subst eo45
           go_wp2
           repeat (go_quiet (fail); try go_wp2)
           go_ret
           exact ⟨_, by first | rfl | (simp [errW_none, errW_some] <;> rfl) | (simp [*, errW_none, errW_some] <;> rfl), by (with_reducible repeat (first | apply Kd.R_alloc | apply Kd.R_drewN | apply Kd.R_drew)); exact Kd.R_mono HO_5.out (fun _ hk => trivial), by repeat (first | (with_reducible first | exact HB.out | apply zc0 | apply zb0 | apply zd0 | refine ze0 ?_ GE232.out) | exact HB.out)⟩
       ·rw [if_neg c17] at H
        exact absurd H (by simp)
      ·rw [if_neg c16] at H
       exact absurd H (by simp)
  ·rw [if_neg c4] at H
   exact absurd H (by simp)
 ·rw [if_neg c3] at H
  exact absurd H (by simp)
def spec_grLeads.l0 : Nat → Int → Int → Int → List (List Int) → Option (Bool)
 | 0, _, _, _, _ => none
 | k + 1, x1, x8, x9, x252000 => if x9 < x8 then ((spec_grFar.f k x252000 x9).bind fun t252 => (if 0 ≤ x1 then (if x1 < (t252.length : Int) then (if (rd t252 x1) < 0 then (some false) else (spec_grLeads.l0 k x1 x8 (wrap64 (x9 + 1)) x252000)) else (none)) else (none))) else (some true)
def spec_grLeads.f (k : Nat) (l0_0 : List (List Int)) (a1 : Int) : Option (Bool) := spec_grLeads.l0 k a1 (l0_0.length : Int) 0 l0_0
theorem spec_grLeads.mono_l : ∀ k, (∀ y0 y1 y2 y3, LeO (spec_grLeads.l0 k y0 y1 y2 y3) (spec_grLeads.l0 (k + 1) y0 y1 y2 y3))
 | 0 => fun _ _ _ _ r h => by simp [spec_grLeads.l0] at h
 | k + 1 => by
  have ih0 := spec_grLeads.mono_l k
  ·intro y0 y1 y2 y3
   unfold spec_grLeads.l0
   repeat' first
   | (with_reducible exact ih0 _ _ _ _)
   | (with_reducible exact spec_grFar.mono _ _ _)
   | (with_reducible exact LeO.refl _)
   | (with_reducible exact LeO.none _)
   | (with_reducible refine LeO.ite ?_ ?_)
   | (with_reducible refine LeO.bind ?_ (fun _ => ?_))
   | exact ih0 _ _ _ _
   | exact spec_grFar.mono _ _ _
   | exact LeO.none _
   | refine LeO.ite ?_ ?_
   | refine LeO.bind ?_ (fun _ => ?_)
theorem spec_grLeads.mono : ∀ a0 a1 k, LeO (spec_grLeads.f k a0 a1) (spec_grLeads.f (k + 1) a0 a1) := by
 intro a0 a1 k
 have ih0 := spec_grLeads.mono_l k
 unfold spec_grLeads.f
 repeat' first
   | (with_reducible exact ih0 _ _ _ _)
   | (with_reducible exact spec_grFar.mono _ _ _)
   | (with_reducible exact LeO.refl _)
   | (with_reducible exact LeO.none _)
   | (with_reducible refine LeO.ite ?_ ?_)
   | (with_reducible refine LeO.bind ?_ (fun _ => ?_))
   | exact ih0 _ _ _ _
   | exact spec_grFar.mono _ _ _
   | exact LeO.none _
   | refine LeO.ite ?_ ?_
   | refine LeO.bind ?_ (fun _ => ?_)
set_option maxHeartbeats 8000000 in
set_option maxRecDepth 100000 in
theorem spec_grLeads.calls (k : Nat) (A0_0 : Option Addr) (c0_0 : Nat) (l0_0 : List (List Int)) (a1 : Int) (r : Bool) (w : World) (hr0_0 : Kd.C (Kd.slice 3 (Kd.int .i64)) w A0_0 l0_0.length l0_0) (hc0_0 : l0_0.length ≤ c0_0) (h : spec_grLeads.f k l0_0 a1 = some r) :
  Calls Try.prog 73 #[.agg #[.slice A0_0 l0_0.length c0_0], .int .i64 a1] w fun e w' => e = .returned (.bool r) ∧ Below w.heap.size w w' := by
 have hu29 := Try.underlying29
 have HR0_0 := za0.mk hr0_0
 have HC0_0 := za0.mk hc0_0
 clear hr0_0 hc0_0
 have HB := za0.mk (Below.refl w.heap.size w)
 have H : (spec_grLeads.l0 k a1 (l0_0.length : Int) 0 l0_0) = some r := h
 clear h
 have H' := za0.mk H
 clear H
 go_enter Try.func73, Try.ntmps73
 go_wp2_with (first | ((with_reducible refine zn0 (N := 2) rfl ?_); refine zo0 ?hg (N := 2) ?hd (cs := #[.slice A0_0 l0_0.length c0_0]) (t := 29) ?hr ?_; (case hd => rfl); (case hg => rfl); (case hr => first | (go_simp; done) | (go_simp; rfl)); intro gb251 hg w3 hbox hb; have n0_ := za0.mk (zj0 (by repeat (first | (with_reducible first | exact HB.out | apply zc0 | apply zb0 | apply zd0) | exact HB.out)) hb); have n1_ := za0.mk (hbox); have n2_ := za0.mk ((by rw [hg]; exact (zg0 (by repeat (first | (with_reducible first | exact HB.out | apply zc0 | apply zb0 | apply zd0) | exact HB.out))) : w.heap.size ≤ gb251)); have n3_ := za0.mk ((by rw [hg]; exact (zg0 (by repeat (first | (with_reducible first | exact HB.out | apply zc0 | apply zb0 | apply zd0) | exact HB.out))) : w.heap.size ≤ gb251)); clear HB; have HB := n0_; have BK251 := n1_; have GW251 := n2_; have GE251 := n3_; clear n0_ n1_ n2_ n3_; clear hb hbox hg; have hcz4_0 : w3.cell? ⟨gb251, 0, none⟩ = some (.slice A0_0 l0_0.length c0_0) := (zk0 BK251.out 0).trans rfl; have hfz4_0 := zm0 BK251.out 0))
 go_loopg [9] k (fun kq v9 w' => ∃ (x9_1 : Int), v9 = .int .i64 x9_1 ∧ za0 (spec_grLeads.l0 kq a1 (l0_0.length : Int) x9_1 l0_0 = some r) ∧ za0 (kq ≤ k) ∧ za0 (w'.heap[gb251]? = some (.cells #[(.slice A0_0 l0_0.length c0_0)] 29 (0, 0))) ∧ za0 (Below w.heap.size w w'))
 case atStart => exact ⟨(0), (by first | rfl | (simp; done) | (simp [*]; done)), H', ⟨Nat.le_refl _⟩, ⟨by (with_reducible repeat (first | refine zh0 ?_ _ | refine zi0 ?_ | refine zf0 ?_ _)); exact BK251.out⟩, ⟨by repeat (first | (with_reducible first | exact HB.out | apply zc0 | apply zb0 | apply zd0 | refine ze0 ?_ GE251.out) | exact HB.out)⟩⟩
 case round =>
  clear H'
  try clear p2
  try clear hcz4_0
  try clear hfz4_0
  obtain ⟨x9_1, rfl, HA, HK1, BK251, HB⟩ := hrel
  cases gk with
  | zero => exact absurd HA.out (by simp [spec_grLeads.l0])
  | succ k1 =>
   have H := HA.out
   clear HA
   simp only [spec_grLeads.l0] at H
   by_cases c5 : x9_1 < (l0_0.length : Int)
   ·rw [if_pos c5] at H
    have c5b0 : decide (x9_1 < (l0_0.length : Int)) = true := decide_eq_true c5
    clear c5
    replace H := Option.bind_eq_some_iff.mp H
    obtain ⟨t252, A60, H⟩ := H
    replace H : (if 0 ≤ a1 then (if a1 < (t252.length : Int) then (if (rd t252 a1) < 0 then (some false) else (spec_grLeads.l0 k1 a1 (l0_0.length : Int) (wrap64 (x9_1 + 1)) l0_0)) else (none)) else (none)) = some r := H
    have A6 := za0.mk A60
    clear A60
    by_cases c7 : 0 ≤ a1
    ·rw [if_pos c7] at H
     have c7b0 : decide (0 ≤ a1) = true := decide_eq_true c7
     clear c7
     by_cases c8 : a1 < (t252.length : Int)
     ·rw [if_pos c8] at H
      have c8b0 : decide (a1 < (t252.length : Int)) = true := decide_eq_true c8
      clear c8
      by_cases c9 : (rd t252 a1) < 0
      ·rw [if_pos c9] at H
       have c9b0 : decide ((rd t252 a1) < 0) = true := decide_eq_true c9
       clear c9
       obtain rfl := Option.some.inj H
       have hcz10_0 : wr.cell? ⟨gb251, 0, none⟩ = some (.slice A0_0 l0_0.length c0_0) := (zk0 BK251.out 0).trans rfl
       have hfz10_0 := zm0 BK251.out 0
       go_wp2_with (first | ((with_reducible refine zs0 (f := 83) rfl ?_); refine goesL_ (some 14) rfl rfl Try.func83 (by kernel_rfl) rfl #[.agg #[.slice A0_0 l0_0.length c0_0], .int .i64 x9_1] rfl (by (try simp only [List.map_toArray, List.map_cons, List.map_nil]); first | done | rfl | (simp only [List.length_drop, List.length_take]; rfl)) ?_; (with_reducible refine (spec_grFar.calls k1 _ _ l0_0 x9_1 t252 _ ?side1 ?side2 A6.out).mono ?_); (case side1 => repeat (first | exact (Kd.C_below HR0_0.out HB.out) | (with_reducible refine Kd.C_alloc ?_ _) | (with_reducible refine Kd.C_drewN ?_ _) | (with_reducible refine Kd.C_drew ?_))); (case side2 => exact HC0_0.out); rintro e w11 ⟨v253, rfl, ho0, hb⟩; refine ⟨_, rfl, ?_⟩; have n0_ := za0.mk (Kd.R_lower ho0 (zg0 (by repeat (first | (with_reducible first | exact HB.out | apply zc0 | apply zb0 | apply zd0 | refine ze0 ?_ GE251.out) | exact HB.out)))); have n1_ := za0.mk (zl0 (g := gb251) (o := .cells #[.slice A0_0 l0_0.length c0_0] 29 (0, 0)) (by (with_reducible repeat (first | refine zh0 ?_ _ | refine zi0 ?_ | refine zf0 ?_ _)); exact BK251.out) hb); have n2_ := za0.mk (zj0 (by repeat (first | (with_reducible first | exact HB.out | apply zc0 | apply zb0 | apply zd0 | refine ze0 ?_ GE251.out) | exact HB.out)) hb); clear BK251; clear HB; have HO254 := n0_; have BK251 := n1_; have HB := n2_; clear n0_ n1_ n2_; (try clear hb); (try clear hb2); (try clear hk); (try clear hi); (try clear ho0); obtain ⟨Ao12, co12, eo12⟩ := Kd.R_slice HO254.out; subst eo12; have p255 : 0 ≤ (a1 : Int) := of_decide_eq_true (by first | (with_reducible assumption) | assumption); have q255 : a1 < (t252.length : Int) := of_decide_eq_true (by first | (with_reducible assumption) | assumption); obtain ⟨ad255, e255, hx255_0⟩ := Kd.at_int (Kd.R_reads' HO254.out).2.2 a1 p255 q255; cases e255; replace p255 := eq_true p255; replace q255 := eq_true q255))
       go_ret
       exact ⟨by first | rfl | (simp [errW_none, errW_some] <;> rfl) | (simp [*, errW_none, errW_some] <;> rfl), by repeat (first | (with_reducible first | exact HB.out | apply zc0 | apply zb0 | apply zd0 | refine ze0 ?_ GE251.out) | exact HB.out)⟩
      ·rw [if_neg c9] at H
       have c9b0 : decide ((rd t252 a1) < 0) = false := decide_eq_false c9
       clear c9
       have H' := za0.mk H
       clear H
       have hcz13_0 : wr.cell? ⟨gb251, 0, none⟩ = some (.slice A0_0 l0_0.length c0_0) := (zk0 BK251.out 0).trans rfl
       have hfz13_0 := zm0 BK251.out 0
       go_wp2_with (first | ((with_reducible refine zs0 (f := 83) rfl ?_); refine goesL_ (some 14) rfl rfl Try.func83 (by kernel_rfl) rfl #[.agg #[.slice A0_0 l0_0.length c0_0], .int .i64 x9_1] rfl (by (try simp only [List.map_toArray, List.map_cons, List.map_nil]); first | done | rfl | (simp only [List.length_drop, List.length_take]; rfl)) ?_; (with_reducible refine (spec_grFar.calls k1 _ _ l0_0 x9_1 t252 _ ?side1 ?side2 A6.out).mono ?_); (case side1 => repeat (first | exact (Kd.C_below HR0_0.out HB.out) | (with_reducible refine Kd.C_alloc ?_ _) | (with_reducible refine Kd.C_drewN ?_ _) | (with_reducible refine Kd.C_drew ?_))); (case side2 => exact HC0_0.out); rintro e w14 ⟨v253, rfl, ho0, hb⟩; refine ⟨_, rfl, ?_⟩; have n0_ := za0.mk (Kd.R_lower ho0 (zg0 (by repeat (first | (with_reducible first | exact HB.out | apply zc0 | apply zb0 | apply zd0 | refine ze0 ?_ GE251.out) | exact HB.out)))); have n1_ := za0.mk (zl0 (g := gb251) (o := .cells #[.slice A0_0 l0_0.length c0_0] 29 (0, 0)) (by (with_reducible repeat (first | refine zh0 ?_ _ | refine zi0 ?_ | refine zf0 ?_ _)); exact BK251.out) hb); have n2_ := za0.mk (zj0 (by repeat (first | (with_reducible first | exact HB.out | apply zc0 | apply zb0 | apply zd0 | refine ze0 ?_ GE251.out) | exact HB.out)) hb); clear BK251; clear HB; have HO254 := n0_; have BK251 := n1_; have HB := n2_; clear n0_ n1_ n2_; (try clear hb); (try clear hb2); (try clear hk); (try clear hi); (try clear ho0); obtain ⟨Ao15, co15, eo15⟩ := Kd.R_slice HO254.out; subst eo15; have p255 : 0 ≤ (a1 : Int) := of_decide_eq_true (by first | (with_reducible assumption) | assumption); have q255 : a1 < (t252.length : Int) := of_decide_eq_true (by first | (with_reducible assumption) | assumption); obtain ⟨ad255, e255, hx255_0⟩ := Kd.at_int (Kd.R_reads' HO254.out).2.2 a1 p255 q255; cases e255; replace p255 := eq_true p255; replace q255 := eq_true q255))
       go_roundg k1
       case measure => have := HK1.out; omega
       case rel => exact ⟨(wrap64 (x9_1 + 1)), (by first | rfl | (simp; done) | (simp [*]; done)), H', ⟨by have := HK1.out; omega⟩, ⟨by (with_reducible repeat (first | refine zh0 ?_ _ | refine zi0 ?_ | refine zf0 ?_ _)); exact BK251.out⟩, ⟨by repeat (first | (with_reducible first | exact HB.out | apply zc0 | apply zb0 | apply zd0 | refine ze0 ?_ GE251.out) | exact HB.out)⟩⟩
     ·rw [if_neg c8] at H
      exact absurd H (by simp)
    ·rw [if_neg c7] at H
     exact absurd H (by simp)
   ·rw [if_neg c5] at H
    have c5b0 : decide (x9_1 < (l0_0.length : Int)) = false := decide_eq_false c5
    clear c5
    obtain rfl := Option.some.inj H
    go_wp2
    go_ret
    exact ⟨by first | rfl | (simp [errW_none, errW_some] <;> rfl) | (simp [*, errW_none, errW_some] <;> rfl), by repeat (first | (with_reducible first | exact HB.out | apply zc0 | apply zb0 | apply zd0 | refine ze0 ?_ GE251.out) | exact HB.out)⟩
end Go.Proofs.Ytlbgajpbdbgmkaa.P
