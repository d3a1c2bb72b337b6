/- Texts of this session on the way to the law FnHeapsTopple, part 5: words of the print, walks, plain laws; only what the law's proof uses. -/
import Derived.Test.YtdfabioienofhaaCFnHeapsTopplea
import Derived.Test.YtdfabioienofhaaCFnHeapsToppleb
import Derived.Test.YtdfabioienofhaaCFnHeapsToppled
import Derived.Test.YtdfabioienofhaaCFnHeapsTopplec
namespace Go.Proofs.Ytdfabioienofhaa.P
set_option maxHeartbeats 8000000
set_option maxRecDepth 100000
open Go.RowKit Go.Proofs.YtdfabioienofhaaW.PrintWords Go.Proofs.YtdfabioienofhaaW.PrintLast Go.Proofs.YtdfabioienofhaaW.PrintMore
attribute [local go_sem] zx0 zu0 max_two min_two zt0 zs0 zw0 zv0
set_option linter.unusedVariables false
set_option linter.unusedSimpArgs false
def yn0.l0 : Nat → Int → List Int → List Int → Int → List (List Int) → Option (List Int × List Int × Bool)
 | 0, _, _, _, _, _ => none
 | k + 1, x1, x9, x10, x11, x386000 => (ym0.f k x386000 x1 x9).bind fun t392 => (if t392 < 0 then (some (x9, x10, true)) else (if x11 ≥ 4000 then (some (([] : List Int), ([] : List Int), false)) else ((yl0.f k x386000 x1 x9 t392).bind fun t393 => (if 0 ≤ t392 then (if t392 < (x10.length : Int) then (yn0.l0 k x1 t393 (x10.set (t392 : Int).toNat (wrap64 ((rd x10 t392) + 1))) (wrap64 (x11 + 1)) x386000) else (none)) else (none)))))
def yn0.f (k : Nat) (l0_0 : List (List Int)) (a1 : Int) (l2 : List Int) : Option (List Int × List Int × Bool) := (ym1.f l2).bind fun t386 => (if 0 ≤ (l0_0.length : Int) then (if ((l0_0.length : Int) : Int).toNat ≤ 35184372088832 then (yn0.l0 k a1 t386 (List.replicate ((l0_0.length : Int) : Int).toNat 0) 0 l0_0) else (none)) else (none))
theorem yn0.mono_l : ∀ k, (∀ y0 y1 y2 y3 y4, LeO (yn0.l0 k y0 y1 y2 y3 y4) (yn0.l0 (k + 1) y0 y1 y2 y3 y4))
 | 0 => fun _ _ _ _ _ r h => by simp [yn0.l0] at h
 | k + 1 => by
  have ih0 := yn0.mono_l k
  ·intro y0 y1 y2 y3 y4
   unfold yn0.l0
   repeat' (with_reducible first | exact ih0 _ _ _ _ _ | exact ym0.mono _ _ _ _ | exact yl0.mono _ _ _ _ _ | exact LeO.refl _ | exact LeO.none _ | refine LeO.ite ?_ ?_ | refine LeO.bind ?_ (fun _ => ?_))
theorem yn0.mono : ∀ a0 a1 a2 k, LeO (yn0.f k a0 a1 a2) (yn0.f (k + 1) a0 a1 a2) := by
 intro a0 a1 a2 k
 have ih0 := yn0.mono_l k
 unfold yn0.f
 repeat' (with_reducible first | exact ih0 _ _ _ _ _ | exact ym0.mono _ _ _ _ | exact yl0.mono _ _ _ _ _ | exact LeO.refl _ | exact LeO.none _ | refine LeO.ite ?_ ?_ | refine LeO.bind ?_ (fun _ => ?_))
def yn0.T1 : Bool × List (List Nat × List Nat) := (true, [([], []), ([0], [0]), ([], []), ([2], [2]), ([3], [3]), ([4, 4], [4]), ([1, 1, 0, 1], [1]), ([5, 6, 0, 1, 2, 3, 4, 5, 6], [5])])
def yn0.B1 : List Nat := [0, 1, 0, 4, 12, 28, 3, 127]
theorem yn0.tab1 : rtab .any (opsOf Try.f31 1) = yn0.T1 := by kernel_rfl
theorem yn0.bits1 : waitsOk yn0.T1.2 yn0.B1 = true := by kernel_rfl
theorem yn0.calls (k : Nat) (A0_0 : Option Addr) (c0_0 : Nat) (l0_0 : List (List Int)) (a1 : Int) (A2 : Option Addr) (c2 : Nat) (l2 : List Int) (r1 : List Int) (r2 : List Int) (r3 : Bool) (w : World) (hr0_0 : Kd.C (Kd.slice 3 (Kd.int .i64)) w A0_0 l0_0.length l0_0) (hc0_0 : l0_0.length ≤ c0_0) (hr2 : Kd.C (Kd.int .i64) w A2 l2.length l2) (hc2 : l2.length ≤ c2) (h : yn0.f k l0_0 a1 l2 = some (r1, r2, r3)) :
  Calls Try.prog 31 #[.agg #[.slice A0_0 l0_0.length c0_0], .int .i64 a1, .slice A2 l2.length c2] w fun e w' => ∃ v0_ v1_ : Value, e = .returned (.tuple #[v0_, v1_, .bool r3]) ∧ Kd.R (Kd.int .i64) 3 w' w.heap.size (fun k_ => some k_ ≠ (v1_ : Value).ownBlock) v0_ r1 ∧ Kd.R (Kd.int .i64) 3 w' w.heap.size (fun k_ => some k_ ≠ (v0_ : Value).ownBlock) v1_ r2 ∧ Below w.heap.size w w' := by
 have hu26 := Try.underlying26
 have HR0_0 := hqZ hr0_0
 have HC0_0 := hqZ hc0_0
 clear hr0_0 hc0_0
 have HR2 := hqZ hr2
 have HC2 := hqZ hc2
 clear hr2 hc2
 have HB := hqZ (Below.refl w.heap.size w)
 have H : ((ym1.f l2).bind fun t386 => (if 0 ≤ (l0_0.length : Int) then (if ((l0_0.length : Int) : Int).toNat ≤ 35184372088832 then (yn0.l0 k a1 t386 (List.replicate ((l0_0.length : Int) : Int).toNat 0) 0 l0_0) else (none)) else (none))) = some (r1, r2, r3) := h
 clear h
 replace H := Option.bind_eq_some_iff.mp H
 obtain ⟨t386, A40, H⟩ := H
 try dsimp only at H
 have A4 := hqZ A40
 clear A40
 by_cases c5 : 0 ≤ (l0_0.length : Int)
 rotate_left
 ·rw [if_neg c5] at H
  exact absurd H (by simp)
 rw [if_pos c5] at H
 have c5b0 := eq_true c5
 have c5b1 : decide (0 ≤ (l0_0.length : Int)) = true := decide_eq_true c5
 clear c5
 by_cases c6 : ((l0_0.length : Int) : Int).toNat ≤ 35184372088832
 rotate_left
 ·rw [if_neg c6] at H
  exact absurd H (by simp)
 rw [if_pos c6] at H
 have c6b0 := eq_true c6
 have c6b1 : decide (((l0_0.length : Int) : Int).toNat ≤ 35184372088832) = true := decide_eq_true c6
 clear c6
 obtain ⟨y389, hy389⟩ : ∃ y_ : List Int, y_ = (List.replicate ((l0_0.length : Int) : Int).toNat 0) := ⟨_, rfl⟩
 replace H : (yn0.l0 k a1 t386 y389 0 l0_0) = some (r1, r2, r3) := by first | (rw [hy389]; with_reducible exact H) | (have H2_ := (Option.bind_some _ _).symm.trans H; rw [hy389]; with_reducible exact H2_) | (have H2_ := (Option.bind_some _ _).symm.trans H; with_reducible exact H2_) | with_reducible exact H | (rw [hy389]; exact H) | exact H
 have Ny389 := hqZ hy389
 clear hy389
 have H' := hqZ H
 clear H
 go_enter Try.func31, Try.ntmps31
 try go_wp2_with (first | ((with_reducible refine zo0 (N := 3) rfl ?_); refine zp0 ?hg (N := 3) ?hd (cs := #[.slice A0_0 l0_0.length c0_0]) (t := 26) ?hr ?_; (case hd | hg => rfl); (case hr => go_simp <;> rfl); intro gb385 hg w7 hbox hb; have BK385 := hqZ (hbox); have GW385 := hqZ ((by rw [hg]; exact (zb0 (HB.1)) : w.heap.size ≤ gb385)); have GE385 := hqZ ((by rw [hg]; exact (zb0 (HB.1)) : w.heap.size ≤ gb385)); replace HB := hqZ (za0 (HB.1) hb); clear hb hbox hg))
 have n0_ := hqZ (blk_drew BK385.1)
 have n1_ := hqZ (zk0 HB.1)
 clear BK385 HB
 have BK385 := n0_
 have HB := n1_
 clear n0_ n1_
 refine start_ (n := 8) (S := fun w' => w'.cell? ⟨gb385, 0, none⟩ = some (.slice A0_0 l0_0.length c0_0)) (ds := []) #[false, false, false, false, false, false, false, false] (by kernel_rfl) rfl rfl ((zh0 BK385.1 0).trans rfl) (fun hHeld => ?_); refine with_tabW yn0.tab1 yn0.bits1 (fun HT_ HW_ => ?_)
 generalize w7.drew = w8 at BK385 HB hHeld ⊢
 refine pure_ (i := 0) (N := some 13) (v := ?_) (a' := ?_) (bf 8 1) rfl rfl (zm0 HT_.1 (by kernel_rfl)) (fun _ _ _ h => h) (Or.inl ⟨by rfl, ?_⟩) ?_ ?_
 rotate_left
 ·intro w'; go_simp; with_reducible rfl
 rotate_left
 ·simp only [Act.put, zA, zB, zC, i64_w, i32_w]; rfl
 refine pure_ (i := 2) (N := some 15) (v := ?_) (a' := ?_) (bf 8 5) rfl rfl (zm0 HT_.1 (by kernel_rfl)) (fun _ _ _ h => h) (Or.inl ⟨by rfl, ?_⟩) ?_ ?_
 rotate_left
 ·intro w'; go_simp; with_reducible rfl
 rotate_left
 ·simp only [Act.put, zA, zB, zC, i64_w, i32_w]; rfl
 refine take_ (i := 3) (N := some 16) (v := ?_) (a' := ?_) (bf 8 13) rfl rfl (take_ofW HT_.1 HW_.1 (by kernel_rfl)) (fun _ _ _ h => h) (Or.inl ⟨by rfl, ?_⟩) hHeld ?_ ?_
 rotate_left
 ·intro w' s0
  go_simp
  with_reducible rfl
 rotate_left
 ·simp only [Act.put, zA, zB, zC, i64_w, i32_w]; rfl
 refine pure_ (i := 4) (N := some 17) (v := ?_) (a' := ?_) (bf 8 29) rfl rfl (zm0 HT_.1 (by kernel_rfl)) (fun _ _ _ h => h) (Or.inl ⟨by rfl, ?_⟩) ?_ ?_
 rotate_left
 ·intro w'; go_simp; with_reducible rfl
 rotate_left
 ·simp only [Act.put, zA, zB, zC, i64_w, i32_w]; rfl
 refine join_ (σ := Value × Value) 1 (bf 8 127) (fun s_ => [(14, s_.1), (18, s_.2), (9, s_.1)]) (fun s_ w' => (w'.cell? ⟨gb385, 0, none⟩ = some (.slice A0_0 l0_0.length c0_0)) ∧ (Kd.R (Kd.int .i64) 3 w' w.heap.size (fun k_ => some k_ ≠ (s_.2 : Value).ownBlock) s_.1 t386) ∧ (Kd.R (Kd.int .i64) 3 w' w.heap.size (fun k_ => some k_ ≠ (s_.1 : Value).ownBlock) s_.2 y389) ∧ (w'.heap[gb385]? = some (.cells #[.slice A0_0 l0_0.length c0_0] 26 (0, 0))) ∧ (Below w.heap.size w w')) ?_ ?_
 rotate_left
 ·intro hCont
  refine two_ (i := 1) (j := 5) (Ni := some 14) (Nj := some 18) #[true, true, true, true, true, false, false, false] (bf 8 61) rfl rfl rfl rfl (two_of HT_.1 (by kernel_rfl)) (by decide) (by decide) (fun K hK => ?_) (fun K hK => ?_)
  ·skip
   refine goes_ Try.func42 (by kernel_rfl) rfl #[.slice A2 l2.length c2] (by rfl) rfl rfl (by simp only [hqa, hqb, hqc]; rfl) ?_
   with_reducible refine (ym1.calls _ _ l2 t386 _ ?side1 ?side2 A4.1).mono ?_
   (case side1 => exact (Kd.C_below HR2.1 HB.1))
   (case side2 => exact HC2.1)
   rintro e w9 ⟨v387, rfl, ho0, hb⟩
   refine ⟨_, rfl, ?_⟩
   have n0_ := hqZ (Kd.R_lower ho0 (zb0 (HB.1)))
   have n1_ := hqZ (zc0 (g := gb385) (BK385.1) hb)
   have n2_ := hqZ (za0 (HB.1) hb)
   clear BK385 HB
   have HO388 := n0_
   have BK385 := n1_
   have HB := n2_
   clear n0_ n1_ n2_
   (try clear hb)
   (try clear hb2)
   (try clear hk)
   (try clear hi)
   (try clear ho0)
   refine hK.out _ _ ((zh0 BK385.1 0).trans rfl) (fun hHeld => ?_)
   clear hK K
   refine norm_ (a' := ?_) ?_ ?_
   rotate_left
   ·show Act.put _ (some 14) _ = _; simp only [Act.put, zA, zB, zC, i64_w, i32_w]; rfl
   refine pure_ (i := 6) (N := some 9) (v := ?_) (a' := ?_) (bf 8 95) rfl rfl (zm0 HT_.1 (by kernel_rfl)) (fun _ _ _ h => h) (Or.inl ⟨by rfl, ?_⟩) ?_ ?_
   rotate_left
   ·intro w'; go_simp; with_reducible rfl
   rotate_left
   ·simp only [Act.put, zA, zB, zC, i64_w, i32_w]; rfl
   refine one_ (i := 5) (N := some 18) (bf 8 127) rfl rfl (one_of HT_.1 (by kernel_rfl)) (by decide) (fun K hK => ?_)
   refine Kd.R_make_step (Kd.int .i64) _ 3 (by rfl) (N := 18) rfl 27 _ _ rfl (l0_0.length : Int) rfl rfl Try.underlying27 (.int .i64 0) 8 info3 rfl (by decide) (by omega) 0 (ok := fun _ => True) (okp := fun _ => True) rfl (fun _ hk => hk) trivial (of_decide_eq_true (by assumption)) (Nat.le_trans (Nat.mul_le_mul_right _ (of_decide_eq_true (by assumption) : (l0_0.length : Int).toNat ≤ 35184372088832)) (by omega)) (Below.refl _ _) (Nat.le_refl _) ?_
   intro v390 w10 ho11 hb hg_ hnew_
   clear hg_ hnew_
   (first | rw [← Ny389.1] at ho11 | (simp only [Int.reduceToNat] at ho11; rw [← Ny389.1] at ho11))
   have n0_ := hqZ (Kd.R_elder' (HO388.1) (Kd.R_base ho11) hb)
   have n1_ := hqZ (Kd.R_lower (Kd.R_new' ho11 (Kd.R_lt (HO388.1))) (zb0 (HB.1)))
   have n2_ := hqZ (zc0 (g := gb385) (BK385.1) hb)
   have n3_ := hqZ (za0 (HB.1) hb)
   clear HO388 BK385 HB
   have HO388 := n0_
   have HO391 := n1_
   have BK385 := n2_
   have HB := n3_
   clear n0_ n1_ n2_ n3_ hb ho11
   refine hK.out _ _ ((zh0 BK385.1 0).trans rfl) (fun hHeld => ?_)
   clear hK K
   refine norm_ (a' := ?_) ?_ ?_
   rotate_left
   ·show Act.put _ (some 18) _ = _; simp only [Act.put, zA, zB, zC, i64_w, i32_w]; rfl
   exact norm_ (by simp only [putAll, Act.put, zA, zB, zC]) (hCont (v387, v390) _ ⟨hHeld, (Kd.R_mono HO388.1 (fun _ hk => hk.2)), (Kd.R_mono HO391.1 (fun _ hk => hk.2)), (BK385.1), (HB.1)⟩)
  ·skip
   refine Kd.R_make_step (Kd.int .i64) _ 3 (by rfl) (N := 18) rfl 27 _ _ rfl (l0_0.length : Int) rfl rfl Try.underlying27 (.int .i64 0) 8 info3 rfl (by decide) (by omega) 0 (ok := fun _ => True) (okp := fun _ => True) rfl (fun _ hk => hk) trivial (of_decide_eq_true (by assumption)) (Nat.le_trans (Nat.mul_le_mul_right _ (of_decide_eq_true (by assumption) : (l0_0.length : Int).toNat ≤ 35184372088832)) (by omega)) (Below.refl _ _) (Nat.le_refl _) ?_
   intro v390 w9 ho10 hb hg_ hnew_
   clear hg_ hnew_
   (first | rw [← Ny389.1] at ho10 | (simp only [Int.reduceToNat] at ho10; rw [← Ny389.1] at ho10))
   have n0_ := hqZ (Kd.R_lower ho10 (zb0 (HB.1)))
   have n1_ := hqZ (zc0 (g := gb385) (BK385.1) hb)
   have n2_ := hqZ (za0 (HB.1) hb)
   clear BK385 HB
   have HO391 := n0_
   have BK385 := n1_
   have HB := n2_
   clear n0_ n1_ n2_ hb ho10
   refine hK.out _ _ ((zh0 BK385.1 0).trans rfl) (fun hHeld => ?_)
   clear hK K
   refine norm_ (a' := ?_) ?_ ?_
   rotate_left
   ·show Act.put _ (some 18) _ = _; simp only [Act.put, zA, zB, zC, i64_w, i32_w]; rfl
   refine one_ (i := 1) (N := some 14) (bf 8 63) rfl rfl (one_of HT_.1 (by kernel_rfl)) (by decide) (fun K hK => ?_)
   refine goes_ Try.func42 (by kernel_rfl) rfl #[.slice A2 l2.length c2] (by rfl) rfl rfl (by simp only [hqa, hqb, hqc]; rfl) ?_
   with_reducible refine (ym1.calls _ _ l2 t386 _ ?side1 ?side2 A4.1).mono ?_
   (case side1 => exact (Kd.C_below HR2.1 HB.1))
   (case side2 => exact HC2.1)
   rintro e w11 ⟨v387, rfl, ho0, hb⟩
   refine ⟨_, rfl, ?_⟩
   have n0_ := hqZ (Kd.R_elder' (HO391.1) (Kd.R_base ho0) hb)
   have n1_ := hqZ (Kd.R_lower (Kd.R_new' ho0 (Kd.R_lt (HO391.1))) (zb0 (HB.1)))
   have n2_ := hqZ (zc0 (g := gb385) (BK385.1) hb)
   have n3_ := hqZ (za0 (HB.1) hb)
   clear HO391 BK385 HB
   have HO391 := n0_
   have HO388 := n1_
   have BK385 := n2_
   have HB := n3_
   clear n0_ n1_ n2_ n3_
   (try clear hb)
   (try clear hb2)
   (try clear hk)
   (try clear hi)
   (try clear ho0)
   refine hK.out _ _ ((zh0 BK385.1 0).trans rfl) (fun hHeld => ?_)
   clear hK K
   refine norm_ (a' := ?_) ?_ ?_
   rotate_left
   ·show Act.put _ (some 14) _ = _; simp only [Act.put, zA, zB, zC, i64_w, i32_w]; rfl
   refine pure_ (i := 6) (N := some 9) (v := ?_) (a' := ?_) (bf 8 127) rfl rfl (zm0 HT_.1 (by kernel_rfl)) (fun _ _ _ h => h) (Or.inl ⟨by rfl, ?_⟩) ?_ ?_
   rotate_left
   ·intro w'; go_simp; with_reducible rfl
   rotate_left
   ·simp only [Act.put, zA, zB, zC, i64_w, i32_w]; rfl
   exact norm_ (by simp only [putAll, Act.put, zA, zB, zC]) (hCont (v387, v390) _ ⟨hHeld, (Kd.R_mono HO388.1 (fun _ hk => hk.2)), (Kd.R_mono HO391.1 (fun _ hk => hk.2)), (BK385.1), (HB.1)⟩)
 rintro ⟨v387, v390⟩ w12 ⟨hS_, h0_, h1_, h2_, h3_⟩
 have n0_ : zi0 (Kd.R (Kd.int .i64) 3 w12 w.heap.size (fun k_ => some k_ ≠ (v390 : Value).ownBlock) v387 t386) := ⟨h0_⟩
 have n1_ : zi0 (Kd.R (Kd.int .i64) 3 w12 w.heap.size (fun k_ => some k_ ≠ (v387 : Value).ownBlock) v390 y389) := ⟨h1_⟩
 have n2_ : zi0 (w12.heap[gb385]? = some (.cells #[.slice A0_0 l0_0.length c0_0] 26 (0, 0))) := ⟨h2_⟩
 have n3_ : zi0 (Below w.heap.size w w12) := ⟨h3_⟩
 clear BK385 HB h0_ h1_ h2_ h3_
 have HO388 := n0_
 have HO391 := n1_
 have BK385 := n2_
 have HB := n3_
 clear n0_ n1_ n2_ n3_
 have hHeld : w12.cell? ⟨gb385, 0, none⟩ = some (.slice A0_0 l0_0.length c0_0) := hS_
 refine norm_ (a' := ?_) ?_ ?_
 rotate_left
 ·simp only [putAll, Act.put, zA, zB, zC]
  rfl
 refine pure_ (i := 7) (N := some 10) (v := ?_) (a' := ?_) (bf 8 255) rfl rfl (zm0 HT_.1 (by kernel_rfl)) (fun _ _ _ h => h) (Or.inl ⟨by rfl, ?_⟩) ?_ ?_
 rotate_left
 ·intro w'; go_simp; with_reducible rfl
 rotate_left
 ·simp only [Act.put, zA, zB, zC, i64_w, i32_w]; rfl
 refine done_ (done_of HT_.1 (by kernel_rfl)) ?_
 try go_wp2
 go_loopg [11] k (fun kq v11 w' => ∃ (x9_1 : List Int) (x10_1 : List Int) (x11_1 : Int), v11 = .int .i64 x11_1 ∧ zi0 (yn0.l0 kq a1 x9_1 x10_1 x11_1 l0_0 = some (r1, r2, r3)) ∧ zi0 (kq ≤ k) ∧ zi0 (Kd.R (Kd.int .i64) 3 w' w.heap.size (fun k_ => some k_ ≠ (v390 : Value).ownBlock) v387 x9_1) ∧ zi0 (Kd.R (Kd.int .i64) 3 w' w.heap.size (fun k_ => some k_ ≠ (v387 : Value).ownBlock) v390 x10_1) ∧ zi0 (w'.heap[gb385]? = some (.cells #[(.slice A0_0 l0_0.length c0_0)] 26 (0, 0))) ∧ zi0 (Below w.heap.size w w'))
 case atStart => exact ⟨(t386), (y389), (0), (rfl), H', ⟨Nat.le_refl _⟩, ⟨HO388.1⟩, ⟨HO391.1⟩, ⟨BK385.1⟩, ⟨HB.1⟩⟩
 case round =>
  clear H'
  try clear c2
  try clear p2
  try clear c3
  try clear c4
  try clear c5
  try clear c5b0
  try clear c5b1
  try clear c6
  try clear c6b0
  try clear c6b1
  obtain ⟨x9_1, x10_1, x11_1, rfl, HA, HK1, HO_9, HO_10, BK385, HB⟩ := hrel
  obtain _ | k1 := gk
  ·exact absurd HA.1 (by simp [yn0.l0])
  have H := HA.1
  clear HA
  simp only [yn0.l0] at H
  replace H := Option.bind_eq_some_iff.mp H
  obtain ⟨t392, A130, H⟩ := H
  try dsimp only at H
  have A13 := hqZ A130
  clear A130
  by_cases c14 : t392 < 0
  ·rw [if_pos c14] at H
   have c14b0 : decide (t392 < 0) = true := decide_eq_true c14
   clear c14
   simp only [Option.some.injEq, Prod.mk.injEq] at H
   obtain ⟨rfl, rfl, rfl⟩ := H
   have hcz15_0 : wr.cell? ⟨gb385, 0, none⟩ = some (.slice A0_0 l0_0.length c0_0) := (zh0 BK385.1 0).trans rfl
   have hfz15_0 := zd0 BK385.1 0
   obtain ⟨Ao16, co16, eo16⟩ := Kd.R_slice HO_9.1
   subst eo16
   go_wp2_with (first | ((with_reducible refine ze0 (f := 33) rfl ?_); refine zq0 (some 24) rfl rfl Try.func33 (by kernel_rfl) rfl #[.agg #[.slice A0_0 l0_0.length c0_0], .int .i64 a1, .slice Ao16 x9_1.length co16] rfl (by simp only [hqa, hqb, hqc]; rfl) ?_; (with_reducible refine (ym0.calls k1 _ _ l0_0 a1 _ _ x9_1 t392 _ ?side1 ?side2 ?side3 ?side4 A13.1).mono ?_); (case side1 => exact (Kd.C_below HR0_0.1 HB.1)); (case side2 => exact HC0_0.1); (case side3 => exact (Kd.R_reads' HO_9.1).2.2); (case side4 => exact (Kd.R_reads' HO_9.1).2.1); rintro e w17 ⟨rfl, hb⟩; refine ⟨_, rfl, ?_⟩; replace HO_9 := hqZ (Kd.R_below (HO_9.1) hb); replace HO_10 := hqZ (Kd.R_below (HO_10.1) hb); replace BK385 := hqZ (zc0 (g := gb385) (BK385.1) hb); replace HB := hqZ (za0 (HB.1) hb); clear hb))
   go_ret3
   exact ⟨_, _, rfl, HO_9.1, HO_10.1, HB.1⟩
  rw [if_neg c14] at H
  have c14b0 : decide (t392 < 0) = false := decide_eq_false c14
  clear c14
  by_cases c18 : x11_1 ≥ 4000
  ·rw [if_pos c18] at H
   have c18b0 : decide (4000 ≤ x11_1) = true := decide_eq_true c18
   clear c18
   simp only [Option.some.injEq, Prod.mk.injEq] at H
   obtain ⟨rfl, rfl, rfl⟩ := H
   have hcz19_0 : wr.cell? ⟨gb385, 0, none⟩ = some (.slice A0_0 l0_0.length c0_0) := (zh0 BK385.1 0).trans rfl
   have hfz19_0 := zd0 BK385.1 0
   obtain ⟨Ao20, co20, eo20⟩ := Kd.R_slice HO_9.1
   subst eo20
   go_wp2_with (first | ((with_reducible refine ze0 (f := 33) rfl ?_); refine zq0 (some 24) rfl rfl Try.func33 (by kernel_rfl) rfl #[.agg #[.slice A0_0 l0_0.length c0_0], .int .i64 a1, .slice Ao20 x9_1.length co20] rfl (by simp only [hqa, hqb, hqc]; rfl) ?_; (with_reducible refine (ym0.calls k1 _ _ l0_0 a1 _ _ x9_1 t392 _ ?side1 ?side2 ?side3 ?side4 A13.1).mono ?_); (case side1 => exact (Kd.C_below HR0_0.1 HB.1)); (case side2 => exact HC0_0.1); (case side3 => exact (Kd.R_reads' HO_9.1).2.2); (case side4 => exact (Kd.R_reads' HO_9.1).2.1); rintro e w21 ⟨rfl, hb⟩; refine ⟨_, rfl, ?_⟩; replace HO_9 := hqZ (Kd.R_below (HO_9.1) hb); replace HO_10 := hqZ (Kd.R_below (HO_10.1) hb); replace BK385 := hqZ (zc0 (g := gb385) (BK385.1) hb); replace HB := hqZ (za0 (HB.1) hb); clear hb))
   go_ret3
   exact ⟨_, _, rfl, by first | exact Kd.R_nil _ _ _ _ _ | exact Kd.N_nil _ _ _ _ _ | exact Kd.V_nil _ _ _ _ _ | exact Kd.Q_nil _ _ _ _ _ | exact Kd.S_nil _ _ _ _ _, by first | exact Kd.R_nil _ _ _ _ _ | exact Kd.N_nil _ _ _ _ _ | exact Kd.V_nil _ _ _ _ _ | exact Kd.Q_nil _ _ _ _ _ | exact Kd.S_nil _ _ _ _ _, HB.1⟩
  rw [if_neg c18] at H
  have c18b0 : decide (4000 ≤ x11_1) = false := decide_eq_false c18
  clear c18
  replace H := Option.bind_eq_some_iff.mp H
  obtain ⟨t393, A220, H⟩ := H
  try dsimp only at H
  have A22 := hqZ A220
  clear A220
  by_cases c23 : 0 ≤ t392
  rotate_left
  ·rw [if_neg c23] at H
   exact absurd H (by simp)
  rw [if_pos c23] at H
  have c23b0 : decide (0 ≤ t392) = true := decide_eq_true c23
  clear c23
  by_cases c24 : t392 < (x10_1.length : Int)
  rotate_left
  ·rw [if_neg c24] at H
   exact absurd H (by simp)
  rw [if_pos c24] at H
  have c24b0 : decide (t392 < (x10_1.length : Int)) = true := decide_eq_true c24
  clear c24
  obtain ⟨y395, hy395⟩ : ∃ y_ : List Int, y_ = (x10_1.set (t392 : Int).toNat (wrap64 ((rd x10_1 t392) + 1))) := ⟨_, rfl⟩
  replace H : (yn0.l0 k1 a1 t393 y395 (wrap64 (x11_1 + 1)) l0_0) = some (r1, r2, r3) := by first | (rw [hy395]; with_reducible exact H) | (have H2_ := (Option.bind_some _ _).symm.trans H; rw [hy395]; with_reducible exact H2_) | (have H2_ := (Option.bind_some _ _).symm.trans H; with_reducible exact H2_) | with_reducible exact H | (rw [hy395]; exact H) | exact H
  have Ny395 := hqZ hy395
  clear hy395
  have H' := hqZ H
  clear H
  have hcz26_0 : wr.cell? ⟨gb385, 0, none⟩ = some (.slice A0_0 l0_0.length c0_0) := (zh0 BK385.1 0).trans rfl
  have hfz26_0 := zd0 BK385.1 0
  obtain ⟨Ao27, co27, eo27⟩ := Kd.R_slice HO_9.1
  subst eo27
  go_wp2_with (first | ((with_reducible refine ze0 (f := 33) rfl ?_); refine zq0 (some 24) rfl rfl Try.func33 (by kernel_rfl) rfl #[.agg #[.slice A0_0 l0_0.length c0_0], .int .i64 a1, .slice Ao27 x9_1.length co27] rfl (by simp only [hqa, hqb, hqc]; rfl) ?_; (with_reducible refine (ym0.calls k1 _ _ l0_0 a1 _ _ x9_1 t392 _ ?side1 ?side2 ?side3 ?side4 A13.1).mono ?_); (case side1 => exact (Kd.C_below HR0_0.1 HB.1)); (case side2 => exact HC0_0.1); (case side3 => exact (Kd.R_reads' HO_9.1).2.2); (case side4 => exact (Kd.R_reads' HO_9.1).2.1); rintro e w28 ⟨rfl, hb⟩; refine ⟨_, rfl, ?_⟩; replace HO_9 := hqZ (Kd.R_below (HO_9.1) hb); replace HO_10 := hqZ (Kd.R_below (HO_10.1) hb); replace BK385 := hqZ (zc0 (g := gb385) (BK385.1) hb); replace HB := hqZ (za0 (HB.1) hb); clear hb; have hcz29_0 : w28.cell? ⟨gb385, 0, none⟩ = some (.slice A0_0 l0_0.length c0_0) := (zh0 BK385.1 0).trans rfl; have hfz29_0 := zd0 BK385.1 0) | ((with_reducible refine ze0 (f := 43) rfl ?_); refine zq0 (some 35) rfl rfl Try.func43 (by kernel_rfl) rfl #[.agg #[.slice A0_0 l0_0.length c0_0], .int .i64 a1, .slice Ao27 x9_1.length co27, .int .i64 t392] rfl (by simp only [hqa, hqb, hqc]; rfl) ?_; (with_reducible refine (yl0.calls k1 _ _ l0_0 a1 (fun k_ => some k_ = (.slice Ao27 x9_1.length co27 : Value).ownBlock) (.slice Ao27 x9_1.length co27) x9_1 t392 t393 w _ ?side1 ?side2 ?side3 ?side4 A22.1).mono ?_); (case side1 => repeat (first | exact HB.1 | apply zn0 | apply zj0 | apply zk0 | refine zf0 ?_ GE385.1)); (case side2 => exact Kd.C_kept_came (Kd.heap_slice 3 (Kd.heap_int .i64)) HR0_0.1 (HB.1) (fun k_ hs_ => (fun e_ => Kd.R_base HO_9.1 k_ e_.symm) hs_)); (case side3 => exact HC0_0.1); (case side4 => exact Kd.R_tight rfl HO_9.1); rintro e w30 ⟨rfl, hy0, hb, hkp⟩; refine ⟨_, rfl, ?_⟩; replace HO_10 := hqZ (Kd.R_mono (ok' := fun k_ => some k_ ≠ (.slice Ao27 x9_1.length co27 : Value).ownBlock) (Kd.R_keptB (HO_10.1) hkp (fun k_ hk_ hs_ => (hk_) hs_)) (fun k_ hk_ => hk_.1)); replace BK385 := hqZ (blk_kept (BK385.1) hkp (fun hs_ => (fun e_ => (Kd.R_ne HO_9.1 BK385.1 (by decide)) e_) hs_)); replace HO_9 := hqZ (Kd.R_reok rfl hy0 (fun k_ e_ => HO_9.1.1 k_ e_)); replace HB := hqZ (hb); clear hb hkp hy0; obtain ⟨Ao31, co31, eo31⟩ := Kd.R_slice HO_10.1; subst eo31; have p394 : 0 ≤ (t392 : Int) := of_decide_eq_true (by assumption); have q394 : t392 < (x10_1.length : Int) := of_decide_eq_true (by assumption); obtain ⟨ad394, e394, hx394_0⟩ := Kd.at_int (Kd.R_reads' HO_10.1).2.2 t392 p394 q394; cases e394; replace p394 := eq_true p394; replace q394 := eq_true q394; have p25 : 0 ≤ (t392 : Int) := of_decide_eq_true (by assumption); have q25 : (t392 : Int) < ((x10_1.length : Int) : Int) := of_decide_eq_true (by assumption); obtain ⟨go25, co25, eo25, gb25, gl25, cl25, HG25⟩ := Kd.R_form HO_10.1 (by omega); (first | cases eo25 | (injection eo25 with ea_ en_ ec_; (first | subst ea_ | (injection ea_ with ea_; subst ea_)); subst ec_; clear en_)); have GB25 := hqZ gb25; have GG25 := hqZ HG25; clear gb25 gl25 HG25; (first | simp only [add_plain] at hx394_0 | skip); obtain ⟨hx25_0, hf25_0⟩ := Kd.R_celln 0 HO_10.1 (t392 : Int) p25 q25; replace p25 := eq_true p25; replace q25 := eq_true q25; obtain ⟨hy32_, hz32_⟩ := Kd.R_celln 0 HO_10.1 (t392 : Int) (of_decide_eq_true (by assumption)) (of_decide_eq_true (by assumption)); have HP32 := Kd.R_putg HO_10.1 (t392 : Int) (wrap64 ((rd x10_1 t392) + 1))) | ((with_reducible refine gate_store (t := 3) (p := 41) rfl ?_); refine store_event (t := 3) (p := 41) (v := ?vo_w33) (w1 := (w30.setCell ⟨go25, (t392 : Int).toNat, none⟩ (.int .i64 (wrap64 ((rd x10_1 t392) + 1))))) ?hg ?ho ?hn ?hr ?_; (case ho => rfl); (case hg => rfl); (case hn => rfl); (case hr => go_simp <;> rfl); intro w33 hw; have hg : w30.grownBy w33 (some go25) := (by rw [hw]; exact HP32.2); have hp_ : Kd.R (Kd.int .i64) 3 w33 w.heap.size (fun k_ => some k_ ≠ (.slice Ao27 x9_1.length co27 : Value).ownBlock) (.slice (some ⟨go25, 0, none⟩) x10_1.length co31) y395 := (by rw [hw, Ny395.1]; exact HP32.1); clear HP32; replace HO_9 := hqZ (Kd.R_after (v := (.slice (some ⟨go25, 0, none⟩) x10_1.length co31)) (v1 := (.slice (some ⟨go25, 0, none⟩) x10_1.length co31)) (ok := (fun _ => True)) (Kd.R_mono HO_9.1 (fun _ hk => ⟨trivial, hk⟩)) hg (.inl rfl)); replace BK385 := hqZ (zr0 (g := gb385) (BK385.1) hg (Kd.R_ne HO_10.1 BK385.1 (by decide))); replace HO_10 := hqZ (hp_); replace HB := hqZ ((by rw [hw]; exact zf0 (HB.1) GB25.1 : Below w.heap.size w w33)); clear hg hw hp_))
  go_roundg k1
  case measure => have := HK1.1; omega
  case rel => exact ⟨(t393), (y395), (wrap64 (x11_1 + 1)), (rfl), H', ⟨by have := HK1.1; omega⟩, ⟨Kd.R_mono HO_9.1 (fun _ hk => hk.2)⟩, ⟨HO_10.1⟩, ⟨BK385.1⟩, ⟨HB.1⟩⟩
def yf1.f (k : Nat) (l0_0 : List (List Int)) (a1 : Int) (l2 : List Int) : Option (List Int × Bool) := (yq0.f k l0_0 a1 l2).bind fun t397 => (if t397 = true then ((yn0.f k l0_0 a1 l2).bind fun bt398 => (some (bt398.1, bt398.2.2))) else (some (([] : List Int), false)))
theorem yf1.mono : ∀ a0 a1 a2 k, LeO (yf1.f k a0 a1 a2) (yf1.f (k + 1) a0 a1 a2) := by
 intro a0 a1 a2 k
 unfold yf1.f
 repeat' (with_reducible first | exact yq0.mono _ _ _ _ | exact yn0.mono _ _ _ _ | exact LeO.refl _ | exact LeO.none _ | refine LeO.ite ?_ ?_ | refine LeO.bind ?_ (fun _ => ?_))
theorem yf1.calls (k : Nat) (A0_0 : Option Addr) (c0_0 : Nat) (l0_0 : List (List Int)) (a1 : Int) (A2 : Option Addr) (c2 : Nat) (l2 : List Int) (r1 : List Int) (r2 : Bool) (w : World) (hr0_0 : Kd.C (Kd.slice 3 (Kd.int .i64)) w A0_0 l0_0.length l0_0) (hc0_0 : l0_0.length ≤ c0_0) (hr2 : Kd.C (Kd.int .i64) w A2 l2.length l2) (hc2 : l2.length ≤ c2) (h : yf1.f k l0_0 a1 l2 = some (r1, r2)) :
  Calls Try.prog 8 #[.agg #[.slice A0_0 l0_0.length c0_0], .int .i64 a1, .slice A2 l2.length c2] w fun e w' => ∃ v0_ : Value, e = .returned (.tuple #[v0_, .bool r2]) ∧ Kd.R (Kd.int .i64) 3 w' w.heap.size (fun _ => True) v0_ r1 ∧ Below w.heap.size w w' := by
 have hu26 := Try.underlying26
 have HR0_0 := hqZ hr0_0
 have HC0_0 := hqZ hc0_0
 clear hr0_0 hc0_0
 have HR2 := hqZ hr2
 have HC2 := hqZ hc2
 clear hr2 hc2
 have HB := hqZ (Below.refl w.heap.size w)
 have H : ((yq0.f k l0_0 a1 l2).bind fun t397 => (if t397 = true then ((yn0.f k l0_0 a1 l2).bind fun bt398 => (some (bt398.1, bt398.2.2))) else (some (([] : List Int), false)))) = some (r1, r2) := h
 clear h
 replace H := Option.bind_eq_some_iff.mp H
 obtain ⟨t397, A40, H⟩ := H
 try dsimp only at H
 have A4 := hqZ A40
 clear A40
 by_cases c5 : t397 = true
 rotate_left
 ·replace c5 := Bool.eq_false_iff.mpr c5
  subst c5
  rw [if_neg (show ¬ (false = true) by decide)] at H
  simp only [Option.some.injEq, Prod.mk.injEq] at H
  obtain ⟨rfl, rfl⟩ := H
  go_enter Try.func8, Try.ntmps8
  go_wp2_with (first | ((with_reducible refine zo0 (N := 3) rfl ?_); refine zp0 ?hg (N := 3) ?hd (cs := #[.slice A0_0 l0_0.length c0_0]) (t := 26) ?hr ?_; (case hd | hg => rfl); (case hr => go_simp <;> rfl); intro gb396 hg w12 hbox hb; have BK396 := hqZ (hbox); have GW396 := hqZ ((by rw [hg]; exact (zb0 (HB.1)) : w.heap.size ≤ gb396)); have GE396 := hqZ ((by rw [hg]; exact (zb0 (HB.1)) : w.heap.size ≤ gb396)); replace HB := hqZ (za0 (HB.1) hb); clear hb hbox hg; have hcz13_0 : w12.cell? ⟨gb396, 0, none⟩ = some (.slice A0_0 l0_0.length c0_0) := (zh0 BK396.1 0).trans rfl; have hfz13_0 := zd0 BK396.1 0) | ((with_reducible refine ze0 (f := 30) rfl ?_); refine zq0 (some 14) rfl rfl Try.func30 (by kernel_rfl) rfl #[.agg #[.slice A0_0 l0_0.length c0_0], .int .i64 a1, .slice A2 l2.length c2] rfl (by simp only [hqa, hqb, hqc]; rfl) ?_; (with_reducible refine (yq0.calls k _ _ l0_0 a1 _ _ l2 false _ ?side1 ?side2 ?side3 ?side4 A4.1).mono ?_); (case side1 => exact (Kd.C_below HR0_0.1 HB.1)); (case side2 => exact HC0_0.1); (case side3 => exact (Kd.C_below HR2.1 HB.1)); (case side4 => exact HC2.1); rintro e w14 ⟨rfl, hb⟩; refine ⟨_, rfl, ?_⟩; replace BK396 := hqZ (zc0 (g := gb396) (BK396.1) hb); replace HB := hqZ (za0 (HB.1) hb); clear hb))
  go_ret2
  exact ⟨_, rfl, by first | exact Kd.R_nil _ _ _ _ _ | exact Kd.N_nil _ _ _ _ _ | exact Kd.V_nil _ _ _ _ _ | exact Kd.Q_nil _ _ _ _ _ | exact Kd.S_nil _ _ _ _ _, HB.1⟩
 subst c5
 rw [if_pos rfl] at H
 replace H := Option.bind_eq_some_iff.mp H
 obtain ⟨⟨t398, t401, t404⟩, A60, H⟩ := H
 try dsimp only at H
 have A6 := hqZ A60
 clear A60
 simp only [Option.some.injEq, Prod.mk.injEq] at H
 obtain ⟨rfl, rfl⟩ := H
 go_enter Try.func8, Try.ntmps8
 go_wp2_with (first | ((with_reducible refine zo0 (N := 3) rfl ?_); refine zp0 ?hg (N := 3) ?hd (cs := #[.slice A0_0 l0_0.length c0_0]) (t := 26) ?hr ?_; (case hd | hg => rfl); (case hr => go_simp <;> rfl); intro gb396 hg w7 hbox hb; have BK396 := hqZ (hbox); have GW396 := hqZ ((by rw [hg]; exact (zb0 (HB.1)) : w.heap.size ≤ gb396)); have GE396 := hqZ ((by rw [hg]; exact (zb0 (HB.1)) : w.heap.size ≤ gb396)); replace HB := hqZ (za0 (HB.1) hb); clear hb hbox hg; have hcz8_0 : w7.cell? ⟨gb396, 0, none⟩ = some (.slice A0_0 l0_0.length c0_0) := (zh0 BK396.1 0).trans rfl; have hfz8_0 := zd0 BK396.1 0) | ((with_reducible refine ze0 (f := 30) rfl ?_); refine zq0 (some 14) rfl rfl Try.func30 (by kernel_rfl) rfl #[.agg #[.slice A0_0 l0_0.length c0_0], .int .i64 a1, .slice A2 l2.length c2] rfl (by simp only [hqa, hqb, hqc]; rfl) ?_; (with_reducible refine (yq0.calls k _ _ l0_0 a1 _ _ l2 true _ ?side1 ?side2 ?side3 ?side4 A4.1).mono ?_); (case side1 => exact (Kd.C_below HR0_0.1 HB.1)); (case side2 => exact HC0_0.1); (case side3 => exact (Kd.C_below HR2.1 HB.1)); (case side4 => exact HC2.1); rintro e w9 ⟨rfl, hb⟩; refine ⟨_, rfl, ?_⟩; replace BK396 := hqZ (zc0 (g := gb396) (BK396.1) hb); replace HB := hqZ (za0 (HB.1) hb); clear hb; have hcz10_0 : w9.cell? ⟨gb396, 0, none⟩ = some (.slice A0_0 l0_0.length c0_0) := (zh0 BK396.1 0).trans rfl; have hfz10_0 := zd0 BK396.1 0) | ((with_reducible refine ze0 (f := 31) rfl ?_); refine zq0 (some 20) rfl rfl Try.func31 (by kernel_rfl) rfl #[.agg #[.slice A0_0 l0_0.length c0_0], .int .i64 a1, .slice A2 l2.length c2] rfl (by simp only [hqa, hqb, hqc]; rfl) ?_; (with_reducible refine (yn0.calls k _ _ l0_0 a1 _ _ l2 t398 t401 t404 _ ?side1 ?side2 ?side3 ?side4 A6.1).mono ?_); (case side1 => exact (Kd.C_below HR0_0.1 HB.1)); (case side2 => exact HC0_0.1); (case side3 => exact (Kd.C_below HR2.1 HB.1)); (case side4 => exact HC2.1); rintro e w11 ⟨v399, v402, rfl, ho0, ho1, hb⟩; refine ⟨_, rfl, ?_⟩; have HO400 := hqZ (Kd.R_lower ho0 (zb0 (HB.1))); have HO403 := hqZ (Kd.R_lower ho1 (zb0 (HB.1))); replace BK396 := hqZ (zc0 (g := gb396) (BK396.1) hb); replace HB := hqZ (za0 (HB.1) hb); clear hb ho0 ho1))
 go_ret2
 exact ⟨_, rfl, Kd.R_mono HO400.1 (fun _ hk => trivial), HB.1⟩
def ye1.f (k : Nat) (l0_0 : List (List Int)) (a1 : Int) (l2 : List Int) : Option (List Int × Bool) := (yx0.f k l0_0 a1 l2).bind fun t406 => (if t406 = true then ((yf0.f k l0_0 a1 l2 4000).bind fun bt407 => (some (bt407.2.1, bt407.2.2))) else (some (([] : List Int), false)))
theorem ye1.mono : ∀ a0 a1 a2 k, LeO (ye1.f k a0 a1 a2) (ye1.f (k + 1) a0 a1 a2) := by
 intro a0 a1 a2 k
 unfold ye1.f
 repeat' (with_reducible first | exact yx0.mono _ _ _ _ | exact yf0.mono _ _ _ _ _ | exact LeO.refl _ | exact LeO.none _ | refine LeO.ite ?_ ?_ | refine LeO.bind ?_ (fun _ => ?_))
theorem ye1.calls (k : Nat) (A0_0 : Option Addr) (c0_0 : Nat) (l0_0 : List (List Int)) (a1 : Int) (A2 : Option Addr) (c2 : Nat) (l2 : List Int) (r1 : List Int) (r2 : Bool) (w : World) (hr0_0 : Kd.C (Kd.slice 3 (Kd.int .i64)) w A0_0 l0_0.length l0_0) (hc0_0 : l0_0.length ≤ c0_0) (hr2 : Kd.C (Kd.int .i64) w A2 l2.length l2) (hc2 : l2.length ≤ c2) (h : ye1.f k l0_0 a1 l2 = some (r1, r2)) :
  Calls Try.prog 9 #[.agg #[.slice A0_0 l0_0.length c0_0], .int .i64 a1, .slice A2 l2.length c2] w fun e w' => ∃ v0_ : Value, e = .returned (.tuple #[v0_, .bool r2]) ∧ Kd.R (Kd.int .i64) 3 w' w.heap.size (fun _ => True) v0_ r1 ∧ Below w.heap.size w w' := by
 have hu26 := Try.underlying26
 have HR0_0 := hqZ hr0_0
 have HC0_0 := hqZ hc0_0
 clear hr0_0 hc0_0
 have HR2 := hqZ hr2
 have HC2 := hqZ hc2
 clear hr2 hc2
 have HB := hqZ (Below.refl w.heap.size w)
 have H : ((yx0.f k l0_0 a1 l2).bind fun t406 => (if t406 = true then ((yf0.f k l0_0 a1 l2 4000).bind fun bt407 => (some (bt407.2.1, bt407.2.2))) else (some (([] : List Int), false)))) = some (r1, r2) := h
 clear h
 replace H := Option.bind_eq_some_iff.mp H
 obtain ⟨t406, A40, H⟩ := H
 try dsimp only at H
 have A4 := hqZ A40
 clear A40
 by_cases c5 : t406 = true
 rotate_left
 ·replace c5 := Bool.eq_false_iff.mpr c5
  subst c5
  rw [if_neg (show ¬ (false = true) by decide)] at H
  simp only [Option.some.injEq, Prod.mk.injEq] at H
  obtain ⟨rfl, rfl⟩ := H
  go_enter Try.func9, Try.ntmps9
  go_wp2_with (first | ((with_reducible refine zo0 (N := 3) rfl ?_); refine zp0 ?hg (N := 3) ?hd (cs := #[.slice A0_0 l0_0.length c0_0]) (t := 26) ?hr ?_; (case hd | hg => rfl); (case hr => go_simp <;> rfl); intro gb405 hg w12 hbox hb; have BK405 := hqZ (hbox); have GW405 := hqZ ((by rw [hg]; exact (zb0 (HB.1)) : w.heap.size ≤ gb405)); have GE405 := hqZ ((by rw [hg]; exact (zb0 (HB.1)) : w.heap.size ≤ gb405)); replace HB := hqZ (za0 (HB.1) hb); clear hb hbox hg; have hcz13_0 : w12.cell? ⟨gb405, 0, none⟩ = some (.slice A0_0 l0_0.length c0_0) := (zh0 BK405.1 0).trans rfl; have hfz13_0 := zd0 BK405.1 0) | ((with_reducible refine ze0 (f := 28) rfl ?_); refine zq0 (some 14) rfl rfl Try.func28 (by kernel_rfl) rfl #[.agg #[.slice A0_0 l0_0.length c0_0], .int .i64 a1, .slice A2 l2.length c2] rfl (by simp only [hqa, hqb, hqc]; rfl) ?_; (with_reducible refine (yx0.calls k _ _ l0_0 a1 _ _ l2 false _ ?side1 ?side2 ?side3 ?side4 A4.1).mono ?_); (case side1 => exact (Kd.C_below HR0_0.1 HB.1)); (case side2 => exact HC0_0.1); (case side3 => exact (Kd.C_below HR2.1 HB.1)); (case side4 => exact HC2.1); rintro e w14 ⟨rfl, hb⟩; refine ⟨_, rfl, ?_⟩; replace BK405 := hqZ (zc0 (g := gb405) (BK405.1) hb); replace HB := hqZ (za0 (HB.1) hb); clear hb))
  go_ret2
  exact ⟨_, rfl, by first | exact Kd.R_nil _ _ _ _ _ | exact Kd.N_nil _ _ _ _ _ | exact Kd.V_nil _ _ _ _ _ | exact Kd.Q_nil _ _ _ _ _ | exact Kd.S_nil _ _ _ _ _, HB.1⟩
 subst c5
 rw [if_pos rfl] at H
 replace H := Option.bind_eq_some_iff.mp H
 obtain ⟨⟨t407, t410, t413⟩, A60, H⟩ := H
 try dsimp only at H
 have A6 := hqZ A60
 clear A60
 simp only [Option.some.injEq, Prod.mk.injEq] at H
 obtain ⟨rfl, rfl⟩ := H
 go_enter Try.func9, Try.ntmps9
 go_wp2_with (first | ((with_reducible refine zo0 (N := 3) rfl ?_); refine zp0 ?hg (N := 3) ?hd (cs := #[.slice A0_0 l0_0.length c0_0]) (t := 26) ?hr ?_; (case hd | hg => rfl); (case hr => go_simp <;> rfl); intro gb405 hg w7 hbox hb; have BK405 := hqZ (hbox); have GW405 := hqZ ((by rw [hg]; exact (zb0 (HB.1)) : w.heap.size ≤ gb405)); have GE405 := hqZ ((by rw [hg]; exact (zb0 (HB.1)) : w.heap.size ≤ gb405)); replace HB := hqZ (za0 (HB.1) hb); clear hb hbox hg; have hcz8_0 : w7.cell? ⟨gb405, 0, none⟩ = some (.slice A0_0 l0_0.length c0_0) := (zh0 BK405.1 0).trans rfl; have hfz8_0 := zd0 BK405.1 0) | ((with_reducible refine ze0 (f := 28) rfl ?_); refine zq0 (some 14) rfl rfl Try.func28 (by kernel_rfl) rfl #[.agg #[.slice A0_0 l0_0.length c0_0], .int .i64 a1, .slice A2 l2.length c2] rfl (by simp only [hqa, hqb, hqc]; rfl) ?_; (with_reducible refine (yx0.calls k _ _ l0_0 a1 _ _ l2 true _ ?side1 ?side2 ?side3 ?side4 A4.1).mono ?_); (case side1 => exact (Kd.C_below HR0_0.1 HB.1)); (case side2 => exact HC0_0.1); (case side3 => exact (Kd.C_below HR2.1 HB.1)); (case side4 => exact HC2.1); rintro e w9 ⟨rfl, hb⟩; refine ⟨_, rfl, ?_⟩; replace BK405 := hqZ (zc0 (g := gb405) (BK405.1) hb); replace HB := hqZ (za0 (HB.1) hb); clear hb; have hcz10_0 : w9.cell? ⟨gb405, 0, none⟩ = some (.slice A0_0 l0_0.length c0_0) := (zh0 BK405.1 0).trans rfl; have hfz10_0 := zd0 BK405.1 0) | ((with_reducible refine ze0 (f := 29) rfl ?_); refine zq0 (some 20) rfl rfl Try.func29 (by kernel_rfl) rfl #[.agg #[.slice A0_0 l0_0.length c0_0], .int .i64 a1, .slice A2 l2.length c2, .int .i64 4000] rfl (by simp only [hqa, hqb, hqc]; rfl) ?_; (with_reducible refine (yf0.calls k _ _ l0_0 a1 _ _ l2 4000 t407 t410 t413 _ ?side1 ?side2 ?side3 ?side4 A6.1).mono ?_); (case side1 => exact (Kd.C_below HR0_0.1 HB.1)); (case side2 => exact HC0_0.1); (case side3 => exact (Kd.C_below HR2.1 HB.1)); (case side4 => exact HC2.1); rintro e w11 ⟨v408, v411, rfl, ho0, ho1, hb⟩; refine ⟨_, rfl, ?_⟩; have HO409 := hqZ (Kd.R_lower ho0 (zb0 (HB.1))); have HO412 := hqZ (Kd.R_lower ho1 (zb0 (HB.1))); replace BK405 := hqZ (zc0 (g := gb405) (BK405.1) hb); replace HB := hqZ (za0 (HB.1) hb); clear hb ho0 ho1))
 go_ret2
 exact ⟨_, rfl, Kd.R_mono HO412.1 (fun _ hk => trivial), HB.1⟩
def yd1.f (k : Nat) (l0_0 : List (List Int)) (a1 : Int) (l2 : List Int) : Option (List Int × Bool) := (yq0.f k l0_0 a1 l2).bind fun t415 => (if t415 = true then ((yn0.f k l0_0 a1 l2).bind fun bt416 => (some (bt416.2.1, bt416.2.2))) else (some (([] : List Int), false)))
theorem yd1.mono : ∀ a0 a1 a2 k, LeO (yd1.f k a0 a1 a2) (yd1.f (k + 1) a0 a1 a2) := by
 intro a0 a1 a2 k
 unfold yd1.f
 repeat' (with_reducible first | exact yq0.mono _ _ _ _ | exact yn0.mono _ _ _ _ | exact LeO.refl _ | exact LeO.none _ | refine LeO.ite ?_ ?_ | refine LeO.bind ?_ (fun _ => ?_))
theorem yd1.calls (k : Nat) (A0_0 : Option Addr) (c0_0 : Nat) (l0_0 : List (List Int)) (a1 : Int) (A2 : Option Addr) (c2 : Nat) (l2 : List Int) (r1 : List Int) (r2 : Bool) (w : World) (hr0_0 : Kd.C (Kd.slice 3 (Kd.int .i64)) w A0_0 l0_0.length l0_0) (hc0_0 : l0_0.length ≤ c0_0) (hr2 : Kd.C (Kd.int .i64) w A2 l2.length l2) (hc2 : l2.length ≤ c2) (h : yd1.f k l0_0 a1 l2 = some (r1, r2)) :
  Calls Try.prog 10 #[.agg #[.slice A0_0 l0_0.length c0_0], .int .i64 a1, .slice A2 l2.length c2] w fun e w' => ∃ v0_ : Value, e = .returned (.tuple #[v0_, .bool r2]) ∧ Kd.R (Kd.int .i64) 3 w' w.heap.size (fun _ => True) v0_ r1 ∧ Below w.heap.size w w' := by
 have hu26 := Try.underlying26
 have HR0_0 := hqZ hr0_0
 have HC0_0 := hqZ hc0_0
 clear hr0_0 hc0_0
 have HR2 := hqZ hr2
 have HC2 := hqZ hc2
 clear hr2 hc2
 have HB := hqZ (Below.refl w.heap.size w)
 have H : ((yq0.f k l0_0 a1 l2).bind fun t415 => (if t415 = true then ((yn0.f k l0_0 a1 l2).bind fun bt416 => (some (bt416.2.1, bt416.2.2))) else (some (([] : List Int), false)))) = some (r1, r2) := h
 clear h
 replace H := Option.bind_eq_some_iff.mp H
 obtain ⟨t415, A40, H⟩ := H
 try dsimp only at H
 have A4 := hqZ A40
 clear A40
 by_cases c5 : t415 = true
 rotate_left
 ·replace c5 := Bool.eq_false_iff.mpr c5
  subst c5
  rw [if_neg (show ¬ (false = true) by decide)] at H
  simp only [Option.some.injEq, Prod.mk.injEq] at H
  obtain ⟨rfl, rfl⟩ := H
  go_enter Try.func10, Try.ntmps10
  go_wp2_with (first | ((with_reducible refine zo0 (N := 3) rfl ?_); refine zp0 ?hg (N := 3) ?hd (cs := #[.slice A0_0 l0_0.length c0_0]) (t := 26) ?hr ?_; (case hd | hg => rfl); (case hr => go_simp <;> rfl); intro gb414 hg w12 hbox hb; have BK414 := hqZ (hbox); have GW414 := hqZ ((by rw [hg]; exact (zb0 (HB.1)) : w.heap.size ≤ gb414)); have GE414 := hqZ ((by rw [hg]; exact (zb0 (HB.1)) : w.heap.size ≤ gb414)); replace HB := hqZ (za0 (HB.1) hb); clear hb hbox hg; have hcz13_0 : w12.cell? ⟨gb414, 0, none⟩ = some (.slice A0_0 l0_0.length c0_0) := (zh0 BK414.1 0).trans rfl; have hfz13_0 := zd0 BK414.1 0) | ((with_reducible refine ze0 (f := 30) rfl ?_); refine zq0 (some 14) rfl rfl Try.func30 (by kernel_rfl) rfl #[.agg #[.slice A0_0 l0_0.length c0_0], .int .i64 a1, .slice A2 l2.length c2] rfl (by simp only [hqa, hqb, hqc]; rfl) ?_; (with_reducible refine (yq0.calls k _ _ l0_0 a1 _ _ l2 false _ ?side1 ?side2 ?side3 ?side4 A4.1).mono ?_); (case side1 => exact (Kd.C_below HR0_0.1 HB.1)); (case side2 => exact HC0_0.1); (case side3 => exact (Kd.C_below HR2.1 HB.1)); (case side4 => exact HC2.1); rintro e w14 ⟨rfl, hb⟩; refine ⟨_, rfl, ?_⟩; replace BK414 := hqZ (zc0 (g := gb414) (BK414.1) hb); replace HB := hqZ (za0 (HB.1) hb); clear hb))
  go_ret2
  exact ⟨_, rfl, by first | exact Kd.R_nil _ _ _ _ _ | exact Kd.N_nil _ _ _ _ _ | exact Kd.V_nil _ _ _ _ _ | exact Kd.Q_nil _ _ _ _ _ | exact Kd.S_nil _ _ _ _ _, HB.1⟩
 subst c5
 rw [if_pos rfl] at H
 replace H := Option.bind_eq_some_iff.mp H
 obtain ⟨⟨t416, t419, t422⟩, A60, H⟩ := H
 try dsimp only at H
 have A6 := hqZ A60
 clear A60
 simp only [Option.some.injEq, Prod.mk.injEq] at H
 obtain ⟨rfl, rfl⟩ := H
 go_enter Try.func10, Try.ntmps10
 go_wp2_with (first | ((with_reducible refine zo0 (N := 3) rfl ?_); refine zp0 ?hg (N := 3) ?hd (cs := #[.slice A0_0 l0_0.length c0_0]) (t := 26) ?hr ?_; (case hd | hg => rfl); (case hr => go_simp <;> rfl); intro gb414 hg w7 hbox hb; have BK414 := hqZ (hbox); have GW414 := hqZ ((by rw [hg]; exact (zb0 (HB.1)) : w.heap.size ≤ gb414)); have GE414 := hqZ ((by rw [hg]; exact (zb0 (HB.1)) : w.heap.size ≤ gb414)); replace HB := hqZ (za0 (HB.1) hb); clear hb hbox hg; have hcz8_0 : w7.cell? ⟨gb414, 0, none⟩ = some (.slice A0_0 l0_0.length c0_0) := (zh0 BK414.1 0).trans rfl; have hfz8_0 := zd0 BK414.1 0) | ((with_reducible refine ze0 (f := 30) rfl ?_); refine zq0 (some 14) rfl rfl Try.func30 (by kernel_rfl) rfl #[.agg #[.slice A0_0 l0_0.length c0_0], .int .i64 a1, .slice A2 l2.length c2] rfl (by simp only [hqa, hqb, hqc]; rfl) ?_; (with_reducible refine (yq0.calls k _ _ l0_0 a1 _ _ l2 true _ ?side1 ?side2 ?side3 ?side4 A4.1).mono ?_); (case side1 => exact (Kd.C_below HR0_0.1 HB.1)); (case side2 => exact HC0_0.1); (case side3 => exact (Kd.C_below HR2.1 HB.1)); (case side4 => exact HC2.1); rintro e w9 ⟨rfl, hb⟩; refine ⟨_, rfl, ?_⟩; replace BK414 := hqZ (zc0 (g := gb414) (BK414.1) hb); replace HB := hqZ (za0 (HB.1) hb); clear hb; have hcz10_0 : w9.cell? ⟨gb414, 0, none⟩ = some (.slice A0_0 l0_0.length c0_0) := (zh0 BK414.1 0).trans rfl; have hfz10_0 := zd0 BK414.1 0) | ((with_reducible refine ze0 (f := 31) rfl ?_); refine zq0 (some 20) rfl rfl Try.func31 (by kernel_rfl) rfl #[.agg #[.slice A0_0 l0_0.length c0_0], .int .i64 a1, .slice A2 l2.length c2] rfl (by simp only [hqa, hqb, hqc]; rfl) ?_; (with_reducible refine (yn0.calls k _ _ l0_0 a1 _ _ l2 t416 t419 t422 _ ?side1 ?side2 ?side3 ?side4 A6.1).mono ?_); (case side1 => exact (Kd.C_below HR0_0.1 HB.1)); (case side2 => exact HC0_0.1); (case side3 => exact (Kd.C_below HR2.1 HB.1)); (case side4 => exact HC2.1); rintro e w11 ⟨v417, v420, rfl, ho0, ho1, hb⟩; refine ⟨_, rfl, ?_⟩; have HO418 := hqZ (Kd.R_lower ho0 (zb0 (HB.1))); have HO421 := hqZ (Kd.R_lower ho1 (zb0 (HB.1))); replace BK414 := hqZ (zc0 (g := gb414) (BK414.1) hb); replace HB := hqZ (za0 (HB.1) hb); clear hb ho0 ho1))
 go_ret2
 exact ⟨_, rfl, Kd.R_mono HO421.1 (fun _ hk => trivial), HB.1⟩
def yc0.l0 : Nat → List Int → List Int → Int → Int → Option (Bool)
 | 0, _, _, _, _ => none
 | k + 1, x0, x1, x12, x13 => if x13 < x12 then (if 0 ≤ x13 then (if x13 < (x0.length : Int) then (if x13 < (x1.length : Int) then (if (rd x0 x13) = (rd x1 x13) then (yc0.l0 k x0 x1 x12 (wrap64 (x13 + 1))) else (some false)) else (none)) else (none)) else (none)) else (some true)
def yc0.f (k : Nat) (l0 : List Int) (l1 : List Int) : Option (Bool) := if (l0.length : Int) = (l1.length : Int) then (yc0.l0 k l0 l1 (l0.length : Int) 0) else (some false)
theorem yc0.mono_l : ∀ k, (∀ y0 y1 y2 y3, LeO (yc0.l0 k y0 y1 y2 y3) (yc0.l0 (k + 1) y0 y1 y2 y3))
 | 0 => fun _ _ _ _ r h => by simp [yc0.l0] at h
 | k + 1 => by
  have ih0 := yc0.mono_l k
  ·intro y0 y1 y2 y3
   unfold yc0.l0
   repeat' (with_reducible first | exact ih0 _ _ _ _ | exact LeO.refl _ | exact LeO.none _ | refine LeO.ite ?_ ?_ | refine LeO.bind ?_ (fun _ => ?_))
theorem yc0.mono : ∀ a0 a1 k, LeO (yc0.f k a0 a1) (yc0.f (k + 1) a0 a1) := by
 intro a0 a1 k
 have ih0 := yc0.mono_l k
 unfold yc0.f
 repeat' (with_reducible first | exact ih0 _ _ _ _ | exact LeO.refl _ | exact LeO.none _ | refine LeO.ite ?_ ?_ | refine LeO.bind ?_ (fun _ => ?_))
theorem yc0.calls (k : Nat) (A0 : Option Addr) (c0 : Nat) (l0 : List Int) (A1 : Option Addr) (c1 : Nat) (l1 : List Int) (r : Bool) (w : World) (hr0 : Kd.C (Kd.int .i64) w A0 l0.length l0) (hc0 : l0.length ≤ c0) (hr1 : Kd.C (Kd.int .i64) w A1 l1.length l1) (hc1 : l1.length ≤ c1) (h : yc0.f k l0 l1 = some r) :
  Calls Try.prog 11 #[.slice A0 l0.length c0, .slice A1 l1.length c1] w fun e w' => e = .returned (.bool r) ∧ Drawn0 w w' := by
 have HR0 := hqZ hr0
 have HC0 := hqZ hc0
 clear hr0 hc0
 have HR1 := hqZ hr1
 have HC1 := hqZ hc1
 clear hr1 hc1
 have H : (if (l0.length : Int) = (l1.length : Int) then (yc0.l0 k l0 l1 (l0.length : Int) 0) else (some false)) = some r := h
 clear h
 by_cases c3 : (l0.length : Int) = (l1.length : Int)
 rotate_left
 ·rw [if_neg c3] at H
  have c3b0 : ((l0.length : Int) == (l1.length : Int)) = false := beq_eq_false_iff_ne.mpr c3
  have c3b1 : ((l0.length : Int) != (l1.length : Int)) = true := bne_iff_ne.mpr c3
  have c3b2 : (l0.length == l1.length) = false := by first | simpa using c3 | (simp at c3 ⊢; omega)
  obtain rfl := Option.some.inj H
  go_enter Try.func11, Try.ntmps11
  go_wp2
  repeat (go_quiet (fail); try go_wp2)
  go_ret
  exact ⟨rfl, by repeat (first | exact Drawn0.refl _ | apply Drawn0.step)⟩
 rw [if_pos c3] at H
 have c3b0 : ((l0.length : Int) == (l1.length : Int)) = true := beq_iff_eq.mpr c3
 have c3b1 : ((l0.length : Int) != (l1.length : Int)) = false := bne_eq_false_iff_eq.mpr c3
 have c3b2 : (l0.length == l1.length) = true := by first | simpa using c3 | (simp at c3 ⊢; omega)
 clear c3
 have H' := hqZ H
 clear H
 go_enter Try.func11, Try.ntmps11
 go_wp2
 repeat (go_quiet (fail); try go_wp2)
 go_loopg [13] k (fun kq v13 w' => ∃ (x13_1 : Int), v13 = .int .i64 x13_1 ∧ zi0 (yc0.l0 kq l0 l1 (l0.length : Int) x13_1 = some r) ∧ zi0 (kq ≤ k) ∧ Drawn0 w w')
 case atStart => exact ⟨(0), (rfl), H', ⟨Nat.le_refl _⟩, by repeat (first | exact Drawn0.refl _ | apply Drawn0.step)⟩
 case round =>
  clear H'
  try clear c1
  try clear p2
  try clear c3
  try clear c3b0
  try clear c3b1
  try clear c3b2
  obtain ⟨x13_1, rfl, HA, HK1, ⟨m1, rfl⟩⟩ := hrel
  obtain _ | k1 := gk
  ·exact absurd HA.1 (by simp [yc0.l0])
  have H := HA.1
  clear HA
  simp only [yc0.l0] at H
  by_cases c4 : x13_1 < (l0.length : Int)
  rotate_left
  ·rw [if_neg c4] at H
   have c4b0 : decide (x13_1 < (l0.length : Int)) = false := decide_eq_false c4
   clear c4
   obtain rfl := Option.some.inj H
   go_wp2
   repeat (go_quiet (fail); try go_wp2)
   go_ret
   exact ⟨rfl, by repeat (first | exact Drawn0.refl _ | apply Drawn0.step)⟩
  rw [if_pos c4] at H
  have c4b0 : decide (x13_1 < (l0.length : Int)) = true := decide_eq_true c4
  clear c4
  by_cases c5 : 0 ≤ x13_1
  rotate_left
  ·rw [if_neg c5] at H
   exact absurd H (by simp)
  rw [if_pos c5] at H
  have c5b0 : decide (0 ≤ x13_1) = true := decide_eq_true c5
  clear c5
  by_cases c6 : x13_1 < (l0.length : Int)
  rotate_left
  ·rw [if_neg c6] at H
   exact absurd H (by simp)
  rw [if_pos c6] at H
  have c6b0 : decide (x13_1 < (l0.length : Int)) = true := decide_eq_true c6
  clear c6
  by_cases c7 : x13_1 < (l1.length : Int)
  rotate_left
  ·rw [if_neg c7] at H
   exact absurd H (by simp)
  rw [if_pos c7] at H
  have c7b0 : decide (x13_1 < (l1.length : Int)) = true := decide_eq_true c7
  clear c7
  by_cases c8 : (rd l0 x13_1) = (rd l1 x13_1)
  rotate_left
  ·rw [if_neg c8] at H
   have c8b0 : ((rd l0 x13_1) == (rd l1 x13_1)) = false := beq_eq_false_iff_ne.mpr c8
   have c8b1 : ((rd l0 x13_1) != (rd l1 x13_1)) = true := bne_iff_ne.mpr c8
   obtain rfl := Option.some.inj H
   have p423 : 0 ≤ (x13_1 : Int) := of_decide_eq_true (by assumption)
   have q423 : x13_1 < (l0.length : Int) := of_decide_eq_true (by assumption)
   obtain ⟨ad423, e423, hx423_0⟩ := Kd.at_int HR0.1 x13_1 p423 q423
   cases e423
   replace p423 := eq_true p423
   replace q423 := eq_true q423
   have p424 : 0 ≤ (x13_1 : Int) := of_decide_eq_true (by assumption)
   have q424 : x13_1 < (l1.length : Int) := of_decide_eq_true (by assumption)
   obtain ⟨ad424, e424, hx424_0⟩ := Kd.at_int HR1.1 x13_1 p424 q424
   cases e424
   replace p424 := eq_true p424
   replace q424 := eq_true q424
   go_wp2
   repeat (go_quiet (fail); try go_wp2)
   go_ret
   exact ⟨rfl, by repeat (first | exact Drawn0.refl _ | apply Drawn0.step)⟩
  rw [if_pos c8] at H
  have c8b0 : ((rd l0 x13_1) == (rd l1 x13_1)) = true := beq_iff_eq.mpr c8
  have c8b1 : ((rd l0 x13_1) != (rd l1 x13_1)) = false := bne_eq_false_iff_eq.mpr c8
  clear c8
  have H' := hqZ H
  clear H
  have p423 : 0 ≤ (x13_1 : Int) := of_decide_eq_true (by assumption)
  have q423 : x13_1 < (l0.length : Int) := of_decide_eq_true (by assumption)
  obtain ⟨ad423, e423, hx423_0⟩ := Kd.at_int HR0.1 x13_1 p423 q423
  cases e423
  replace p423 := eq_true p423
  replace q423 := eq_true q423
  have p424 : 0 ≤ (x13_1 : Int) := of_decide_eq_true (by assumption)
  have q424 : x13_1 < (l1.length : Int) := of_decide_eq_true (by assumption)
  obtain ⟨ad424, e424, hx424_0⟩ := Kd.at_int HR1.1 x13_1 p424 q424
  cases e424
  replace p424 := eq_true p424
  replace q424 := eq_true q424
  go_wp2
  repeat (go_quiet (fail); try go_wp2)
  go_roundg k1
  case measure => have := HK1.1; omega
  case rel => exact ⟨(wrap64 (x13_1 + 1)), (rfl), H', ⟨by have := HK1.1; omega⟩, by repeat (first | exact Drawn0.refl _ | apply Drawn0.step)⟩
def ya1.l0 : Nat → Int → List Int → Int → Int → List (List Int) → Option (Bool)
 | 0, _, _, _, _, _ => none
 | k + 1, x1, x2, x9, x10, x426000 => if x10 < x9 then ((yq1.f x426000 x1 x2 x10).bind fun t426 => (if t426 = true then (some false) else (ya1.l0 k x1 x2 x9 (wrap64 (x10 + 1)) x426000))) else (some true)
def ya1.f (k : Nat) (l0_0 : List (List Int)) (a1 : Int) (l2 : List Int) : Option (Bool) := ya1.l0 k a1 l2 (l2.length : Int) 0 l0_0
theorem ya1.mono_l : ∀ k, (∀ y0 y1 y2 y3 y4, LeO (ya1.l0 k y0 y1 y2 y3 y4) (ya1.l0 (k + 1) y0 y1 y2 y3 y4))
 | 0 => fun _ _ _ _ _ r h => by simp [ya1.l0] at h
 | k + 1 => by
  have ih0 := ya1.mono_l k
  ·intro y0 y1 y2 y3 y4
   unfold ya1.l0
   repeat' (with_reducible first | exact ih0 _ _ _ _ _ | exact LeO.refl _ | exact LeO.none _ | refine LeO.ite ?_ ?_ | refine LeO.bind ?_ (fun _ => ?_))
theorem ya1.mono : ∀ a0 a1 a2 k, LeO (ya1.f k a0 a1 a2) (ya1.f (k + 1) a0 a1 a2) := by
 intro a0 a1 a2 k
 have ih0 := ya1.mono_l k
 unfold ya1.f
 repeat' (with_reducible first | exact ih0 _ _ _ _ _ | exact LeO.refl _ | exact LeO.none _ | refine LeO.ite ?_ ?_ | refine LeO.bind ?_ (fun _ => ?_))
theorem ya1.calls (k : Nat) (A0_0 : Option Addr) (c0_0 : Nat) (l0_0 : List (List Int)) (a1 : Int) (A2 : Option Addr) (c2 : Nat) (l2 : List Int) (r : Bool) (w : World) (hr0_0 : Kd.C (Kd.slice 3 (Kd.int .i64)) w A0_0 l0_0.length l0_0) (hc0_0 : l0_0.length ≤ c0_0) (hr2 : Kd.C (Kd.int .i64) w A2 l2.length l2) (hc2 : l2.length ≤ c2) (h : ya1.f k l0_0 a1 l2 = some r) :
  Calls Try.prog 32 #[.agg #[.slice A0_0 l0_0.length c0_0], .int .i64 a1, .slice A2 l2.length c2] w fun e w' => e = .returned (.bool r) ∧ Below w.heap.size w w' := by
 have hu26 := Try.underlying26
 have HR0_0 := hqZ hr0_0
 have HC0_0 := hqZ hc0_0
 clear hr0_0 hc0_0
 have HR2 := hqZ hr2
 have HC2 := hqZ hc2
 clear hr2 hc2
 have HB := hqZ (Below.refl w.heap.size w)
 have H : (ya1.l0 k a1 l2 (l2.length : Int) 0 l0_0) = some r := h
 clear h
 have H' := hqZ H
 clear H
 go_enter Try.func32, Try.ntmps32
 go_wp2_with (first | ((with_reducible refine zo0 (N := 3) rfl ?_); refine zp0 ?hg (N := 3) ?hd (cs := #[.slice A0_0 l0_0.length c0_0]) (t := 26) ?hr ?_; (case hd | hg => rfl); (case hr => go_simp <;> rfl); intro gb425 hg w4 hbox hb; have BK425 := hqZ (hbox); have GW425 := hqZ ((by rw [hg]; exact (zb0 (HB.1)) : w.heap.size ≤ gb425)); have GE425 := hqZ ((by rw [hg]; exact (zb0 (HB.1)) : w.heap.size ≤ gb425)); replace HB := hqZ (za0 (HB.1) hb); clear hb hbox hg))
 go_loopg [10] k (fun kq v10 w' => ∃ (x10_1 : Int), v10 = .int .i64 x10_1 ∧ zi0 (ya1.l0 kq a1 l2 (l2.length : Int) x10_1 l0_0 = some r) ∧ zi0 (kq ≤ k) ∧ zi0 (w'.heap[gb425]? = some (.cells #[(.slice A0_0 l0_0.length c0_0)] 26 (0, 0))) ∧ zi0 (Below w.heap.size w w'))
 case atStart => exact ⟨(0), (rfl), H', ⟨Nat.le_refl _⟩, ⟨BK425.1⟩, ⟨HB.1⟩⟩
 case round =>
  clear H'
  try clear c2
  try clear p2
  try clear c3
  obtain ⟨x10_1, rfl, HA, HK1, BK425, HB⟩ := hrel
  obtain _ | k1 := gk
  ·exact absurd HA.1 (by simp [ya1.l0])
  have H := HA.1
  clear HA
  simp only [ya1.l0] at H
  by_cases c5 : x10_1 < (l2.length : Int)
  rotate_left
  ·rw [if_neg c5] at H
   have c5b0 : decide (x10_1 < (l2.length : Int)) = false := decide_eq_false c5
   clear c5
   obtain rfl := Option.some.inj H
   go_wp2
   go_ret
   exact ⟨rfl, HB.1⟩
  rw [if_pos c5] at H
  have c5b0 : decide (x10_1 < (l2.length : Int)) = true := decide_eq_true c5
  clear c5
  replace H := Option.bind_eq_some_iff.mp H
  obtain ⟨t426, A60, H⟩ := H
  try dsimp only at H
  have A6 := hqZ A60
  clear A60
  by_cases c7 : t426 = true
  ·subst c7
   rw [if_pos rfl] at H
   obtain rfl := Option.some.inj H
   have hcz8_0 : wr.cell? ⟨gb425, 0, none⟩ = some (.slice A0_0 l0_0.length c0_0) := (zh0 BK425.1 0).trans rfl
   have hfz8_0 := zd0 BK425.1 0
   go_wp2_with (first | ((with_reducible refine ze0 (f := 37) rfl ?_); refine zq0 (some 17) rfl rfl Try.func37 (by kernel_rfl) rfl #[.agg #[.slice A0_0 l0_0.length c0_0], .int .i64 a1, .slice A2 l2.length c2, .int .i64 x10_1] rfl (by simp only [hqa, hqb, hqc]; rfl) ?_; (with_reducible refine (yq1.calls _ _ l0_0 a1 _ _ l2 x10_1 true _ ?side1 ?side2 ?side3 ?side4 A6.1).mono ?_); (case side1 => exact (Kd.C_below HR0_0.1 HB.1)); (case side2 => exact HC0_0.1); (case side3 => exact (Kd.C_below HR2.1 HB.1)); (case side4 => exact HC2.1); rintro e w9 ⟨rfl, hb⟩; refine ⟨_, rfl, ?_⟩; replace BK425 := hqZ (zc0 (g := gb425) (BK425.1) hb); replace HB := hqZ (za0 (HB.1) hb); clear hb))
   go_ret
   exact ⟨rfl, HB.1⟩
  replace c7 := Bool.eq_false_iff.mpr c7
  subst c7
  rw [if_neg (show ¬ (false = true) by decide)] at H
  have H' := hqZ H
  clear H
  have hcz10_0 : wr.cell? ⟨gb425, 0, none⟩ = some (.slice A0_0 l0_0.length c0_0) := (zh0 BK425.1 0).trans rfl
  have hfz10_0 := zd0 BK425.1 0
  go_wp2_with (first | ((with_reducible refine ze0 (f := 37) rfl ?_); refine zq0 (some 17) rfl rfl Try.func37 (by kernel_rfl) rfl #[.agg #[.slice A0_0 l0_0.length c0_0], .int .i64 a1, .slice A2 l2.length c2, .int .i64 x10_1] rfl (by simp only [hqa, hqb, hqc]; rfl) ?_; (with_reducible refine (yq1.calls _ _ l0_0 a1 _ _ l2 x10_1 false _ ?side1 ?side2 ?side3 ?side4 A6.1).mono ?_); (case side1 => exact (Kd.C_below HR0_0.1 HB.1)); (case side2 => exact HC0_0.1); (case side3 => exact (Kd.C_below HR2.1 HB.1)); (case side4 => exact HC2.1); rintro e w11 ⟨rfl, hb⟩; refine ⟨_, rfl, ?_⟩; replace BK425 := hqZ (zc0 (g := gb425) (BK425.1) hb); replace HB := hqZ (za0 (HB.1) hb); clear hb))
  go_roundg k1
  case measure => have := HK1.1; omega
  case rel => exact ⟨(wrap64 (x10_1 + 1)), (rfl), H', ⟨by have := HK1.1; omega⟩, ⟨BK425.1⟩, ⟨HB.1⟩⟩
def yw0.f (k : Nat) (l0_0 : List (List Int)) (a1 : Int) (l2 : List Int) : Option (Bool × Bool) := (yx0.f k l0_0 a1 l2).bind fun t428 => (if t428 = true then ((ya1.f k l0_0 a1 l2).bind fun t429 => (some (t429, true))) else (some (false, false)))
theorem yw0.mono : ∀ a0 a1 a2 k, LeO (yw0.f k a0 a1 a2) (yw0.f (k + 1) a0 a1 a2) := by
 intro a0 a1 a2 k
 unfold yw0.f
 repeat' (with_reducible first | exact yx0.mono _ _ _ _ | exact ya1.mono _ _ _ _ | exact LeO.refl _ | exact LeO.none _ | refine LeO.ite ?_ ?_ | refine LeO.bind ?_ (fun _ => ?_))
theorem yw0.calls (k : Nat) (A0_0 : Option Addr) (c0_0 : Nat) (l0_0 : List (List Int)) (a1 : Int) (A2 : Option Addr) (c2 : Nat) (l2 : List Int) (r1 : Bool) (r2 : Bool) (w : World) (hr0_0 : Kd.C (Kd.slice 3 (Kd.int .i64)) w A0_0 l0_0.length l0_0) (hc0_0 : l0_0.length ≤ c0_0) (hr2 : Kd.C (Kd.int .i64) w A2 l2.length l2) (hc2 : l2.length ≤ c2) (h : yw0.f k l0_0 a1 l2 = some (r1, r2)) :
  Calls Try.prog 12 #[.agg #[.slice A0_0 l0_0.length c0_0], .int .i64 a1, .slice A2 l2.length c2] w fun e w' => e = .returned (.tuple #[.bool r1, .bool r2]) ∧ Below w.heap.size w w' := by
 have hu26 := Try.underlying26
 have HR0_0 := hqZ hr0_0
 have HC0_0 := hqZ hc0_0
 clear hr0_0 hc0_0
 have HR2 := hqZ hr2
 have HC2 := hqZ hc2
 clear hr2 hc2
 have HB := hqZ (Below.refl w.heap.size w)
 have H : ((yx0.f k l0_0 a1 l2).bind fun t428 => (if t428 = true then ((ya1.f k l0_0 a1 l2).bind fun t429 => (some (t429, true))) else (some (false, false)))) = some (r1, r2) := h
 clear h
 replace H := Option.bind_eq_some_iff.mp H
 obtain ⟨t428, A40, H⟩ := H
 try dsimp only at H
 have A4 := hqZ A40
 clear A40
 by_cases c5 : t428 = true
 rotate_left
 ·replace c5 := Bool.eq_false_iff.mpr c5
  subst c5
  rw [if_neg (show ¬ (false = true) by decide)] at H
  simp only [Option.some.injEq, Prod.mk.injEq] at H
  obtain ⟨rfl, rfl⟩ := H
  go_enter Try.func12, Try.ntmps12
  go_wp2_with (first | ((with_reducible refine zo0 (N := 3) rfl ?_); refine zp0 ?hg (N := 3) ?hd (cs := #[.slice A0_0 l0_0.length c0_0]) (t := 26) ?hr ?_; (case hd | hg => rfl); (case hr => go_simp <;> rfl); intro gb427 hg w12 hbox hb; have BK427 := hqZ (hbox); have GW427 := hqZ ((by rw [hg]; exact (zb0 (HB.1)) : w.heap.size ≤ gb427)); have GE427 := hqZ ((by rw [hg]; exact (zb0 (HB.1)) : w.heap.size ≤ gb427)); replace HB := hqZ (za0 (HB.1) hb); clear hb hbox hg; have hcz13_0 : w12.cell? ⟨gb427, 0, none⟩ = some (.slice A0_0 l0_0.length c0_0) := (zh0 BK427.1 0).trans rfl; have hfz13_0 := zd0 BK427.1 0) | ((with_reducible refine ze0 (f := 28) rfl ?_); refine zq0 (some 11) rfl rfl Try.func28 (by kernel_rfl) rfl #[.agg #[.slice A0_0 l0_0.length c0_0], .int .i64 a1, .slice A2 l2.length c2] rfl (by simp only [hqa, hqb, hqc]; rfl) ?_; (with_reducible refine (yx0.calls k _ _ l0_0 a1 _ _ l2 false _ ?side1 ?side2 ?side3 ?side4 A4.1).mono ?_); (case side1 => exact (Kd.C_below HR0_0.1 HB.1)); (case side2 => exact HC0_0.1); (case side3 => exact (Kd.C_below HR2.1 HB.1)); (case side4 => exact HC2.1); rintro e w14 ⟨rfl, hb⟩; refine ⟨_, rfl, ?_⟩; replace BK427 := hqZ (zc0 (g := gb427) (BK427.1) hb); replace HB := hqZ (za0 (HB.1) hb); clear hb))
  go_ret2
  exact ⟨rfl, HB.1⟩
 subst c5
 rw [if_pos rfl] at H
 replace H := Option.bind_eq_some_iff.mp H
 obtain ⟨t429, A60, H⟩ := H
 try dsimp only at H
 have A6 := hqZ A60
 clear A60
 simp only [Option.some.injEq, Prod.mk.injEq] at H
 obtain ⟨rfl, rfl⟩ := H
 go_enter Try.func12, Try.ntmps12
 go_wp2_with (first | ((with_reducible refine zo0 (N := 3) rfl ?_); refine zp0 ?hg (N := 3) ?hd (cs := #[.slice A0_0 l0_0.length c0_0]) (t := 26) ?hr ?_; (case hd | hg => rfl); (case hr => go_simp <;> rfl); intro gb427 hg w7 hbox hb; have BK427 := hqZ (hbox); have GW427 := hqZ ((by rw [hg]; exact (zb0 (HB.1)) : w.heap.size ≤ gb427)); have GE427 := hqZ ((by rw [hg]; exact (zb0 (HB.1)) : w.heap.size ≤ gb427)); replace HB := hqZ (za0 (HB.1) hb); clear hb hbox hg; have hcz8_0 : w7.cell? ⟨gb427, 0, none⟩ = some (.slice A0_0 l0_0.length c0_0) := (zh0 BK427.1 0).trans rfl; have hfz8_0 := zd0 BK427.1 0) | ((with_reducible refine ze0 (f := 28) rfl ?_); refine zq0 (some 11) rfl rfl Try.func28 (by kernel_rfl) rfl #[.agg #[.slice A0_0 l0_0.length c0_0], .int .i64 a1, .slice A2 l2.length c2] rfl (by simp only [hqa, hqb, hqc]; rfl) ?_; (with_reducible refine (yx0.calls k _ _ l0_0 a1 _ _ l2 true _ ?side1 ?side2 ?side3 ?side4 A4.1).mono ?_); (case side1 => exact (Kd.C_below HR0_0.1 HB.1)); (case side2 => exact HC0_0.1); (case side3 => exact (Kd.C_below HR2.1 HB.1)); (case side4 => exact HC2.1); rintro e w9 ⟨rfl, hb⟩; refine ⟨_, rfl, ?_⟩; replace BK427 := hqZ (zc0 (g := gb427) (BK427.1) hb); replace HB := hqZ (za0 (HB.1) hb); clear hb; have hcz10_0 : w9.cell? ⟨gb427, 0, none⟩ = some (.slice A0_0 l0_0.length c0_0) := (zh0 BK427.1 0).trans rfl; have hfz10_0 := zd0 BK427.1 0) | ((with_reducible refine ze0 (f := 32) rfl ?_); refine zq0 (some 16) rfl rfl Try.func32 (by kernel_rfl) rfl #[.agg #[.slice A0_0 l0_0.length c0_0], .int .i64 a1, .slice A2 l2.length c2] rfl (by simp only [hqa, hqb, hqc]; rfl) ?_; (with_reducible refine (ya1.calls k _ _ l0_0 a1 _ _ l2 t429 _ ?side1 ?side2 ?side3 ?side4 A6.1).mono ?_); (case side1 => exact (Kd.C_below HR0_0.1 HB.1)); (case side2 => exact HC0_0.1); (case side3 => exact (Kd.C_below HR2.1 HB.1)); (case side4 => exact HC2.1); rintro e w11 ⟨rfl, hb⟩; refine ⟨_, rfl, ?_⟩; replace BK427 := hqZ (zc0 (g := gb427) (BK427.1) hb); replace HB := hqZ (za0 (HB.1) hb); clear hb))
 go_ret2
 exact ⟨rfl, HB.1⟩
def yj0.j0 : Nat → Bool → List Int → Int → Int → List (List Int) → Option (Int × Int × Int)
 | 0, _, _, _, _, _ => none
 | k + 1, x12, x1000, x1001, x1002, x431000 => if x12 = true then ((yw1.f x1000 x1001 x1002 (([(-1), 0, (x431000.length : Int), 4611686018427387904] : List Int))).bind fun bt437 => (some (bt437.1, bt437.2.1, bt437.2.2))) else ((yu0.f x1000 x1001 x1002 (x431000.length : Int)).bind fun bt440 => (some (bt440.1, bt440.2.1, bt440.2.2)))
def yj0.f (k : Nat) (s0_0 : List Int) (s0_1 : Int) (s0_2 : Int) (l1_0 : List (List Int)) : Option (Int × Int × Int) := if (l1_0.length : Int) = 0 then (yj0.j0 k true s0_0 s0_1 s0_2 l1_0) else ((yt0.f s0_0 s0_1 s0_2 14).bind fun bt431 => (yj0.j0 k bt431.1 s0_0 bt431.2.1 bt431.2.2 l1_0))
theorem yj0.mono_l : ∀ k, (∀ y0 y1 y2 y3 y4, LeO (yj0.j0 k y0 y1 y2 y3 y4) (yj0.j0 (k + 1) y0 y1 y2 y3 y4))
 | 0 => fun _ _ _ _ _ r h => by simp [yj0.j0] at h
 | k + 1 => by
  have ih0 := yj0.mono_l k
  ·intro y0 y1 y2 y3 y4
   unfold yj0.j0
   repeat' (with_reducible first | exact ih0 _ _ _ _ _ | exact LeO.refl _ | exact LeO.none _ | refine LeO.ite ?_ ?_ | refine LeO.bind ?_ (fun _ => ?_))
theorem yj0.mono : ∀ a0 a1 a2 a3 k, LeO (yj0.f k a0 a1 a2 a3) (yj0.f (k + 1) a0 a1 a2 a3) := by
 intro a0 a1 a2 a3 k
 have ih0 := yj0.mono_l k
 unfold yj0.f
 repeat' (with_reducible first | exact ih0 _ _ _ _ _ | exact LeO.refl _ | exact LeO.none _ | refine LeO.ite ?_ ?_ | refine LeO.bind ?_ (fun _ => ?_))
theorem yj0.calls (k : Nat) (g : Nat) (s0_0 : List Int) (s0_1 : Int) (s0_2 : Int) (A1_0 : Option Addr) (c1_0 : Nat) (l1_0 : List (List Int)) (r1 : Int) (r2 : Int) (r3 : Int) (w0 w : World) (hI : IsS46 w0 w g s0_0 s0_1 s0_2) (hB : Below w0.heap.size w0 w) (hr1_0 : ∀ W_, zg0 w W_ g none → Kd.C (Kd.slice 3 (Kd.int .i64)) W_ A1_0 l1_0.length l1_0) (hc1_0 : l1_0.length ≤ c1_0) (h : yj0.f k s0_0 s0_1 s0_2 l1_0 = some (r1, r2, r3)) :
  Calls Try.prog 35 #[.pointer (some ⟨g, 0, none⟩), .agg #[.slice A1_0 l1_0.length c1_0]] w fun e w' => e = .returned (.int .i64 r1) ∧ IsS46 w0 w' g s0_0 r2 r3 ∧ Below w0.heap.size w0 w' ∧ zg0 w w' g none := by
 have hu26 := Try.underlying26
 have HR1_0 := hqZ hr1_0
 have HC1_0 := hqZ hc1_0
 clear hr1_0 hc1_0
 have HI0 := hqZ hI
 have HK := hqZ (zg0.refl w g none)
 have HL := hqZ hB.size
 clear hI
 have HW0 := hqZ hB.size
 have HB := hqZ hB
 clear hB
 have H : (if (l1_0.length : Int) = 0 then (yj0.j0 k true s0_0 s0_1 s0_2 l1_0) else ((yt0.f s0_0 s0_1 s0_2 14).bind fun bt431 => (yj0.j0 k bt431.1 s0_0 bt431.2.1 bt431.2.2 l1_0))) = some (r1, r2, r3) := h
 clear h
 have HC3 := hqZ H
 clear H
 go_enter Try.func35, Try.ntmps35
 go_upto_region 1 with (first | ((with_reducible refine zo0 (N := 3) rfl ?_); refine zp0 ?hg (N := 3) ?hd (cs := #[.slice A1_0 l1_0.length c1_0]) (t := 26) ?hr ?_; (case hd | hg => rfl); (case hr => go_simp <;> rfl); intro gb430 hg w4 hbox hb; replace HB := hqZ (za0 (HB.1) hb); have BK430 := hqZ (hbox); have GW430 := hqZ ((by rw [hg]; exact (zl0 (w := w) (g := g) (row := none) (HK.1)) : w.heap.size ≤ gb430)); have GE430 := hqZ ((Nat.le_trans HW0.1 (by rw [hg]; exact (zl0 (w := w) (g := g) (row := none) (HK.1)) : w.heap.size ≤ gb430) : w0.heap.size ≤ gb430)); replace HK := hqZ (zg0.trans (HK.1) (zg0.of_below hb g none) (.inl rfl)); have NB0_430 := hqZ ((by rw [hg]; exact Nat.ne_of_lt (IsS46.lt (show IsS46 w0 _ g s0_0 s0_1 s0_2 from HI0.1)) : g ≠ gb430)); have NB430_0 := hqZ ((by rw [hg]; exact Nat.ne_of_gt (IsS46.lt (show IsS46 w0 _ g s0_0 s0_1 s0_2 from HI0.1)) : gb430 ≠ g)); replace HI0 := hqZ (IsS46.below (HI0.1) hb); clear hb hbox hg))
 (try simp only [Act.put, zA, zB, zC])
 go_cut [12] (fun v12 wc => ∃ (kq : Nat) (x12_2 : Bool) (x1001_2 : Int) (x1002_2 : Int), v12 = .bool x12_2 ∧ zi0 (yj0.j0 kq x12_2 s0_0 x1001_2 x1002_2 l1_0 = some (r1, r2, r3)) ∧ zi0 (kq ≤ k) ∧ zi0 (wc.heap[gb430]? = some (.cells #[(.slice A1_0 l1_0.length c1_0)] 26 (0, 0))) ∧ zi0 (IsS46 w0 wc g s0_0 x1001_2 x1002_2) ∧ zi0 (zg0 w wc g none) ∧ zi0 (Below w0.heap.size w0 wc))
 case first =>
  have H := HC3.1
  clear HC3
  by_cases c5 : (l1_0.length : Int) = 0
  ·rw [if_pos c5] at H
   have c5b0 : ((l1_0.length : Int) == 0) = true := beq_iff_eq.mpr c5
   have c5b1 : ((l1_0.length : Int) != 0) = false := bne_eq_false_iff_eq.mpr c5
   clear c5
   (first | rw [c5b0] | (simp only [i64_w, i32_w]; rw [c5b0]) | skip)
   have H' := hqZ H
   clear H
   have hnb6 := NB430_0.1
   have hnc6 := NB0_430.1
   have hcz7_0 : w4.cell? ⟨gb430, 0, none⟩ = some (.slice A1_0 l1_0.length c1_0) := (zh0 BK430.1 0).trans rfl
   have hfz7_0 := zd0 BK430.1 0
   go_wp2
   go_meet
   case rel => exact ⟨_, (true), (s0_1), (s0_2), (rfl), H', ⟨by first | omega | exact Nat.le_refl _⟩, ⟨BK430.1⟩, ⟨HI0.1⟩, ⟨HK.1⟩, ⟨HB.1⟩⟩
  rw [if_neg c5] at H
  have c5b0 : ((l1_0.length : Int) == 0) = false := beq_eq_false_iff_ne.mpr c5
  have c5b1 : ((l1_0.length : Int) != 0) = true := bne_iff_ne.mpr c5
  have c5b2 : ¬ (l1_0 = []) := fun h_ => c5 (by rw [h_]; rfl)
  (first | rw [c5b0] | (simp only [i64_w, i32_w]; rw [c5b0]) | skip)
  replace H := Option.bind_eq_some_iff.mp H
  obtain ⟨⟨t431, t432, t433⟩, A80, H⟩ := H
  try dsimp only at H
  have A8 := hqZ A80
  clear A80
  have H' := hqZ H
  clear H
  have hnb9 := NB430_0.1
  have hnc9 := NB0_430.1
  have hcz10_0 : w4.cell? ⟨gb430, 0, none⟩ = some (.slice A1_0 l1_0.length c1_0) := (zh0 BK430.1 0).trans rfl
  have hfz10_0 := zd0 BK430.1 0
  go_wp2_with (first | (go_at_call 34; (with_reducible refine (yt0.calls g s0_0 s0_1 s0_2 14 t431 t432 t433 w0 _ ?side1 ?side2 A8.1).mono ?_); (case side1 => repeat (first | exact HI0.1 | apply IsS46.alloc | apply IsS46.drewN | apply IsS46.drew | apply IsS46.set_1 | apply IsS46.set_2 | refine IsS46.far ?_ NB0_430.1 _)); (case side2 => repeat (first | (with_reducible first | exact HB.1 | apply zn0 | apply zj0 | apply zk0 | refine zf0 ?_ (IsS46.ge HI0.1) | refine zf0 ?_ GE430.1) | exact HB.1)); rintro e w11 ⟨rfl, hi, hb, hk⟩; replace BK430 := hqZ (zg0.blk hk (g' := gb430) (BK430.1) NB430_0.1 (by simp)); replace HK := hqZ (zg0.trans (HK.1) hk (.inl rfl)); replace HB := hqZ (hb); replace HI0 := hqZ (hi); clear hb hk hi))
  go_meet
  case rel => exact ⟨_, (t431), (t432), (t433), (rfl), H', ⟨by first | omega | exact Nat.le_refl _⟩, ⟨BK430.1⟩, ⟨HI0.1⟩, ⟨HK.1⟩, ⟨HB.1⟩⟩
 case rest =>
  clear HC3
  try clear c1
  try clear p2
  try clear c3
  try clear c5
  try clear c5b0
  try clear c5b1
  try clear c5b2
  try clear c6
  try clear c9
  try clear hcz10_0
  try clear hcz7_0
  try clear hfz10_0
  try clear hfz7_0
  obtain ⟨kq, x12_2, x1001_2, x1002_2, rfl, HA, HJ2, BK430, HI0, HK, HB⟩ := hcut
  cases kq with
  | zero => exact absurd HA.1 (by simp [yj0.j0])
  | succ kj2 =>
   have H := HA.1
   clear HA
   simp only [yj0.j0] at H
   by_cases c12 : x12_2 = true
   rotate_left
   ·replace c12 := Bool.eq_false_iff.mpr c12
    subst c12
    rw [if_neg (show ¬ (false = true) by decide)] at H
    replace H := Option.bind_eq_some_iff.mp H
    obtain ⟨⟨t440, t441, t442⟩, A200, H⟩ := H
    try dsimp only at H
    have A20 := hqZ A200
    clear A200
    simp only [Option.some.injEq, Prod.mk.injEq] at H
    obtain ⟨rfl, rfl, rfl⟩ := H
    have hnb21 := NB430_0.1
    have hnc21 := NB0_430.1
    have hcz22_0 : wc.cell? ⟨gb430, 0, none⟩ = some (.slice A1_0 l1_0.length c1_0) := (zh0 BK430.1 0).trans rfl
    have hfz22_0 := zd0 BK430.1 0
    go_wp2_with (first | ((with_reducible refine ze0 (f := 55) rfl ?_); refine zq0 (some 23) rfl rfl Try.func55 (by kernel_rfl) rfl #[.pointer (some ⟨g, 0, none⟩), .int .i64 (l1_0.length : Int)] rfl (by simp only [hqa, hqb, hqc]; rfl) ?_; (with_reducible refine (yu0.calls g s0_0 x1001_2 x1002_2 (l1_0.length : Int) t440 t441 t442 w0 _ ?side1 ?side2 A20.1).mono ?_); (case side1 => repeat (first | exact HI0.1 | apply IsS46.alloc | apply IsS46.drewN | apply IsS46.drew | apply IsS46.set_1 | apply IsS46.set_2 | refine IsS46.far ?_ NB0_430.1 _)); (case side2 => repeat (first | (with_reducible first | exact HB.1 | apply zn0 | apply zj0 | apply zk0 | refine zf0 ?_ (IsS46.ge HI0.1) | refine zf0 ?_ GE430.1) | exact HB.1)); rintro e w23 ⟨rfl, hi, hb, hk⟩; refine ⟨_, rfl, ?_⟩; replace BK430 := hqZ (zg0.blk hk (g' := gb430) (BK430.1) NB430_0.1 (by simp)); replace HK := hqZ (zg0.trans (HK.1) hk (.inl rfl)); replace HB := hqZ (hb); replace HI0 := hqZ (hi); clear hb hk hi))
    go_ret
    exact ⟨rfl, HI0.1, HB.1, HK.1⟩
   subst c12
   rw [if_pos rfl] at H
   obtain ⟨y434, hy434⟩ : ∃ y_ : List Int, y_ = (([(-1), 0, (l1_0.length : Int), 4611686018427387904] : List Int)) := ⟨_, rfl⟩
   replace H : ((yw1.f s0_0 x1001_2 x1002_2 y434).bind fun bt437 => (some (bt437.1, bt437.2.1, bt437.2.2))) = some (r1, r2, r3) := by first | (rw [hy434]; with_reducible exact H) | (have H2_ := (Option.bind_some _ _).symm.trans H; rw [hy434]; with_reducible exact H2_) | (have H2_ := (Option.bind_some _ _).symm.trans H; with_reducible exact H2_) | with_reducible exact H | (rw [hy434]; exact H) | exact H
   have Ny434 := hqZ hy434
   clear hy434
   replace H := Option.bind_eq_some_iff.mp H
   obtain ⟨⟨t437, t438, t439⟩, A130, H⟩ := H
   try dsimp only at H
   have A13 := hqZ A130
   clear A130
   simp only [Option.some.injEq, Prod.mk.injEq] at H
   obtain ⟨rfl, rfl, rfl⟩ := H
   have hnb14 := NB430_0.1
   have hnc14 := NB0_430.1
   have hcz15_0 : wc.cell? ⟨gb430, 0, none⟩ = some (.slice A1_0 l1_0.length c1_0) := (zh0 BK430.1 0).trans rfl
   have hfz15_0 := zd0 BK430.1 0
   go_wp2_with (first | ((with_reducible refine zo0 (N := 17) rfl ?_); refine Kd.R_lit (Kd.int .i64) _ 3 ?hg (N := 17) ?hd (xs := ([(-1), 0, (l1_0.length : Int), 4611686018427387904] : List Int)) (inner := [.int .i64 (-1), .int .i64 0, .int .i64 (l1_0.length : Int), .int .i64 4611686018427387904]) (ok := fun _ => True) (okp := fun _ => True) ?hr ?hp (fun _ hk => hk) trivial (Below.refl _ _) (Nat.le_refl _) (by simp) ?_; (case hd | hg => rfl); (case hr => go_simp <;> rfl); (case hp => exact (Reps.one (show Kd.M (Kd.int .i64) _ _ _ (-1) [.int .i64 (-1)] from rfl) (Reps.one (show Kd.M (Kd.int .i64) _ _ _ 0 [.int .i64 0] from rfl) (Reps.one (show Kd.M (Kd.int .i64) _ _ _ (l1_0.length : Int) [.int .i64 (l1_0.length : Int)] from rfl) (Reps.one (show Kd.M (Kd.int .i64) _ _ _ 4611686018427387904 [.int .i64 4611686018427387904] from rfl) (Reps.none _ _)))))); intro v435 w16 ho17 hb hg_ hnew_; clear hg_ hnew_; (first | rw [← Ny434.1] at ho17 | (simp only [Int.reduceToNat] at ho17; rw [← Ny434.1] at ho17)); have HO436 := hqZ (Kd.R_lower ho17 (zl0 (w := w) (g := g) (row := none) (HK.1))); replace BK430 := hqZ (zc0 (g := gb430) (BK430.1) hb); replace HK := hqZ (zg0.trans (HK.1) (zg0.of_below hb g none) (.inl rfl)); replace HB := hqZ (za0 (HB.1) hb); replace HI0 := hqZ (IsS46.below (HI0.1) hb); clear hb ho17; obtain ⟨Ao18, co18, eo18⟩ := Kd.R_slice HO436.1; subst eo18) | ((with_reducible refine ze0 (f := 56) rfl ?_); refine zq0 (some 18) rfl rfl Try.func56 (by kernel_rfl) rfl #[.pointer (some ⟨g, 0, none⟩), .slice Ao18 y434.length co18] rfl (by simp only [hqa, hqb, hqc]; rfl) ?_; (with_reducible refine (yw1.calls g s0_0 x1001_2 x1002_2 _ _ y434 t437 t438 t439 w0 _ ?side1 ?side2 ?side3 ?side4 ?side5 A13.1).mono ?_); (case side1 => repeat (first | exact HI0.1 | apply IsS46.alloc | apply IsS46.drewN | apply IsS46.drew | apply IsS46.set_1 | apply IsS46.set_2 | refine IsS46.far ?_ NB0_430.1 _)); (case side2 => repeat (first | (with_reducible first | exact HB.1 | apply zn0 | apply zj0 | apply zk0 | refine zf0 ?_ (IsS46.ge HI0.1) | refine zf0 ?_ GE430.1) | exact HB.1)); (case side3 => exact (Kd.R_reads' HO436.1).2.2); (case side4 => exact (Kd.R_reads' HO436.1).2.1); (case side5 => exact far_slice (IsS46.own_ne HI0.1 HO436.1 (by decide))); rintro e w19 ⟨rfl, hi, hb, hk⟩; refine ⟨_, rfl, ?_⟩; replace BK430 := hqZ (zg0.blk hk (g' := gb430) (BK430.1) NB430_0.1 (by simp)); replace HO436 := hqZ (Kd.R_mono (Kd.R_keep (IsS46.apart (show IsS46 w0 _ g s0_0 x1001_2 x1002_2 from HI0.1) (HO436.1) (by decide)) hk (fun _ h => h.2)) (fun _ h => h.1)); replace HK := hqZ (zg0.trans (HK.1) hk (.inl rfl)); replace HB := hqZ (hb); replace HI0 := hqZ (hi); clear hb hk hi))
   go_ret
   exact ⟨rfl, HI0.1, HB.1, HK.1⟩
def yg1.f (k : Nat) (s0_0 : List Int) (s0_1 : Int) (s0_2 : Int) : Option ((List (List Int)) × Int × List Int × Int × Int × Int) := (yi0.f k s0_0 s0_1 s0_2 6).bind fun bt329 => ((yq0.f k bt329.1 bt329.2.1 bt329.2.2.1).bind fun t339 => (if t339 = true then ((ym0.f k bt329.1 bt329.2.1 bt329.2.2.1).bind fun t340 => (if t340 ≥ 0 then ((yt0.f s0_0 bt329.2.2.2.1 bt329.2.2.2.2 2).bind fun bt341 => (if bt341.1 = true then (some (bt329.1, bt329.2.1, bt329.2.2.1, t340, bt341.2.1, bt341.2.2)) else ((yj0.f k s0_0 bt341.2.1 bt341.2.2 bt329.1).bind fun bt344 => (some (bt329.1, bt329.2.1, bt329.2.2.1, bt344.1, bt344.2.1, bt344.2.2))))) else ((yj0.f k s0_0 bt329.2.2.2.1 bt329.2.2.2.2 bt329.1).bind fun bt347 => (some (bt329.1, bt329.2.1, bt329.2.2.1, bt347.1, bt347.2.1, bt347.2.2))))) else ((yj0.f k s0_0 bt329.2.2.2.1 bt329.2.2.2.2 bt329.1).bind fun bt350 => (some (bt329.1, bt329.2.1, bt329.2.2.1, bt350.1, bt350.2.1, bt350.2.2)))))
theorem yg1.mono : ∀ a0 a1 a2 k, LeO (yg1.f k a0 a1 a2) (yg1.f (k + 1) a0 a1 a2) := by
 intro a0 a1 a2 k
 unfold yg1.f
 repeat' (with_reducible first | exact yq0.mono _ _ _ _ | exact ym0.mono _ _ _ _ | exact yi0.mono _ _ _ _ _ | exact yj0.mono _ _ _ _ _ | exact LeO.refl _ | exact LeO.none _ | refine LeO.ite ?_ ?_ | refine LeO.bind ?_ (fun _ => ?_))
def yg1.T7 : Bool × List (List Nat × List Nat) := (true, [([], []), ([], []), ([], []), ([], []), ([], []), ([3, 4], [3, 4]), ([0, 5, 0], [0]), ([1, 6, 0, 1, 6], [1]), ([2, 7, 0, 1, 2, 6, 7], [2]), ([5, 8, 0, 1, 2, 3, 4, 5, 6, 7, 8], [5])])
def yg1.B7 : List Nat := [0, 0, 0, 0, 0, 24, 57, 123, 255, 511]
theorem yg1.tab7 : rtab .any (opsOf Try.f13 7) = yg1.T7 := by kernel_rfl
theorem yg1.bits7 : waitsOk yg1.T7.2 yg1.B7 = true := by kernel_rfl
theorem yg1.calls (k : Nat) (A0 : Option Addr) (c0 : Nat) (s0_0 : List Int) (r1 : List (List Int)) (r2 : Int) (r3 : List Int) (r4 : Int) (r5 : Int) (r6 : Int) (w : World) (hr0 : Kd.C (Kd.int .u8) w A0 s0_0.length s0_0) (hc0 : s0_0.length ≤ c0) (h : yg1.f k s0_0 0 0 = some (r1, r2, r3, r4, r5, r6)) :
  Calls Try.prog 13 #[.slice A0 s0_0.length c0] w fun e w' => ∃ v0_ v2_ : Value, e = .returned (.tuple #[.agg #[v0_], .int .i64 r2, v2_, .int .i64 r4]) ∧ Kd.N (Kd.slice 3 (Kd.int .i64)) 27 w' w.heap.size (fun k_ => (w.heap.size ≤ k_) ∧ some k_ ≠ (v2_ : Value).ownBlock) v0_ r1 ∧ Kd.R (Kd.int .i64) 3 w' w.heap.size (fun k_ => (w.heap.size ≤ k_)) v2_ r3 ∧ Below w.heap.size w w' := by
 have hu26 := Try.underlying26
 have hu46 := Try.underlying46
 have HR0 := hqZ hr0
 clear hr0
 have HW0 := hqZ (Nat.le_refl w.heap.size)
 have HL := hqZ (Nat.le_refl w.heap.size)
 have HB := hqZ (Below.refl w.heap.size w)
 have H : ((yi0.f k s0_0 0 0 6).bind fun bt329 => ((yq0.f k bt329.1 bt329.2.1 bt329.2.2.1).bind fun t339 => (if t339 = true then ((ym0.f k bt329.1 bt329.2.1 bt329.2.2.1).bind fun t340 => (if t340 ≥ 0 then ((yt0.f s0_0 bt329.2.2.2.1 bt329.2.2.2.2 2).bind fun bt341 => (if bt341.1 = true then (some (bt329.1, bt329.2.1, bt329.2.2.1, t340, bt341.2.1, bt341.2.2)) else ((yj0.f k s0_0 bt341.2.1 bt341.2.2 bt329.1).bind fun bt344 => (some (bt329.1, bt329.2.1, bt329.2.2.1, bt344.1, bt344.2.1, bt344.2.2))))) else ((yj0.f k s0_0 bt329.2.2.2.1 bt329.2.2.2.2 bt329.1).bind fun bt347 => (some (bt329.1, bt329.2.1, bt329.2.2.1, bt347.1, bt347.2.1, bt347.2.2))))) else ((yj0.f k s0_0 bt329.2.2.2.1 bt329.2.2.2.2 bt329.1).bind fun bt350 => (some (bt329.1, bt329.2.1, bt329.2.2.1, bt350.1, bt350.2.1, bt350.2.2)))))) = some (r1, r2, r3, r4, r5, r6) := h
 clear h
 replace H := Option.bind_eq_some_iff.mp H
 obtain ⟨⟨t329, t332, t333, t336, t337⟩, A20, H⟩ := H
 replace H : ((yq0.f k t329 t332 t333).bind fun t339 => (if t339 = true then ((ym0.f k t329 t332 t333).bind fun t340 => (if t340 ≥ 0 then ((yt0.f s0_0 t336 t337 2).bind fun bt341 => (if bt341.1 = true then (some (t329, t332, t333, t340, bt341.2.1, bt341.2.2)) else ((yj0.f k s0_0 bt341.2.1 bt341.2.2 t329).bind fun bt344 => (some (t329, t332, t333, bt344.1, bt344.2.1, bt344.2.2))))) else ((yj0.f k s0_0 t336 t337 t329).bind fun bt347 => (some (t329, t332, t333, bt347.1, bt347.2.1, bt347.2.2))))) else ((yj0.f k s0_0 t336 t337 t329).bind fun bt350 => (some (t329, t332, t333, bt350.1, bt350.2.1, bt350.2.2))))) = some (r1, r2, r3, r4, r5, r6) := H
 have A2 := hqZ A20
 clear A20
 replace H := Option.bind_eq_some_iff.mp H
 obtain ⟨t339, A30, H⟩ := H
 replace H : (if t339 = true then ((ym0.f k t329 t332 t333).bind fun t340 => (if t340 ≥ 0 then ((yt0.f s0_0 t336 t337 2).bind fun bt341 => (if bt341.1 = true then (some (t329, t332, t333, t340, bt341.2.1, bt341.2.2)) else ((yj0.f k s0_0 bt341.2.1 bt341.2.2 t329).bind fun bt344 => (some (t329, t332, t333, bt344.1, bt344.2.1, bt344.2.2))))) else ((yj0.f k s0_0 t336 t337 t329).bind fun bt347 => (some (t329, t332, t333, bt347.1, bt347.2.1, bt347.2.2))))) else ((yj0.f k s0_0 t336 t337 t329).bind fun bt350 => (some (t329, t332, t333, bt350.1, bt350.2.1, bt350.2.2)))) = some (r1, r2, r3, r4, r5, r6) := H
 have A3 := hqZ A30
 clear A30
 by_cases c4 : t339 = true
 rotate_left
 ·replace c4 := Bool.eq_false_iff.mpr c4
  subst c4
  have H1 : ((yj0.f k s0_0 t336 t337 t329).bind fun bt350 => (some (t329, t332, t333, bt350.1, bt350.2.1, bt350.2.2))) = some (r1, r2, r3, r4, r5, r6) := by rw [if_neg (show ¬ (false = true) by decide)] at H; exact H
  clear H
  have H := H1
  clear H1
  replace H := Option.bind_eq_some_iff.mp H
  obtain ⟨⟨t350, t351, t352⟩, A550, H⟩ := H
  replace H : (some (t329, t332, t333, t350, t351, t352)) = some (r1, r2, r3, r4, r5, r6) := H
  have A55 := hqZ A550
  clear A550
  simp only [Option.some.injEq, Prod.mk.injEq] at H
  obtain ⟨rfl, rfl, rfl, rfl, rfl, rfl⟩ := H
  go_enter Try.func13, Try.ntmps13
  try go_wp2_with (first | ((with_reducible refine zo0 (N := 2) rfl ?_); refine zp0 ?hg (N := 2) ?hd (cs := #[.slice none 0 0]) (t := 26) ?hr ?_; (case hd | hg => rfl); (case hr => go_simp <;> rfl); intro gb328 hg wA hbox hb; have n2_ := hqZ (za0 (HB.1) hb); have n3_ := hqZ hbox; have n4_ := hqZ ((by rw [hg]; exact (show Below w.heap.size w _ from HB.1).size) : w.heap.size ≤ gb328); clear HB; have HB := n2_; have BK328 := n3_; have GW328 := n4_; have GE328 := n4_; clear n2_ n3_ n4_; clear hb hbox hg) | ((with_reducible refine zo0 (N := 13) rfl ?_); refine zp0 ?hg (N := 13) ?hd (cs := #[.slice A0 s0_0.length c0, .int .i64 0, .int .u64 0]) (t := 46) ?hr ?_; (case hd | hg => rfl); (case hr => go_simp <;> rfl); intro g hg wB hbox hb; have HI0 := hqZ (⟨A0, c0, hbox, (by rw [hg]; exact (show Below w.heap.size w _ from HB.1).size), HR0.1⟩ : IsS46 w wB g s0_0 0 0); have HK := hqZ (zg0.of_below (za0 (HB.1) hb) g none); replace HB := hqZ (za0 (HB.1) hb); have NB0_328 := hqZ (by rw [hg]; exact Nat.ne_of_gt (blk_lt (g := gb328) (o := .cells #[.slice none 0 0] 26 (0, 0)) (BK328.1)) : g ≠ gb328); have NB328_0 := hqZ (by rw [hg]; exact Nat.ne_of_lt (blk_lt (g := gb328) (o := .cells #[.slice none 0 0] 26 (0, 0)) (BK328.1)) : gb328 ≠ g); replace BK328 := hqZ (zc0 (g := gb328) (o := .cells #[.slice none 0 0] 26 (0, 0)) (BK328.1) hb); clear hb hbox hg) | ((with_reducible refine ze0 (f := 27) rfl ?_); refine zq0 (some 16) rfl rfl Try.func27 (by kernel_rfl) rfl #[.pointer (some ⟨g, 0, none⟩), .int .i64 6] rfl (by simp only [hqa, hqb, hqc]; rfl) ?_; (with_reducible refine (yi0.calls k g s0_0 0 0 6 t329 t332 t333 t336 t337 w _ ?side1 ?side2 A2.1).mono ?_); (case side1 => repeat (first | exact HI0.1 | apply IsS46.alloc | apply IsS46.drewN | apply IsS46.drew | apply IsS46.set_1 | apply IsS46.set_2 | refine IsS46.far ?_ NB0_328.1 _)); (case side2 => repeat (first | (with_reducible first | exact HB.1 | apply zn0 | apply zj0 | apply zk0 | refine zf0 ?_ (IsS46.ge HI0.1) | refine zf0 ?_ GE328.1) | exact HB.1)); rintro e w57 ⟨v330, v334, rfl, ho0, ho1, hi, hb, hk⟩; refine ⟨_, rfl, ?_⟩; have HO331 := hqZ (Kd.N_lower (Kd.N_mono (ok' := fun k_ => (w.heap.size ≤ k_) ∧ some k_ ≠ (v334 : Value).ownBlock ∧ k_ ≠ gb328 ∧ k_ ≠ g) ho0 (fun k_ hk_ => ⟨(Nat.le_trans (zl0 (w := w) (g := g) (row := none) (HK.1)) hk_.1), hk_.2, (Kd.freshB (g := gb328) (o := .cells #[.slice none 0 0] 26 (0, 0)) (BK328.1) k_ hk_.1), (IsS46.fresh (HI0.1) k_ hk_.1)⟩)) (zl0 (w := w) (g := g) (row := none) (HK.1))); replace BK328 := hqZ (zg0.blk hk (g' := gb328) (o := .cells #[.slice none 0 0] 26 (0, 0)) (BK328.1) NB328_0.1 (by simp)); have HO335 := hqZ (Kd.R_lower (Kd.R_newM (M := fun k_ => (w.heap.size ≤ k_)) (Kd.R_mono (ok' := fun k_ => True) ho1 (fun _ hk_ => trivial)) (zl0 (w := w) (g := g) (row := none) (HK.1)) (fun k_ h_ => h_)) (zl0 (w := w) (g := g) (row := none) (HK.1))); replace HK := hqZ (zg0.trans (HK.1) hk (.inl rfl)); replace HB := hqZ (hb); replace HI0 := hqZ (hi); clear hb hk hi ho0 ho1) | ((with_reducible refine zo0 (N := 7) rfl ?_); refine zp0 ?hg (N := 7) ?hd (cs := #[.slice none 0 0]) (t := 26) ?hr ?_; (case hd | hg => rfl); (case hr => go_simp <;> rfl); intro gb338 hg w58 hbox hb; replace HO331 := hqZ (Kd.N_below (Kd.N_elderB (HO331.1) gb338 (Nat.le_of_eq hg.symm)) hb); replace HO335 := hqZ (Kd.R_below (HO335.1) hb); replace HB := hqZ (za0 (HB.1) hb); have BK338 := hqZ (hbox); have GW338 := hqZ ((by rw [hg]; exact (zl0 (w := w) (g := g) (row := none) (HK.1)) : w.heap.size ≤ gb338)); have GE338 := hqZ ((Nat.le_trans HW0.1 (by rw [hg]; exact (zl0 (w := w) (g := g) (row := none) (HK.1)) : w.heap.size ≤ gb338) : w.heap.size ≤ gb338)); replace HK := hqZ (zg0.trans (HK.1) (zg0.of_below hb g none) (.inl rfl)); have NB328_338 := hqZ ((by rw [hg]; exact Nat.ne_of_lt (blk_lt (g := gb328) (o := .cells #[.slice none 0 0] 26 (0, 0)) (BK328.1)) : gb328 ≠ gb338)); have NB338_328 := hqZ ((by rw [hg]; exact Nat.ne_of_gt (blk_lt (g := gb328) (o := .cells #[.slice none 0 0] 26 (0, 0)) (BK328.1)) : gb338 ≠ gb328)); replace BK328 := hqZ (zc0 (g := gb328) (o := .cells #[.slice none 0 0] 26 (0, 0)) (BK328.1) hb); have NB0_338 := hqZ ((by rw [hg]; exact Nat.ne_of_lt (IsS46.lt (show IsS46 w _ g s0_0 t336 t337 from HI0.1)) : g ≠ gb338)); have NB338_0 := hqZ ((by rw [hg]; exact Nat.ne_of_gt (IsS46.lt (show IsS46 w _ g s0_0 t336 t337 from HI0.1)) : gb338 ≠ g)); replace HI0 := hqZ (IsS46.below (HI0.1) hb); clear hb hbox hg; obtain ⟨Ao59, co59, eo59⟩ := Kd.N_slice HO331.1; subst eo59; have hnb60 := NB338_328.1; have hnc60 := NB328_338.1; have hnb61 := NB338_0.1; have hnc61 := NB0_338.1; have hcz62_0 : w58.cell? ⟨gb338, 0, none⟩ = some (.slice none 0 0) := (zh0 BK338.1 0).trans rfl; have hfz62_0 := zd0 BK338.1 0; obtain ⟨Ao63, co63, eo63⟩ := Kd.R_slice HO335.1; subst eo63) | ((with_reducible refine ze0 (f := 30) rfl ?_); refine zq0 (some 23) rfl rfl Try.func30 (by kernel_rfl) rfl #[.agg #[.slice Ao59 t329.length co59], .int .i64 t332, .slice Ao63 t333.length co63] rfl (by simp only [hqa, hqb, hqc]; rfl) ?_; (with_reducible refine (yq0.calls k _ _ t329 t332 _ _ t333 false _ ?side1 ?side2 ?side3 ?side4 A3.1).mono ?_); (case side1 => refine (Kd.N_reads' (e := 27) (base := w.heap.size) (ok := fun k_ => (((w.heap.size ≤ k_) ∧ (some k_ ≠ (.slice Ao63 t333.length co63 : Value).ownBlock ∧ (k_ ≠ gb328 ∧ k_ ≠ g))) ∧ k_ ≠ gb338)) (n := t329.length) (c := co59) ?_).2.2; exact ((Kd.N_mono (Kd.N_far (p := ⟨gb338, 0, none⟩) (Kd.N_mono HO331.1 (fun k_ hk => (⟨hk, hk.2⟩ : _ ∧ k_ ≠ gb338))) (fun _ hk => hk.2) (.slice Ao59 t329.length co59)) (fun _ h_ => h_.1)))); (case side2 => exact (Kd.N_reads' HO331.1).2.1); (case side3 => refine (Kd.R_reads' (e := 3) (base := w.heap.size) (ok := fun k_ => ((w.heap.size ≤ k_) ∧ True)) (n := t333.length) (c := co63) ?_).2.2; exact ((Kd.R_mono (Kd.R_far (p := ⟨gb338, 0, none⟩) (Kd.R_types HO335.1 BK338.1 (by decide)) (fun _ hk => hk.2) (.slice Ao59 t329.length co59)) (fun _ h_ => h_.1)))); (case side4 => exact (Kd.R_reads' HO335.1).2.1); rintro e w64 ⟨rfl, hb⟩; refine ⟨_, rfl, ?_⟩; replace HO331 := hqZ (Kd.N_below ((Kd.N_mono (Kd.N_far (p := ⟨gb338, 0, none⟩) (Kd.N_mono HO331.1 (fun k_ hk => (⟨hk, hk.2⟩ : _ ∧ k_ ≠ gb338))) (fun _ hk => hk.2) (.slice Ao59 t329.length co59)) (fun _ h_ => h_.1))) hb); replace HO335 := hqZ (Kd.R_below ((Kd.R_mono (Kd.R_far (p := ⟨gb338, 0, none⟩) (Kd.R_types HO335.1 BK338.1 (by decide)) (fun _ hk => hk.2) (.slice Ao59 t329.length co59)) (fun _ h_ => h_.1))) hb); replace BK328 := hqZ (zc0 (g := gb328) (o := .cells #[.slice none 0 0] 26 (0, 0)) (by refine blk_far ?_ NB328_338.1 _; exact BK328.1) hb); replace BK338 := hqZ (zc0 (g := gb338) (o := .cells #[.slice Ao59 t329.length co59] 26 (0, 0)) (by refine blk_put (cs := #[.slice none 0 0]) ?_ 0 _ rfl; exact BK338.1) hb); replace HK := hqZ (zg0.trans (keep_far HK.1 GW338.1 _) (zg0.of_below hb g none) (.inl rfl)); replace HB := hqZ (za0 (zf0 HB.1 GE338.1) hb); replace HI0 := hqZ (IsS46.below (show IsS46 w (w58.setCell ⟨gb338, 0, none⟩ (.slice Ao59 t329.length co59)) g s0_0 t336 t337 from IsS46.far HI0.1 NB0_338.1 _) hb); clear hb))
  have n0_ := hqZ (Kd.N_drew HO331.1)
  have n1_ := hqZ (Kd.R_drew HO335.1)
  have n2_ := hqZ (blk_drew BK328.1)
  have n3_ := hqZ (blk_drew BK338.1)
  have n4_ := hqZ (IsS46.drew HI0.1)
  have n5_ := hqZ (keep_drew HK.1)
  have n6_ := hqZ (zk0 HB.1)
  clear HO331 HO335 BK328 BK338 HI0 HK HB
  have HO331 := n0_
  have HO335 := n1_
  have BK328 := n2_
  have BK338 := n3_
  have HI0 := n4_
  have HK := n5_
  have HB := n6_
  clear n0_ n1_ n2_ n3_ n4_ n5_ n6_
  refine start_ (n := 10) (S := fun w' => w'.cell? ⟨gb338, 0, none⟩ = some (.slice Ao59 t329.length co59)) (ds := []) #[false, false, false, false, false, false, false, false, false, false] (by kernel_rfl) rfl rfl ((zh0 BK338.1 0).trans rfl) (fun hHeld => ?_); refine with_tabW yg1.tab7 yg1.bits7 (fun HT_ HW_ => ?_)
  generalize w64.drew = w65 at HO331 HO335 BK328 BK338 HI0 HK HB hHeld ⊢
  refine pure_ (i := 1) (N := some 39) (v := ?_) (a' := ?_) (bf 10 2) rfl rfl (zm0 HT_.1 (by kernel_rfl)) (fun _ _ _ h => h) (Or.inl ⟨by rfl, ?_⟩) ?_ ?_
  rotate_left
  ·intro w'; go_simp; with_reducible rfl
  rotate_left
  ·simp only [Act.put, zA, zB, zC, i64_w, i32_w]; rfl
  refine pure_ (i := 2) (N := some 40) (v := ?_) (a' := ?_) (bf 10 6) rfl rfl (zm0 HT_.1 (by kernel_rfl)) (fun _ _ _ h => h) (Or.inl ⟨by rfl, ?_⟩) ?_ ?_
  rotate_left
  ·intro w'; go_simp; with_reducible rfl
  rotate_left
  ·simp only [Act.put, zA, zB, zC, i64_w, i32_w]; rfl
  refine pure_ (i := 3) (N := some 41) (v := ?_) (a' := ?_) (bf 10 14) rfl rfl (zm0 HT_.1 (by kernel_rfl)) (fun _ _ _ h => h) (Or.inl ⟨by rfl, ?_⟩) ?_ ?_
  rotate_left
  ·intro w'; go_simp; with_reducible rfl
  rotate_left
  ·simp only [Act.put, zA, zB, zC, i64_w, i32_w]; rfl
  refine take_ (i := 0) (N := some 38) (v := ?_) (a' := ?_) (bf 10 15) rfl rfl (take_ofW HT_.1 HW_.1 (by kernel_rfl)) (fun _ _ _ h => h) (Or.inl ⟨by rfl, ?_⟩) hHeld ?_ ?_
  rotate_left
  ·intro w' s0
   go_simp
   with_reducible rfl
  rotate_left
  ·simp only [Act.put, zA, zB, zC, i64_w, i32_w]; rfl
  refine take_ (i := 4) (N := some 42) (v := ?_) (a' := ?_) (bf 10 31) rfl rfl (take_ofW HT_.1 HW_.1 (by kernel_rfl)) (fun _ _ _ h => h) (Or.inl ⟨by rfl, ?_⟩) hHeld ?_ ?_
  rotate_left
  ·intro w' s0
   go_simp
   with_reducible rfl
  rotate_left
  ·simp only [Act.put, zA, zB, zC, i64_w, i32_w]; rfl
  refine one_ (i := 5) (N := some 43) (bf 10 63) rfl rfl (one_of HT_.1 (by kernel_rfl)) (by decide) (fun K hK => ?_)
  refine goes_ Try.func35 (by kernel_rfl) rfl #[.pointer (some ⟨g, 0, none⟩), .agg #[.slice Ao59 t329.length co59]] (by rfl) rfl rfl (by simp only [hqa, hqb, hqc]; rfl) ?_
  with_reducible refine (yj0.calls k g s0_0 t336 t337 _ _ t329 t350 t351 t352 w _ ?side1 ?side2 ?side3 ?side4 A55.1).mono ?_
  (case side1 => repeat (first | exact HI0.1 | apply IsS46.alloc | apply IsS46.drewN | apply IsS46.drew | apply IsS46.set_1 | apply IsS46.set_2 | refine IsS46.far ?_ NB0_328.1 _ | refine IsS46.far ?_ NB0_338.1 _))
  (case side2 => repeat (first | (with_reducible first | exact HB.1 | apply zn0 | apply zj0 | apply zk0 | refine zf0 ?_ (IsS46.ge HI0.1) | refine zf0 ?_ GE328.1 | refine zf0 ?_ GE338.1) | exact HB.1))
  (case side3 => exact Kd.C_foot_ownV (base := 0) (Kd.N_V (Kd.N_mono (ok := fun k_ => ((((w.heap.size ≤ k_)) ∧ (some k_ ≠ (.slice Ao63 t333.length co63 : Value).ownBlock ∧ (k_ ≠ gb328 ∧ k_ ≠ g))) ∧ k_ ≠ gb338)) (HO331.1) (fun k_ hk_ => (⟨hk_, hk_.1.2.2.2⟩ : _ ∧ k_ ≠ g)))) (fun _ h_ => h_.2))
  (case side4 => exact (Kd.N_reads' HO331.1).2.1)
  rintro e w66 ⟨rfl, hi, hb, hk⟩
  refine ⟨_, rfl, ?_⟩
  have n0_ := hqZ (zg0.blk hk (g' := gb328) (o := .cells #[.slice none 0 0] 26 (0, 0)) (BK328.1) NB328_0.1 (by simp))
  have n1_ := hqZ (Kd.N_mono (Kd.N_keep (Kd.N_mono (ok := fun k_ => ((((w.heap.size ≤ k_)) ∧ (some k_ ≠ (.slice Ao63 t333.length co63 : Value).ownBlock ∧ (k_ ≠ gb328 ∧ k_ ≠ g))) ∧ k_ ≠ gb338)) (HO331.1) (fun k_ hk_ => (⟨hk_, hk_.1.2.2.2⟩ : _ ∧ k_ ≠ g))) hk (fun _ h => h.2)) (fun _ h => h.1))
  have n2_ := hqZ (Kd.R_mono (Kd.R_keep (IsS46.apart (show IsS46 w _ g s0_0 t336 t337 from HI0.1) (HO335.1) (by decide)) hk (fun _ h => h.2)) (fun _ h => h.1))
  have n3_ := hqZ (zg0.blk hk (g' := gb338) (o := .cells #[.slice Ao59 t329.length co59] 26 (0, 0)) (BK338.1) NB338_0.1 (by simp))
  have n4_ := hqZ (zg0.trans (HK.1) hk (.inl rfl))
  have n5_ := hqZ (hb)
  have n6_ := hqZ (hi)
  clear BK328 HO331 HO335 BK338 HK HB HI0
  have BK328 := n0_
  have HO331 := n1_
  have HO335 := n2_
  have BK338 := n3_
  have HK := n4_
  have HB := n5_
  have HI0 := n6_
  clear n0_ n1_ n2_ n3_ n4_ n5_ n6_
  (try clear hb)
  (try clear hb2)
  (try clear hk)
  (try clear hi)
  refine hK.out _ _ ((zh0 BK338.1 0).trans rfl) (fun hHeld => ?_)
  clear hK K
  refine norm_ (a' := ?_) ?_ ?_
  rotate_left
  ·show Act.put _ (some 43) _ = _; simp only [Act.put, zA, zB, zC, i64_w, i32_w]; rfl
  refine one_ (i := 6) (N := none) (bf 10 127) rfl rfl (one_of HT_.1 (by kernel_rfl)) (by decide) (fun K hK => ?_)
  have hs67 : w66.cell? ⟨gb328, 0, none⟩ = some (.slice none 0 0) := (zh0 BK328.1 0).trans rfl
  have hfs67 := zd0 BK328.1 0
  have hns67_1 := NB338_328.1
  have hms67_1 := NB328_338.1
  refine skip_ (w1 := ?_) (by rfl) rfl ?_ ?_
  rotate_left
  ·go_simp
   rfl
  refine hK.out _ _ (((cell_far (p := ⟨gb328, _, none⟩) NB338_328.1 _).trans (hHeld))) (fun hHeld => ?_)
  clear hK K
  refine pure_ (i := 7) (N := some 3) (v := ?_) (a' := ?_) (bf 10 255) rfl rfl (zm0 HT_.1 (by kernel_rfl)) (fun _ _ _ h => h) (Or.inl ⟨by rfl, ?_⟩) ?_ ?_
  rotate_left
  ·intro w'; go_simp; with_reducible rfl
  rotate_left
  ·simp only [Act.put, zA, zB, zC, i64_w, i32_w]; rfl
  refine pure_ (i := 8) (N := some 4) (v := ?_) (a' := ?_) (bf 10 511) rfl rfl (zm0 HT_.1 (by kernel_rfl)) (fun _ _ _ h => h) (Or.inl ⟨by rfl, ?_⟩) ?_ ?_
  rotate_left
  ·intro w'; go_simp; with_reducible rfl
  rotate_left
  ·simp only [Act.put, zA, zB, zC, i64_w, i32_w]; rfl
  refine pure_ (i := 9) (N := some 5) (v := ?_) (a' := ?_) (bf 10 1023) rfl rfl (zm0 HT_.1 (by kernel_rfl)) (fun _ _ _ h => h) (Or.inl ⟨by rfl, ?_⟩) ?_ ?_
  rotate_left
  ·intro w'; go_simp; with_reducible rfl
  rotate_left
  ·simp only [Act.put, zA, zB, zC, i64_w, i32_w]; rfl
  refine done_ (done_of HT_.1 (by kernel_rfl)) ?_
  try go_wp2
  refine bodyPost_ret (results_list (rs := [.cell 2 26, .tmp 3, .tmp 4, .tmp 5]) rfl (by simp) (.cell gb328 26 #[.slice Ao59 t329.length co59] (0, 0) _ rfl (by refine blk_put (cs := #[.slice none 0 0]) ?_ 0 _ rfl; exact BK328.1) Try.underlying26 rfl (by kernel_rfl) (.tmp (.tmp (.tmp .nil))))) rfl ?_
  exact ⟨_, _, rfl, Kd.N_mono (Kd.N_far (p := ⟨gb328, 0, none⟩) (Kd.N_mono HO331.1 (fun k_ hk => (⟨hk, hk.1.2.2.1⟩ : _ ∧ k_ ≠ gb328))) (fun _ hk => hk.2) (.slice Ao59 t329.length co59)) (fun _ hk => ⟨hk.1.1.1, hk.1.1.2.1⟩), Kd.R_mono (Kd.R_far (p := ⟨gb328, 0, none⟩) (Kd.R_types HO335.1 BK328.1 (by decide)) (fun _ hk => hk.2) (.slice Ao59 t329.length co59)) (fun _ hk => hk.1.1), zf0 HB.1 GE328.1⟩
 subst c4
 have H1 : ((ym0.f k t329 t332 t333).bind fun t340 => (if t340 ≥ 0 then ((yt0.f s0_0 t336 t337 2).bind fun bt341 => (if bt341.1 = true then (some (t329, t332, t333, t340, bt341.2.1, bt341.2.2)) else ((yj0.f k s0_0 bt341.2.1 bt341.2.2 t329).bind fun bt344 => (some (t329, t332, t333, bt344.1, bt344.2.1, bt344.2.2))))) else ((yj0.f k s0_0 t336 t337 t329).bind fun bt347 => (some (t329, t332, t333, bt347.1, bt347.2.1, bt347.2.2))))) = some (r1, r2, r3, r4, r5, r6) := by rw [if_pos rfl] at H; exact H
 clear H
 have H := H1
 clear H1
 replace H := Option.bind_eq_some_iff.mp H
 obtain ⟨t340, A50, H⟩ := H
 replace H : (if t340 ≥ 0 then ((yt0.f s0_0 t336 t337 2).bind fun bt341 => (if bt341.1 = true then (some (t329, t332, t333, t340, bt341.2.1, bt341.2.2)) else ((yj0.f k s0_0 bt341.2.1 bt341.2.2 t329).bind fun bt344 => (some (t329, t332, t333, bt344.1, bt344.2.1, bt344.2.2))))) else ((yj0.f k s0_0 t336 t337 t329).bind fun bt347 => (some (t329, t332, t333, bt347.1, bt347.2.1, bt347.2.2)))) = some (r1, r2, r3, r4, r5, r6) := H
 have A5 := hqZ A50
 clear A50
 by_cases c6 : t340 ≥ 0
 rotate_left
 ·rw [if_neg c6] at H
  have c6b0 : decide (0 ≤ t340) = false := decide_eq_false c6
  clear c6
  replace H := Option.bind_eq_some_iff.mp H
  obtain ⟨⟨t347, t348, t349⟩, A400, H⟩ := H
  replace H : (some (t329, t332, t333, t347, t348, t349)) = some (r1, r2, r3, r4, r5, r6) := H
  have A40 := hqZ A400
  clear A400
  simp only [Option.some.injEq, Prod.mk.injEq] at H
  obtain ⟨rfl, rfl, rfl, rfl, rfl, rfl⟩ := H
  go_enter Try.func13, Try.ntmps13
  try go_wp2_with (first | ((with_reducible refine zo0 (N := 2) rfl ?_); refine zp0 ?hg (N := 2) ?hd (cs := #[.slice none 0 0]) (t := 26) ?hr ?_; (case hd | hg => rfl); (case hr => go_simp <;> rfl); intro gb328 hg wA hbox hb; have n2_ := hqZ (za0 (HB.1) hb); have n3_ := hqZ hbox; have n4_ := hqZ ((by rw [hg]; exact (show Below w.heap.size w _ from HB.1).size) : w.heap.size ≤ gb328); clear HB; have HB := n2_; have BK328 := n3_; have GW328 := n4_; have GE328 := n4_; clear n2_ n3_ n4_; clear hb hbox hg) | ((with_reducible refine zo0 (N := 13) rfl ?_); refine zp0 ?hg (N := 13) ?hd (cs := #[.slice A0 s0_0.length c0, .int .i64 0, .int .u64 0]) (t := 46) ?hr ?_; (case hd | hg => rfl); (case hr => go_simp <;> rfl); intro g hg wB hbox hb; have HI0 := hqZ (⟨A0, c0, hbox, (by rw [hg]; exact (show Below w.heap.size w _ from HB.1).size), HR0.1⟩ : IsS46 w wB g s0_0 0 0); have HK := hqZ (zg0.of_below (za0 (HB.1) hb) g none); replace HB := hqZ (za0 (HB.1) hb); have NB0_328 := hqZ (by rw [hg]; exact Nat.ne_of_gt (blk_lt (g := gb328) (o := .cells #[.slice none 0 0] 26 (0, 0)) (BK328.1)) : g ≠ gb328); have NB328_0 := hqZ (by rw [hg]; exact Nat.ne_of_lt (blk_lt (g := gb328) (o := .cells #[.slice none 0 0] 26 (0, 0)) (BK328.1)) : gb328 ≠ g); replace BK328 := hqZ (zc0 (g := gb328) (o := .cells #[.slice none 0 0] 26 (0, 0)) (BK328.1) hb); clear hb hbox hg) | ((with_reducible refine ze0 (f := 27) rfl ?_); refine zq0 (some 16) rfl rfl Try.func27 (by kernel_rfl) rfl #[.pointer (some ⟨g, 0, none⟩), .int .i64 6] rfl (by simp only [hqa, hqb, hqc]; rfl) ?_; (with_reducible refine (yi0.calls k g s0_0 0 0 6 t329 t332 t333 t336 t337 w _ ?side1 ?side2 A2.1).mono ?_); (case side1 => repeat (first | exact HI0.1 | apply IsS46.alloc | apply IsS46.drewN | apply IsS46.drew | apply IsS46.set_1 | apply IsS46.set_2 | refine IsS46.far ?_ NB0_328.1 _)); (case side2 => repeat (first | (with_reducible first | exact HB.1 | apply zn0 | apply zj0 | apply zk0 | refine zf0 ?_ (IsS46.ge HI0.1) | refine zf0 ?_ GE328.1) | exact HB.1)); rintro e w42 ⟨v330, v334, rfl, ho0, ho1, hi, hb, hk⟩; refine ⟨_, rfl, ?_⟩; have HO331 := hqZ (Kd.N_lower (Kd.N_mono (ok' := fun k_ => (w.heap.size ≤ k_) ∧ some k_ ≠ (v334 : Value).ownBlock ∧ k_ ≠ gb328 ∧ k_ ≠ g) ho0 (fun k_ hk_ => ⟨(Nat.le_trans (zl0 (w := w) (g := g) (row := none) (HK.1)) hk_.1), hk_.2, (Kd.freshB (g := gb328) (o := .cells #[.slice none 0 0] 26 (0, 0)) (BK328.1) k_ hk_.1), (IsS46.fresh (HI0.1) k_ hk_.1)⟩)) (zl0 (w := w) (g := g) (row := none) (HK.1))); replace BK328 := hqZ (zg0.blk hk (g' := gb328) (o := .cells #[.slice none 0 0] 26 (0, 0)) (BK328.1) NB328_0.1 (by simp)); have HO335 := hqZ (Kd.R_lower (Kd.R_newM (M := fun k_ => (w.heap.size ≤ k_)) (Kd.R_mono (ok' := fun k_ => True) ho1 (fun _ hk_ => trivial)) (zl0 (w := w) (g := g) (row := none) (HK.1)) (fun k_ h_ => h_)) (zl0 (w := w) (g := g) (row := none) (HK.1))); replace HK := hqZ (zg0.trans (HK.1) hk (.inl rfl)); replace HB := hqZ (hb); replace HI0 := hqZ (hi); clear hb hk hi ho0 ho1) | ((with_reducible refine zo0 (N := 7) rfl ?_); refine zp0 ?hg (N := 7) ?hd (cs := #[.slice none 0 0]) (t := 26) ?hr ?_; (case hd | hg => rfl); (case hr => go_simp <;> rfl); intro gb338 hg w43 hbox hb; replace HO331 := hqZ (Kd.N_below (Kd.N_elderB (HO331.1) gb338 (Nat.le_of_eq hg.symm)) hb); replace HO335 := hqZ (Kd.R_below (HO335.1) hb); replace HB := hqZ (za0 (HB.1) hb); have BK338 := hqZ (hbox); have GW338 := hqZ ((by rw [hg]; exact (zl0 (w := w) (g := g) (row := none) (HK.1)) : w.heap.size ≤ gb338)); have GE338 := hqZ ((Nat.le_trans HW0.1 (by rw [hg]; exact (zl0 (w := w) (g := g) (row := none) (HK.1)) : w.heap.size ≤ gb338) : w.heap.size ≤ gb338)); replace HK := hqZ (zg0.trans (HK.1) (zg0.of_below hb g none) (.inl rfl)); have NB328_338 := hqZ ((by rw [hg]; exact Nat.ne_of_lt (blk_lt (g := gb328) (o := .cells #[.slice none 0 0] 26 (0, 0)) (BK328.1)) : gb328 ≠ gb338)); have NB338_328 := hqZ ((by rw [hg]; exact Nat.ne_of_gt (blk_lt (g := gb328) (o := .cells #[.slice none 0 0] 26 (0, 0)) (BK328.1)) : gb338 ≠ gb328)); replace BK328 := hqZ (zc0 (g := gb328) (o := .cells #[.slice none 0 0] 26 (0, 0)) (BK328.1) hb); have NB0_338 := hqZ ((by rw [hg]; exact Nat.ne_of_lt (IsS46.lt (show IsS46 w _ g s0_0 t336 t337 from HI0.1)) : g ≠ gb338)); have NB338_0 := hqZ ((by rw [hg]; exact Nat.ne_of_gt (IsS46.lt (show IsS46 w _ g s0_0 t336 t337 from HI0.1)) : gb338 ≠ g)); replace HI0 := hqZ (IsS46.below (HI0.1) hb); clear hb hbox hg; obtain ⟨Ao44, co44, eo44⟩ := Kd.N_slice HO331.1; subst eo44; have hnb45 := NB338_328.1; have hnc45 := NB328_338.1; have hnb46 := NB338_0.1; have hnc46 := NB0_338.1; have hcz47_0 : w43.cell? ⟨gb338, 0, none⟩ = some (.slice none 0 0) := (zh0 BK338.1 0).trans rfl; have hfz47_0 := zd0 BK338.1 0; obtain ⟨Ao48, co48, eo48⟩ := Kd.R_slice HO335.1; subst eo48) | ((with_reducible refine ze0 (f := 30) rfl ?_); refine zq0 (some 23) rfl rfl Try.func30 (by kernel_rfl) rfl #[.agg #[.slice Ao44 t329.length co44], .int .i64 t332, .slice Ao48 t333.length co48] rfl (by simp only [hqa, hqb, hqc]; rfl) ?_; (with_reducible refine (yq0.calls k _ _ t329 t332 _ _ t333 true _ ?side1 ?side2 ?side3 ?side4 A3.1).mono ?_); (case side1 => refine (Kd.N_reads' (e := 27) (base := w.heap.size) (ok := fun k_ => (((w.heap.size ≤ k_) ∧ (some k_ ≠ (.slice Ao48 t333.length co48 : Value).ownBlock ∧ (k_ ≠ gb328 ∧ k_ ≠ g))) ∧ k_ ≠ gb338)) (n := t329.length) (c := co44) ?_).2.2; exact ((Kd.N_mono (Kd.N_far (p := ⟨gb338, 0, none⟩) (Kd.N_mono HO331.1 (fun k_ hk => (⟨hk, hk.2⟩ : _ ∧ k_ ≠ gb338))) (fun _ hk => hk.2) (.slice Ao44 t329.length co44)) (fun _ h_ => h_.1)))); (case side2 => exact (Kd.N_reads' HO331.1).2.1); (case side3 => refine (Kd.R_reads' (e := 3) (base := w.heap.size) (ok := fun k_ => ((w.heap.size ≤ k_) ∧ True)) (n := t333.length) (c := co48) ?_).2.2; exact ((Kd.R_mono (Kd.R_far (p := ⟨gb338, 0, none⟩) (Kd.R_types HO335.1 BK338.1 (by decide)) (fun _ hk => hk.2) (.slice Ao44 t329.length co44)) (fun _ h_ => h_.1)))); (case side4 => exact (Kd.R_reads' HO335.1).2.1); rintro e w49 ⟨rfl, hb⟩; refine ⟨_, rfl, ?_⟩; replace HO331 := hqZ (Kd.N_below ((Kd.N_mono (Kd.N_far (p := ⟨gb338, 0, none⟩) (Kd.N_mono HO331.1 (fun k_ hk => (⟨hk, hk.2⟩ : _ ∧ k_ ≠ gb338))) (fun _ hk => hk.2) (.slice Ao44 t329.length co44)) (fun _ h_ => h_.1))) hb); replace HO335 := hqZ (Kd.R_below ((Kd.R_mono (Kd.R_far (p := ⟨gb338, 0, none⟩) (Kd.R_types HO335.1 BK338.1 (by decide)) (fun _ hk => hk.2) (.slice Ao44 t329.length co44)) (fun _ h_ => h_.1))) hb); replace BK328 := hqZ (zc0 (g := gb328) (o := .cells #[.slice none 0 0] 26 (0, 0)) (by refine blk_far ?_ NB328_338.1 _; exact BK328.1) hb); replace BK338 := hqZ (zc0 (g := gb338) (o := .cells #[.slice Ao44 t329.length co44] 26 (0, 0)) (by refine blk_put (cs := #[.slice none 0 0]) ?_ 0 _ rfl; exact BK338.1) hb); replace HK := hqZ (zg0.trans (keep_far HK.1 GW338.1 _) (zg0.of_below hb g none) (.inl rfl)); replace HB := hqZ (za0 (zf0 HB.1 GE338.1) hb); replace HI0 := hqZ (IsS46.below (show IsS46 w (w43.setCell ⟨gb338, 0, none⟩ (.slice Ao44 t329.length co44)) g s0_0 t336 t337 from IsS46.far HI0.1 NB0_338.1 _) hb); clear hb; have hcz50_0 : w49.cell? ⟨gb338, 0, none⟩ = some (.slice Ao44 t329.length co44) := (zh0 BK338.1 0).trans rfl; have hfz50_0 := zd0 BK338.1 0) | ((with_reducible refine ze0 (f := 33) rfl ?_); refine zq0 (some 27) rfl rfl Try.func33 (by kernel_rfl) rfl #[.agg #[.slice Ao44 t329.length co44], .int .i64 t332, .slice Ao48 t333.length co48] rfl (by simp only [hqa, hqb, hqc]; rfl) ?_; (with_reducible refine (ym0.calls k _ _ t329 t332 _ _ t333 t340 _ ?side1 ?side2 ?side3 ?side4 A5.1).mono ?_); (case side1 => exact (Kd.N_reads' HO331.1).2.2); (case side2 => exact (Kd.N_reads' HO331.1).2.1); (case side3 => exact (Kd.R_reads' HO335.1).2.2); (case side4 => exact (Kd.R_reads' HO335.1).2.1); rintro e w51 ⟨rfl, hb⟩; refine ⟨_, rfl, ?_⟩; replace HO331 := hqZ (Kd.N_below (HO331.1) hb); replace HO335 := hqZ (Kd.R_below (HO335.1) hb); replace BK328 := hqZ (zc0 (g := gb328) (o := .cells #[.slice none 0 0] 26 (0, 0)) (BK328.1) hb); replace BK338 := hqZ (zc0 (g := gb338) (o := .cells #[.slice Ao44 t329.length co44] 26 (0, 0)) (BK338.1) hb); replace HK := hqZ (zg0.trans (HK.1) (zg0.of_below hb g none) (.inl rfl)); replace HB := hqZ (za0 (HB.1) hb); replace HI0 := hqZ (IsS46.below (HI0.1) hb); clear hb))
  have n0_ := hqZ (Kd.N_drew HO331.1)
  have n1_ := hqZ (Kd.R_drew HO335.1)
  have n2_ := hqZ (blk_drew BK328.1)
  have n3_ := hqZ (blk_drew BK338.1)
  have n4_ := hqZ (IsS46.drew HI0.1)
  have n5_ := hqZ (keep_drew HK.1)
  have n6_ := hqZ (zk0 HB.1)
  clear HO331 HO335 BK328 BK338 HI0 HK HB
  have HO331 := n0_
  have HO335 := n1_
  have BK328 := n2_
  have BK338 := n3_
  have HI0 := n4_
  have HK := n5_
  have HB := n6_
  clear n0_ n1_ n2_ n3_ n4_ n5_ n6_
  refine start_ (n := 10) (S := fun w' => w'.cell? ⟨gb338, 0, none⟩ = some (.slice Ao44 t329.length co44)) (ds := []) #[false, false, false, false, false, false, false, false, false, false] (by kernel_rfl) rfl rfl ((zh0 BK338.1 0).trans rfl) (fun hHeld => ?_); refine with_tabW yg1.tab7 yg1.bits7 (fun HT_ HW_ => ?_)
  generalize w51.drew = w52 at HO331 HO335 BK328 BK338 HI0 HK HB hHeld ⊢
  refine pure_ (i := 1) (N := some 39) (v := ?_) (a' := ?_) (bf 10 2) rfl rfl (zm0 HT_.1 (by kernel_rfl)) (fun _ _ _ h => h) (Or.inl ⟨by rfl, ?_⟩) ?_ ?_
  rotate_left
  ·intro w'; go_simp; with_reducible rfl
  rotate_left
  ·simp only [Act.put, zA, zB, zC, i64_w, i32_w]; rfl
  refine pure_ (i := 2) (N := some 40) (v := ?_) (a' := ?_) (bf 10 6) rfl rfl (zm0 HT_.1 (by kernel_rfl)) (fun _ _ _ h => h) (Or.inl ⟨by rfl, ?_⟩) ?_ ?_
  rotate_left
  ·intro w'; go_simp; with_reducible rfl
  rotate_left
  ·simp only [Act.put, zA, zB, zC, i64_w, i32_w]; rfl
  refine pure_ (i := 3) (N := some 41) (v := ?_) (a' := ?_) (bf 10 14) rfl rfl (zm0 HT_.1 (by kernel_rfl)) (fun _ _ _ h => h) (Or.inl ⟨by rfl, ?_⟩) ?_ ?_
  rotate_left
  ·intro w'; go_simp; with_reducible rfl
  rotate_left
  ·simp only [Act.put, zA, zB, zC, i64_w, i32_w]; rfl
  refine take_ (i := 0) (N := some 38) (v := ?_) (a' := ?_) (bf 10 15) rfl rfl (take_ofW HT_.1 HW_.1 (by kernel_rfl)) (fun _ _ _ h => h) (Or.inl ⟨by rfl, ?_⟩) hHeld ?_ ?_
  rotate_left
  ·intro w' s0
   go_simp
   with_reducible rfl
  rotate_left
  ·simp only [Act.put, zA, zB, zC, i64_w, i32_w]; rfl
  refine take_ (i := 4) (N := some 42) (v := ?_) (a' := ?_) (bf 10 31) rfl rfl (take_ofW HT_.1 HW_.1 (by kernel_rfl)) (fun _ _ _ h => h) (Or.inl ⟨by rfl, ?_⟩) hHeld ?_ ?_
  rotate_left
  ·intro w' s0
   go_simp
   with_reducible rfl
  rotate_left
  ·simp only [Act.put, zA, zB, zC, i64_w, i32_w]; rfl
  refine one_ (i := 5) (N := some 43) (bf 10 63) rfl rfl (one_of HT_.1 (by kernel_rfl)) (by decide) (fun K hK => ?_)
  refine goes_ Try.func35 (by kernel_rfl) rfl #[.pointer (some ⟨g, 0, none⟩), .agg #[.slice Ao44 t329.length co44]] (by rfl) rfl rfl (by simp only [hqa, hqb, hqc]; rfl) ?_
  with_reducible refine (yj0.calls k g s0_0 t336 t337 _ _ t329 t347 t348 t349 w _ ?side1 ?side2 ?side3 ?side4 A40.1).mono ?_
  (case side1 => repeat (first | exact HI0.1 | apply IsS46.alloc | apply IsS46.drewN | apply IsS46.drew | apply IsS46.set_1 | apply IsS46.set_2 | refine IsS46.far ?_ NB0_328.1 _ | refine IsS46.far ?_ NB0_338.1 _))
  (case side2 => repeat (first | (with_reducible first | exact HB.1 | apply zn0 | apply zj0 | apply zk0 | refine zf0 ?_ (IsS46.ge HI0.1) | refine zf0 ?_ GE328.1 | refine zf0 ?_ GE338.1) | exact HB.1))
  (case side3 => exact Kd.C_foot_ownV (base := 0) (Kd.N_V (Kd.N_mono (ok := fun k_ => ((((w.heap.size ≤ k_)) ∧ (some k_ ≠ (.slice Ao48 t333.length co48 : Value).ownBlock ∧ (k_ ≠ gb328 ∧ k_ ≠ g))) ∧ k_ ≠ gb338)) (HO331.1) (fun k_ hk_ => (⟨hk_, hk_.1.2.2.2⟩ : _ ∧ k_ ≠ g)))) (fun _ h_ => h_.2))
  (case side4 => exact (Kd.N_reads' HO331.1).2.1)
  rintro e w53 ⟨rfl, hi, hb, hk⟩
  refine ⟨_, rfl, ?_⟩
  have n0_ := hqZ (zg0.blk hk (g' := gb328) (o := .cells #[.slice none 0 0] 26 (0, 0)) (BK328.1) NB328_0.1 (by simp))
  have n1_ := hqZ (Kd.N_mono (Kd.N_keep (Kd.N_mono (ok := fun k_ => ((((w.heap.size ≤ k_)) ∧ (some k_ ≠ (.slice Ao48 t333.length co48 : Value).ownBlock ∧ (k_ ≠ gb328 ∧ k_ ≠ g))) ∧ k_ ≠ gb338)) (HO331.1) (fun k_ hk_ => (⟨hk_, hk_.1.2.2.2⟩ : _ ∧ k_ ≠ g))) hk (fun _ h => h.2)) (fun _ h => h.1))
  have n2_ := hqZ (Kd.R_mono (Kd.R_keep (IsS46.apart (show IsS46 w _ g s0_0 t336 t337 from HI0.1) (HO335.1) (by decide)) hk (fun _ h => h.2)) (fun _ h => h.1))
  have n3_ := hqZ (zg0.blk hk (g' := gb338) (o := .cells #[.slice Ao44 t329.length co44] 26 (0, 0)) (BK338.1) NB338_0.1 (by simp))
  have n4_ := hqZ (zg0.trans (HK.1) hk (.inl rfl))
  have n5_ := hqZ (hb)
  have n6_ := hqZ (hi)
  clear BK328 HO331 HO335 BK338 HK HB HI0
  have BK328 := n0_
  have HO331 := n1_
  have HO335 := n2_
  have BK338 := n3_
  have HK := n4_
  have HB := n5_
  have HI0 := n6_
  clear n0_ n1_ n2_ n3_ n4_ n5_ n6_
  (try clear hb)
  (try clear hb2)
  (try clear hk)
  (try clear hi)
  refine hK.out _ _ ((zh0 BK338.1 0).trans rfl) (fun hHeld => ?_)
  clear hK K
  refine norm_ (a' := ?_) ?_ ?_
  rotate_left
  ·show Act.put _ (some 43) _ = _; simp only [Act.put, zA, zB, zC, i64_w, i32_w]; rfl
  refine one_ (i := 6) (N := none) (bf 10 127) rfl rfl (one_of HT_.1 (by kernel_rfl)) (by decide) (fun K hK => ?_)
  have hs54 : w53.cell? ⟨gb328, 0, none⟩ = some (.slice none 0 0) := (zh0 BK328.1 0).trans rfl
  have hfs54 := zd0 BK328.1 0
  have hns54_1 := NB338_328.1
  have hms54_1 := NB328_338.1
  refine skip_ (w1 := ?_) (by rfl) rfl ?_ ?_
  rotate_left
  ·go_simp
   rfl
  refine hK.out _ _ (((cell_far (p := ⟨gb328, _, none⟩) NB338_328.1 _).trans (hHeld))) (fun hHeld => ?_)
  clear hK K
  refine pure_ (i := 7) (N := some 3) (v := ?_) (a' := ?_) (bf 10 255) rfl rfl (zm0 HT_.1 (by kernel_rfl)) (fun _ _ _ h => h) (Or.inl ⟨by rfl, ?_⟩) ?_ ?_
  rotate_left
  ·intro w'; go_simp; with_reducible rfl
  rotate_left
  ·simp only [Act.put, zA, zB, zC, i64_w, i32_w]; rfl
  refine pure_ (i := 8) (N := some 4) (v := ?_) (a' := ?_) (bf 10 511) rfl rfl (zm0 HT_.1 (by kernel_rfl)) (fun _ _ _ h => h) (Or.inl ⟨by rfl, ?_⟩) ?_ ?_
  rotate_left
  ·intro w'; go_simp; with_reducible rfl
  rotate_left
  ·simp only [Act.put, zA, zB, zC, i64_w, i32_w]; rfl
  refine pure_ (i := 9) (N := some 5) (v := ?_) (a' := ?_) (bf 10 1023) rfl rfl (zm0 HT_.1 (by kernel_rfl)) (fun _ _ _ h => h) (Or.inl ⟨by rfl, ?_⟩) ?_ ?_
  rotate_left
  ·intro w'; go_simp; with_reducible rfl
  rotate_left
  ·simp only [Act.put, zA, zB, zC, i64_w, i32_w]; rfl
  refine done_ (done_of HT_.1 (by kernel_rfl)) ?_
  try go_wp2
  refine bodyPost_ret (results_list (rs := [.cell 2 26, .tmp 3, .tmp 4, .tmp 5]) rfl (by simp) (.cell gb328 26 #[.slice Ao44 t329.length co44] (0, 0) _ rfl (by refine blk_put (cs := #[.slice none 0 0]) ?_ 0 _ rfl; exact BK328.1) Try.underlying26 rfl (by kernel_rfl) (.tmp (.tmp (.tmp .nil))))) rfl ?_
  exact ⟨_, _, rfl, Kd.N_mono (Kd.N_far (p := ⟨gb328, 0, none⟩) (Kd.N_mono HO331.1 (fun k_ hk => (⟨hk, hk.1.2.2.1⟩ : _ ∧ k_ ≠ gb328))) (fun _ hk => hk.2) (.slice Ao44 t329.length co44)) (fun _ hk => ⟨hk.1.1.1, hk.1.1.2.1⟩), Kd.R_mono (Kd.R_far (p := ⟨gb328, 0, none⟩) (Kd.R_types HO335.1 BK328.1 (by decide)) (fun _ hk => hk.2) (.slice Ao44 t329.length co44)) (fun _ hk => hk.1.1), zf0 HB.1 GE328.1⟩
 rw [if_pos c6] at H
 have c6b0 : decide (0 ≤ t340) = true := decide_eq_true c6
 clear c6
 replace H := Option.bind_eq_some_iff.mp H
 obtain ⟨⟨t341, t342, t343⟩, A70, H⟩ := H
 replace H : (if t341 = true then (some (t329, t332, t333, t340, t342, t343)) else ((yj0.f k s0_0 t342 t343 t329).bind fun bt344 => (some (t329, t332, t333, bt344.1, bt344.2.1, bt344.2.2)))) = some (r1, r2, r3, r4, r5, r6) := H
 have A7 := hqZ A70
 clear A70
 by_cases c8 : t341 = true
 ·subst c8
  have H1 : (some (t329, t332, t333, t340, t342, t343)) = some (r1, r2, r3, r4, r5, r6) := by rw [if_pos rfl] at H; exact H
  clear H
  have H := H1
  clear H1
  simp only [Option.some.injEq, Prod.mk.injEq] at H
  obtain ⟨rfl, rfl, rfl, rfl, rfl, rfl⟩ := H
  go_enter Try.func13, Try.ntmps13
  go_wp2_with (first | ((with_reducible refine zo0 (N := 2) rfl ?_); refine zp0 ?hg (N := 2) ?hd (cs := #[.slice none 0 0]) (t := 26) ?hr ?_; (case hd | hg => rfl); (case hr => go_simp <;> rfl); intro gb328 hg wA hbox hb; have n2_ := hqZ (za0 (HB.1) hb); have n3_ := hqZ hbox; have n4_ := hqZ ((by rw [hg]; exact (show Below w.heap.size w _ from HB.1).size) : w.heap.size ≤ gb328); clear HB; have HB := n2_; have BK328 := n3_; have GW328 := n4_; have GE328 := n4_; clear n2_ n3_ n4_; clear hb hbox hg) | ((with_reducible refine zo0 (N := 13) rfl ?_); refine zp0 ?hg (N := 13) ?hd (cs := #[.slice A0 s0_0.length c0, .int .i64 0, .int .u64 0]) (t := 46) ?hr ?_; (case hd | hg => rfl); (case hr => go_simp <;> rfl); intro g hg wB hbox hb; have HI0 := hqZ (⟨A0, c0, hbox, (by rw [hg]; exact (show Below w.heap.size w _ from HB.1).size), HR0.1⟩ : IsS46 w wB g s0_0 0 0); have HK := hqZ (zg0.of_below (za0 (HB.1) hb) g none); replace HB := hqZ (za0 (HB.1) hb); have NB0_328 := hqZ (by rw [hg]; exact Nat.ne_of_gt (blk_lt (g := gb328) (o := .cells #[.slice none 0 0] 26 (0, 0)) (BK328.1)) : g ≠ gb328); have NB328_0 := hqZ (by rw [hg]; exact Nat.ne_of_lt (blk_lt (g := gb328) (o := .cells #[.slice none 0 0] 26 (0, 0)) (BK328.1)) : gb328 ≠ g); replace BK328 := hqZ (zc0 (g := gb328) (o := .cells #[.slice none 0 0] 26 (0, 0)) (BK328.1) hb); clear hb hbox hg) | ((with_reducible refine ze0 (f := 27) rfl ?_); refine zq0 (some 16) rfl rfl Try.func27 (by kernel_rfl) rfl #[.pointer (some ⟨g, 0, none⟩), .int .i64 6] rfl (by simp only [hqa, hqb, hqc]; rfl) ?_; (with_reducible refine (yi0.calls k g s0_0 0 0 6 t329 t332 t333 t336 t337 w _ ?side1 ?side2 A2.1).mono ?_); (case side1 => repeat (first | exact HI0.1 | apply IsS46.alloc | apply IsS46.drewN | apply IsS46.drew | apply IsS46.set_1 | apply IsS46.set_2 | refine IsS46.far ?_ NB0_328.1 _)); (case side2 => repeat (first | (with_reducible first | exact HB.1 | apply zn0 | apply zj0 | apply zk0 | refine zf0 ?_ (IsS46.ge HI0.1) | refine zf0 ?_ GE328.1) | exact HB.1)); rintro e w10 ⟨v330, v334, rfl, ho0, ho1, hi, hb, hk⟩; refine ⟨_, rfl, ?_⟩; have HO331 := hqZ (Kd.N_lower (Kd.N_mono (ok' := fun k_ => (w.heap.size ≤ k_) ∧ some k_ ≠ (v334 : Value).ownBlock ∧ k_ ≠ gb328 ∧ k_ ≠ g) ho0 (fun k_ hk_ => ⟨(Nat.le_trans (zl0 (w := w) (g := g) (row := none) (HK.1)) hk_.1), hk_.2, (Kd.freshB (g := gb328) (o := .cells #[.slice none 0 0] 26 (0, 0)) (BK328.1) k_ hk_.1), (IsS46.fresh (HI0.1) k_ hk_.1)⟩)) (zl0 (w := w) (g := g) (row := none) (HK.1))); replace BK328 := hqZ (zg0.blk hk (g' := gb328) (o := .cells #[.slice none 0 0] 26 (0, 0)) (BK328.1) NB328_0.1 (by simp)); have HO335 := hqZ (Kd.R_lower (Kd.R_newM (M := fun k_ => (w.heap.size ≤ k_)) (Kd.R_mono (ok' := fun k_ => True) ho1 (fun _ hk_ => trivial)) (zl0 (w := w) (g := g) (row := none) (HK.1)) (fun k_ h_ => h_)) (zl0 (w := w) (g := g) (row := none) (HK.1))); replace HK := hqZ (zg0.trans (HK.1) hk (.inl rfl)); replace HB := hqZ (hb); replace HI0 := hqZ (hi); clear hb hk hi ho0 ho1) | ((with_reducible refine zo0 (N := 7) rfl ?_); refine zp0 ?hg (N := 7) ?hd (cs := #[.slice none 0 0]) (t := 26) ?hr ?_; (case hd | hg => rfl); (case hr => go_simp <;> rfl); intro gb338 hg w11 hbox hb; replace HO331 := hqZ (Kd.N_below (Kd.N_elderB (HO331.1) gb338 (Nat.le_of_eq hg.symm)) hb); replace HO335 := hqZ (Kd.R_below (HO335.1) hb); replace HB := hqZ (za0 (HB.1) hb); have BK338 := hqZ (hbox); have GW338 := hqZ ((by rw [hg]; exact (zl0 (w := w) (g := g) (row := none) (HK.1)) : w.heap.size ≤ gb338)); have GE338 := hqZ ((Nat.le_trans HW0.1 (by rw [hg]; exact (zl0 (w := w) (g := g) (row := none) (HK.1)) : w.heap.size ≤ gb338) : w.heap.size ≤ gb338)); replace HK := hqZ (zg0.trans (HK.1) (zg0.of_below hb g none) (.inl rfl)); have NB328_338 := hqZ ((by rw [hg]; exact Nat.ne_of_lt (blk_lt (g := gb328) (o := .cells #[.slice none 0 0] 26 (0, 0)) (BK328.1)) : gb328 ≠ gb338)); have NB338_328 := hqZ ((by rw [hg]; exact Nat.ne_of_gt (blk_lt (g := gb328) (o := .cells #[.slice none 0 0] 26 (0, 0)) (BK328.1)) : gb338 ≠ gb328)); replace BK328 := hqZ (zc0 (g := gb328) (o := .cells #[.slice none 0 0] 26 (0, 0)) (BK328.1) hb); have NB0_338 := hqZ ((by rw [hg]; exact Nat.ne_of_lt (IsS46.lt (show IsS46 w _ g s0_0 t336 t337 from HI0.1)) : g ≠ gb338)); have NB338_0 := hqZ ((by rw [hg]; exact Nat.ne_of_gt (IsS46.lt (show IsS46 w _ g s0_0 t336 t337 from HI0.1)) : gb338 ≠ g)); replace HI0 := hqZ (IsS46.below (HI0.1) hb); clear hb hbox hg; obtain ⟨Ao12, co12, eo12⟩ := Kd.N_slice HO331.1; subst eo12; have hnb13 := NB338_328.1; have hnc13 := NB328_338.1; have hnb14 := NB338_0.1; have hnc14 := NB0_338.1; have hcz15_0 : w11.cell? ⟨gb338, 0, none⟩ = some (.slice none 0 0) := (zh0 BK338.1 0).trans rfl; have hfz15_0 := zd0 BK338.1 0; obtain ⟨Ao16, co16, eo16⟩ := Kd.R_slice HO335.1; subst eo16) | ((with_reducible refine ze0 (f := 30) rfl ?_); refine zq0 (some 23) rfl rfl Try.func30 (by kernel_rfl) rfl #[.agg #[.slice Ao12 t329.length co12], .int .i64 t332, .slice Ao16 t333.length co16] rfl (by simp only [hqa, hqb, hqc]; rfl) ?_; (with_reducible refine (yq0.calls k _ _ t329 t332 _ _ t333 true _ ?side1 ?side2 ?side3 ?side4 A3.1).mono ?_); (case side1 => refine (Kd.N_reads' (e := 27) (base := w.heap.size) (ok := fun k_ => (((w.heap.size ≤ k_) ∧ (some k_ ≠ (.slice Ao16 t333.length co16 : Value).ownBlock ∧ (k_ ≠ gb328 ∧ k_ ≠ g))) ∧ k_ ≠ gb338)) (n := t329.length) (c := co12) ?_).2.2; exact ((Kd.N_mono (Kd.N_far (p := ⟨gb338, 0, none⟩) (Kd.N_mono HO331.1 (fun k_ hk => (⟨hk, hk.2⟩ : _ ∧ k_ ≠ gb338))) (fun _ hk => hk.2) (.slice Ao12 t329.length co12)) (fun _ h_ => h_.1)))); (case side2 => exact (Kd.N_reads' HO331.1).2.1); (case side3 => refine (Kd.R_reads' (e := 3) (base := w.heap.size) (ok := fun k_ => ((w.heap.size ≤ k_) ∧ True)) (n := t333.length) (c := co16) ?_).2.2; exact ((Kd.R_mono (Kd.R_far (p := ⟨gb338, 0, none⟩) (Kd.R_types HO335.1 BK338.1 (by decide)) (fun _ hk => hk.2) (.slice Ao12 t329.length co12)) (fun _ h_ => h_.1)))); (case side4 => exact (Kd.R_reads' HO335.1).2.1); rintro e w17 ⟨rfl, hb⟩; refine ⟨_, rfl, ?_⟩; replace HO331 := hqZ (Kd.N_below ((Kd.N_mono (Kd.N_far (p := ⟨gb338, 0, none⟩) (Kd.N_mono HO331.1 (fun k_ hk => (⟨hk, hk.2⟩ : _ ∧ k_ ≠ gb338))) (fun _ hk => hk.2) (.slice Ao12 t329.length co12)) (fun _ h_ => h_.1))) hb); replace HO335 := hqZ (Kd.R_below ((Kd.R_mono (Kd.R_far (p := ⟨gb338, 0, none⟩) (Kd.R_types HO335.1 BK338.1 (by decide)) (fun _ hk => hk.2) (.slice Ao12 t329.length co12)) (fun _ h_ => h_.1))) hb); replace BK328 := hqZ (zc0 (g := gb328) (o := .cells #[.slice none 0 0] 26 (0, 0)) (by refine blk_far ?_ NB328_338.1 _; exact BK328.1) hb); replace BK338 := hqZ (zc0 (g := gb338) (o := .cells #[.slice Ao12 t329.length co12] 26 (0, 0)) (by refine blk_put (cs := #[.slice none 0 0]) ?_ 0 _ rfl; exact BK338.1) hb); replace HK := hqZ (zg0.trans (keep_far HK.1 GW338.1 _) (zg0.of_below hb g none) (.inl rfl)); replace HB := hqZ (za0 (zf0 HB.1 GE338.1) hb); replace HI0 := hqZ (IsS46.below (show IsS46 w (w11.setCell ⟨gb338, 0, none⟩ (.slice Ao12 t329.length co12)) g s0_0 t336 t337 from IsS46.far HI0.1 NB0_338.1 _) hb); clear hb; have hcz18_0 : w17.cell? ⟨gb338, 0, none⟩ = some (.slice Ao12 t329.length co12) := (zh0 BK338.1 0).trans rfl; have hfz18_0 := zd0 BK338.1 0) | ((with_reducible refine ze0 (f := 33) rfl ?_); refine zq0 (some 27) rfl rfl Try.func33 (by kernel_rfl) rfl #[.agg #[.slice Ao12 t329.length co12], .int .i64 t332, .slice Ao16 t333.length co16] rfl (by simp only [hqa, hqb, hqc]; rfl) ?_; (with_reducible refine (ym0.calls k _ _ t329 t332 _ _ t333 t340 _ ?side1 ?side2 ?side3 ?side4 A5.1).mono ?_); (case side1 => exact (Kd.N_reads' HO331.1).2.2); (case side2 => exact (Kd.N_reads' HO331.1).2.1); (case side3 => exact (Kd.R_reads' HO335.1).2.2); (case side4 => exact (Kd.R_reads' HO335.1).2.1); rintro e w19 ⟨rfl, hb⟩; refine ⟨_, rfl, ?_⟩; replace HO331 := hqZ (Kd.N_below (HO331.1) hb); replace HO335 := hqZ (Kd.R_below (HO335.1) hb); replace BK328 := hqZ (zc0 (g := gb328) (o := .cells #[.slice none 0 0] 26 (0, 0)) (BK328.1) hb); replace BK338 := hqZ (zc0 (g := gb338) (o := .cells #[.slice Ao12 t329.length co12] 26 (0, 0)) (BK338.1) hb); replace HK := hqZ (zg0.trans (HK.1) (zg0.of_below hb g none) (.inl rfl)); replace HB := hqZ (za0 (HB.1) hb); replace HI0 := hqZ (IsS46.below (HI0.1) hb); clear hb) | (go_at_call 34; (with_reducible refine (yt0.calls g s0_0 t336 t337 2 true t342 t343 w _ ?side1 ?side2 A7.1).mono ?_); (case side1 => repeat (first | exact HI0.1 | apply IsS46.alloc | apply IsS46.drewN | apply IsS46.drew | apply IsS46.set_1 | apply IsS46.set_2 | refine IsS46.far ?_ NB0_328.1 _ | refine IsS46.far ?_ NB0_338.1 _)); (case side2 => repeat (first | (with_reducible first | exact HB.1 | apply zn0 | apply zj0 | apply zk0 | refine zf0 ?_ (IsS46.ge HI0.1) | refine zf0 ?_ GE328.1 | refine zf0 ?_ GE338.1) | exact HB.1)); rintro e w20 ⟨rfl, hi, hb, hk⟩; replace BK328 := hqZ (zg0.blk hk (g' := gb328) (o := .cells #[.slice none 0 0] 26 (0, 0)) (BK328.1) NB328_0.1 (by simp)); replace HO331 := hqZ (Kd.N_mono (Kd.N_keep (Kd.N_mono (ok := fun k_ => ((((w.heap.size ≤ k_)) ∧ (some k_ ≠ (.slice Ao16 t333.length co16 : Value).ownBlock ∧ (k_ ≠ gb328 ∧ k_ ≠ g))) ∧ k_ ≠ gb338)) (HO331.1) (fun k_ hk_ => (⟨hk_, hk_.1.2.2.2⟩ : _ ∧ k_ ≠ g))) hk (fun _ h => h.2)) (fun _ h => h.1)); replace HO335 := hqZ (Kd.R_mono (Kd.R_keep (IsS46.apart (show IsS46 w _ g s0_0 t336 t337 from HI0.1) (HO335.1) (by decide)) hk (fun _ h => h.2)) (fun _ h => h.1)); replace BK338 := hqZ (zg0.blk hk (g' := gb338) (o := .cells #[.slice Ao12 t329.length co12] 26 (0, 0)) (BK338.1) NB338_0.1 (by simp)); replace HK := hqZ (zg0.trans (HK.1) hk (.inl rfl)); replace HB := hqZ (hb); replace HI0 := hqZ (hi); clear hb hk hi; have hcz21_0 : w20.cell? ⟨gb338, 0, none⟩ = some (.slice Ao12 t329.length co12) := (zh0 BK338.1 0).trans rfl; have hfz21_0 := zd0 BK338.1 0; have hnb22 := NB328_0.1; have hnc22 := NB0_328.1; have hcz23_0 : w20.cell? ⟨gb328, 0, none⟩ = some (.slice none 0 0) := (zh0 BK328.1 0).trans rfl; have hfz23_0 := zd0 BK328.1 0))
  refine bodyPost_ret (results_list (rs := [.cell 2 26, .tmp 3, .tmp 4, .tmp 5]) rfl (by simp) (.cell gb328 26 #[.slice Ao12 t329.length co12] (0, 0) _ rfl (by refine blk_put (cs := #[.slice none 0 0]) ?_ 0 _ rfl; exact BK328.1) Try.underlying26 rfl (by kernel_rfl) (.tmp (.tmp (.tmp .nil))))) rfl ?_
  exact ⟨_, _, rfl, Kd.N_mono (Kd.N_far (p := ⟨gb328, 0, none⟩) (Kd.N_mono HO331.1 (fun k_ hk => (⟨hk, hk.1.2.2.1⟩ : _ ∧ k_ ≠ gb328))) (fun _ hk => hk.2) (.slice Ao12 t329.length co12)) (fun _ hk => ⟨hk.1.1.1, hk.1.1.2.1⟩), Kd.R_mono (Kd.R_far (p := ⟨gb328, 0, none⟩) (Kd.R_types HO335.1 BK328.1 (by decide)) (fun _ hk => hk.2) (.slice Ao12 t329.length co12)) (fun _ hk => hk.1.1), zf0 HB.1 GE328.1⟩
 replace c8 := Bool.eq_false_iff.mpr c8
 subst c8
 have H1 : ((yj0.f k s0_0 t342 t343 t329).bind fun bt344 => (some (t329, t332, t333, bt344.1, bt344.2.1, bt344.2.2))) = some (r1, r2, r3, r4, r5, r6) := by rw [if_neg (show ¬ (false = true) by decide)] at H; exact H
 clear H
 have H := H1
 clear H1
 replace H := Option.bind_eq_some_iff.mp H
 obtain ⟨⟨t344, t345, t346⟩, A240, H⟩ := H
 replace H : (some (t329, t332, t333, t344, t345, t346)) = some (r1, r2, r3, r4, r5, r6) := H
 have A24 := hqZ A240
 clear A240
 simp only [Option.some.injEq, Prod.mk.injEq] at H
 obtain ⟨rfl, rfl, rfl, rfl, rfl, rfl⟩ := H
 go_enter Try.func13, Try.ntmps13
 try go_wp2_with (first | ((with_reducible refine zo0 (N := 2) rfl ?_); refine zp0 ?hg (N := 2) ?hd (cs := #[.slice none 0 0]) (t := 26) ?hr ?_; (case hd | hg => rfl); (case hr => go_simp <;> rfl); intro gb328 hg wA hbox hb; have n2_ := hqZ (za0 (HB.1) hb); have n3_ := hqZ hbox; have n4_ := hqZ ((by rw [hg]; exact (show Below w.heap.size w _ from HB.1).size) : w.heap.size ≤ gb328); clear HB; have HB := n2_; have BK328 := n3_; have GW328 := n4_; have GE328 := n4_; clear n2_ n3_ n4_; clear hb hbox hg) | ((with_reducible refine zo0 (N := 13) rfl ?_); refine zp0 ?hg (N := 13) ?hd (cs := #[.slice A0 s0_0.length c0, .int .i64 0, .int .u64 0]) (t := 46) ?hr ?_; (case hd | hg => rfl); (case hr => go_simp <;> rfl); intro g hg wB hbox hb; have HI0 := hqZ (⟨A0, c0, hbox, (by rw [hg]; exact (show Below w.heap.size w _ from HB.1).size), HR0.1⟩ : IsS46 w wB g s0_0 0 0); have HK := hqZ (zg0.of_below (za0 (HB.1) hb) g none); replace HB := hqZ (za0 (HB.1) hb); have NB0_328 := hqZ (by rw [hg]; exact Nat.ne_of_gt (blk_lt (g := gb328) (o := .cells #[.slice none 0 0] 26 (0, 0)) (BK328.1)) : g ≠ gb328); have NB328_0 := hqZ (by rw [hg]; exact Nat.ne_of_lt (blk_lt (g := gb328) (o := .cells #[.slice none 0 0] 26 (0, 0)) (BK328.1)) : gb328 ≠ g); replace BK328 := hqZ (zc0 (g := gb328) (o := .cells #[.slice none 0 0] 26 (0, 0)) (BK328.1) hb); clear hb hbox hg) | ((with_reducible refine ze0 (f := 27) rfl ?_); refine zq0 (some 16) rfl rfl Try.func27 (by kernel_rfl) rfl #[.pointer (some ⟨g, 0, none⟩), .int .i64 6] rfl (by simp only [hqa, hqb, hqc]; rfl) ?_; (with_reducible refine (yi0.calls k g s0_0 0 0 6 t329 t332 t333 t336 t337 w _ ?side1 ?side2 A2.1).mono ?_); (case side1 => repeat (first | exact HI0.1 | apply IsS46.alloc | apply IsS46.drewN | apply IsS46.drew | apply IsS46.set_1 | apply IsS46.set_2 | refine IsS46.far ?_ NB0_328.1 _)); (case side2 => repeat (first | (with_reducible first | exact HB.1 | apply zn0 | apply zj0 | apply zk0 | refine zf0 ?_ (IsS46.ge HI0.1) | refine zf0 ?_ GE328.1) | exact HB.1)); rintro e w26 ⟨v330, v334, rfl, ho0, ho1, hi, hb, hk⟩; refine ⟨_, rfl, ?_⟩; have HO331 := hqZ (Kd.N_lower (Kd.N_mono (ok' := fun k_ => (w.heap.size ≤ k_) ∧ some k_ ≠ (v334 : Value).ownBlock ∧ k_ ≠ gb328 ∧ k_ ≠ g) ho0 (fun k_ hk_ => ⟨(Nat.le_trans (zl0 (w := w) (g := g) (row := none) (HK.1)) hk_.1), hk_.2, (Kd.freshB (g := gb328) (o := .cells #[.slice none 0 0] 26 (0, 0)) (BK328.1) k_ hk_.1), (IsS46.fresh (HI0.1) k_ hk_.1)⟩)) (zl0 (w := w) (g := g) (row := none) (HK.1))); replace BK328 := hqZ (zg0.blk hk (g' := gb328) (o := .cells #[.slice none 0 0] 26 (0, 0)) (BK328.1) NB328_0.1 (by simp)); have HO335 := hqZ (Kd.R_lower (Kd.R_newM (M := fun k_ => (w.heap.size ≤ k_)) (Kd.R_mono (ok' := fun k_ => True) ho1 (fun _ hk_ => trivial)) (zl0 (w := w) (g := g) (row := none) (HK.1)) (fun k_ h_ => h_)) (zl0 (w := w) (g := g) (row := none) (HK.1))); replace HK := hqZ (zg0.trans (HK.1) hk (.inl rfl)); replace HB := hqZ (hb); replace HI0 := hqZ (hi); clear hb hk hi ho0 ho1) | ((with_reducible refine zo0 (N := 7) rfl ?_); refine zp0 ?hg (N := 7) ?hd (cs := #[.slice none 0 0]) (t := 26) ?hr ?_; (case hd | hg => rfl); (case hr => go_simp <;> rfl); intro gb338 hg w27 hbox hb; replace HO331 := hqZ (Kd.N_below (Kd.N_elderB (HO331.1) gb338 (Nat.le_of_eq hg.symm)) hb); replace HO335 := hqZ (Kd.R_below (HO335.1) hb); replace HB := hqZ (za0 (HB.1) hb); have BK338 := hqZ (hbox); have GW338 := hqZ ((by rw [hg]; exact (zl0 (w := w) (g := g) (row := none) (HK.1)) : w.heap.size ≤ gb338)); have GE338 := hqZ ((Nat.le_trans HW0.1 (by rw [hg]; exact (zl0 (w := w) (g := g) (row := none) (HK.1)) : w.heap.size ≤ gb338) : w.heap.size ≤ gb338)); replace HK := hqZ (zg0.trans (HK.1) (zg0.of_below hb g none) (.inl rfl)); have NB328_338 := hqZ ((by rw [hg]; exact Nat.ne_of_lt (blk_lt (g := gb328) (o := .cells #[.slice none 0 0] 26 (0, 0)) (BK328.1)) : gb328 ≠ gb338)); have NB338_328 := hqZ ((by rw [hg]; exact Nat.ne_of_gt (blk_lt (g := gb328) (o := .cells #[.slice none 0 0] 26 (0, 0)) (BK328.1)) : gb338 ≠ gb328)); replace BK328 := hqZ (zc0 (g := gb328) (o := .cells #[.slice none 0 0] 26 (0, 0)) (BK328.1) hb); have NB0_338 := hqZ ((by rw [hg]; exact Nat.ne_of_lt (IsS46.lt (show IsS46 w _ g s0_0 t336 t337 from HI0.1)) : g ≠ gb338)); have NB338_0 := hqZ ((by rw [hg]; exact Nat.ne_of_gt (IsS46.lt (show IsS46 w _ g s0_0 t336 t337 from HI0.1)) : gb338 ≠ g)); replace HI0 := hqZ (IsS46.below (HI0.1) hb); clear hb hbox hg; obtain ⟨Ao28, co28, eo28⟩ := Kd.N_slice HO331.1; subst eo28; have hnb29 := NB338_328.1; have hnc29 := NB328_338.1; have hnb30 := NB338_0.1; have hnc30 := NB0_338.1; have hcz31_0 : w27.cell? ⟨gb338, 0, none⟩ = some (.slice none 0 0) := (zh0 BK338.1 0).trans rfl; have hfz31_0 := zd0 BK338.1 0; obtain ⟨Ao32, co32, eo32⟩ := Kd.R_slice HO335.1; subst eo32) | ((with_reducible refine ze0 (f := 30) rfl ?_); refine zq0 (some 23) rfl rfl Try.func30 (by kernel_rfl) rfl #[.agg #[.slice Ao28 t329.length co28], .int .i64 t332, .slice Ao32 t333.length co32] rfl (by simp only [hqa, hqb, hqc]; rfl) ?_; (with_reducible refine (yq0.calls k _ _ t329 t332 _ _ t333 true _ ?side1 ?side2 ?side3 ?side4 A3.1).mono ?_); (case side1 => refine (Kd.N_reads' (e := 27) (base := w.heap.size) (ok := fun k_ => (((w.heap.size ≤ k_) ∧ (some k_ ≠ (.slice Ao32 t333.length co32 : Value).ownBlock ∧ (k_ ≠ gb328 ∧ k_ ≠ g))) ∧ k_ ≠ gb338)) (n := t329.length) (c := co28) ?_).2.2; exact ((Kd.N_mono (Kd.N_far (p := ⟨gb338, 0, none⟩) (Kd.N_mono HO331.1 (fun k_ hk => (⟨hk, hk.2⟩ : _ ∧ k_ ≠ gb338))) (fun _ hk => hk.2) (.slice Ao28 t329.length co28)) (fun _ h_ => h_.1)))); (case side2 => exact (Kd.N_reads' HO331.1).2.1); (case side3 => refine (Kd.R_reads' (e := 3) (base := w.heap.size) (ok := fun k_ => ((w.heap.size ≤ k_) ∧ True)) (n := t333.length) (c := co32) ?_).2.2; exact ((Kd.R_mono (Kd.R_far (p := ⟨gb338, 0, none⟩) (Kd.R_types HO335.1 BK338.1 (by decide)) (fun _ hk => hk.2) (.slice Ao28 t329.length co28)) (fun _ h_ => h_.1)))); (case side4 => exact (Kd.R_reads' HO335.1).2.1); rintro e w33 ⟨rfl, hb⟩; refine ⟨_, rfl, ?_⟩; replace HO331 := hqZ (Kd.N_below ((Kd.N_mono (Kd.N_far (p := ⟨gb338, 0, none⟩) (Kd.N_mono HO331.1 (fun k_ hk => (⟨hk, hk.2⟩ : _ ∧ k_ ≠ gb338))) (fun _ hk => hk.2) (.slice Ao28 t329.length co28)) (fun _ h_ => h_.1))) hb); replace HO335 := hqZ (Kd.R_below ((Kd.R_mono (Kd.R_far (p := ⟨gb338, 0, none⟩) (Kd.R_types HO335.1 BK338.1 (by decide)) (fun _ hk => hk.2) (.slice Ao28 t329.length co28)) (fun _ h_ => h_.1))) hb); replace BK328 := hqZ (zc0 (g := gb328) (o := .cells #[.slice none 0 0] 26 (0, 0)) (by refine blk_far ?_ NB328_338.1 _; exact BK328.1) hb); replace BK338 := hqZ (zc0 (g := gb338) (o := .cells #[.slice Ao28 t329.length co28] 26 (0, 0)) (by refine blk_put (cs := #[.slice none 0 0]) ?_ 0 _ rfl; exact BK338.1) hb); replace HK := hqZ (zg0.trans (keep_far HK.1 GW338.1 _) (zg0.of_below hb g none) (.inl rfl)); replace HB := hqZ (za0 (zf0 HB.1 GE338.1) hb); replace HI0 := hqZ (IsS46.below (show IsS46 w (w27.setCell ⟨gb338, 0, none⟩ (.slice Ao28 t329.length co28)) g s0_0 t336 t337 from IsS46.far HI0.1 NB0_338.1 _) hb); clear hb; have hcz34_0 : w33.cell? ⟨gb338, 0, none⟩ = some (.slice Ao28 t329.length co28) := (zh0 BK338.1 0).trans rfl; have hfz34_0 := zd0 BK338.1 0) | ((with_reducible refine ze0 (f := 33) rfl ?_); refine zq0 (some 27) rfl rfl Try.func33 (by kernel_rfl) rfl #[.agg #[.slice Ao28 t329.length co28], .int .i64 t332, .slice Ao32 t333.length co32] rfl (by simp only [hqa, hqb, hqc]; rfl) ?_; (with_reducible refine (ym0.calls k _ _ t329 t332 _ _ t333 t340 _ ?side1 ?side2 ?side3 ?side4 A5.1).mono ?_); (case side1 => exact (Kd.N_reads' HO331.1).2.2); (case side2 => exact (Kd.N_reads' HO331.1).2.1); (case side3 => exact (Kd.R_reads' HO335.1).2.2); (case side4 => exact (Kd.R_reads' HO335.1).2.1); rintro e w35 ⟨rfl, hb⟩; refine ⟨_, rfl, ?_⟩; replace HO331 := hqZ (Kd.N_below (HO331.1) hb); replace HO335 := hqZ (Kd.R_below (HO335.1) hb); replace BK328 := hqZ (zc0 (g := gb328) (o := .cells #[.slice none 0 0] 26 (0, 0)) (BK328.1) hb); replace BK338 := hqZ (zc0 (g := gb338) (o := .cells #[.slice Ao28 t329.length co28] 26 (0, 0)) (BK338.1) hb); replace HK := hqZ (zg0.trans (HK.1) (zg0.of_below hb g none) (.inl rfl)); replace HB := hqZ (za0 (HB.1) hb); replace HI0 := hqZ (IsS46.below (HI0.1) hb); clear hb) | (go_at_call 34; (with_reducible refine (yt0.calls g s0_0 t336 t337 2 false t342 t343 w _ ?side1 ?side2 A7.1).mono ?_); (case side1 => repeat (first | exact HI0.1 | apply IsS46.alloc | apply IsS46.drewN | apply IsS46.drew | apply IsS46.set_1 | apply IsS46.set_2 | refine IsS46.far ?_ NB0_328.1 _ | refine IsS46.far ?_ NB0_338.1 _)); (case side2 => repeat (first | (with_reducible first | exact HB.1 | apply zn0 | apply zj0 | apply zk0 | refine zf0 ?_ (IsS46.ge HI0.1) | refine zf0 ?_ GE328.1 | refine zf0 ?_ GE338.1) | exact HB.1)); rintro e w36 ⟨rfl, hi, hb, hk⟩; replace BK328 := hqZ (zg0.blk hk (g' := gb328) (o := .cells #[.slice none 0 0] 26 (0, 0)) (BK328.1) NB328_0.1 (by simp)); replace HO331 := hqZ (Kd.N_mono (Kd.N_keep (Kd.N_mono (ok := fun k_ => ((((w.heap.size ≤ k_)) ∧ (some k_ ≠ (.slice Ao32 t333.length co32 : Value).ownBlock ∧ (k_ ≠ gb328 ∧ k_ ≠ g))) ∧ k_ ≠ gb338)) (HO331.1) (fun k_ hk_ => (⟨hk_, hk_.1.2.2.2⟩ : _ ∧ k_ ≠ g))) hk (fun _ h => h.2)) (fun _ h => h.1)); replace HO335 := hqZ (Kd.R_mono (Kd.R_keep (IsS46.apart (show IsS46 w _ g s0_0 t336 t337 from HI0.1) (HO335.1) (by decide)) hk (fun _ h => h.2)) (fun _ h => h.1)); replace BK338 := hqZ (zg0.blk hk (g' := gb338) (o := .cells #[.slice Ao28 t329.length co28] 26 (0, 0)) (BK338.1) NB338_0.1 (by simp)); replace HK := hqZ (zg0.trans (HK.1) hk (.inl rfl)); replace HB := hqZ (hb); replace HI0 := hqZ (hi); clear hb hk hi))
 have n0_ := hqZ (Kd.N_drew HO331.1)
 have n1_ := hqZ (Kd.R_drew HO335.1)
 have n2_ := hqZ (blk_drew BK328.1)
 have n3_ := hqZ (blk_drew BK338.1)
 have n4_ := hqZ (IsS46.drew HI0.1)
 have n5_ := hqZ (keep_drew HK.1)
 have n6_ := hqZ (zk0 HB.1)
 clear HO331 HO335 BK328 BK338 HI0 HK HB
 have HO331 := n0_
 have HO335 := n1_
 have BK328 := n2_
 have BK338 := n3_
 have HI0 := n4_
 have HK := n5_
 have HB := n6_
 clear n0_ n1_ n2_ n3_ n4_ n5_ n6_
 refine start_ (n := 10) (S := fun w' => w'.cell? ⟨gb338, 0, none⟩ = some (.slice Ao28 t329.length co28)) (ds := []) #[false, false, false, false, false, false, false, false, false, false] (by kernel_rfl) rfl rfl ((zh0 BK338.1 0).trans rfl) (fun hHeld => ?_); refine with_tabW yg1.tab7 yg1.bits7 (fun HT_ HW_ => ?_)
 generalize w36.drew = w37 at HO331 HO335 BK328 BK338 HI0 HK HB hHeld ⊢
 refine pure_ (i := 1) (N := some 39) (v := ?_) (a' := ?_) (bf 10 2) rfl rfl (zm0 HT_.1 (by kernel_rfl)) (fun _ _ _ h => h) (Or.inl ⟨by rfl, ?_⟩) ?_ ?_
 rotate_left
 ·intro w'; go_simp; with_reducible rfl
 rotate_left
 ·simp only [Act.put, zA, zB, zC, i64_w, i32_w]; rfl
 refine pure_ (i := 2) (N := some 40) (v := ?_) (a' := ?_) (bf 10 6) rfl rfl (zm0 HT_.1 (by kernel_rfl)) (fun _ _ _ h => h) (Or.inl ⟨by rfl, ?_⟩) ?_ ?_
 rotate_left
 ·intro w'; go_simp; with_reducible rfl
 rotate_left
 ·simp only [Act.put, zA, zB, zC, i64_w, i32_w]; rfl
 refine pure_ (i := 3) (N := some 41) (v := ?_) (a' := ?_) (bf 10 14) rfl rfl (zm0 HT_.1 (by kernel_rfl)) (fun _ _ _ h => h) (Or.inl ⟨by rfl, ?_⟩) ?_ ?_
 rotate_left
 ·intro w'; go_simp; with_reducible rfl
 rotate_left
 ·simp only [Act.put, zA, zB, zC, i64_w, i32_w]; rfl
 refine take_ (i := 0) (N := some 38) (v := ?_) (a' := ?_) (bf 10 15) rfl rfl (take_ofW HT_.1 HW_.1 (by kernel_rfl)) (fun _ _ _ h => h) (Or.inl ⟨by rfl, ?_⟩) hHeld ?_ ?_
 rotate_left
 ·intro w' s0
  go_simp
  with_reducible rfl
 rotate_left
 ·simp only [Act.put, zA, zB, zC, i64_w, i32_w]; rfl
 refine take_ (i := 4) (N := some 42) (v := ?_) (a' := ?_) (bf 10 31) rfl rfl (take_ofW HT_.1 HW_.1 (by kernel_rfl)) (fun _ _ _ h => h) (Or.inl ⟨by rfl, ?_⟩) hHeld ?_ ?_
 rotate_left
 ·intro w' s0
  go_simp
  with_reducible rfl
 rotate_left
 ·simp only [Act.put, zA, zB, zC, i64_w, i32_w]; rfl
 refine one_ (i := 5) (N := some 43) (bf 10 63) rfl rfl (one_of HT_.1 (by kernel_rfl)) (by decide) (fun K hK => ?_)
 refine goes_ Try.func35 (by kernel_rfl) rfl #[.pointer (some ⟨g, 0, none⟩), .agg #[.slice Ao28 t329.length co28]] (by rfl) rfl rfl (by simp only [hqa, hqb, hqc]; rfl) ?_
 with_reducible refine (yj0.calls k g s0_0 t342 t343 _ _ t329 t344 t345 t346 w _ ?side1 ?side2 ?side3 ?side4 A24.1).mono ?_
 (case side1 => repeat (first | exact HI0.1 | apply IsS46.alloc | apply IsS46.drewN | apply IsS46.drew | apply IsS46.set_1 | apply IsS46.set_2 | refine IsS46.far ?_ NB0_328.1 _ | refine IsS46.far ?_ NB0_338.1 _))
 (case side2 => repeat (first | (with_reducible first | exact HB.1 | apply zn0 | apply zj0 | apply zk0 | refine zf0 ?_ (IsS46.ge HI0.1) | refine zf0 ?_ GE328.1 | refine zf0 ?_ GE338.1) | exact HB.1))
 (case side3 => exact Kd.C_foot_ownV (base := 0) (Kd.N_V (Kd.N_mono (ok := fun k_ => ((((w.heap.size ≤ k_)) ∧ (some k_ ≠ (.slice Ao32 t333.length co32 : Value).ownBlock ∧ (k_ ≠ gb328 ∧ k_ ≠ g))) ∧ k_ ≠ gb338)) (HO331.1) (fun k_ hk_ => (⟨hk_, hk_.1.2.2.2⟩ : _ ∧ k_ ≠ g)))) (fun _ h_ => h_.2))
 (case side4 => exact (Kd.N_reads' HO331.1).2.1)
 rintro e w38 ⟨rfl, hi, hb, hk⟩
 refine ⟨_, rfl, ?_⟩
 have n0_ := hqZ (zg0.blk hk (g' := gb328) (o := .cells #[.slice none 0 0] 26 (0, 0)) (BK328.1) NB328_0.1 (by simp))
 have n1_ := hqZ (Kd.N_mono (Kd.N_keep (Kd.N_mono (ok := fun k_ => ((((w.heap.size ≤ k_)) ∧ (some k_ ≠ (.slice Ao32 t333.length co32 : Value).ownBlock ∧ (k_ ≠ gb328 ∧ k_ ≠ g))) ∧ k_ ≠ gb338)) (HO331.1) (fun k_ hk_ => (⟨hk_, hk_.1.2.2.2⟩ : _ ∧ k_ ≠ g))) hk (fun _ h => h.2)) (fun _ h => h.1))
 have n2_ := hqZ (Kd.R_mono (Kd.R_keep (IsS46.apart (show IsS46 w _ g s0_0 t342 t343 from HI0.1) (HO335.1) (by decide)) hk (fun _ h => h.2)) (fun _ h => h.1))
 have n3_ := hqZ (zg0.blk hk (g' := gb338) (o := .cells #[.slice Ao28 t329.length co28] 26 (0, 0)) (BK338.1) NB338_0.1 (by simp))
 have n4_ := hqZ (zg0.trans (HK.1) hk (.inl rfl))
 have n5_ := hqZ (hb)
 have n6_ := hqZ (hi)
 clear BK328 HO331 HO335 BK338 HK HB HI0
 have BK328 := n0_
 have HO331 := n1_
 have HO335 := n2_
 have BK338 := n3_
 have HK := n4_
 have HB := n5_
 have HI0 := n6_
 clear n0_ n1_ n2_ n3_ n4_ n5_ n6_
 (try clear hb)
 (try clear hb2)
 (try clear hk)
 (try clear hi)
 refine hK.out _ _ ((zh0 BK338.1 0).trans rfl) (fun hHeld => ?_)
 clear hK K
 refine norm_ (a' := ?_) ?_ ?_
 rotate_left
 ·show Act.put _ (some 43) _ = _; simp only [Act.put, zA, zB, zC, i64_w, i32_w]; rfl
 refine one_ (i := 6) (N := none) (bf 10 127) rfl rfl (one_of HT_.1 (by kernel_rfl)) (by decide) (fun K hK => ?_)
 have hs39 : w38.cell? ⟨gb328, 0, none⟩ = some (.slice none 0 0) := (zh0 BK328.1 0).trans rfl
 have hfs39 := zd0 BK328.1 0
 have hns39_1 := NB338_328.1
 have hms39_1 := NB328_338.1
 refine skip_ (w1 := ?_) (by rfl) rfl ?_ ?_
 rotate_left
 ·go_simp
  rfl
 refine hK.out _ _ (((cell_far (p := ⟨gb328, _, none⟩) NB338_328.1 _).trans (hHeld))) (fun hHeld => ?_)
 clear hK K
 refine pure_ (i := 7) (N := some 3) (v := ?_) (a' := ?_) (bf 10 255) rfl rfl (zm0 HT_.1 (by kernel_rfl)) (fun _ _ _ h => h) (Or.inl ⟨by rfl, ?_⟩) ?_ ?_
 rotate_left
 ·intro w'; go_simp; with_reducible rfl
 rotate_left
 ·simp only [Act.put, zA, zB, zC, i64_w, i32_w]; rfl
 refine pure_ (i := 8) (N := some 4) (v := ?_) (a' := ?_) (bf 10 511) rfl rfl (zm0 HT_.1 (by kernel_rfl)) (fun _ _ _ h => h) (Or.inl ⟨by rfl, ?_⟩) ?_ ?_
 rotate_left
 ·intro w'; go_simp; with_reducible rfl
 rotate_left
 ·simp only [Act.put, zA, zB, zC, i64_w, i32_w]; rfl
 refine pure_ (i := 9) (N := some 5) (v := ?_) (a' := ?_) (bf 10 1023) rfl rfl (zm0 HT_.1 (by kernel_rfl)) (fun _ _ _ h => h) (Or.inl ⟨by rfl, ?_⟩) ?_ ?_
 rotate_left
 ·intro w'; go_simp; with_reducible rfl
 rotate_left
 ·simp only [Act.put, zA, zB, zC, i64_w, i32_w]; rfl
 refine done_ (done_of HT_.1 (by kernel_rfl)) ?_
 try go_wp2
 refine bodyPost_ret (results_list (rs := [.cell 2 26, .tmp 3, .tmp 4, .tmp 5]) rfl (by simp) (.cell gb328 26 #[.slice Ao28 t329.length co28] (0, 0) _ rfl (by refine blk_put (cs := #[.slice none 0 0]) ?_ 0 _ rfl; exact BK328.1) Try.underlying26 rfl (by kernel_rfl) (.tmp (.tmp (.tmp .nil))))) rfl ?_
 exact ⟨_, _, rfl, Kd.N_mono (Kd.N_far (p := ⟨gb328, 0, none⟩) (Kd.N_mono HO331.1 (fun k_ hk => (⟨hk, hk.1.2.2.1⟩ : _ ∧ k_ ≠ gb328))) (fun _ hk => hk.2) (.slice Ao28 t329.length co28)) (fun _ hk => ⟨hk.1.1.1, hk.1.1.2.1⟩), Kd.R_mono (Kd.R_far (p := ⟨gb328, 0, none⟩) (Kd.R_types HO335.1 BK328.1 (by decide)) (fun _ hk => hk.2) (.slice Ao28 t329.length co28)) (fun _ hk => hk.1.1), zf0 HB.1 GE328.1⟩
def yl1.f (k : Nat) (l0 : List Int) : Option ((List (List Int)) × Int × List Int × Int) := (yg1.f k l0 0 0).bind fun t => some (t.1, t.2.1, t.2.2.1, t.2.2.2.1)
theorem yl1.mono : ∀ a0 k, LeO (yl1.f k a0) (yl1.f (k + 1) a0) := fun a0 k => LeO.bind (yg1.mono _ _ _ _) (fun _ => LeO.refl _)
theorem yl1.calls (k : Nat) (A0 : Option Addr) (c0 : Nat) (l0 : List Int) (r1 : List (List Int)) (r2 : Int) (r3 : List Int) (r4 : Int) (w : World) (hr0 : Kd.C (Kd.int .u8) w A0 l0.length l0) (hc0 : l0.length ≤ c0) (h : yl1.f k l0 = some (r1, r2, r3, r4)) :
  Calls Try.prog 13 #[.slice A0 l0.length c0] w fun e w' => ∃ v0_ v2_ : Value, e = .returned (.tuple #[.agg #[v0_], .int .i64 r2, v2_, .int .i64 r4]) ∧ Kd.N (Kd.slice 3 (Kd.int .i64)) 27 w' w.heap.size (fun k_ => (w.heap.size ≤ k_) ∧ some k_ ≠ (v2_ : Value).ownBlock) v0_ r1 ∧ Kd.R (Kd.int .i64) 3 w' w.heap.size (fun k_ => (w.heap.size ≤ k_)) v2_ r3 ∧ Below w.heap.size w w' := by
 unfold yl1.f at h
 obtain ⟨t, ht, h⟩ := Option.bind_eq_some_iff.mp h
 obtain ⟨z1, z2, z3, z4, z5, z6⟩ := t
 simp only [Option.some.injEq, Prod.mk.injEq] at h
 obtain ⟨rfl, rfl, rfl, rfl⟩ := h
 exact yg1.calls k A0 c0 l0 z1 z2 z3 z4 z5 z6 w hr0 hc0 ht
def yp0.j0 : Nat → Int → List Int → Int → Bool → List (List Int) → Option (List Int × Bool)
 | 0, _, _, _, _, _ => none
 | k + 1, x1, x2, x3, x30, x444000 => if x30 = true then (some (([] : List Int), false)) else ((ys1.f x2).bind fun t450 => ((yk0.f k x444000 x1 t450 x3).bind fun t453 => ((yu1.f x444000 t453).bind fun t454 => (if t454 = true then (some (t453, true)) else (some (([] : List Int), false))))))
def yp0.f (k : Nat) (l0_0 : List (List Int)) (a1 : Int) (l2 : List Int) (a3 : Int) : Option (List Int × Bool) := (yx0.f k l0_0 a1 l2).bind fun t444 => (if t444 = true then ((yo1.f l0_0 (([a3] : List Int))).bind fun t448 => (if t448 = true then ((yq1.f l0_0 a1 l2 a3).bind fun t449 => (yp0.j0 k a1 l2 a3 (!t449) l0_0)) else (yp0.j0 k a1 l2 a3 true l0_0))) else (yp0.j0 k a1 l2 a3 true l0_0))
theorem yp0.mono_l : ∀ k, (∀ y0 y1 y2 y3 y4, LeO (yp0.j0 k y0 y1 y2 y3 y4) (yp0.j0 (k + 1) y0 y1 y2 y3 y4))
 | 0 => fun _ _ _ _ _ r h => by simp [yp0.j0] at h
 | k + 1 => by
  have ih0 := yp0.mono_l k
  ·intro y0 y1 y2 y3 y4
   unfold yp0.j0
   repeat' (with_reducible first | exact ih0 _ _ _ _ _ | exact yx0.mono _ _ _ _ | exact yk0.mono _ _ _ _ _ | exact LeO.refl _ | exact LeO.none _ | refine LeO.ite ?_ ?_ | refine LeO.bind ?_ (fun _ => ?_))
theorem yp0.mono : ∀ a0 a1 a2 a3 k, LeO (yp0.f k a0 a1 a2 a3) (yp0.f (k + 1) a0 a1 a2 a3) := by
 intro a0 a1 a2 a3 k
 have ih0 := yp0.mono_l k
 unfold yp0.f
 repeat' (with_reducible first | exact ih0 _ _ _ _ _ | exact yx0.mono _ _ _ _ | exact yk0.mono _ _ _ _ _ | exact LeO.refl _ | exact LeO.none _ | refine LeO.ite ?_ ?_ | refine LeO.bind ?_ (fun _ => ?_))
theorem yp0.calls (k : Nat) (A0_0 : Option Addr) (c0_0 : Nat) (l0_0 : List (List Int)) (a1 : Int) (A2 : Option Addr) (c2 : Nat) (l2 : List Int) (a3 : Int) (r1 : List Int) (r2 : Bool) (w : World) (hr0_0 : Kd.C (Kd.slice 3 (Kd.int .i64)) w A0_0 l0_0.length l0_0) (hc0_0 : l0_0.length ≤ c0_0) (hr2 : Kd.C (Kd.int .i64) w A2 l2.length l2) (hc2 : l2.length ≤ c2) (h : yp0.f k l0_0 a1 l2 a3 = some (r1, r2)) :
  Calls Try.prog 14 #[.agg #[.slice A0_0 l0_0.length c0_0], .int .i64 a1, .slice A2 l2.length c2, .int .i64 a3] w fun e w' => ∃ v0_ : Value, e = .returned (.tuple #[v0_, .bool r2]) ∧ Kd.R (Kd.int .i64) 3 w' w.heap.size (fun _ => True) v0_ r1 ∧ Below w.heap.size w w' := by
 have hu26 := Try.underlying26
 have HR0_0 := hqZ hr0_0
 have HC0_0 := hqZ hc0_0
 clear hr0_0 hc0_0
 have HR2 := hqZ hr2
 have HC2 := hqZ hc2
 clear hr2 hc2
 have HB := hqZ (Below.refl w.heap.size w)
 have H : ((yx0.f k l0_0 a1 l2).bind fun t444 => (if t444 = true then ((yo1.f l0_0 (([a3] : List Int))).bind fun t448 => (if t448 = true then ((yq1.f l0_0 a1 l2 a3).bind fun t449 => (yp0.j0 k a1 l2 a3 (!t449) l0_0)) else (yp0.j0 k a1 l2 a3 true l0_0))) else (yp0.j0 k a1 l2 a3 true l0_0))) = some (r1, r2) := h
 clear h
 have HC5 := hqZ H
 clear H
 go_enter Try.func14, Try.ntmps14
 go_upto_region 1 with (first | ((with_reducible refine zo0 (N := 4) rfl ?_); (try (refine gate_guard (by rfl) ?_; dsimp only)); refine zp0 ?hg (N := 4) ?hd (cs := #[.slice A0_0 l0_0.length c0_0]) (t := 26) ?hr ?_; (case hd | hg => rfl); (case hr => go_simp <;> rfl); intro gb443 hg w6 hbox hb; have BK443 := hqZ (hbox); have GW443 := hqZ ((by rw [hg]; exact (zb0 (HB.1)) : w.heap.size ≤ gb443)); have GE443 := hqZ ((by rw [hg]; exact (zb0 (HB.1)) : w.heap.size ≤ gb443)); replace HB := hqZ (za0 (HB.1) hb); clear hb hbox hg))
 (try simp only [Act.put, zA, zB, zC])
 go_cut [30] (fun v30 wc => ∃ (kq : Nat) (x30_4 : Bool), v30 = .bool x30_4 ∧ zi0 (yp0.j0 kq a1 l2 a3 x30_4 l0_0 = some (r1, r2)) ∧ zi0 (kq ≤ k) ∧ zi0 (wc.heap[gb443]? = some (.cells #[(.slice A0_0 l0_0.length c0_0)] 26 (0, 0))) ∧ zi0 (Below w.heap.size w wc))
 case first =>
  have H := HC5.1
  clear HC5
  replace H := Option.bind_eq_some_iff.mp H
  obtain ⟨t444, A70, H⟩ := H
  try dsimp only at H
  have A7 := hqZ A70
  clear A70
  by_cases c8 : t444 = true
  rotate_left
  ·replace c8 := Bool.eq_false_iff.mpr c8
   subst c8
   rw [if_neg (show ¬ (false = true) by decide)] at H
   have H' := hqZ H
   clear H
   have hcz28_0 : w6.cell? ⟨gb443, 0, none⟩ = some (.slice A0_0 l0_0.length c0_0) := (zh0 BK443.1 0).trans rfl
   have hfz28_0 := zd0 BK443.1 0
   go_wp2_with (first | ((with_reducible refine ze0 (f := 28) rfl ?_); refine zq0 (some 14) rfl rfl Try.func28 (by kernel_rfl) rfl #[.agg #[.slice A0_0 l0_0.length c0_0], .int .i64 a1, .slice A2 l2.length c2] rfl (by simp only [hqa, hqb, hqc]; rfl) ?_; (with_reducible refine (yx0.calls k _ _ l0_0 a1 _ _ l2 false _ ?side1 ?side2 ?side3 ?side4 A7.1).mono ?_); (case side1 => exact (Kd.C_below HR0_0.1 HB.1)); (case side2 => exact HC0_0.1); (case side3 => exact (Kd.C_below HR2.1 HB.1)); (case side4 => exact HC2.1); rintro e w29 ⟨rfl, hb⟩; refine ⟨_, rfl, ?_⟩; replace BK443 := hqZ (zc0 (g := gb443) (BK443.1) hb); replace HB := hqZ (za0 (HB.1) hb); clear hb))
   go_meet
   case rel => exact ⟨_, (true), (rfl), H', ⟨by first | omega | exact Nat.le_refl _⟩, ⟨BK443.1⟩, ⟨HB.1⟩⟩
  subst c8
  rw [if_pos rfl] at H
  obtain ⟨y445, hy445⟩ : ∃ y_ : List Int, y_ = (([a3] : List Int)) := ⟨_, rfl⟩
  replace H : ((yo1.f l0_0 y445).bind fun t448 => (if t448 = true then ((yq1.f l0_0 a1 l2 a3).bind fun t449 => (yp0.j0 k a1 l2 a3 (!t449) l0_0)) else (yp0.j0 k a1 l2 a3 true l0_0))) = some (r1, r2) := by first | (rw [hy445]; with_reducible exact H) | (have H2_ := (Option.bind_some _ _).symm.trans H; rw [hy445]; with_reducible exact H2_) | (have H2_ := (Option.bind_some _ _).symm.trans H; with_reducible exact H2_) | with_reducible exact H | (rw [hy445]; exact H) | exact H
  have Ny445 := hqZ hy445
  clear hy445
  replace H := Option.bind_eq_some_iff.mp H
  obtain ⟨t448, A90, H⟩ := H
  try dsimp only at H
  have A9 := hqZ A90
  clear A90
  by_cases c10 : t448 = true
  rotate_left
  ·replace c10 := Bool.eq_false_iff.mpr c10
   subst c10
   rw [if_neg (show ¬ (false = true) by decide)] at H
   have H' := hqZ H
   clear H
   have hcz21_0 : w6.cell? ⟨gb443, 0, none⟩ = some (.slice A0_0 l0_0.length c0_0) := (zh0 BK443.1 0).trans rfl
   have hfz21_0 := zd0 BK443.1 0
   go_wp2_with (first | ((with_reducible refine ze0 (f := 28) rfl ?_); refine zq0 (some 14) rfl rfl Try.func28 (by kernel_rfl) rfl #[.agg #[.slice A0_0 l0_0.length c0_0], .int .i64 a1, .slice A2 l2.length c2] rfl (by simp only [hqa, hqb, hqc]; rfl) ?_; (with_reducible refine (yx0.calls k _ _ l0_0 a1 _ _ l2 true _ ?side1 ?side2 ?side3 ?side4 A7.1).mono ?_); (case side1 => exact (Kd.C_below HR0_0.1 HB.1)); (case side2 => exact HC0_0.1); (case side3 => exact (Kd.C_below HR2.1 HB.1)); (case side4 => exact HC2.1); rintro e w22 ⟨rfl, hb⟩; refine ⟨_, rfl, ?_⟩; replace BK443 := hqZ (zc0 (g := gb443) (BK443.1) hb); replace HB := hqZ (za0 (HB.1) hb); clear hb; have hcz23_0 : w22.cell? ⟨gb443, 0, none⟩ = some (.slice A0_0 l0_0.length c0_0) := (zh0 BK443.1 0).trans rfl; have hfz23_0 := zd0 BK443.1 0) | ((with_reducible refine zo0 (N := 19) rfl ?_); (try (refine gate_guard (by rfl) ?_; dsimp only)); refine Kd.R_lit (Kd.int .i64) _ 3 ?hg (N := 19) ?hd (xs := ([a3] : List Int)) (inner := [.int .i64 a3]) (ok := fun _ => True) (okp := fun _ => True) ?hr ?hp (fun _ hk => hk) trivial (Below.refl _ _) (Nat.le_refl _) (by simp) ?_; (case hd | hg => rfl); (case hr => go_simp <;> rfl); (case hp => exact (Reps.one (show Kd.M (Kd.int .i64) _ _ _ a3 [.int .i64 a3] from rfl) (Reps.none _ _))); intro v446 w24 ho25 hb hg_ hnew_; clear hg_ hnew_; (first | rw [← Ny445.1] at ho25 | (simp only [Int.reduceToNat] at ho25; rw [← Ny445.1] at ho25)); have HO447 := hqZ (Kd.R_lower ho25 (zb0 (HB.1))); replace BK443 := hqZ (zc0 (g := gb443) (BK443.1) hb); replace HB := hqZ (za0 (HB.1) hb); clear hb ho25; obtain ⟨Ao26, co26, eo26⟩ := Kd.R_slice HO447.1; subst eo26) | (go_at_call 36; (with_reducible refine (yo1.calls _ _ l0_0 _ _ y445 false _ ?side1 ?side2 ?side3 ?side4 A9.1).mono ?_); (case side1 => exact (Kd.C_below HR0_0.1 HB.1)); (case side2 => exact HC0_0.1); (case side3 => exact (Kd.R_reads' HO447.1).2.2); (case side4 => exact (Kd.R_reads' HO447.1).2.1); rintro e w27 ⟨rfl, hb⟩; replace HO447 := hqZ (Kd.R_below (HO447.1) hb); replace BK443 := hqZ (zc0 (g := gb443) (BK443.1) hb); replace HB := hqZ (za0 (HB.1) hb); clear hb))
   go_meet
   case rel => exact ⟨_, (true), (rfl), H', ⟨by first | omega | exact Nat.le_refl _⟩, ⟨BK443.1⟩, ⟨HB.1⟩⟩
  subst c10
  rw [if_pos rfl] at H
  replace H := Option.bind_eq_some_iff.mp H
  obtain ⟨t449, A110, H⟩ := H
  try dsimp only at H
  have A11 := hqZ A110
  clear A110
  have H' := hqZ H
  clear H
  have hcz12_0 : w6.cell? ⟨gb443, 0, none⟩ = some (.slice A0_0 l0_0.length c0_0) := (zh0 BK443.1 0).trans rfl
  have hfz12_0 := zd0 BK443.1 0
  go_wp2_with (first | ((with_reducible refine ze0 (f := 28) rfl ?_); refine zq0 (some 14) rfl rfl Try.func28 (by kernel_rfl) rfl #[.agg #[.slice A0_0 l0_0.length c0_0], .int .i64 a1, .slice A2 l2.length c2] rfl (by simp only [hqa, hqb, hqc]; rfl) ?_; (with_reducible refine (yx0.calls k _ _ l0_0 a1 _ _ l2 true _ ?side1 ?side2 ?side3 ?side4 A7.1).mono ?_); (case side1 => exact (Kd.C_below HR0_0.1 HB.1)); (case side2 => exact HC0_0.1); (case side3 => exact (Kd.C_below HR2.1 HB.1)); (case side4 => exact HC2.1); rintro e w13 ⟨rfl, hb⟩; refine ⟨_, rfl, ?_⟩; replace BK443 := hqZ (zc0 (g := gb443) (BK443.1) hb); replace HB := hqZ (za0 (HB.1) hb); clear hb; have hcz14_0 : w13.cell? ⟨gb443, 0, none⟩ = some (.slice A0_0 l0_0.length c0_0) := (zh0 BK443.1 0).trans rfl; have hfz14_0 := zd0 BK443.1 0) | ((with_reducible refine zo0 (N := 19) rfl ?_); (try (refine gate_guard (by rfl) ?_; dsimp only)); refine Kd.R_lit (Kd.int .i64) _ 3 ?hg (N := 19) ?hd (xs := ([a3] : List Int)) (inner := [.int .i64 a3]) (ok := fun _ => True) (okp := fun _ => True) ?hr ?hp (fun _ hk => hk) trivial (Below.refl _ _) (Nat.le_refl _) (by simp) ?_; (case hd | hg => rfl); (case hr => go_simp <;> rfl); (case hp => exact (Reps.one (show Kd.M (Kd.int .i64) _ _ _ a3 [.int .i64 a3] from rfl) (Reps.none _ _))); intro v446 w15 ho16 hb hg_ hnew_; clear hg_ hnew_; (first | rw [← Ny445.1] at ho16 | (simp only [Int.reduceToNat] at ho16; rw [← Ny445.1] at ho16)); have HO447 := hqZ (Kd.R_lower ho16 (zb0 (HB.1))); replace BK443 := hqZ (zc0 (g := gb443) (BK443.1) hb); replace HB := hqZ (za0 (HB.1) hb); clear hb ho16; obtain ⟨Ao17, co17, eo17⟩ := Kd.R_slice HO447.1; subst eo17) | (go_at_call 36; (with_reducible refine (yo1.calls _ _ l0_0 _ _ y445 true _ ?side1 ?side2 ?side3 ?side4 A9.1).mono ?_); (case side1 => exact (Kd.C_below HR0_0.1 HB.1)); (case side2 => exact HC0_0.1); (case side3 => exact (Kd.R_reads' HO447.1).2.2); (case side4 => exact (Kd.R_reads' HO447.1).2.1); rintro e w18 ⟨rfl, hb⟩; replace HO447 := hqZ (Kd.R_below (HO447.1) hb); replace BK443 := hqZ (zc0 (g := gb443) (BK443.1) hb); replace HB := hqZ (za0 (HB.1) hb); clear hb; have hcz19_0 : w18.cell? ⟨gb443, 0, none⟩ = some (.slice A0_0 l0_0.length c0_0) := (zh0 BK443.1 0).trans rfl; have hfz19_0 := zd0 BK443.1 0) | (go_at_call 37; (with_reducible refine (yq1.calls _ _ l0_0 a1 _ _ l2 a3 t449 _ ?side1 ?side2 ?side3 ?side4 A11.1).mono ?_); (case side1 => exact (Kd.C_below HR0_0.1 HB.1)); (case side2 => exact HC0_0.1); (case side3 => exact (Kd.C_below HR2.1 HB.1)); (case side4 => exact HC2.1); rintro e w20 ⟨rfl, hb⟩; replace HO447 := hqZ (Kd.R_below (HO447.1) hb); replace BK443 := hqZ (zc0 (g := gb443) (BK443.1) hb); replace HB := hqZ (za0 (HB.1) hb); clear hb))
  go_meet
  case rel => exact ⟨_, (!t449), (rfl), H', ⟨by first | omega | exact Nat.le_refl _⟩, ⟨BK443.1⟩, ⟨HB.1⟩⟩
 case rest =>
  clear HC5
  try clear c1
  try clear c2
  try clear p2
  try clear c8
  try clear c10
  try clear c14
  try clear c28
  try clear hcz12_0
  try clear hcz14_0
  try clear hcz19_0
  try clear hcz21_0
  try clear hcz23_0
  try clear hcz28_0
  try clear hfz12_0
  try clear hfz14_0
  try clear hfz19_0
  try clear hfz21_0
  try clear hfz23_0
  try clear hfz28_0
  obtain ⟨kq, x30_4, rfl, HA, HJ4, BK443, HB⟩ := hcut
  cases kq with
  | zero => exact absurd HA.1 (by simp [yp0.j0])
  | succ kj4 =>
   have H := HA.1
   clear HA
   simp only [yp0.j0] at H
   by_cases c30 : x30_4 = true
   ·subst c30
    rw [if_pos rfl] at H
    simp only [Option.some.injEq, Prod.mk.injEq] at H
    obtain ⟨rfl, rfl⟩ := H
    go_wp2
    go_ret2
    exact ⟨_, rfl, by first | exact Kd.R_nil _ _ _ _ _ | exact Kd.N_nil _ _ _ _ _ | exact Kd.V_nil _ _ _ _ _ | exact Kd.Q_nil _ _ _ _ _ | exact Kd.S_nil _ _ _ _ _, HB.1⟩
   replace c30 := Bool.eq_false_iff.mpr c30
   subst c30
   rw [if_neg (show ¬ (false = true) by decide)] at H
   replace H := Option.bind_eq_some_iff.mp H
   obtain ⟨t450, A310, H⟩ := H
   try dsimp only at H
   have A31 := hqZ A310
   clear A310
   replace H := Option.bind_eq_some_iff.mp H
   obtain ⟨t453, A320, H⟩ := H
   try dsimp only at H
   have A32 := hqZ A320
   clear A320
   replace H := Option.bind_eq_some_iff.mp H
   obtain ⟨t454, A330, H⟩ := H
   try dsimp only at H
   have A33 := hqZ A330
   clear A330
   by_cases c34 : t454 = true
   ·subst c34
    rw [if_pos rfl] at H
    simp only [Option.some.injEq, Prod.mk.injEq] at H
    obtain ⟨rfl, rfl⟩ := H
    go_wp2_with (first | ((with_reducible refine ze0 (f := 38) rfl ?_); refine zq0 (some 32) rfl rfl Try.func38 (by kernel_rfl) rfl #[.slice A2 l2.length c2] rfl (by simp only [hqa, hqb, hqc]; rfl) ?_; (with_reducible refine (ys1.calls _ _ l2 t450 _ ?side1 ?side2 A31.1).mono ?_); (case side1 => exact (Kd.C_below HR2.1 HB.1)); (case side2 => exact HC2.1); rintro e w35 ⟨v451, rfl, ho0, hb⟩; refine ⟨_, rfl, ?_⟩; have HO452 := hqZ (Kd.R_lower ho0 (zb0 (HB.1))); replace BK443 := hqZ (zc0 (g := gb443) (BK443.1) hb); replace HB := hqZ (za0 (HB.1) hb); clear hb ho0; have hcz36_0 : w35.cell? ⟨gb443, 0, none⟩ = some (.slice A0_0 l0_0.length c0_0) := (zh0 BK443.1 0).trans rfl; have hfz36_0 := zd0 BK443.1 0; obtain ⟨Ao37, co37, eo37⟩ := Kd.R_slice HO452.1; subst eo37) | ((with_reducible refine ze0 (f := 39) rfl ?_); refine zq0 (some 37) rfl rfl Try.func39 (by kernel_rfl) rfl #[.agg #[.slice A0_0 l0_0.length c0_0], .int .i64 a1, .slice Ao37 t450.length co37, .int .i64 a3] rfl (by simp only [hqa, hqb, hqc]; rfl) ?_; (with_reducible refine (yk0.calls kj4 _ _ l0_0 a1 (fun k_ => some k_ = (.slice Ao37 t450.length co37 : Value).ownBlock) (.slice Ao37 t450.length co37) t450 a3 t453 w _ ?side1 ?side2 ?side3 ?side4 A32.1).mono ?_); (case side1 => repeat (first | exact HB.1 | apply zn0 | apply zj0 | apply zk0 | refine zf0 ?_ GE443.1)); (case side2 => exact Kd.C_kept_came (Kd.heap_slice 3 (Kd.heap_int .i64)) HR0_0.1 (HB.1) (fun k_ hs_ => (fun e_ => Kd.R_base HO452.1 k_ e_.symm) hs_)); (case side3 => exact HC0_0.1); (case side4 => exact Kd.R_tight rfl HO452.1); rintro e w38 ⟨rfl, hy0, hb, hkp⟩; refine ⟨_, rfl, ?_⟩; replace BK443 := hqZ (blk_kept (BK443.1) hkp (fun hs_ => (fun e_ => (Kd.R_ne HO452.1 BK443.1 (by decide)) e_) hs_)); replace HO452 := hqZ (Kd.R_reok rfl hy0 (fun k_ e_ => HO452.1.1 k_ e_)); replace HB := hqZ (hb); clear hb hkp hy0; have hcz39_0 : w38.cell? ⟨gb443, 0, none⟩ = some (.slice A0_0 l0_0.length c0_0) := (zh0 BK443.1 0).trans rfl; have hfz39_0 := zd0 BK443.1 0) | ((with_reducible refine ze0 (f := 40) rfl ?_); refine zq0 (some 40) rfl rfl Try.func40 (by kernel_rfl) rfl #[.agg #[.slice A0_0 l0_0.length c0_0], .slice Ao37 t453.length co37] rfl (by (try simp only [List.map_toArray, List.map_cons, List.map_nil]); first | done | (rw [show t453.length = t450.length from (Kd.R_reads' HO452.1).1.symm] <;> rfl) | rfl | (simp only [List.length_drop, List.length_take]; rfl)) ?_; (with_reducible refine (yu1.calls _ _ l0_0 _ _ t453 true _ ?side1 ?side2 ?side3 ?side4 A33.1).mono ?_); (case side1 => exact (Kd.C_below HR0_0.1 HB.1)); (case side2 => exact HC0_0.1); (case side3 => exact (Kd.R_reads' HO452.1).2.2); (case side4 => rw [show t453.length = t450.length from (Kd.R_reads' HO452.1).1.symm]; exact (Kd.R_reads' HO452.1).2.1); rintro e w40 ⟨rfl, hb⟩; refine ⟨_, rfl, ?_⟩; replace HO452 := hqZ (Kd.R_below (HO452.1) hb); replace BK443 := hqZ (zc0 (g := gb443) (BK443.1) hb); replace HB := hqZ (za0 (HB.1) hb); clear hb))
    go_ret2
    exact ⟨_, rfl, HO452.1, HB.1⟩
   replace c34 := Bool.eq_false_iff.mpr c34
   subst c34
   rw [if_neg (show ¬ (false = true) by decide)] at H
   simp only [Option.some.injEq, Prod.mk.injEq] at H
   obtain ⟨rfl, rfl⟩ := H
   go_wp2_with (first | ((with_reducible refine ze0 (f := 38) rfl ?_); refine zq0 (some 32) rfl rfl Try.func38 (by kernel_rfl) rfl #[.slice A2 l2.length c2] rfl (by simp only [hqa, hqb, hqc]; rfl) ?_; (with_reducible refine (ys1.calls _ _ l2 t450 _ ?side1 ?side2 A31.1).mono ?_); (case side1 => exact (Kd.C_below HR2.1 HB.1)); (case side2 => exact HC2.1); rintro e w41 ⟨v451, rfl, ho0, hb⟩; refine ⟨_, rfl, ?_⟩; have HO452 := hqZ (Kd.R_lower ho0 (zb0 (HB.1))); replace BK443 := hqZ (zc0 (g := gb443) (BK443.1) hb); replace HB := hqZ (za0 (HB.1) hb); clear hb ho0; have hcz42_0 : w41.cell? ⟨gb443, 0, none⟩ = some (.slice A0_0 l0_0.length c0_0) := (zh0 BK443.1 0).trans rfl; have hfz42_0 := zd0 BK443.1 0; obtain ⟨Ao43, co43, eo43⟩ := Kd.R_slice HO452.1; subst eo43) | ((with_reducible refine ze0 (f := 39) rfl ?_); refine zq0 (some 37) rfl rfl Try.func39 (by kernel_rfl) rfl #[.agg #[.slice A0_0 l0_0.length c0_0], .int .i64 a1, .slice Ao43 t450.length co43, .int .i64 a3] rfl (by simp only [hqa, hqb, hqc]; rfl) ?_; (with_reducible refine (yk0.calls kj4 _ _ l0_0 a1 (fun k_ => some k_ = (.slice Ao43 t450.length co43 : Value).ownBlock) (.slice Ao43 t450.length co43) t450 a3 t453 w _ ?side1 ?side2 ?side3 ?side4 A32.1).mono ?_); (case side1 => repeat (first | exact HB.1 | apply zn0 | apply zj0 | apply zk0 | refine zf0 ?_ GE443.1)); (case side2 => exact Kd.C_kept_came (Kd.heap_slice 3 (Kd.heap_int .i64)) HR0_0.1 (HB.1) (fun k_ hs_ => (fun e_ => Kd.R_base HO452.1 k_ e_.symm) hs_)); (case side3 => exact HC0_0.1); (case side4 => exact Kd.R_tight rfl HO452.1); rintro e w44 ⟨rfl, hy0, hb, hkp⟩; refine ⟨_, rfl, ?_⟩; replace BK443 := hqZ (blk_kept (BK443.1) hkp (fun hs_ => (fun e_ => (Kd.R_ne HO452.1 BK443.1 (by decide)) e_) hs_)); replace HO452 := hqZ (Kd.R_reok rfl hy0 (fun k_ e_ => HO452.1.1 k_ e_)); replace HB := hqZ (hb); clear hb hkp hy0; have hcz45_0 : w44.cell? ⟨gb443, 0, none⟩ = some (.slice A0_0 l0_0.length c0_0) := (zh0 BK443.1 0).trans rfl; have hfz45_0 := zd0 BK443.1 0) | ((with_reducible refine ze0 (f := 40) rfl ?_); refine zq0 (some 40) rfl rfl Try.func40 (by kernel_rfl) rfl #[.agg #[.slice A0_0 l0_0.length c0_0], .slice Ao43 t453.length co43] rfl (by (try simp only [List.map_toArray, List.map_cons, List.map_nil]); first | done | (rw [show t453.length = t450.length from (Kd.R_reads' HO452.1).1.symm] <;> rfl) | rfl | (simp only [List.length_drop, List.length_take]; rfl)) ?_; (with_reducible refine (yu1.calls _ _ l0_0 _ _ t453 false _ ?side1 ?side2 ?side3 ?side4 A33.1).mono ?_); (case side1 => exact (Kd.C_below HR0_0.1 HB.1)); (case side2 => exact HC0_0.1); (case side3 => exact (Kd.R_reads' HO452.1).2.2); (case side4 => rw [show t453.length = t450.length from (Kd.R_reads' HO452.1).1.symm]; exact (Kd.R_reads' HO452.1).2.1); rintro e w46 ⟨rfl, hb⟩; refine ⟨_, rfl, ?_⟩; replace HO452 := hqZ (Kd.R_below (HO452.1) hb); replace BK443 := hqZ (zc0 (g := gb443) (BK443.1) hb); replace HB := hqZ (za0 (HB.1) hb); clear hb))
   go_ret2
   exact ⟨_, rfl, by first | exact Kd.R_nil _ _ _ _ _ | exact Kd.N_nil _ _ _ _ _ | exact Kd.V_nil _ _ _ _ _ | exact Kd.Q_nil _ _ _ _ _ | exact Kd.S_nil _ _ _ _ _, HB.1⟩
def yg0.j0 : Nat → Int → List Int → Int → Bool → List (List Int) → Option (List Int × Bool)
 | 0, _, _, _, _, _ => none
 | k + 1, x1, x2, x3, x39, x456000 => if x39 = true then (some (([] : List Int), false)) else ((ym1.f x2).bind fun t460 => ((yl0.f k x456000 x1 t460 x3).bind fun t463 => ((yo0.f k t463 0 20).bind fun t464 => (if t464 = true then (some (t463, true)) else (some (([] : List Int), false))))))
def yg0.f (k : Nat) (l0_0 : List (List Int)) (a1 : Int) (l2 : List Int) (a3 : Int) : Option (List Int × Bool) := (yq0.f k l0_0 a1 l2).bind fun t456 => (if t456 = true then ((yj1.f k l0_0 a3).bind fun t457 => (if t457 = true then (if a3 = a1 then (yg0.j0 k a1 l2 a3 true l0_0) else (if 0 ≤ a3 then (if a3 < (l2.length : Int) then (if a3 < (l0_0.length : Int) then (yg0.j0 k a1 l2 a3 (decide ((rd l2 a3) < ((rd_L2 l0_0 a3).length : Int))) l0_0) else (none)) else (none)) else (none))) else (yg0.j0 k a1 l2 a3 true l0_0))) else (yg0.j0 k a1 l2 a3 true l0_0))
theorem yg0.mono_l : ∀ k, (∀ y0 y1 y2 y3 y4, LeO (yg0.j0 k y0 y1 y2 y3 y4) (yg0.j0 (k + 1) y0 y1 y2 y3 y4))
 | 0 => fun _ _ _ _ _ r h => by simp [yg0.j0] at h
 | k + 1 => by
  have ih0 := yg0.mono_l k
  ·intro y0 y1 y2 y3 y4
   unfold yg0.j0
   repeat' (with_reducible first | exact ih0 _ _ _ _ _ | exact yq0.mono _ _ _ _ | exact yl0.mono _ _ _ _ _ | exact yj1.mono _ _ _ | exact yo0.mono _ _ _ _ | exact LeO.refl _ | exact LeO.none _ | refine LeO.ite ?_ ?_ | refine LeO.bind ?_ (fun _ => ?_))
theorem yg0.mono : ∀ a0 a1 a2 a3 k, LeO (yg0.f k a0 a1 a2 a3) (yg0.f (k + 1) a0 a1 a2 a3) := by
 intro a0 a1 a2 a3 k
 have ih0 := yg0.mono_l k
 unfold yg0.f
 repeat' (with_reducible first | exact ih0 _ _ _ _ _ | exact yq0.mono _ _ _ _ | exact yl0.mono _ _ _ _ _ | exact yj1.mono _ _ _ | exact yo0.mono _ _ _ _ | exact LeO.refl _ | exact LeO.none _ | refine LeO.ite ?_ ?_ | refine LeO.bind ?_ (fun _ => ?_))
def yg0.T1 : Bool × List (List Nat × List Nat) := (true, [([], []), ([], []), ([], []), ([0, 1, 2], [0, 1, 2]), ([3], [3]), ([4, 3], [4]), ([5], [5]), ([5], [5]), ([6, 7, 5, 5], [5, 6, 7]), ([8, 5], [5, 8]), ([5, 9], [5, 9]), ([10, 8], [10]), ([11], [11]), ([11], [11]), ([12, 13, 11], [11, 12, 13]), ([11, 14], [11, 14]), ([15, 11], [15]), ([16], [16]), ([16], [16]), ([17, 18, 16], [16, 17, 18]), ([19, 16], [16, 19]), ([16], [16]), ([21, 16], [16, 21]), ([16], [16]), ([22, 23, 16], [16, 22, 23]), ([24, 16], [16, 24]), ([25, 16], [16, 25]), ([20, 26, 16], [16, 20, 26]), ([16, 27], [16, 27])])
def yg0.B1 : List Nat := [0, 0, 0, 7, 15, 31, 63, 63, 255, 511, 1023, 2047, 4095, 4095, 16383, 32767, 65535, 131071, 131071, 524287, 1048575, 131071, 2228223, 131071, 14811135, 31588351, 65142783, 134217727, 268435455]
theorem yg0.tab1 : rtab .any (opsOf Try.f15 1) = yg0.T1 := by kernel_rfl
theorem yg0.bits1 : waitsOk yg0.T1.2 yg0.B1 = true := by kernel_rfl
theorem yg0.calls (k : Nat) (A0_0 : Option Addr) (c0_0 : Nat) (l0_0 : List (List Int)) (a1 : Int) (A2 : Option Addr) (c2 : Nat) (l2 : List Int) (a3 : Int) (r1 : List Int) (r2 : Bool) (w : World) (hr0_0 : Kd.C (Kd.slice 3 (Kd.int .i64)) w A0_0 l0_0.length l0_0) (hc0_0 : l0_0.length ≤ c0_0) (hr2 : Kd.C (Kd.int .i64) w A2 l2.length l2) (hc2 : l2.length ≤ c2) (h : yg0.f k l0_0 a1 l2 a3 = some (r1, r2)) :
  Calls Try.prog 15 #[.agg #[.slice A0_0 l0_0.length c0_0], .int .i64 a1, .slice A2 l2.length c2, .int .i64 a3] w fun e w' => ∃ v0_ : Value, e = .returned (.tuple #[v0_, .bool r2]) ∧ Kd.R (Kd.int .i64) 3 w' w.heap.size (fun _ => True) v0_ r1 ∧ Below w.heap.size w w' := by
 have hu26 := Try.underlying26
 have HR0_0 := hqZ hr0_0
 have HC0_0 := hqZ hc0_0
 clear hr0_0 hc0_0
 have HR2 := hqZ hr2
 have HC2 := hqZ hc2
 clear hr2 hc2
 have HB := hqZ (Below.refl w.heap.size w)
 have H : ((yq0.f k l0_0 a1 l2).bind fun t456 => (if t456 = true then ((yj1.f k l0_0 a3).bind fun t457 => (if t457 = true then (if a3 = a1 then (yg0.j0 k a1 l2 a3 true l0_0) else (if 0 ≤ a3 then (if a3 < (l2.length : Int) then (if a3 < (l0_0.length : Int) then (yg0.j0 k a1 l2 a3 (decide ((rd l2 a3) < ((rd_L2 l0_0 a3).length : Int))) l0_0) else (none)) else (none)) else (none))) else (yg0.j0 k a1 l2 a3 true l0_0))) else (yg0.j0 k a1 l2 a3 true l0_0))) = some (r1, r2) := h
 clear h
 have HC5 := hqZ H
 clear H
 go_enter Try.func15, Try.ntmps15
 go_upto_region 1 with (first | ((with_reducible refine zo0 (N := 4) rfl ?_); (try (refine gate_guard (by rfl) ?_; dsimp only)); refine zp0 ?hg (N := 4) ?hd (cs := #[.slice A0_0 l0_0.length c0_0]) (t := 26) ?hr ?_; (case hd | hg => rfl); (case hr => go_simp <;> rfl); intro gb455 hg w6 hbox hb; have BK455 := hqZ (hbox); have GW455 := hqZ ((by rw [hg]; exact (zb0 (HB.1)) : w.heap.size ≤ gb455)); have GE455 := hqZ ((by rw [hg]; exact (zb0 (HB.1)) : w.heap.size ≤ gb455)); replace HB := hqZ (za0 (HB.1) hb); clear hb hbox hg))
 (try simp only [Act.put, zA, zB, zC])
 go_cut [39] (fun v39 wc => ∃ (kq : Nat) (x39_4 : Bool), v39 = .bool x39_4 ∧ zi0 (yg0.j0 kq a1 l2 a3 x39_4 l0_0 = some (r1, r2)) ∧ zi0 (kq ≤ k) ∧ zi0 (wc.heap[gb455]? = some (.cells #[(.slice A0_0 l0_0.length c0_0)] 26 (0, 0))) ∧ zi0 (Below w.heap.size w wc))
 case first =>
  have H := HC5.1
  clear HC5
  replace H := Option.bind_eq_some_iff.mp H
  obtain ⟨t456, A70, H⟩ := H
  try dsimp only at H
  have A7 := hqZ A70
  clear A70
  by_cases c8 : t456 = true
  rotate_left
  ·replace c8 := Bool.eq_false_iff.mpr c8
   subst c8
   rw [if_neg (show ¬ (false = true) by decide)] at H
   have H' := hqZ H
   clear H
   try go_wp2
   have n0_ := hqZ (blk_drew BK455.1)
   have n1_ := hqZ (zk0 HB.1)
   clear BK455 HB
   have BK455 := n0_
   have HB := n1_
   clear n0_ n1_
   refine start_ (n := 29) (S := fun w' => w'.cell? ⟨gb455, 0, none⟩ = some (.slice A0_0 l0_0.length c0_0)) (ds := []) #[false, false, false, false, false, false, false, false, false, false, false, false, false, false, false, false, false, false, false, false, false, false, false, false, false, false, false, false, false] (by kernel_rfl) rfl rfl ((zh0 BK455.1 0).trans rfl) (fun hHeld => ?_); refine with_tabW yg0.tab1 yg0.bits1 (fun HT_ HW_ => ?_)
   generalize w6.drew = w24 at BK455 HB hHeld ⊢
   refine pure_ (i := 1) (N := some 12) (v := ?_) (a' := ?_) (bf 29 2) rfl rfl (zm0 HT_.1 (by kernel_rfl)) (fun _ _ _ h => h) (Or.inl ⟨by rfl, ?_⟩) ?_ ?_
   rotate_left
   ·intro w'; go_simp; with_reducible rfl
   rotate_left
   ·simp only [Act.put, zA, zB, zC, i64_w, i32_w]; rfl
   refine pure_ (i := 2) (N := some 13) (v := ?_) (a' := ?_) (bf 29 6) rfl rfl (zm0 HT_.1 (by kernel_rfl)) (fun _ _ _ h => h) (Or.inl ⟨by rfl, ?_⟩) ?_ ?_
   rotate_left
   ·intro w'; go_simp; with_reducible rfl
   rotate_left
   ·simp only [Act.put, zA, zB, zC, i64_w, i32_w]; rfl
   refine take_ (i := 0) (N := some 11) (v := ?_) (a' := ?_) (bf 29 7) rfl rfl (take_ofW HT_.1 HW_.1 (by kernel_rfl)) (fun _ _ _ h => h) (Or.inl ⟨by rfl, ?_⟩) hHeld ?_ ?_
   rotate_left
   ·intro w' s0
    go_simp
    with_reducible rfl
   rotate_left
   ·simp only [Act.put, zA, zB, zC, i64_w, i32_w]; rfl
   refine one_ (i := 3) (N := some 14) (bf 29 15) rfl rfl (one_of HT_.1 (by kernel_rfl)) (by decide) (fun K hK => ?_)
   refine goes_ Try.func30 (by kernel_rfl) rfl #[.agg #[.slice A0_0 l0_0.length c0_0], .int .i64 a1, .slice A2 l2.length c2] (by rfl) rfl rfl (by simp only [hqa, hqb, hqc]; rfl) ?_
   with_reducible refine (yq0.calls k _ _ l0_0 a1 _ _ l2 false _ ?side1 ?side2 ?side3 ?side4 A7.1).mono ?_
   (case side1 => exact (Kd.C_below HR0_0.1 HB.1))
   (case side2 => exact HC0_0.1)
   (case side3 => exact (Kd.C_below HR2.1 HB.1))
   (case side4 => exact HC2.1)
   rintro e w25 ⟨rfl, hb⟩
   refine ⟨_, rfl, ?_⟩
   have n0_ := hqZ (zc0 (g := gb455) (BK455.1) hb)
   have n1_ := hqZ (za0 (HB.1) hb)
   clear BK455 HB
   have BK455 := n0_
   have HB := n1_
   clear n0_ n1_
   (try clear hb)
   (try clear hb2)
   (try clear hk)
   (try clear hi)
   refine hK.out _ _ ((zh0 BK455.1 0).trans rfl) (fun hHeld => ?_)
   clear hK K
   refine norm_ (a' := ?_) ?_ ?_
   rotate_left
   ·show Act.put _ (some 14) _ = _; simp only [Act.put, zA, zB, zC, i64_w, i32_w]; rfl
   refine pure_ (i := 4) (N := some 15) (v := ?_) (a' := ?_) (bf 29 31) rfl rfl (zm0 HT_.1 (by kernel_rfl)) (fun _ _ _ h => h) (Or.inl ⟨by rfl, ?_⟩) ?_ ?_
   rotate_left
   ·intro w'; go_simp; with_reducible rfl
   rotate_left
   ·simp only [Act.put, zA, zB, zC, i64_w, i32_w]; rfl
   refine pure_ (i := 5) (N := some 16) (v := ?_) (a' := ?_) (bf 29 63) rfl rfl (zm0 HT_.1 (by kernel_rfl)) (fun _ _ _ h => h) (Or.inl ⟨by rfl, ?_⟩) ?_ ?_
   rotate_left
   ·intro w'; go_simp; with_reducible rfl
   rotate_left
   ·simp only [Act.put, zA, zB, zC, i64_w, i32_w]; rfl
   refine pure_ (i := 6) (N := some 17) (v := undef) (a' := ?_) (bf 29 127) rfl rfl (zm0 HT_.1 (by kernel_rfl)) (fun _ _ _ h => h) (Or.inr ⟨by rfl, rfl⟩) ?_ ?_
   rotate_left
   ·simp only [Act.put, zA, zB, zC, i64_w, i32_w]; rfl
   refine pure_ (i := 7) (N := some 18) (v := undef) (a' := ?_) (bf 29 255) rfl rfl (zm0 HT_.1 (by kernel_rfl)) (fun _ _ _ h => h) (Or.inr ⟨by rfl, rfl⟩) ?_ ?_
   rotate_left
   ·simp only [Act.put, zA, zB, zC, i64_w, i32_w]; rfl
   refine pure_ (i := 8) (N := some 19) (v := undef) (a' := ?_) (bf 29 511) rfl rfl (zm0 HT_.1 (by kernel_rfl)) (fun _ _ _ h => h) (Or.inr ⟨by rfl, rfl⟩) ?_ ?_
   rotate_left
   ·simp only [Act.put, zA, zB, zC, i64_w, i32_w]; rfl
   refine pure_ (i := 9) (N := some 20) (v := undef) (a' := ?_) (bf 29 1023) rfl rfl (zm0 HT_.1 (by kernel_rfl)) (fun _ _ _ h => h) (Or.inr ⟨by rfl, rfl⟩) ?_ ?_
   rotate_left
   ·simp only [Act.put, zA, zB, zC, i64_w, i32_w]; rfl
   refine pure_ (i := 10) (N := some 21) (v := ?_) (a' := ?_) (bf 29 2047) rfl rfl (zm0 HT_.1 (by kernel_rfl)) (fun _ _ _ h => h) (Or.inl ⟨by rfl, ?_⟩) ?_ ?_
   rotate_left
   ·intro w'; go_simp; with_reducible rfl
   rotate_left
   ·simp only [Act.put, zA, zB, zC, i64_w, i32_w]; rfl
   refine pure_ (i := 11) (N := some 22) (v := ?_) (a' := ?_) (bf 29 4095) rfl rfl (zm0 HT_.1 (by kernel_rfl)) (fun _ _ _ h => h) (Or.inl ⟨by rfl, ?_⟩) ?_ ?_
   rotate_left
   ·intro w'; go_simp; with_reducible rfl
   rotate_left
   ·simp only [Act.put, zA, zB, zC, i64_w, i32_w]; rfl
   refine pure_ (i := 12) (N := some 23) (v := undef) (a' := ?_) (bf 29 8191) rfl rfl (zm0 HT_.1 (by kernel_rfl)) (fun _ _ _ h => h) (Or.inr ⟨by rfl, rfl⟩) ?_ ?_
   rotate_left
   ·simp only [Act.put, zA, zB, zC, i64_w, i32_w]; rfl
   refine pure_ (i := 13) (N := some 24) (v := undef) (a' := ?_) (bf 29 16383) rfl rfl (zm0 HT_.1 (by kernel_rfl)) (fun _ _ _ h => h) (Or.inr ⟨by rfl, rfl⟩) ?_ ?_
   rotate_left
   ·simp only [Act.put, zA, zB, zC, i64_w, i32_w]; rfl
   refine pure_ (i := 14) (N := some 25) (v := undef) (a' := ?_) (bf 29 32767) rfl rfl (zm0 HT_.1 (by kernel_rfl)) (fun _ _ _ h => h) (Or.inr ⟨by rfl, rfl⟩) ?_ ?_
   rotate_left
   ·simp only [Act.put, zA, zB, zC, i64_w, i32_w]; rfl
   refine pure_ (i := 15) (N := some 26) (v := ?_) (a' := ?_) (bf 29 65535) rfl rfl (zm0 HT_.1 (by kernel_rfl)) (fun _ _ _ h => h) (Or.inl ⟨by rfl, ?_⟩) ?_ ?_
   rotate_left
   ·intro w'; go_simp; with_reducible rfl
   rotate_left
   ·simp only [Act.put, zA, zB, zC, i64_w, i32_w]; rfl
   refine pure_ (i := 16) (N := some 27) (v := ?_) (a' := ?_) (bf 29 131071) rfl rfl (zm0 HT_.1 (by kernel_rfl)) (fun _ _ _ h => h) (Or.inl ⟨by rfl, ?_⟩) ?_ ?_
   rotate_left
   ·intro w'; go_simp; with_reducible rfl
   rotate_left
   ·simp only [Act.put, zA, zB, zC, i64_w, i32_w]; rfl
   refine pure_ (i := 17) (N := some 28) (v := undef) (a' := ?_) (bf 29 262143) rfl rfl (zm0 HT_.1 (by kernel_rfl)) (fun _ _ _ h => h) (Or.inr ⟨by rfl, rfl⟩) ?_ ?_
   rotate_left
   ·simp only [Act.put, zA, zB, zC, i64_w, i32_w]; rfl
   refine pure_ (i := 18) (N := some 29) (v := undef) (a' := ?_) (bf 29 524287) rfl rfl (zm0 HT_.1 (by kernel_rfl)) (fun _ _ _ h => h) (Or.inr ⟨by rfl, rfl⟩) ?_ ?_
   rotate_left
   ·simp only [Act.put, zA, zB, zC, i64_w, i32_w]; rfl
   refine pure_ (i := 19) (N := some 30) (v := undef) (a' := ?_) (bf 29 1048575) rfl rfl (zm0 HT_.1 (by kernel_rfl)) (fun _ _ _ h => h) (Or.inr ⟨by rfl, rfl⟩) ?_ ?_
   rotate_left
   ·simp only [Act.put, zA, zB, zC, i64_w, i32_w]; rfl
   refine pure_ (i := 20) (N := some 31) (v := undef) (a' := ?_) (bf 29 2097151) rfl rfl (zm0 HT_.1 (by kernel_rfl)) (fun _ _ _ h => h) (Or.inr ⟨by rfl, rfl⟩) ?_ ?_
   rotate_left
   ·simp only [Act.put, zA, zB, zC, i64_w, i32_w]; rfl
   refine pure_ (i := 21) (N := some 32) (v := undef) (a' := ?_) (bf 29 4194303) rfl rfl (zm0 HT_.1 (by kernel_rfl)) (fun _ _ _ h => h) (Or.inr ⟨by rfl, rfl⟩) ?_ ?_
   rotate_left
   ·simp only [Act.put, zA, zB, zC, i64_w, i32_w]; rfl
   refine pure_ (i := 22) (N := some 33) (v := undef) (a' := ?_) (bf 29 8388607) rfl rfl (zm0 HT_.1 (by kernel_rfl)) (fun _ _ _ h => h) (Or.inr ⟨by rfl, rfl⟩) ?_ ?_
   rotate_left
   ·simp only [Act.put, zA, zB, zC, i64_w, i32_w]; rfl
   refine pure_ (i := 23) (N := some 34) (v := undef) (a' := ?_) (bf 29 16777215) rfl rfl (zm0 HT_.1 (by kernel_rfl)) (fun _ _ _ h => h) (Or.inr ⟨by rfl, rfl⟩) ?_ ?_
   rotate_left
   ·simp only [Act.put, zA, zB, zC, i64_w, i32_w]; rfl
   refine pure_ (i := 24) (N := some 35) (v := undef) (a' := ?_) (bf 29 33554431) rfl rfl (zm0 HT_.1 (by kernel_rfl)) (fun _ _ _ h => h) (Or.inr ⟨by rfl, rfl⟩) ?_ ?_
   rotate_left
   ·simp only [Act.put, zA, zB, zC, i64_w, i32_w]; rfl
   refine pure_ (i := 25) (N := some 36) (v := undef) (a' := ?_) (bf 29 67108863) rfl rfl (zm0 HT_.1 (by kernel_rfl)) (fun _ _ _ h => h) (Or.inr ⟨by rfl, rfl⟩) ?_ ?_
   rotate_left
   ·simp only [Act.put, zA, zB, zC, i64_w, i32_w]; rfl
   refine pure_ (i := 26) (N := some 37) (v := undef) (a' := ?_) (bf 29 134217727) rfl rfl (zm0 HT_.1 (by kernel_rfl)) (fun _ _ _ h => h) (Or.inr ⟨by rfl, rfl⟩) ?_ ?_
   rotate_left
   ·simp only [Act.put, zA, zB, zC, i64_w, i32_w]; rfl
   refine pure_ (i := 27) (N := some 38) (v := undef) (a' := ?_) (bf 29 268435455) rfl rfl (zm0 HT_.1 (by kernel_rfl)) (fun _ _ _ h => h) (Or.inr ⟨by rfl, rfl⟩) ?_ ?_
   rotate_left
   ·simp only [Act.put, zA, zB, zC, i64_w, i32_w]; rfl
   refine pure_ (i := 28) (N := some 39) (v := ?_) (a' := ?_) (bf 29 536870911) rfl rfl (zm0 HT_.1 (by kernel_rfl)) (fun _ _ _ h => h) (Or.inl ⟨by rfl, ?_⟩) ?_ ?_
   rotate_left
   ·intro w'; go_simp; with_reducible rfl
   rotate_left
   ·simp only [Act.put, zA, zB, zC, i64_w, i32_w]; rfl
   refine done_ (done_of HT_.1 (by kernel_rfl)) ?_
   try go_wp2
   go_meet
   case rel => exact ⟨_, (true), (rfl), H', ⟨by first | omega | exact Nat.le_refl _⟩, ⟨BK455.1⟩, ⟨HB.1⟩⟩
  subst c8
  rw [if_pos rfl] at H
  replace H := Option.bind_eq_some_iff.mp H
  obtain ⟨t457, A90, H⟩ := H
  try dsimp only at H
  have A9 := hqZ A90
  clear A90
  by_cases c10 : t457 = true
  rotate_left
  ·replace c10 := Bool.eq_false_iff.mpr c10
   subst c10
   rw [if_neg (show ¬ (false = true) by decide)] at H
   have H' := hqZ H
   clear H
   try go_wp2
   have n0_ := hqZ (blk_drew BK455.1)
   have n1_ := hqZ (zk0 HB.1)
   clear BK455 HB
   have BK455 := n0_
   have HB := n1_
   clear n0_ n1_
   refine start_ (n := 29) (S := fun w' => w'.cell? ⟨gb455, 0, none⟩ = some (.slice A0_0 l0_0.length c0_0)) (ds := []) #[false, false, false, false, false, false, false, false, false, false, false, false, false, false, false, false, false, false, false, false, false, false, false, false, false, false, false, false, false] (by kernel_rfl) rfl rfl ((zh0 BK455.1 0).trans rfl) (fun hHeld => ?_); refine with_tabW yg0.tab1 yg0.bits1 (fun HT_ HW_ => ?_)
   generalize w6.drew = w21 at BK455 HB hHeld ⊢
   refine pure_ (i := 1) (N := some 12) (v := ?_) (a' := ?_) (bf 29 2) rfl rfl (zm0 HT_.1 (by kernel_rfl)) (fun _ _ _ h => h) (Or.inl ⟨by rfl, ?_⟩) ?_ ?_
   rotate_left
   ·intro w'; go_simp; with_reducible rfl
   rotate_left
   ·simp only [Act.put, zA, zB, zC, i64_w, i32_w]; rfl
   refine pure_ (i := 2) (N := some 13) (v := ?_) (a' := ?_) (bf 29 6) rfl rfl (zm0 HT_.1 (by kernel_rfl)) (fun _ _ _ h => h) (Or.inl ⟨by rfl, ?_⟩) ?_ ?_
   rotate_left
   ·intro w'; go_simp; with_reducible rfl
   rotate_left
   ·simp only [Act.put, zA, zB, zC, i64_w, i32_w]; rfl
   refine take_ (i := 0) (N := some 11) (v := ?_) (a' := ?_) (bf 29 7) rfl rfl (take_ofW HT_.1 HW_.1 (by kernel_rfl)) (fun _ _ _ h => h) (Or.inl ⟨by rfl, ?_⟩) hHeld ?_ ?_
   rotate_left
   ·intro w' s0
    go_simp
    with_reducible rfl
   rotate_left
   ·simp only [Act.put, zA, zB, zC, i64_w, i32_w]; rfl
   refine one_ (i := 3) (N := some 14) (bf 29 15) rfl rfl (one_of HT_.1 (by kernel_rfl)) (by decide) (fun K hK => ?_)
   refine goes_ Try.func30 (by kernel_rfl) rfl #[.agg #[.slice A0_0 l0_0.length c0_0], .int .i64 a1, .slice A2 l2.length c2] (by rfl) rfl rfl (by simp only [hqa, hqb, hqc]; rfl) ?_
   with_reducible refine (yq0.calls k _ _ l0_0 a1 _ _ l2 true _ ?side1 ?side2 ?side3 ?side4 A7.1).mono ?_
   (case side1 => exact (Kd.C_below HR0_0.1 HB.1))
   (case side2 => exact HC0_0.1)
   (case side3 => exact (Kd.C_below HR2.1 HB.1))
   (case side4 => exact HC2.1)
   rintro e w22 ⟨rfl, hb⟩
   refine ⟨_, rfl, ?_⟩
   have n0_ := hqZ (zc0 (g := gb455) (BK455.1) hb)
   have n1_ := hqZ (za0 (HB.1) hb)
   clear BK455 HB
   have BK455 := n0_
   have HB := n1_
   clear n0_ n1_
   (try clear hb)
   (try clear hb2)
   (try clear hk)
   (try clear hi)
   refine hK.out _ _ ((zh0 BK455.1 0).trans rfl) (fun hHeld => ?_)
   clear hK K
   refine norm_ (a' := ?_) ?_ ?_
   rotate_left
   ·show Act.put _ (some 14) _ = _; simp only [Act.put, zA, zB, zC, i64_w, i32_w]; rfl
   refine pure_ (i := 4) (N := some 15) (v := ?_) (a' := ?_) (bf 29 31) rfl rfl (zm0 HT_.1 (by kernel_rfl)) (fun _ _ _ h => h) (Or.inl ⟨by rfl, ?_⟩) ?_ ?_
   rotate_left
   ·intro w'; go_simp; with_reducible rfl
   rotate_left
   ·simp only [Act.put, zA, zB, zC, i64_w, i32_w]; rfl
   refine pure_ (i := 5) (N := some 16) (v := ?_) (a' := ?_) (bf 29 63) rfl rfl (zm0 HT_.1 (by kernel_rfl)) (fun _ _ _ h => h) (Or.inl ⟨by rfl, ?_⟩) ?_ ?_
   rotate_left
   ·intro w'; go_simp; with_reducible rfl
   rotate_left
   ·simp only [Act.put, zA, zB, zC, i64_w, i32_w]; rfl
   refine pure_ (i := 7) (N := some 18) (v := ?_) (a' := ?_) (bf 29 191) rfl rfl (zm0 HT_.1 (by kernel_rfl)) (fun _ _ _ h => h) (Or.inl ⟨by rfl, ?_⟩) ?_ ?_
   rotate_left
   ·intro w'; go_simp; with_reducible rfl
   rotate_left
   ·simp only [Act.put, zA, zB, zC, i64_w, i32_w]; rfl
   refine take_ (i := 6) (N := some 17) (v := ?_) (a' := ?_) (bf 29 255) rfl rfl (take_ofW HT_.1 HW_.1 (by kernel_rfl)) (fun _ _ _ h => h) (Or.inl ⟨by rfl, ?_⟩) hHeld ?_ ?_
   rotate_left
   ·intro w' s0
    go_simp
    with_reducible rfl
   rotate_left
   ·simp only [Act.put, zA, zB, zC, i64_w, i32_w]; rfl
   refine one_ (i := 8) (N := some 19) (bf 29 511) rfl rfl (one_of HT_.1 (by kernel_rfl)) (by decide) (fun K hK => ?_)
   refine goes_ Try.func41 (by kernel_rfl) rfl #[.agg #[.slice A0_0 l0_0.length c0_0], .int .i64 a3] (by rfl) rfl rfl (by simp only [hqa, hqb, hqc]; rfl) ?_
   with_reducible refine (yj1.calls k _ _ l0_0 a3 false _ ?side1 ?side2 A9.1).mono ?_
   (case side1 => exact (Kd.C_below HR0_0.1 HB.1))
   (case side2 => exact HC0_0.1)
   rintro e w23 ⟨rfl, hb⟩
   refine ⟨_, rfl, ?_⟩
   have n0_ := hqZ (zc0 (g := gb455) (BK455.1) hb)
   have n1_ := hqZ (za0 (HB.1) hb)
   clear BK455 HB
   have BK455 := n0_
   have HB := n1_
   clear n0_ n1_
   (try clear hb)
   (try clear hb2)
   (try clear hk)
   (try clear hi)
   refine hK.out _ _ ((zh0 BK455.1 0).trans rfl) (fun hHeld => ?_)
   clear hK K
   refine norm_ (a' := ?_) ?_ ?_
   rotate_left
   ·show Act.put _ (some 19) _ = _; simp only [Act.put, zA, zB, zC, i64_w, i32_w]; rfl
   refine pure_ (i := 9) (N := some 20) (v := ?_) (a' := ?_) (bf 29 1023) rfl rfl (zm0 HT_.1 (by kernel_rfl)) (fun _ _ _ h => h) (Or.inl ⟨by rfl, ?_⟩) ?_ ?_
   rotate_left
   ·intro w'; go_simp; with_reducible rfl
   rotate_left
   ·simp only [Act.put, zA, zB, zC, i64_w, i32_w]; rfl
   refine pure_ (i := 10) (N := some 21) (v := ?_) (a' := ?_) (bf 29 2047) rfl rfl (zm0 HT_.1 (by kernel_rfl)) (fun _ _ _ h => h) (Or.inl ⟨by rfl, ?_⟩) ?_ ?_
   rotate_left
   ·intro w'; go_simp; with_reducible rfl
   rotate_left
   ·simp only [Act.put, zA, zB, zC, i64_w, i32_w]; rfl
   refine pure_ (i := 11) (N := some 22) (v := ?_) (a' := ?_) (bf 29 4095) rfl rfl (zm0 HT_.1 (by kernel_rfl)) (fun _ _ _ h => h) (Or.inl ⟨by rfl, ?_⟩) ?_ ?_
   rotate_left
   ·intro w'; go_simp; with_reducible rfl
   rotate_left
   ·simp only [Act.put, zA, zB, zC, i64_w, i32_w]; rfl
   refine pure_ (i := 12) (N := some 23) (v := undef) (a' := ?_) (bf 29 8191) rfl rfl (zm0 HT_.1 (by kernel_rfl)) (fun _ _ _ h => h) (Or.inr ⟨by rfl, rfl⟩) ?_ ?_
   rotate_left
   ·simp only [Act.put, zA, zB, zC, i64_w, i32_w]; rfl
   refine pure_ (i := 13) (N := some 24) (v := undef) (a' := ?_) (bf 29 16383) rfl rfl (zm0 HT_.1 (by kernel_rfl)) (fun _ _ _ h => h) (Or.inr ⟨by rfl, rfl⟩) ?_ ?_
   rotate_left
   ·simp only [Act.put, zA, zB, zC, i64_w, i32_w]; rfl
   refine pure_ (i := 14) (N := some 25) (v := undef) (a' := ?_) (bf 29 32767) rfl rfl (zm0 HT_.1 (by kernel_rfl)) (fun _ _ _ h => h) (Or.inr ⟨by rfl, rfl⟩) ?_ ?_
   rotate_left
   ·simp only [Act.put, zA, zB, zC, i64_w, i32_w]; rfl
   refine pure_ (i := 15) (N := some 26) (v := ?_) (a' := ?_) (bf 29 65535) rfl rfl (zm0 HT_.1 (by kernel_rfl)) (fun _ _ _ h => h) (Or.inl ⟨by rfl, ?_⟩) ?_ ?_
   rotate_left
   ·intro w'; go_simp; with_reducible rfl
   rotate_left
   ·simp only [Act.put, zA, zB, zC, i64_w, i32_w]; rfl
   refine pure_ (i := 16) (N := some 27) (v := ?_) (a' := ?_) (bf 29 131071) rfl rfl (zm0 HT_.1 (by kernel_rfl)) (fun _ _ _ h => h) (Or.inl ⟨by rfl, ?_⟩) ?_ ?_
   rotate_left
   ·intro w'; go_simp; with_reducible rfl
   rotate_left
   ·simp only [Act.put, zA, zB, zC, i64_w, i32_w]; rfl
   refine pure_ (i := 17) (N := some 28) (v := undef) (a' := ?_) (bf 29 262143) rfl rfl (zm0 HT_.1 (by kernel_rfl)) (fun _ _ _ h => h) (Or.inr ⟨by rfl, rfl⟩) ?_ ?_
   rotate_left
   ·simp only [Act.put, zA, zB, zC, i64_w, i32_w]; rfl
   refine pure_ (i := 18) (N := some 29) (v := undef) (a' := ?_) (bf 29 524287) rfl rfl (zm0 HT_.1 (by kernel_rfl)) (fun _ _ _ h => h) (Or.inr ⟨by rfl, rfl⟩) ?_ ?_
   rotate_left
   ·simp only [Act.put, zA, zB, zC, i64_w, i32_w]; rfl
   refine pure_ (i := 19) (N := some 30) (v := undef) (a' := ?_) (bf 29 1048575) rfl rfl (zm0 HT_.1 (by kernel_rfl)) (fun _ _ _ h => h) (Or.inr ⟨by rfl, rfl⟩) ?_ ?_
   rotate_left
   ·simp only [Act.put, zA, zB, zC, i64_w, i32_w]; rfl
   refine pure_ (i := 20) (N := some 31) (v := undef) (a' := ?_) (bf 29 2097151) rfl rfl (zm0 HT_.1 (by kernel_rfl)) (fun _ _ _ h => h) (Or.inr ⟨by rfl, rfl⟩) ?_ ?_
   rotate_left
   ·simp only [Act.put, zA, zB, zC, i64_w, i32_w]; rfl
   refine pure_ (i := 21) (N := some 32) (v := undef) (a' := ?_) (bf 29 4194303) rfl rfl (zm0 HT_.1 (by kernel_rfl)) (fun _ _ _ h => h) (Or.inr ⟨by rfl, rfl⟩) ?_ ?_
   rotate_left
   ·simp only [Act.put, zA, zB, zC, i64_w, i32_w]; rfl
   refine pure_ (i := 22) (N := some 33) (v := undef) (a' := ?_) (bf 29 8388607) rfl rfl (zm0 HT_.1 (by kernel_rfl)) (fun _ _ _ h => h) (Or.inr ⟨by rfl, rfl⟩) ?_ ?_
   rotate_left
   ·simp only [Act.put, zA, zB, zC, i64_w, i32_w]; rfl
   refine pure_ (i := 23) (N := some 34) (v := undef) (a' := ?_) (bf 29 16777215) rfl rfl (zm0 HT_.1 (by kernel_rfl)) (fun _ _ _ h => h) (Or.inr ⟨by rfl, rfl⟩) ?_ ?_
   rotate_left
   ·simp only [Act.put, zA, zB, zC, i64_w, i32_w]; rfl
   refine pure_ (i := 24) (N := some 35) (v := undef) (a' := ?_) (bf 29 33554431) rfl rfl (zm0 HT_.1 (by kernel_rfl)) (fun _ _ _ h => h) (Or.inr ⟨by rfl, rfl⟩) ?_ ?_
   rotate_left
   ·simp only [Act.put, zA, zB, zC, i64_w, i32_w]; rfl
   refine pure_ (i := 25) (N := some 36) (v := undef) (a' := ?_) (bf 29 67108863) rfl rfl (zm0 HT_.1 (by kernel_rfl)) (fun _ _ _ h => h) (Or.inr ⟨by rfl, rfl⟩) ?_ ?_
   rotate_left
   ·simp only [Act.put, zA, zB, zC, i64_w, i32_w]; rfl
   refine pure_ (i := 26) (N := some 37) (v := undef) (a' := ?_) (bf 29 134217727) rfl rfl (zm0 HT_.1 (by kernel_rfl)) (fun _ _ _ h => h) (Or.inr ⟨by rfl, rfl⟩) ?_ ?_
   rotate_left
   ·simp only [Act.put, zA, zB, zC, i64_w, i32_w]; rfl
   refine pure_ (i := 27) (N := some 38) (v := undef) (a' := ?_) (bf 29 268435455) rfl rfl (zm0 HT_.1 (by kernel_rfl)) (fun _ _ _ h => h) (Or.inr ⟨by rfl, rfl⟩) ?_ ?_
   rotate_left
   ·simp only [Act.put, zA, zB, zC, i64_w, i32_w]; rfl
   refine pure_ (i := 28) (N := some 39) (v := ?_) (a' := ?_) (bf 29 536870911) rfl rfl (zm0 HT_.1 (by kernel_rfl)) (fun _ _ _ h => h) (Or.inl ⟨by rfl, ?_⟩) ?_ ?_
   rotate_left
   ·intro w'; go_simp; with_reducible rfl
   rotate_left
   ·simp only [Act.put, zA, zB, zC, i64_w, i32_w]; rfl
   refine done_ (done_of HT_.1 (by kernel_rfl)) ?_
   try go_wp2
   go_meet
   case rel => exact ⟨_, (true), (rfl), H', ⟨by first | omega | exact Nat.le_refl _⟩, ⟨BK455.1⟩, ⟨HB.1⟩⟩
  subst c10
  rw [if_pos rfl] at H
  by_cases c11 : a3 = a1
  ·rw [if_pos c11] at H
   have c11b0 : (a3 == a1) = true := beq_iff_eq.mpr c11
   have c11b1 : (a3 != a1) = false := bne_eq_false_iff_eq.mpr c11
   clear c11
   (first | rw [c11b0] | (simp only [i64_w, i32_w]; rw [c11b0]) | skip)
   have H' := hqZ H
   clear H
   try go_wp2
   have n0_ := hqZ (blk_drew BK455.1)
   have n1_ := hqZ (zk0 HB.1)
   clear BK455 HB
   have BK455 := n0_
   have HB := n1_
   clear n0_ n1_
   refine start_ (n := 29) (S := fun w' => w'.cell? ⟨gb455, 0, none⟩ = some (.slice A0_0 l0_0.length c0_0)) (ds := []) #[false, false, false, false, false, false, false, false, false, false, false, false, false, false, false, false, false, false, false, false, false, false, false, false, false, false, false, false, false] (by kernel_rfl) rfl rfl ((zh0 BK455.1 0).trans rfl) (fun hHeld => ?_); refine with_tabW yg0.tab1 yg0.bits1 (fun HT_ HW_ => ?_)
   generalize w6.drew = w12 at BK455 HB hHeld ⊢
   refine pure_ (i := 1) (N := some 12) (v := ?_) (a' := ?_) (bf 29 2) rfl rfl (zm0 HT_.1 (by kernel_rfl)) (fun _ _ _ h => h) (Or.inl ⟨by rfl, ?_⟩) ?_ ?_
   rotate_left
   ·intro w'; go_simp; with_reducible rfl
   rotate_left
   ·simp only [Act.put, zA, zB, zC, i64_w, i32_w]; rfl
   refine pure_ (i := 2) (N := some 13) (v := ?_) (a' := ?_) (bf 29 6) rfl rfl (zm0 HT_.1 (by kernel_rfl)) (fun _ _ _ h => h) (Or.inl ⟨by rfl, ?_⟩) ?_ ?_
   rotate_left
   ·intro w'; go_simp; with_reducible rfl
   rotate_left
   ·simp only [Act.put, zA, zB, zC, i64_w, i32_w]; rfl
   refine take_ (i := 0) (N := some 11) (v := ?_) (a' := ?_) (bf 29 7) rfl rfl (take_ofW HT_.1 HW_.1 (by kernel_rfl)) (fun _ _ _ h => h) (Or.inl ⟨by rfl, ?_⟩) hHeld ?_ ?_
   rotate_left
   ·intro w' s0
    go_simp
    with_reducible rfl
   rotate_left
   ·simp only [Act.put, zA, zB, zC, i64_w, i32_w]; rfl
   refine one_ (i := 3) (N := some 14) (bf 29 15) rfl rfl (one_of HT_.1 (by kernel_rfl)) (by decide) (fun K hK => ?_)
   refine goes_ Try.func30 (by kernel_rfl) rfl #[.agg #[.slice A0_0 l0_0.length c0_0], .int .i64 a1, .slice A2 l2.length c2] (by rfl) rfl rfl (by simp only [hqa, hqb, hqc]; rfl) ?_
   with_reducible refine (yq0.calls k _ _ l0_0 a1 _ _ l2 true _ ?side1 ?side2 ?side3 ?side4 A7.1).mono ?_
   (case side1 => exact (Kd.C_below HR0_0.1 HB.1))
   (case side2 => exact HC0_0.1)
   (case side3 => exact (Kd.C_below HR2.1 HB.1))
   (case side4 => exact HC2.1)
   rintro e w13 ⟨rfl, hb⟩
   refine ⟨_, rfl, ?_⟩
   have n0_ := hqZ (zc0 (g := gb455) (BK455.1) hb)
   have n1_ := hqZ (za0 (HB.1) hb)
   clear BK455 HB
   have BK455 := n0_
   have HB := n1_
   clear n0_ n1_
   (try clear hb)
   (try clear hb2)
   (try clear hk)
   (try clear hi)
   refine hK.out _ _ ((zh0 BK455.1 0).trans rfl) (fun hHeld => ?_)
   clear hK K
   refine norm_ (a' := ?_) ?_ ?_
   rotate_left
   ·show Act.put _ (some 14) _ = _; simp only [Act.put, zA, zB, zC, i64_w, i32_w]; rfl
   refine pure_ (i := 4) (N := some 15) (v := ?_) (a' := ?_) (bf 29 31) rfl rfl (zm0 HT_.1 (by kernel_rfl)) (fun _ _ _ h => h) (Or.inl ⟨by rfl, ?_⟩) ?_ ?_
   rotate_left
   ·intro w'; go_simp; with_reducible rfl
   rotate_left
   ·simp only [Act.put, zA, zB, zC, i64_w, i32_w]; rfl
   refine pure_ (i := 5) (N := some 16) (v := ?_) (a' := ?_) (bf 29 63) rfl rfl (zm0 HT_.1 (by kernel_rfl)) (fun _ _ _ h => h) (Or.inl ⟨by rfl, ?_⟩) ?_ ?_
   rotate_left
   ·intro w'; go_simp; with_reducible rfl
   rotate_left
   ·simp only [Act.put, zA, zB, zC, i64_w, i32_w]; rfl
   refine pure_ (i := 7) (N := some 18) (v := ?_) (a' := ?_) (bf 29 191) rfl rfl (zm0 HT_.1 (by kernel_rfl)) (fun _ _ _ h => h) (Or.inl ⟨by rfl, ?_⟩) ?_ ?_
   rotate_left
   ·intro w'; go_simp; with_reducible rfl
   rotate_left
   ·simp only [Act.put, zA, zB, zC, i64_w, i32_w]; rfl
   refine take_ (i := 6) (N := some 17) (v := ?_) (a' := ?_) (bf 29 255) rfl rfl (take_ofW HT_.1 HW_.1 (by kernel_rfl)) (fun _ _ _ h => h) (Or.inl ⟨by rfl, ?_⟩) hHeld ?_ ?_
   rotate_left
   ·intro w' s0
    go_simp
    with_reducible rfl
   rotate_left
   ·simp only [Act.put, zA, zB, zC, i64_w, i32_w]; rfl
   refine one_ (i := 8) (N := some 19) (bf 29 511) rfl rfl (one_of HT_.1 (by kernel_rfl)) (by decide) (fun K hK => ?_)
   refine goes_ Try.func41 (by kernel_rfl) rfl #[.agg #[.slice A0_0 l0_0.length c0_0], .int .i64 a3] (by rfl) rfl rfl (by simp only [hqa, hqb, hqc]; rfl) ?_
   with_reducible refine (yj1.calls k _ _ l0_0 a3 true _ ?side1 ?side2 A9.1).mono ?_
   (case side1 => exact (Kd.C_below HR0_0.1 HB.1))
   (case side2 => exact HC0_0.1)
   rintro e w14 ⟨rfl, hb⟩
   refine ⟨_, rfl, ?_⟩
   have n0_ := hqZ (zc0 (g := gb455) (BK455.1) hb)
   have n1_ := hqZ (za0 (HB.1) hb)
   clear BK455 HB
   have BK455 := n0_
   have HB := n1_
   clear n0_ n1_
   (try clear hb)
   (try clear hb2)
   (try clear hk)
   (try clear hi)
   refine hK.out _ _ ((zh0 BK455.1 0).trans rfl) (fun hHeld => ?_)
   clear hK K
   refine norm_ (a' := ?_) ?_ ?_
   rotate_left
   ·show Act.put _ (some 19) _ = _; simp only [Act.put, zA, zB, zC, i64_w, i32_w]; rfl
   refine pure_ (i := 9) (N := some 20) (v := ?_) (a' := ?_) (bf 29 1023) rfl rfl (zm0 HT_.1 (by kernel_rfl)) (fun _ _ _ h => h) (Or.inl ⟨by rfl, ?_⟩) ?_ ?_
   rotate_left
   ·intro w'; go_simp; with_reducible rfl
   rotate_left
   ·simp only [Act.put, zA, zB, zC, i64_w, i32_w]; rfl
   refine pure_ (i := 10) (N := some 21) (v := ?_) (a' := ?_) (bf 29 2047) rfl rfl (zm0 HT_.1 (by kernel_rfl)) (fun _ _ _ h => h) (Or.inl ⟨by rfl, ?_⟩) ?_ ?_
   rotate_left
   ·intro w'; go_simp; with_reducible rfl
   rotate_left
   ·simp only [Act.put, zA, zB, zC, i64_w, i32_w]; rfl
   refine pure_ (i := 11) (N := some 22) (v := ?_) (a' := ?_) (bf 29 4095) rfl rfl (zm0 HT_.1 (by kernel_rfl)) (fun _ _ _ h => h) (Or.inl ⟨by rfl, ?_⟩) ?_ ?_
   rotate_left
   ·intro w'; go_simp; with_reducible rfl
   rotate_left
   ·simp only [Act.put, zA, zB, zC, i64_w, i32_w]; rfl
   refine pure_ (i := 12) (N := some 23) (v := ?_) (a' := ?_) (bf 29 8191) rfl rfl (zm0 HT_.1 (by kernel_rfl)) (fun _ _ _ h => h) (Or.inl ⟨by rfl, ?_⟩) ?_ ?_
   rotate_left
   ·intro w'; go_simp; with_reducible rfl
   rotate_left
   ·simp only [Act.put, zA, zB, zC, i64_w, i32_w]; rfl
   refine pure_ (i := 13) (N := some 24) (v := ?_) (a' := ?_) (bf 29 16383) rfl rfl (zm0 HT_.1 (by kernel_rfl)) (fun _ _ _ h => h) (Or.inl ⟨by rfl, ?_⟩) ?_ ?_
   rotate_left
   ·intro w'; go_simp; with_reducible rfl
   rotate_left
   ·simp only [Act.put, zA, zB, zC, i64_w, i32_w]; rfl
   refine pure_ (i := 14) (N := some 25) (v := ?_) (a' := ?_) (bf 29 32767) rfl rfl (zm0 HT_.1 (by kernel_rfl)) (fun _ _ _ h => h) (Or.inl ⟨by rfl, ?_⟩) ?_ ?_
   rotate_left
   ·intro w'; go_simp; with_reducible rfl
   rotate_left
   ·simp only [Act.put, zA, zB, zC, i64_w, i32_w]; rfl
   refine pure_ (i := 15) (N := some 26) (v := ?_) (a' := ?_) (bf 29 65535) rfl rfl (zm0 HT_.1 (by kernel_rfl)) (fun _ _ _ h => h) (Or.inl ⟨by rfl, ?_⟩) ?_ ?_
   rotate_left
   ·intro w'; go_simp; with_reducible rfl
   rotate_left
   ·simp only [Act.put, zA, zB, zC, i64_w, i32_w]; rfl
   refine pure_ (i := 16) (N := some 27) (v := ?_) (a' := ?_) (bf 29 131071) rfl rfl (zm0 HT_.1 (by kernel_rfl)) (fun _ _ _ h => h) (Or.inl ⟨by rfl, ?_⟩) ?_ ?_
   rotate_left
   ·intro w'; go_simp; with_reducible rfl
   rotate_left
   ·simp only [Act.put, zA, zB, zC, i64_w, i32_w]; rfl
   refine pure_ (i := 17) (N := some 28) (v := undef) (a' := ?_) (bf 29 262143) rfl rfl (zm0 HT_.1 (by kernel_rfl)) (fun _ _ _ h => h) (Or.inr ⟨by rfl, rfl⟩) ?_ ?_
   rotate_left
   ·simp only [Act.put, zA, zB, zC, i64_w, i32_w]; rfl
   refine pure_ (i := 18) (N := some 29) (v := undef) (a' := ?_) (bf 29 524287) rfl rfl (zm0 HT_.1 (by kernel_rfl)) (fun _ _ _ h => h) (Or.inr ⟨by rfl, rfl⟩) ?_ ?_
   rotate_left
   ·simp only [Act.put, zA, zB, zC, i64_w, i32_w]; rfl
   refine pure_ (i := 19) (N := some 30) (v := undef) (a' := ?_) (bf 29 1048575) rfl rfl (zm0 HT_.1 (by kernel_rfl)) (fun _ _ _ h => h) (Or.inr ⟨by rfl, rfl⟩) ?_ ?_
   rotate_left
   ·simp only [Act.put, zA, zB, zC, i64_w, i32_w]; rfl
   refine pure_ (i := 20) (N := some 31) (v := undef) (a' := ?_) (bf 29 2097151) rfl rfl (zm0 HT_.1 (by kernel_rfl)) (fun _ _ _ h => h) (Or.inr ⟨by rfl, rfl⟩) ?_ ?_
   rotate_left
   ·simp only [Act.put, zA, zB, zC, i64_w, i32_w]; rfl
   refine pure_ (i := 21) (N := some 32) (v := undef) (a' := ?_) (bf 29 4194303) rfl rfl (zm0 HT_.1 (by kernel_rfl)) (fun _ _ _ h => h) (Or.inr ⟨by rfl, rfl⟩) ?_ ?_
   rotate_left
   ·simp only [Act.put, zA, zB, zC, i64_w, i32_w]; rfl
   refine pure_ (i := 22) (N := some 33) (v := undef) (a' := ?_) (bf 29 8388607) rfl rfl (zm0 HT_.1 (by kernel_rfl)) (fun _ _ _ h => h) (Or.inr ⟨by rfl, rfl⟩) ?_ ?_
   rotate_left
   ·simp only [Act.put, zA, zB, zC, i64_w, i32_w]; rfl
   refine pure_ (i := 23) (N := some 34) (v := undef) (a' := ?_) (bf 29 16777215) rfl rfl (zm0 HT_.1 (by kernel_rfl)) (fun _ _ _ h => h) (Or.inr ⟨by rfl, rfl⟩) ?_ ?_
   rotate_left
   ·simp only [Act.put, zA, zB, zC, i64_w, i32_w]; rfl
   refine pure_ (i := 24) (N := some 35) (v := undef) (a' := ?_) (bf 29 33554431) rfl rfl (zm0 HT_.1 (by kernel_rfl)) (fun _ _ _ h => h) (Or.inr ⟨by rfl, rfl⟩) ?_ ?_
   rotate_left
   ·simp only [Act.put, zA, zB, zC, i64_w, i32_w]; rfl
   refine pure_ (i := 25) (N := some 36) (v := undef) (a' := ?_) (bf 29 67108863) rfl rfl (zm0 HT_.1 (by kernel_rfl)) (fun _ _ _ h => h) (Or.inr ⟨by rfl, rfl⟩) ?_ ?_
   rotate_left
   ·simp only [Act.put, zA, zB, zC, i64_w, i32_w]; rfl
   refine pure_ (i := 26) (N := some 37) (v := undef) (a' := ?_) (bf 29 134217727) rfl rfl (zm0 HT_.1 (by kernel_rfl)) (fun _ _ _ h => h) (Or.inr ⟨by rfl, rfl⟩) ?_ ?_
   rotate_left
   ·simp only [Act.put, zA, zB, zC, i64_w, i32_w]; rfl
   refine pure_ (i := 27) (N := some 38) (v := undef) (a' := ?_) (bf 29 268435455) rfl rfl (zm0 HT_.1 (by kernel_rfl)) (fun _ _ _ h => h) (Or.inr ⟨by rfl, rfl⟩) ?_ ?_
   rotate_left
   ·simp only [Act.put, zA, zB, zC, i64_w, i32_w]; rfl
   refine pure_ (i := 28) (N := some 39) (v := ?_) (a' := ?_) (bf 29 536870911) rfl rfl (zm0 HT_.1 (by kernel_rfl)) (fun _ _ _ h => h) (Or.inl ⟨by rfl, ?_⟩) ?_ ?_
   rotate_left
   ·intro w'; go_simp; with_reducible rfl
   rotate_left
   ·simp only [Act.put, zA, zB, zC, i64_w, i32_w]; rfl
   refine done_ (done_of HT_.1 (by kernel_rfl)) ?_
   try go_wp2
   go_meet
   case rel => exact ⟨_, (true), (rfl), H', ⟨by first | omega | exact Nat.le_refl _⟩, ⟨BK455.1⟩, ⟨HB.1⟩⟩
  rw [if_neg c11] at H
  have c11b0 : (a3 == a1) = false := beq_eq_false_iff_ne.mpr c11
  have c11b1 : (a3 != a1) = true := bne_iff_ne.mpr c11
  (first | rw [c11b0] | (simp only [i64_w, i32_w]; rw [c11b0]) | skip)
  by_cases c15 : 0 ≤ a3
  rotate_left
  ·rw [if_neg c15] at H
   exact absurd H (by simp)
  rw [if_pos c15] at H
  have c15b0 : decide (0 ≤ a3) = true := decide_eq_true c15
  clear c15
  by_cases c16 : a3 < (l2.length : Int)
  rotate_left
  ·rw [if_neg c16] at H
   exact absurd H (by simp)
  rw [if_pos c16] at H
  have c16b0 : decide (a3 < (l2.length : Int)) = true := decide_eq_true c16
  clear c16
  by_cases c17 : a3 < (l0_0.length : Int)
  rotate_left
  ·rw [if_neg c17] at H
   exact absurd H (by simp)
  rw [if_pos c17] at H
  have c17b0 : decide (a3 < (l0_0.length : Int)) = true := decide_eq_true c17
  clear c17
  have H' := hqZ H
  clear H
  try go_wp2
  have n0_ := hqZ (blk_drew BK455.1)
  have n1_ := hqZ (zk0 HB.1)
  clear BK455 HB
  have BK455 := n0_
  have HB := n1_
  clear n0_ n1_
  have p458 : 0 ≤ (a3 : Int) := of_decide_eq_true (by assumption)
  have q458 : a3 < (l2.length : Int) := of_decide_eq_true (by assumption)
  obtain ⟨ad458, e458, hx458_0⟩ := Kd.at_int HR2.1 a3 p458 q458
  have hw458_0 := hx458_0
  cases e458
  replace hx458_0 := (HB.1.cell (World.block_lt_of_cell? w _ hx458_0)).trans hx458_0
  replace p458 := eq_true p458
  replace q458 := eq_true q458
  have p459 : 0 ≤ (a3 : Int) := of_decide_eq_true (by assumption)
  have q459 : a3 < (l0_0.length : Int) := of_decide_eq_true (by assumption)
  obtain ⟨ad459, A459_0, c459_0, e459, hx459_0, hl459_0, hi459_0⟩ := at_L2 HR0_0.1 a3 p459 q459
  have hw459_0 := hx459_0
  cases e459
  replace hx459_0 := (HB.1.cell (World.block_lt_of_cell? w _ hx459_0)).trans hx459_0
  have HR459_0 := hqZ hi459_0
  have HC459_0 := hqZ hl459_0
  clear hi459_0 hl459_0
  replace p459 := eq_true p459
  replace q459 := eq_true q459
  refine start_ (n := 29) (S := fun w' => w'.cell? ⟨gb455, 0, none⟩ = some (.slice (some ad459) l0_0.length c0_0) ∧ w'.cell? (ad458.add (a3).toNat) = some (.int .i64 (rd l2 a3)) ∧ w'.cell? (ad459.add (a3).toNat) = some (.slice A459_0 (rd_L2 l0_0 a3).length c459_0)) (ds := []) #[false, false, false, false, false, false, false, false, false, false, false, false, false, false, false, false, false, false, false, false, false, false, false, false, false, false, false, false, false] (by kernel_rfl) rfl rfl ⟨(zh0 BK455.1 0).trans rfl, ((HB.1.cell (World.block_lt_of_cell? w _ hw458_0)).trans hw458_0), ((HB.1.cell (World.block_lt_of_cell? w _ hw459_0)).trans hw459_0)⟩ (fun hHeld => ?_); refine with_tabW yg0.tab1 yg0.bits1 (fun HT_ HW_ => ?_)
  generalize w6.drew = w18 at BK455 HB HR459_0 hx458_0 hx459_0 hHeld ⊢
  refine pure_ (i := 1) (N := some 12) (v := ?_) (a' := ?_) (bf 29 2) rfl rfl (zm0 HT_.1 (by kernel_rfl)) (fun _ _ _ h => h) (Or.inl ⟨by rfl, ?_⟩) ?_ ?_
  rotate_left
  ·intro w'; go_simp; with_reducible rfl
  rotate_left
  ·simp only [Act.put, zA, zB, zC, i64_w, i32_w]; rfl
  refine pure_ (i := 2) (N := some 13) (v := ?_) (a' := ?_) (bf 29 6) rfl rfl (zm0 HT_.1 (by kernel_rfl)) (fun _ _ _ h => h) (Or.inl ⟨by rfl, ?_⟩) ?_ ?_
  rotate_left
  ·intro w'; go_simp; with_reducible rfl
  rotate_left
  ·simp only [Act.put, zA, zB, zC, i64_w, i32_w]; rfl
  refine take_ (i := 0) (N := some 11) (v := ?_) (a' := ?_) (bf 29 7) rfl rfl (take_ofW HT_.1 HW_.1 (by kernel_rfl)) (fun _ _ _ h => h) (Or.inl ⟨by rfl, ?_⟩) hHeld ?_ ?_
  rotate_left
  ·rintro w' ⟨s0, s1, s2⟩; go_simp; with_reducible rfl
  rotate_left
  ·simp only [Act.put, zA, zB, zC, i64_w, i32_w]; rfl
  refine one_ (i := 3) (N := some 14) (bf 29 15) rfl rfl (one_of HT_.1 (by kernel_rfl)) (by decide) (fun K hK => ?_)
  refine goes_ Try.func30 (by kernel_rfl) rfl #[.agg #[.slice (some ad459) l0_0.length c0_0], .int .i64 a1, .slice (some ad458) l2.length c2] (by rfl) rfl rfl (by simp only [hqa, hqb, hqc]; rfl) ?_
  with_reducible refine (yq0.calls k _ _ l0_0 a1 _ _ l2 true _ ?side1 ?side2 ?side3 ?side4 A7.1).mono ?_
  (case side1 => exact (Kd.C_below HR0_0.1 HB.1))
  (case side2 => exact HC0_0.1)
  (case side3 => exact (Kd.C_below HR2.1 HB.1))
  (case side4 => exact HC2.1)
  rintro e w19 ⟨rfl, hb⟩
  refine ⟨_, rfl, ?_⟩
  have n0_ := hqZ (zc0 (g := gb455) (BK455.1) hb)
  have n1_ := hqZ (za0 (HB.1) hb)
  clear BK455 HB
  have BK455 := n0_
  have HB := n1_
  clear n0_ n1_
  (try clear hb)
  (try clear hb2)
  (try clear hk)
  (try clear hi)
  refine hK.out _ _ ⟨(zh0 BK455.1 0).trans rfl, ((HB.1.cell (World.block_lt_of_cell? w _ hw458_0)).trans hw458_0), ((HB.1.cell (World.block_lt_of_cell? w _ hw459_0)).trans hw459_0)⟩ (fun hHeld => ?_)
  clear hK K
  refine norm_ (a' := ?_) ?_ ?_
  rotate_left
  ·show Act.put _ (some 14) _ = _; simp only [Act.put, zA, zB, zC, i64_w, i32_w]; rfl
  refine pure_ (i := 4) (N := some 15) (v := ?_) (a' := ?_) (bf 29 31) rfl rfl (zm0 HT_.1 (by kernel_rfl)) (fun _ _ _ h => h) (Or.inl ⟨by rfl, ?_⟩) ?_ ?_
  rotate_left
  ·intro w'; go_simp; with_reducible rfl
  rotate_left
  ·simp only [Act.put, zA, zB, zC, i64_w, i32_w]; rfl
  refine pure_ (i := 5) (N := some 16) (v := ?_) (a' := ?_) (bf 29 63) rfl rfl (zm0 HT_.1 (by kernel_rfl)) (fun _ _ _ h => h) (Or.inl ⟨by rfl, ?_⟩) ?_ ?_
  rotate_left
  ·intro w'; go_simp; with_reducible rfl
  rotate_left
  ·simp only [Act.put, zA, zB, zC, i64_w, i32_w]; rfl
  refine pure_ (i := 7) (N := some 18) (v := ?_) (a' := ?_) (bf 29 191) rfl rfl (zm0 HT_.1 (by kernel_rfl)) (fun _ _ _ h => h) (Or.inl ⟨by rfl, ?_⟩) ?_ ?_
  rotate_left
  ·intro w'; go_simp; with_reducible rfl
  rotate_left
  ·simp only [Act.put, zA, zB, zC, i64_w, i32_w]; rfl
  refine take_ (i := 6) (N := some 17) (v := ?_) (a' := ?_) (bf 29 255) rfl rfl (take_ofW HT_.1 HW_.1 (by kernel_rfl)) (fun _ _ _ h => h) (Or.inl ⟨by rfl, ?_⟩) hHeld ?_ ?_
  rotate_left
  ·rintro w' ⟨s0, s1, s2⟩; go_simp; with_reducible rfl
  rotate_left
  ·simp only [Act.put, zA, zB, zC, i64_w, i32_w]; rfl
  refine one_ (i := 8) (N := some 19) (bf 29 511) rfl rfl (one_of HT_.1 (by kernel_rfl)) (by decide) (fun K hK => ?_)
  refine goes_ Try.func41 (by kernel_rfl) rfl #[.agg #[.slice (some ad459) l0_0.length c0_0], .int .i64 a3] (by rfl) rfl rfl (by simp only [hqa, hqb, hqc]; rfl) ?_
  with_reducible refine (yj1.calls k _ _ l0_0 a3 true _ ?side1 ?side2 A9.1).mono ?_
  (case side1 => exact (Kd.C_below HR0_0.1 HB.1))
  (case side2 => exact HC0_0.1)
  rintro e w20 ⟨rfl, hb⟩
  refine ⟨_, rfl, ?_⟩
  have n0_ := hqZ (zc0 (g := gb455) (BK455.1) hb)
  have n1_ := hqZ (za0 (HB.1) hb)
  clear BK455 HB
  have BK455 := n0_
  have HB := n1_
  clear n0_ n1_
  (try clear hb)
  (try clear hb2)
  (try clear hk)
  (try clear hi)
  refine hK.out _ _ ⟨(zh0 BK455.1 0).trans rfl, ((HB.1.cell (World.block_lt_of_cell? w _ hw458_0)).trans hw458_0), ((HB.1.cell (World.block_lt_of_cell? w _ hw459_0)).trans hw459_0)⟩ (fun hHeld => ?_)
  clear hK K
  refine norm_ (a' := ?_) ?_ ?_
  rotate_left
  ·show Act.put _ (some 19) _ = _; simp only [Act.put, zA, zB, zC, i64_w, i32_w]; rfl
  refine pure_ (i := 9) (N := some 20) (v := ?_) (a' := ?_) (bf 29 1023) rfl rfl (zm0 HT_.1 (by kernel_rfl)) (fun _ _ _ h => h) (Or.inl ⟨by rfl, ?_⟩) ?_ ?_
  rotate_left
  ·intro w'; go_simp; with_reducible rfl
  rotate_left
  ·simp only [Act.put, zA, zB, zC, i64_w, i32_w]; rfl
  refine pure_ (i := 10) (N := some 21) (v := ?_) (a' := ?_) (bf 29 2047) rfl rfl (zm0 HT_.1 (by kernel_rfl)) (fun _ _ _ h => h) (Or.inl ⟨by rfl, ?_⟩) ?_ ?_
  rotate_left
  ·intro w'; go_simp; with_reducible rfl
  rotate_left
  ·simp only [Act.put, zA, zB, zC, i64_w, i32_w]; rfl
  refine pure_ (i := 11) (N := some 22) (v := ?_) (a' := ?_) (bf 29 4095) rfl rfl (zm0 HT_.1 (by kernel_rfl)) (fun _ _ _ h => h) (Or.inl ⟨by rfl, ?_⟩) ?_ ?_
  rotate_left
  ·intro w'; go_simp; with_reducible rfl
  rotate_left
  ·simp only [Act.put, zA, zB, zC, i64_w, i32_w]; rfl
  refine pure_ (i := 12) (N := some 23) (v := ?_) (a' := ?_) (bf 29 8191) rfl rfl (zm0 HT_.1 (by kernel_rfl)) (fun _ _ _ h => h) (Or.inl ⟨by rfl, ?_⟩) ?_ ?_
  rotate_left
  ·intro w'; go_simp; with_reducible rfl
  rotate_left
  ·simp only [Act.put, zA, zB, zC, i64_w, i32_w]; rfl
  refine pure_ (i := 13) (N := some 24) (v := ?_) (a' := ?_) (bf 29 16383) rfl rfl (zm0 HT_.1 (by kernel_rfl)) (fun _ _ _ h => h) (Or.inl ⟨by rfl, ?_⟩) ?_ ?_
  rotate_left
  ·intro w'; go_simp; with_reducible rfl
  rotate_left
  ·simp only [Act.put, zA, zB, zC, i64_w, i32_w]; rfl
  refine pure_ (i := 14) (N := some 25) (v := ?_) (a' := ?_) (bf 29 32767) rfl rfl (zm0 HT_.1 (by kernel_rfl)) (fun _ _ _ h => h) (Or.inl ⟨by rfl, ?_⟩) ?_ ?_
  rotate_left
  ·intro w'; go_simp; with_reducible rfl
  rotate_left
  ·simp only [Act.put, zA, zB, zC, i64_w, i32_w]; rfl
  refine pure_ (i := 15) (N := some 26) (v := ?_) (a' := ?_) (bf 29 65535) rfl rfl (zm0 HT_.1 (by kernel_rfl)) (fun _ _ _ h => h) (Or.inl ⟨by rfl, ?_⟩) ?_ ?_
  rotate_left
  ·intro w'; go_simp; with_reducible rfl
  rotate_left
  ·simp only [Act.put, zA, zB, zC, i64_w, i32_w]; rfl
  refine pure_ (i := 16) (N := some 27) (v := ?_) (a' := ?_) (bf 29 131071) rfl rfl (zm0 HT_.1 (by kernel_rfl)) (fun _ _ _ h => h) (Or.inl ⟨by rfl, ?_⟩) ?_ ?_
  rotate_left
  ·intro w'; go_simp; with_reducible rfl
  rotate_left
  ·simp only [Act.put, zA, zB, zC, i64_w, i32_w]; rfl
  refine pure_ (i := 17) (N := some 28) (v := ?_) (a' := ?_) (bf 29 262143) rfl rfl (zm0 HT_.1 (by kernel_rfl)) (fun _ _ _ h => h) (Or.inl ⟨by rfl, ?_⟩) ?_ ?_
  rotate_left
  ·intro w'; go_simp; with_reducible rfl
  rotate_left
  ·simp only [Act.put, zA, zB, zC, i64_w, i32_w]; rfl
  refine pure_ (i := 18) (N := some 29) (v := ?_) (a' := ?_) (bf 29 524287) rfl rfl (zm0 HT_.1 (by kernel_rfl)) (fun _ _ _ h => h) (Or.inl ⟨by rfl, ?_⟩) ?_ ?_
  rotate_left
  ·intro w'; go_simp; with_reducible rfl
  rotate_left
  ·simp only [Act.put, zA, zB, zC, i64_w, i32_w]; rfl
  refine pure_ (i := 19) (N := some 30) (v := ?_) (a' := ?_) (bf 29 1048575) rfl rfl (zm0 HT_.1 (by kernel_rfl)) (fun _ _ _ h => h) (Or.inl ⟨by rfl, ?_⟩) ?_ ?_
  rotate_left
  ·intro w'; go_simp; with_reducible rfl
  rotate_left
  ·simp only [Act.put, zA, zB, zC, i64_w, i32_w]; rfl
  refine pure_ (i := 21) (N := some 32) (v := ?_) (a' := ?_) (bf 29 3145727) rfl rfl (zm0 HT_.1 (by kernel_rfl)) (fun _ _ _ h => h) (Or.inl ⟨by rfl, ?_⟩) ?_ ?_
  rotate_left
  ·intro w'; go_simp; with_reducible rfl
  rotate_left
  ·simp only [Act.put, zA, zB, zC, i64_w, i32_w]; rfl
  refine pure_ (i := 23) (N := some 34) (v := ?_) (a' := ?_) (bf 29 11534335) rfl rfl (zm0 HT_.1 (by kernel_rfl)) (fun _ _ _ h => h) (Or.inl ⟨by rfl, ?_⟩) ?_ ?_
  rotate_left
  ·intro w'; go_simp; with_reducible rfl
  rotate_left
  ·simp only [Act.put, zA, zB, zC, i64_w, i32_w]; rfl
  refine take_ (i := 20) (N := some 31) (v := ?_) (a' := ?_) (bf 29 12582911) rfl rfl (take_ofW HT_.1 HW_.1 (by kernel_rfl)) (fun _ _ _ h => h) (Or.inl ⟨by rfl, ?_⟩) hHeld ?_ ?_
  rotate_left
  ·rintro w' ⟨s0, s1, s2⟩; go_simp; with_reducible rfl
  rotate_left
  ·simp only [Act.put, zA, zB, zC, i64_w, i32_w]; rfl
  refine take_ (i := 22) (N := some 33) (v := ?_) (a' := ?_) (bf 29 16777215) rfl rfl (take_ofW HT_.1 HW_.1 (by kernel_rfl)) (fun _ _ _ h => h) (Or.inl ⟨by rfl, ?_⟩) hHeld ?_ ?_
  rotate_left
  ·rintro w' ⟨s0, s1, s2⟩; go_simp; with_reducible rfl
  rotate_left
  ·simp only [Act.put, zA, zB, zC, i64_w, i32_w]; rfl
  refine pure_ (i := 24) (N := some 35) (v := ?_) (a' := ?_) (bf 29 33554431) rfl rfl (zm0 HT_.1 (by kernel_rfl)) (fun _ _ _ h => h) (Or.inl ⟨by rfl, ?_⟩) ?_ ?_
  rotate_left
  ·intro w'; go_simp; with_reducible rfl
  rotate_left
  ·simp only [Act.put, zA, zB, zC, i64_w, i32_w]; rfl
  refine take_ (i := 25) (N := some 36) (v := ?_) (a' := ?_) (bf 29 67108863) rfl rfl (take_ofW HT_.1 HW_.1 (by kernel_rfl)) (fun _ _ _ h => h) (Or.inl ⟨by rfl, ?_⟩) hHeld ?_ ?_
  rotate_left
  ·rintro w' ⟨s0, s1, s2⟩; go_simp; with_reducible rfl
  rotate_left
  ·simp only [Act.put, zA, zB, zC, i64_w, i32_w]; rfl
  refine pure_ (i := 26) (N := some 37) (v := ?_) (a' := ?_) (bf 29 134217727) rfl rfl (zm0 HT_.1 (by kernel_rfl)) (fun _ _ _ h => h) (Or.inl ⟨by rfl, ?_⟩) ?_ ?_
  rotate_left
  ·intro w'; go_simp; with_reducible rfl
  rotate_left
  ·simp only [Act.put, zA, zB, zC, i64_w, i32_w]; rfl
  refine pure_ (i := 27) (N := some 38) (v := ?_) (a' := ?_) (bf 29 268435455) rfl rfl (zm0 HT_.1 (by kernel_rfl)) (fun _ _ _ h => h) (Or.inl ⟨by rfl, ?_⟩) ?_ ?_
  rotate_left
  ·intro w'; go_simp; with_reducible rfl
  rotate_left
  ·simp only [Act.put, zA, zB, zC, i64_w, i32_w]; rfl
  refine pure_ (i := 28) (N := some 39) (v := ?_) (a' := ?_) (bf 29 536870911) rfl rfl (zm0 HT_.1 (by kernel_rfl)) (fun _ _ _ h => h) (Or.inl ⟨by rfl, ?_⟩) ?_ ?_
  rotate_left
  ·intro w'; go_simp; with_reducible rfl
  rotate_left
  ·simp only [Act.put, zA, zB, zC, i64_w, i32_w]; rfl
  refine done_ (done_of HT_.1 (by kernel_rfl)) ?_
  try go_wp2
  go_meet
  case rel => exact ⟨_, (decide ((rd l2 a3) < ((rd_L2 l0_0 a3).length : Int))), (rfl), H', ⟨by first | omega | exact Nat.le_refl _⟩, ⟨BK455.1⟩, ⟨HB.1⟩⟩
 case rest =>
  clear HC5
  try clear c1
  try clear c2
  try clear p2
  try clear c3
  try clear c4
  try clear c8
  try clear c10
  try clear c15
  try clear c16
  try clear c17
  obtain ⟨kq, x39_4, rfl, HA, HJ4, BK455, HB⟩ := hcut
  cases kq with
  | zero => exact absurd HA.1 (by simp [yg0.j0])
  | succ kj4 =>
   have H := HA.1
   clear HA
   simp only [yg0.j0] at H
   by_cases c26 : x39_4 = true
   ·subst c26
    rw [if_pos rfl] at H
    simp only [Option.some.injEq, Prod.mk.injEq] at H
    obtain ⟨rfl, rfl⟩ := H
    go_wp2
    go_ret2
    exact ⟨_, rfl, by first | exact Kd.R_nil _ _ _ _ _ | exact Kd.N_nil _ _ _ _ _ | exact Kd.V_nil _ _ _ _ _ | exact Kd.Q_nil _ _ _ _ _ | exact Kd.S_nil _ _ _ _ _, HB.1⟩
   replace c26 := Bool.eq_false_iff.mpr c26
   subst c26
   rw [if_neg (show ¬ (false = true) by decide)] at H
   replace H := Option.bind_eq_some_iff.mp H
   obtain ⟨t460, A270, H⟩ := H
   try dsimp only at H
   have A27 := hqZ A270
   clear A270
   replace H := Option.bind_eq_some_iff.mp H
   obtain ⟨t463, A280, H⟩ := H
   try dsimp only at H
   have A28 := hqZ A280
   clear A280
   replace H := Option.bind_eq_some_iff.mp H
   obtain ⟨t464, A290, H⟩ := H
   try dsimp only at H
   have A29 := hqZ A290
   clear A290
   by_cases c30 : t464 = true
   ·subst c30
    rw [if_pos rfl] at H
    simp only [Option.some.injEq, Prod.mk.injEq] at H
    obtain ⟨rfl, rfl⟩ := H
    go_wp2_with (first | ((with_reducible refine ze0 (f := 42) rfl ?_); refine zq0 (some 41) rfl rfl Try.func42 (by kernel_rfl) rfl #[.slice A2 l2.length c2] rfl (by simp only [hqa, hqb, hqc]; rfl) ?_; (with_reducible refine (ym1.calls _ _ l2 t460 _ ?side1 ?side2 A27.1).mono ?_); (case side1 => exact (Kd.C_below HR2.1 HB.1)); (case side2 => exact HC2.1); rintro e w31 ⟨v461, rfl, ho0, hb⟩; refine ⟨_, rfl, ?_⟩; have HO462 := hqZ (Kd.R_lower ho0 (zb0 (HB.1))); replace BK455 := hqZ (zc0 (g := gb455) (BK455.1) hb); replace HB := hqZ (za0 (HB.1) hb); clear hb ho0; have hcz32_0 : w31.cell? ⟨gb455, 0, none⟩ = some (.slice A0_0 l0_0.length c0_0) := (zh0 BK455.1 0).trans rfl; have hfz32_0 := zd0 BK455.1 0; obtain ⟨Ao33, co33, eo33⟩ := Kd.R_slice HO462.1; subst eo33) | ((with_reducible refine ze0 (f := 43) rfl ?_); refine zq0 (some 46) rfl rfl Try.func43 (by kernel_rfl) rfl #[.agg #[.slice A0_0 l0_0.length c0_0], .int .i64 a1, .slice Ao33 t460.length co33, .int .i64 a3] rfl (by simp only [hqa, hqb, hqc]; rfl) ?_; (with_reducible refine (yl0.calls kj4 _ _ l0_0 a1 (fun k_ => some k_ = (.slice Ao33 t460.length co33 : Value).ownBlock) (.slice Ao33 t460.length co33) t460 a3 t463 w _ ?side1 ?side2 ?side3 ?side4 A28.1).mono ?_); (case side1 => repeat (first | exact HB.1 | apply zn0 | apply zj0 | apply zk0 | refine zf0 ?_ GE455.1)); (case side2 => exact Kd.C_kept_came (Kd.heap_slice 3 (Kd.heap_int .i64)) HR0_0.1 (HB.1) (fun k_ hs_ => (fun e_ => Kd.R_base HO462.1 k_ e_.symm) hs_)); (case side3 => exact HC0_0.1); (case side4 => exact Kd.R_tight rfl HO462.1); rintro e w34 ⟨rfl, hy0, hb, hkp⟩; refine ⟨_, rfl, ?_⟩; replace BK455 := hqZ (blk_kept (BK455.1) hkp (fun hs_ => (fun e_ => (Kd.R_ne HO462.1 BK455.1 (by decide)) e_) hs_)); replace HO462 := hqZ (Kd.R_reok rfl hy0 (fun k_ e_ => HO462.1.1 k_ e_)); replace HB := hqZ (hb); clear hb hkp hy0) | ((with_reducible refine ze0 (f := 44) rfl ?_); refine zq0 (some 48) rfl rfl Try.func44 (by kernel_rfl) rfl #[.slice Ao33 t463.length co33, .int .i64 0, .int .i64 20] rfl (by (try simp only [List.map_toArray, List.map_cons, List.map_nil]); first | done | (rw [show t463.length = t460.length from (Kd.R_reads' HO462.1).1.symm] <;> rfl) | rfl | (simp only [List.length_drop, List.length_take]; rfl)) ?_; (with_reducible refine (yo0.calls kj4 _ _ t463 0 20 true _ ?side1 ?side2 A29.1).mono ?_); (case side1 => exact (Kd.R_reads' HO462.1).2.2); (case side2 => rw [show t463.length = t460.length from (Kd.R_reads' HO462.1).1.symm]; exact (Kd.R_reads' HO462.1).2.1); rintro e w' ⟨rfl, ⟨nd, rfl⟩⟩; refine ⟨_, rfl, ?_⟩))
    go_ret2
    exact ⟨_, rfl, HO462.1, hqB HB.1⟩
   replace c30 := Bool.eq_false_iff.mpr c30
   subst c30
   rw [if_neg (show ¬ (false = true) by decide)] at H
   simp only [Option.some.injEq, Prod.mk.injEq] at H
   obtain ⟨rfl, rfl⟩ := H
   go_wp2_with (first | ((with_reducible refine ze0 (f := 42) rfl ?_); refine zq0 (some 41) rfl rfl Try.func42 (by kernel_rfl) rfl #[.slice A2 l2.length c2] rfl (by simp only [hqa, hqb, hqc]; rfl) ?_; (with_reducible refine (ym1.calls _ _ l2 t460 _ ?side1 ?side2 A27.1).mono ?_); (case side1 => exact (Kd.C_below HR2.1 HB.1)); (case side2 => exact HC2.1); rintro e w35 ⟨v461, rfl, ho0, hb⟩; refine ⟨_, rfl, ?_⟩; have HO462 := hqZ (Kd.R_lower ho0 (zb0 (HB.1))); replace BK455 := hqZ (zc0 (g := gb455) (BK455.1) hb); replace HB := hqZ (za0 (HB.1) hb); clear hb ho0; have hcz36_0 : w35.cell? ⟨gb455, 0, none⟩ = some (.slice A0_0 l0_0.length c0_0) := (zh0 BK455.1 0).trans rfl; have hfz36_0 := zd0 BK455.1 0; obtain ⟨Ao37, co37, eo37⟩ := Kd.R_slice HO462.1; subst eo37) | ((with_reducible refine ze0 (f := 43) rfl ?_); refine zq0 (some 46) rfl rfl Try.func43 (by kernel_rfl) rfl #[.agg #[.slice A0_0 l0_0.length c0_0], .int .i64 a1, .slice Ao37 t460.length co37, .int .i64 a3] rfl (by simp only [hqa, hqb, hqc]; rfl) ?_; (with_reducible refine (yl0.calls kj4 _ _ l0_0 a1 (fun k_ => some k_ = (.slice Ao37 t460.length co37 : Value).ownBlock) (.slice Ao37 t460.length co37) t460 a3 t463 w _ ?side1 ?side2 ?side3 ?side4 A28.1).mono ?_); (case side1 => repeat (first | exact HB.1 | apply zn0 | apply zj0 | apply zk0 | refine zf0 ?_ GE455.1)); (case side2 => exact Kd.C_kept_came (Kd.heap_slice 3 (Kd.heap_int .i64)) HR0_0.1 (HB.1) (fun k_ hs_ => (fun e_ => Kd.R_base HO462.1 k_ e_.symm) hs_)); (case side3 => exact HC0_0.1); (case side4 => exact Kd.R_tight rfl HO462.1); rintro e w38 ⟨rfl, hy0, hb, hkp⟩; refine ⟨_, rfl, ?_⟩; replace BK455 := hqZ (blk_kept (BK455.1) hkp (fun hs_ => (fun e_ => (Kd.R_ne HO462.1 BK455.1 (by decide)) e_) hs_)); replace HO462 := hqZ (Kd.R_reok rfl hy0 (fun k_ e_ => HO462.1.1 k_ e_)); replace HB := hqZ (hb); clear hb hkp hy0) | ((with_reducible refine ze0 (f := 44) rfl ?_); refine zq0 (some 48) rfl rfl Try.func44 (by kernel_rfl) rfl #[.slice Ao37 t463.length co37, .int .i64 0, .int .i64 20] rfl (by (try simp only [List.map_toArray, List.map_cons, List.map_nil]); first | done | (rw [show t463.length = t460.length from (Kd.R_reads' HO462.1).1.symm] <;> rfl) | rfl | (simp only [List.length_drop, List.length_take]; rfl)) ?_; (with_reducible refine (yo0.calls kj4 _ _ t463 0 20 false _ ?side1 ?side2 A29.1).mono ?_); (case side1 => exact (Kd.R_reads' HO462.1).2.2); (case side2 => rw [show t463.length = t460.length from (Kd.R_reads' HO462.1).1.symm]; exact (Kd.R_reads' HO462.1).2.1); rintro e w' ⟨rfl, ⟨nd, rfl⟩⟩; refine ⟨_, rfl, ?_⟩))
   go_ret2
   exact ⟨_, rfl, by first | exact Kd.R_nil _ _ _ _ _ | exact Kd.N_nil _ _ _ _ _ | exact Kd.V_nil _ _ _ _ _ | exact Kd.Q_nil _ _ _ _ _ | exact Kd.S_nil _ _ _ _ _, hqB HB.1⟩
def yy1.f (k : Nat) (s0_0 : List Int) (s0_1 : Int) (s0_2 : Int) : Option ((List (List Int)) × Int × List Int × Int × Int) := (yi0.f k s0_0 s0_1 s0_2 4).bind fun bt354 => (some (bt354.1, bt354.2.1, bt354.2.2.1, bt354.2.2.2.1, bt354.2.2.2.2))
theorem yy1.mono : ∀ a0 a1 a2 k, LeO (yy1.f k a0 a1 a2) (yy1.f (k + 1) a0 a1 a2) := by
 intro a0 a1 a2 k
 unfold yy1.f
 repeat' (with_reducible first | exact yi0.mono _ _ _ _ _ | exact LeO.refl _ | exact LeO.none _ | refine LeO.ite ?_ ?_ | refine LeO.bind ?_ (fun _ => ?_))
theorem yy1.calls (k : Nat) (A0 : Option Addr) (c0 : Nat) (s0_0 : List Int) (r1 : List (List Int)) (r2 : Int) (r3 : List Int) (r4 : Int) (r5 : Int) (w : World) (hr0 : Kd.C (Kd.int .u8) w A0 s0_0.length s0_0) (hc0 : s0_0.length ≤ c0) (h : yy1.f k s0_0 0 0 = some (r1, r2, r3, r4, r5)) :
  Calls Try.prog 16 #[.slice A0 s0_0.length c0] w fun e w' => ∃ v0_ v2_ : Value, e = .returned (.tuple #[.agg #[v0_], .int .i64 r2, v2_]) ∧ Kd.N (Kd.slice 3 (Kd.int .i64)) 27 w' w.heap.size (fun k_ => (w.heap.size ≤ k_) ∧ some k_ ≠ (v2_ : Value).ownBlock) v0_ r1 ∧ Kd.R (Kd.int .i64) 3 w' w.heap.size (fun k_ => (w.heap.size ≤ k_)) v2_ r3 ∧ Below w.heap.size w w' := by
 have hu26 := Try.underlying26
 have hu46 := Try.underlying46
 have HR0 := hqZ hr0
 clear hr0
 have HW0 := hqZ (Nat.le_refl w.heap.size)
 have HL := hqZ (Nat.le_refl w.heap.size)
 have HB := hqZ (Below.refl w.heap.size w)
 have H : ((yi0.f k s0_0 0 0 4).bind fun bt354 => (some (bt354.1, bt354.2.1, bt354.2.2.1, bt354.2.2.2.1, bt354.2.2.2.2))) = some (r1, r2, r3, r4, r5) := h
 clear h
 replace H := Option.bind_eq_some_iff.mp H
 obtain ⟨⟨t354, t357, t358, t361, t362⟩, A20, H⟩ := H
 try dsimp only at H
 have A2 := hqZ A20
 clear A20
 simp only [Option.some.injEq, Prod.mk.injEq] at H
 obtain ⟨rfl, rfl, rfl, rfl, rfl⟩ := H
 go_enter Try.func16, Try.ntmps16
 go_wp2_with (first | ((with_reducible refine zo0 (N := 2) rfl ?_); refine zp0 ?hg (N := 2) ?hd (cs := #[.slice none 0 0]) (t := 26) ?hr ?_; (case hd | hg => rfl); (case hr => go_simp <;> rfl); intro gb353 hg wA hbox hb; have n2_ := hqZ (za0 (HB.1) hb); have n3_ := hqZ hbox; have n4_ := hqZ ((by rw [hg]; exact (show Below w.heap.size w _ from HB.1).size) : w.heap.size ≤ gb353); clear HB; have HB := n2_; have BK353 := n3_; have GW353 := n4_; have GE353 := n4_; clear n2_ n3_ n4_; clear hb hbox hg) | ((with_reducible refine zo0 (N := 8) rfl ?_); refine zp0 ?hg (N := 8) ?hd (cs := #[.slice A0 s0_0.length c0, .int .i64 0, .int .u64 0]) (t := 46) ?hr ?_; (case hd | hg => rfl); (case hr => go_simp <;> rfl); intro g hg wB hbox hb; have HI0 := hqZ (⟨A0, c0, hbox, (by rw [hg]; exact (show Below w.heap.size w _ from HB.1).size), HR0.1⟩ : IsS46 w wB g s0_0 0 0); have HK := hqZ (zg0.of_below (za0 (HB.1) hb) g none); replace HB := hqZ (za0 (HB.1) hb); have NB0_353 := hqZ (by rw [hg]; exact Nat.ne_of_gt (blk_lt (g := gb353) (BK353.1)) : g ≠ gb353); have NB353_0 := hqZ (by rw [hg]; exact Nat.ne_of_lt (blk_lt (g := gb353) (BK353.1)) : gb353 ≠ g); replace BK353 := hqZ (zc0 (g := gb353) (BK353.1) hb); clear hb hbox hg) | ((with_reducible refine ze0 (f := 27) rfl ?_); refine zq0 (some 10) rfl rfl Try.func27 (by kernel_rfl) rfl #[.pointer (some ⟨g, 0, none⟩), .int .i64 4] rfl (by simp only [hqa, hqb, hqc]; rfl) ?_; (with_reducible refine (yi0.calls k g s0_0 0 0 4 t354 t357 t358 t361 t362 w _ ?side1 ?side2 A2.1).mono ?_); (case side1 => repeat (first | exact HI0.1 | apply IsS46.alloc | apply IsS46.drewN | apply IsS46.drew | apply IsS46.set_1 | apply IsS46.set_2 | refine IsS46.far ?_ NB0_353.1 _)); (case side2 => repeat (first | (with_reducible first | exact HB.1 | apply zn0 | apply zj0 | apply zk0 | refine zf0 ?_ (IsS46.ge HI0.1) | refine zf0 ?_ GE353.1) | exact HB.1)); rintro e w4 ⟨v355, v359, rfl, ho0, ho1, hi, hb, hk⟩; refine ⟨_, rfl, ?_⟩; have HO356 := hqZ (Kd.N_lower (Kd.N_mono (ok' := fun k_ => (w.heap.size ≤ k_) ∧ some k_ ≠ (v359 : Value).ownBlock ∧ k_ ≠ gb353 ∧ k_ ≠ g) ho0 (fun k_ hk_ => ⟨(Nat.le_trans (zl0 (w := w) (g := g) (row := none) (HK.1)) hk_.1), hk_.2, (Kd.freshB (g := gb353) (BK353.1) k_ hk_.1), (IsS46.fresh (HI0.1) k_ hk_.1)⟩)) (zl0 (w := w) (g := g) (row := none) (HK.1))); replace BK353 := hqZ (zg0.blk hk (g' := gb353) (BK353.1) NB353_0.1 (by simp)); have HO360 := hqZ (Kd.R_lower (Kd.R_newM (M := fun k_ => (w.heap.size ≤ k_)) (Kd.R_mono (ok' := fun k_ => True) ho1 (fun _ hk_ => trivial)) (zl0 (w := w) (g := g) (row := none) (HK.1)) (fun k_ h_ => h_)) (zl0 (w := w) (g := g) (row := none) (HK.1))); replace HK := hqZ (zg0.trans (HK.1) hk (.inl rfl)); replace HB := hqZ (hb); replace HI0 := hqZ (hi); clear hb hk hi ho0 ho1; obtain ⟨Ao5, co5, eo5⟩ := Kd.N_slice HO356.1; subst eo5; have hnb6 := NB353_0.1; have hnc6 := NB0_353.1; have hcz7_0 : w4.cell? ⟨gb353, 0, none⟩ = some (.slice none 0 0) := (zh0 BK353.1 0).trans rfl; have hfz7_0 := zd0 BK353.1 0))
 refine bodyPost_ret (results_ctt rfl _ _ gb353 26 #[.slice Ao5 t354.length co5] (0, 0) _ rfl (by refine blk_put (cs := #[.slice none 0 0]) ?_ 0 _ rfl; exact BK353.1) Try.underlying26 rfl (by kernel_rfl)) rfl ?_
 exact ⟨_, _, rfl, Kd.N_mono (Kd.N_far (p := ⟨gb353, 0, none⟩) (Kd.N_mono HO356.1 (fun k_ hk => (⟨hk, hk.2.2.1⟩ : _ ∧ k_ ≠ gb353))) (fun _ hk => hk.2) (.slice Ao5 t354.length co5)) (fun _ hk => ⟨hk.1.1, hk.1.2.1⟩), Kd.R_mono (Kd.R_far (p := ⟨gb353, 0, none⟩) (Kd.R_types HO360.1 BK353.1 (by decide)) (fun _ hk => hk.2) (.slice Ao5 t354.length co5)) (fun _ hk => hk.1.1), zf0 HB.1 GE353.1⟩
def yc1.f (k : Nat) (l0 : List Int) : Option ((List (List Int)) × Int × List Int) := (yy1.f k l0 0 0).bind fun t => some (t.1, t.2.1, t.2.2.1)
theorem yc1.mono : ∀ a0 k, LeO (yc1.f k a0) (yc1.f (k + 1) a0) := fun a0 k => LeO.bind (yy1.mono _ _ _ _) (fun _ => LeO.refl _)
theorem yc1.calls (k : Nat) (A0 : Option Addr) (c0 : Nat) (l0 : List Int) (r1 : List (List Int)) (r2 : Int) (r3 : List Int) (w : World) (hr0 : Kd.C (Kd.int .u8) w A0 l0.length l0) (hc0 : l0.length ≤ c0) (h : yc1.f k l0 = some (r1, r2, r3)) :
  Calls Try.prog 16 #[.slice A0 l0.length c0] w fun e w' => ∃ v0_ v2_ : Value, e = .returned (.tuple #[.agg #[v0_], .int .i64 r2, v2_]) ∧ Kd.N (Kd.slice 3 (Kd.int .i64)) 27 w' w.heap.size (fun k_ => (w.heap.size ≤ k_) ∧ some k_ ≠ (v2_ : Value).ownBlock) v0_ r1 ∧ Kd.R (Kd.int .i64) 3 w' w.heap.size (fun k_ => (w.heap.size ≤ k_)) v2_ r3 ∧ Below w.heap.size w w' := by
 unfold yc1.f at h
 obtain ⟨t, ht, h⟩ := Option.bind_eq_some_iff.mp h
 obtain ⟨z1, z2, z3, z4, z5⟩ := t
 simp only [Option.some.injEq, Prod.mk.injEq] at h
 obtain ⟨rfl, rfl, rfl⟩ := h
 exact yy1.calls k A0 c0 l0 z1 z2 z3 z4 z5 w hr0 hc0 ht
end Go.Proofs.Ytdfabioienofhaa.P
