/- Texts of this session on the way to the law FnRecurrentHeaps, part 5: words of the print, walks, plain laws; only what the law's proof uses. -/
import Derived.Test.YtdfabioienofhaaCFnRecurrentHeapsb
import Derived.Test.YtdfabioienofhaaCFnRecurrentHeapsd
import Derived.Test.YtdfabioienofhaaCFnRecurrentHeapsc
namespace Go.Proofs.Ytdfabioienofhaa.P
set_option maxHeartbeats 8000000
set_option maxRecDepth 100000
open Go.RowKit Go.Proofs.YtdfabioienofhaaW.PrintWords Go.Proofs.YtdfabioienofhaaW.PrintLast Go.Proofs.YtdfabioienofhaaW.PrintMore
attribute [local go_sem] zr0 zp0 zw0 zv0 zn0 zo0 zq0 zs0
set_option linter.unusedVariables false
set_option linter.unusedSimpArgs false
mutual
def yh0.l0 : Nat → Int → List Int → List Int → List Int → Int → Int → List (List Int) → Option (Bool × Bool)
 | 0, _, _, _, _, _, _, _ => none
 | k + 1, x1, x2, x9, X9, qm, vk, uO => if vk < qm then (if 0 ≤ vk then (if vk < (X9.length : Int) then (if vk < (x9.length : Int) then (yh0.l0 k x1 x2 (x9.set (vk : Int).toNat (wrap64 (2 * (rd X9 vk)))) X9 qm (wrap64 (vk + 1)) uO) else (none)) else (none)) else (none)) else ((yi0.f k uO x1 x9).bind fun Dl => (if Dl.2.2 = true then ((yr1.f x2).bind fun XM => (yh0.l1 k x1 x2 x9 Dl.1 XM (XM.length : Int) 0 uO)) else (some (false, false))))
def yh0.l1 : Nat → Int → List Int → List Int → List Int → List Int → Int → Int → List (List Int) → Option (Bool × Bool)
 | 0, _, _, _, _, _, _, _, _ => none
 | k + 1, x1, x2, x9, YZ, us, mY, Ug, uO => if Ug < mY then (if 0 ≤ Ug then (if Ug < (us.length : Int) then (if Ug < (x9.length : Int) then (if Ug < (YZ.length : Int) then (yh0.l1 k x1 x2 x9 YZ (us.set (Ug : Int).toNat (wrap64 ((rd us Ug) + (wrap64 ((rd x9 Ug) - (rd YZ Ug)))))) mY (wrap64 (Ug + 1)) uO) else (none)) else (none)) else (none)) else (none)) else ((yi0.f k uO x1 us).bind fun dk => (if dk.2.2 = true then ((yc1.f k dk.1 x2).bind fun mv => (some (mv, dk.2.2))) else (some (false, dk.2.2))))
end
def yh0.f (k : Nat) (J0 : List (List Int)) (a1 : Int) (l2 : List Int) : Option (Bool × Bool) := (yo0.f k J0 a1).bind fun Ye => (if 0 ≤ (Ye.length : Int) then (if ((Ye.length : Int) : Int).toNat ≤ 35184372088832 then (yh0.l0 k a1 l2 (List.replicate ((Ye.length : Int) : Int).toNat 0) Ye (Ye.length : Int) 0 J0) else (none)) else (none))
theorem yh0.mono_l : ∀ k, (∀ y0 y1 y2 y3 y4 y5 y6, LeO (yh0.l0 k y0 y1 y2 y3 y4 y5 y6) (yh0.l0 (k + 1) y0 y1 y2 y3 y4 y5 y6)) ∧ (∀ y0 y1 y2 y3 y4 y5 y6 y7, LeO (yh0.l1 k y0 y1 y2 y3 y4 y5 y6 y7) (yh0.l1 (k + 1) y0 y1 y2 y3 y4 y5 y6 y7))
 | 0 => ⟨fun _ _ _ _ _ _ _ r h => by simp [yh0.l0] at h, fun _ _ _ _ _ _ _ _ r h => by simp [yh0.l1] at h⟩
 | k + 1 => by
  obtain ⟨ih0, ih1⟩ := yh0.mono_l k
  refine ⟨?_, ?_⟩
  ·intro y0 y1 y2 y3 y4 y5 y6
   unfold yh0.l0
   repeat' (with_reducible first | apply ih0 | apply ih1 | apply yo0.mono | apply yi0.mono | apply yc1.mono | apply LeO.refl | apply LeO.none | refine LeO.ite ?_ ?_ | refine LeO.bind ?_ (fun _ => ?_))
  ·intro y0 y1 y2 y3 y4 y5 y6 y7
   unfold yh0.l1
   repeat' (with_reducible first | apply ih0 | apply ih1 | apply yo0.mono | apply yi0.mono | apply yc1.mono | apply LeO.refl | apply LeO.none | refine LeO.ite ?_ ?_ | refine LeO.bind ?_ (fun _ => ?_))
theorem yh0.mono : ∀ a0 a1 a2 k, LeO (yh0.f k a0 a1 a2) (yh0.f (k + 1) a0 a1 a2) := by
 intro a0 a1 a2 k
 obtain ⟨ih0, ih1⟩ := yh0.mono_l k
 unfold yh0.f
 repeat' (with_reducible first | apply ih0 | apply ih1 | apply yo0.mono | apply yi0.mono | apply yc1.mono | apply LeO.refl | apply LeO.none | refine LeO.ite ?_ ?_ | refine LeO.bind ?_ (fun _ => ?_))
def yh0.T15 : Bool × List (List Nat × List Nat) := (true, [([], []), ([], []), ([0, 1], [0, 1]), ([2], [2]), ([], []), ([], []), ([4, 5], [4, 5]), ([6], [6]), ([], []), ([], []), ([8, 9], [8, 9]), ([10], [10]), ([7, 11], [7, 11]), ([3, 12], [3, 12]), ([0, 1, 0, 1, 2, 3, 4, 5, 6, 7, 8, 9, 10, 11, 12, 13], [0, 1]), ([14, 13, 0, 1, 2, 3, 4, 5, 6, 7, 8, 9, 10, 11, 12, 13], [13, 14])])
def yh0.B15 : List Nat := [0, 0, 3, 7, 0, 0, 48, 112, 0, 0, 768, 1792, 4080, 8191, 16383, 32767]
theorem yh0.tab15 : rtab .any (opsOf Try.f52 15) = yh0.T15 := by kernel_rfl
theorem yh0.bits15 : waitsOk yh0.T15.2 yh0.B15 = true := by kernel_rfl
theorem yh0.calls (k : Nat) (J4 : Option Addr) (J2 : Nat) (J0 : List (List Int)) (a1 : Int) (A2 : Option Addr) (c2 : Nat) (l2 : List Int) (r1 : Bool) (r2 : Bool) (w : World) (hr0_0 : Kd.C (Kd.slice 3 (Kd.int .i64)) w J4 J0.length J0) (hc0_0 : J0.length ≤ J2) (hr2 : Kd.C (Kd.int .i64) w A2 l2.length l2) (hc2 : l2.length ≤ c2) (h : yh0.f k J0 a1 l2 = some (r1, r2)) :
  Calls Try.prog 52 #[.agg #[.slice J4 J0.length J2], .int .i64 a1, .slice A2 l2.length c2] w fun e w' => e = .returned (.tuple #[.bool r1, .bool r2]) ∧ Below w.heap.size w w' := by
 have hu26 := Try.underlying26
 have Ja := hqZ hr0_0
 have HC0_0 := hqZ hc0_0
 clear hr0_0 hc0_0
 have jz := hqZ hr2
 have HC2 := hqZ hc2
 clear hr2 hc2
 have HB := hqZ (Below.refl w.heap.size w)
 have H : ((yo0.f k J0 a1).bind fun Ye => (if 0 ≤ (Ye.length : Int) then (if ((Ye.length : Int) : Int).toNat ≤ 35184372088832 then (yh0.l0 k a1 l2 (List.replicate ((Ye.length : Int) : Int).toNat 0) Ye (Ye.length : Int) 0 J0) else (none)) else (none))) = some (r1, r2) := h
 clear h
 replace H := Option.bind_eq_some_iff.mp H
 obtain ⟨Ye, A40, H⟩ := H
 try dsimp only at H
 have A4 := hqZ A40
 clear A40
 by_cases c5 : 0 ≤ (Ye.length : Int)
 rotate_left
 ·rw [if_neg c5] at H
  exact absurd H (by simp)
 rw [if_pos c5] at H
 have c5b0 := eq_true c5
 have c5b1 : decide (0 ≤ (Ye.length : Int)) = true := decide_eq_true c5
 clear c5
 by_cases c6 : ((Ye.length : Int) : Int).toNat ≤ 35184372088832
 rotate_left
 ·rw [if_neg c6] at H
  exact absurd H (by simp)
 rw [if_pos c6] at H
 have c6b0 := eq_true c6
 have c6b1 : decide (((Ye.length : Int) : Int).toNat ≤ 35184372088832) = true := decide_eq_true c6
 clear c6
 obtain ⟨Mt, hy656⟩ : ∃ y_ : List Int, y_ = (List.replicate ((Ye.length : Int) : Int).toNat 0) := ⟨_, rfl⟩
 replace H : (yh0.l0 k a1 l2 Mt Ye (Ye.length : Int) 0 J0) = some (r1, r2) := by (rw [hy656]; with_reducible exact H)
 have Ny656 := hqZ hy656
 clear hy656
 have H' := hqZ H
 clear H
 go_enter Try.func52, Try.ntmps52
 go_wp2_with (first | ((with_reducible refine zi0 (N := 3) rfl ?_); refine zk0 ?hg (N := 3) ?hd (cs := #[.slice J4 J0.length J2]) (t := 26) ?hr ?_; (case hd | hg => rfl); (case hr => go_simp); intro jr hg w7 hbox hb; have Vy := hqZ (hbox); have Jm5 := hqZ ((by rw [hg]; exact (zb0 (HB.1)) : w.heap.size ≤ jr)); have Jm6 := hqZ ((by rw [hg]; exact (zb0 (HB.1)) : w.heap.size ≤ jr)); replace HB := hqZ (za0 (HB.1) hb); clear hb hbox hg; have oD : w7.cell? ⟨jr, 0, none⟩ = some (.slice J4 J0.length J2) := (zf0 Vy.1 0).trans rfl; have Uq := zc0 Vy.1 0) | ((with_reducible refine ze0 (f := 51) rfl ?_); refine zM (some 22) Try.func51 #[.agg #[.slice J4 J0.length J2], .int .i64 a1] ?_; (with_reducible refine (yo0.calls k _ _ J0 a1 Ye _ ?side1 ?side2 A4.1).mono ?_); (case side1 => exact (Kd.C_below Ja.1 HB.1)); (case side2 => exact HC0_0.1); rintro e w9 ⟨v654, rfl, ho0, hb⟩; refine ⟨_, rfl, ?_⟩; have UR := hqZ (Kd.R_lower ho0 (zb0 (HB.1))); replace Vy := hqZ (zd0 (g := jr) (Vy.1) hb); replace HB := hqZ (za0 (HB.1) hb); clear hb ho0; obtain ⟨qD, Un, eo10⟩ := Kd.R_slice UR.1; subst eo10) | ((with_reducible refine zi0 (N := 25) rfl ?_); refine Kd.R_make (Kd.int .i64) _ 3 rfl (N := 25) rfl 27 _ _ rfl (Ye.length : Int) rfl rfl Try.underlying27 (.int .i64 0) 8 info3 rfl (by decide) (by omega) 0 (ok := fun _ => True) (okp := fun _ => True) rfl (fun _ hk => hk) trivial (oA) (Nat.le_trans (Nat.mul_le_mul_right _ (oA : (Ye.length : Int).toNat ≤ 35184372088832)) (by omega)) (Below.refl _ _) (Nat.le_refl _) ?_; intro v657 w11 ho12 hb hg_ hnew_; clear hg_ hnew_; (rw [← Ny656.1] at ho12); have Mu := hqZ (Kd.R_lower (Kd.R_new' ho12 (Kd.R_lt (UR.1))) (zb0 (HB.1))); replace UR := hqZ (Kd.R_elder' (UR.1) (Kd.R_base ho12) hb); replace Vy := hqZ (zd0 (g := jr) (Vy.1) hb); replace HB := hqZ (za0 (HB.1) hb); clear hb ho12))
 go_loopg [28] k (fun kq v28 w' => ∃ (Jt : List Int) (Jh : Int), v28 = .int .i64 Jh ∧ zg0 (yh0.l0 kq a1 l2 Jt Ye (Ye.length : Int) Jh J0 = some (r1, r2)) ∧ zg0 (kq ≤ k) ∧ zg0 (Kd.R (Kd.int .i64) 3 w' w.heap.size (fun k_ => some k_ ≠ ((.slice qD Ye.length Un) : Value).ownBlock) v657 Jt) ∧ zg0 (Kd.R (Kd.int .i64) 3 w' w.heap.size (fun k_ => some k_ ≠ (v657 : Value).ownBlock) (.slice qD Ye.length Un) Ye) ∧ zg0 (w'.heap[jr]? = some (.cells #[(.slice J4 J0.length J2)] 26 (0, 0))) ∧ zg0 (Below w.heap.size w w'))
 case atStart => exact ⟨(Mt), (0), (rfl), H', ⟨Nat.le_refl _⟩, ⟨Kd.R_mono Mu.1 (fun _ hk => hk.2)⟩, ⟨Kd.R_mono UR.1 (fun _ hk => hk.2)⟩, ⟨Vy.1⟩, ⟨HB.1⟩⟩
 case round =>
  clear H'
  try clear c2
  try clear p2
  try clear c5
  try clear c5b0
  try clear c5b1
  try clear c6
  try clear c6b0
  try clear c6b1
  try clear oD
  try clear Uq
  obtain ⟨Jt, Jh, rfl, HA, V8, Jj, JI, Vy, HB⟩ := hrel
  obtain _ | k1 := gk
  ·exact absurd HA.1 (by simp [yh0.l0])
  have H := HA.1
  clear HA
  simp only [yh0.l0] at H
  by_cases c13 : Jh < (Ye.length : Int)
  ·rw [if_pos c13] at H
   have c13b0 : decide (Jh < (Ye.length : Int)) = true := decide_eq_true c13
   clear c13
   by_cases c14 : 0 ≤ Jh
   rotate_left
   ·rw [if_neg c14] at H
    exact absurd H (by simp)
   rw [if_pos c14] at H
   have c14b0 : decide (0 ≤ Jh) = true := decide_eq_true c14
   clear c14
   by_cases c15 : Jh < (Ye.length : Int)
   rotate_left
   ·rw [if_neg c15] at H
    exact absurd H (by simp)
   rw [if_pos c15] at H
   have c15b0 : decide (Jh < (Ye.length : Int)) = true := decide_eq_true c15
   clear c15
   by_cases c16 : Jh < (Jt.length : Int)
   rotate_left
   ·rw [if_neg c16] at H
    exact absurd H (by simp)
   rw [if_pos c16] at H
   have c16b0 : decide (Jh < (Jt.length : Int)) = true := decide_eq_true c16
   clear c16
   obtain ⟨mw, hy660⟩ : ∃ y_ : List Int, y_ = (Jt.set (Jh : Int).toNat (wrap64 (2 * (rd Ye Jh)))) := ⟨_, rfl⟩
   replace H : (yh0.l0 k1 a1 l2 mw Ye (Ye.length : Int) (wrap64 (Jh + 1)) J0) = some (r1, r2) := by (rw [hy660]; with_reducible exact H)
   have Ny660 := hqZ hy660
   clear hy660
   have H' := hqZ H
   clear H
   have p659 : 0 ≤ (Jh : Int) := oA
   have q659 : Jh < (Ye.length : Int) := oA
   obtain ⟨ad659, e659, hx659_0⟩ := Kd.at_int (Kd.R_reads' JI.1).2.2 Jh p659 q659
   cases e659
   replace p659 := eq_true p659
   replace q659 := eq_true q659
   have p17 : 0 ≤ (Jh : Int) := oA
   have q17 : (Jh : Int) < ((Jt.length : Int) : Int) := oA
   obtain ⟨EB, US, eo17, Mv, gl17, cl17, HG17⟩ := Kd.R_form Jj.1 (by omega)
   (cases eo17)
   have GB17 := hqZ Mv
   have GG17 := hqZ HG17
   clear Mv gl17 HG17
   obtain ⟨hx17_0, hf17_0⟩ := Kd.R_celln 0 Jj.1 (Jh : Int) p17 q17
   replace p17 := eq_true p17
   replace q17 := eq_true q17
   have HP18 := Kd.R_putg Jj.1 (Jh : Int) (wrap64 (2 * (rd Ye Jh)))
   go_wp2_with (((with_reducible refine gate_store (t := 3) (p := 37) rfl ?_); refine store_event (t := 3) (p := 37) (v := ?vo_w19) (w1 := (wr.setCell ⟨EB, (Jh : Int).toNat, none⟩ (.int .i64 (wrap64 (2 * (rd Ye Jh)))))) ?hg ?ho ?hn ?hr ?_; (case ho => rfl); (case hg => rfl); (case hn => rfl); (case hr => go_simp); intro w19 hw; have hg : wr.grownBy w19 (some EB) := (by rw [hw]; exact HP18.2); have hp_ : Kd.R (Kd.int .i64) 3 w19 w.heap.size (fun k_ => some k_ ≠ (.slice (some ad659) Ye.length Un : Value).ownBlock) (.slice (some ⟨EB, 0, none⟩) Jt.length US) mw := (by rw [hw, Ny660.1]; exact HP18.1); clear HP18; replace JI := hqZ (Kd.R_after (v := (.slice (some ⟨EB, 0, none⟩) Jt.length US)) (v1 := (.slice (some ⟨EB, 0, none⟩) Jt.length US)) (ok := (fun _ => True)) (Kd.R_mono JI.1 (fun _ hk => ⟨trivial, hk⟩)) hg (.inl rfl)); replace Vy := hqZ (zl0 (g := jr) (Vy.1) hg (Kd.R_ne Jj.1 Vy.1 (by decide))); replace Jj := hqZ (hp_); replace HB := hqZ ((by rw [hw]; exact zm0 (HB.1) GB17.1 : Below w.heap.size w w19)); clear hg hw hp_))
   go_roundg k1
   case measure => have := V8.1; omega
   case rel => exact ⟨(mw), (wrap64 (Jh + 1)), (rfl), H', ⟨by have := V8.1; omega⟩, ⟨Jj.1⟩, ⟨Kd.R_mono JI.1 (fun _ hk => hk.2)⟩, ⟨Vy.1⟩, ⟨HB.1⟩⟩
  rw [if_neg c13] at H
  have c13b0 : decide (Jh < (Ye.length : Int)) = false := decide_eq_false c13
  clear c13
  replace H := Option.bind_eq_some_iff.mp H
  obtain ⟨⟨XN, Mw, Jh6⟩, A200, H⟩ := H
  try dsimp only at H
  have A20 := hqZ A200
  clear A200
  by_cases c21 : Jh6 = true
  rotate_left
  ·replace c21 := Bool.eq_false_iff.mpr c21
   subst c21
   rw [if_neg (show ¬ (false = true) by decide)] at H
   simp only [Option.some.injEq, Prod.mk.injEq] at H
   obtain ⟨rfl, rfl⟩ := H
   have jg : wr.cell? ⟨jr, 0, none⟩ = some (.slice J4 J0.length J2) := (zf0 Vy.1 0).trans rfl
   have jh := zc0 Vy.1 0
   obtain ⟨my, mz, eo46⟩ := Kd.R_slice Jj.1
   subst eo46
   go_wp2_with (((with_reducible refine ze0 (f := 31) rfl ?_); refine zM (some 43) Try.func31 #[.agg #[.slice J4 J0.length J2], .int .i64 a1, .slice my Jt.length mz] ?_; (with_reducible refine (yi0.calls k1 _ _ J0 a1 _ _ Jt XN Mw false _ ?side1 ?side2 ?side3 ?side4 A20.1).mono ?_); (case side1 => exact (Kd.C_below Ja.1 HB.1)); (case side2 => exact HC0_0.1); (case side3 => exact (Kd.R_reads' Jj.1).2.2); (case side4 => exact (Kd.R_reads' Jj.1).2.1); rintro e w47 ⟨v662, v665, rfl, ho0, ho1, hb⟩; refine ⟨_, rfl, ?_⟩; have UT := hqZ (Kd.R_lower (Kd.R_new' (Kd.R_new' ho0 (Kd.R_lt (Jj.1))) (Kd.R_lt (JI.1))) (zb0 (HB.1))); have dm := hqZ (Kd.R_lower (Kd.R_new' (Kd.R_new' ho1 (Kd.R_lt (Jj.1))) (Kd.R_lt (JI.1))) (zb0 (HB.1))); replace Jj := hqZ (Kd.R_mono (Kd.R_told (Kd.R_told (Kd.R_old (Jj.1) hb) (Kd.R_base ho0)) (Kd.R_base ho1)) (fun _ h_ => h_.1)); replace JI := hqZ (Kd.R_mono (Kd.R_told (Kd.R_told (Kd.R_old (JI.1) hb) (Kd.R_base ho0)) (Kd.R_base ho1)) (fun _ h_ => h_.1)); replace Vy := hqZ (zd0 (g := jr) (Vy.1) hb); replace HB := hqZ (za0 (HB.1) hb); clear hb ho0 ho1))
   go_ret2
   exact ⟨rfl, HB.1⟩
  subst c21
  rw [if_pos rfl] at H
  replace H := Option.bind_eq_some_iff.mp H
  obtain ⟨XM, A220, H⟩ := H
  try dsimp only at H
  have A22 := hqZ A220
  clear A220
  have H' := hqZ H
  clear H
  have Ul : wr.cell? ⟨jr, 0, none⟩ = some (.slice J4 J0.length J2) := (zf0 Vy.1 0).trans rfl
  have Um := zc0 Vy.1 0
  obtain ⟨EC, ED, eo24⟩ := Kd.R_slice Jj.1
  subst eo24
  go_wp2_with (first | ((with_reducible refine ze0 (f := 31) rfl ?_); refine zM (some 43) Try.func31 #[.agg #[.slice J4 J0.length J2], .int .i64 a1, .slice EC Jt.length ED] ?_; (with_reducible refine (yi0.calls k1 _ _ J0 a1 _ _ Jt XN Mw true _ ?side1 ?side2 ?side3 ?side4 A20.1).mono ?_); (case side1 => exact (Kd.C_below Ja.1 HB.1)); (case side2 => exact HC0_0.1); (case side3 => exact (Kd.R_reads' Jj.1).2.2); (case side4 => exact (Kd.R_reads' Jj.1).2.1); rintro e w25 ⟨v662, v665, rfl, ho0, ho1, hb⟩; refine ⟨_, rfl, ?_⟩; have UT := hqZ (Kd.R_lower (Kd.R_new' (Kd.R_new' ho0 (Kd.R_lt (Jj.1))) (Kd.R_lt (JI.1))) (zb0 (HB.1))); have dm := hqZ (Kd.R_lower (Kd.R_new' (Kd.R_new' ho1 (Kd.R_lt (Jj.1))) (Kd.R_lt (JI.1))) (zb0 (HB.1))); replace Jj := hqZ (Kd.R_mono (Kd.R_told (Kd.R_told (Kd.R_old (Jj.1) hb) (Kd.R_base ho0)) (Kd.R_base ho1)) (fun _ h_ => h_.1)); replace JI := hqZ (Kd.R_mono (Kd.R_told (Kd.R_told (Kd.R_old (JI.1) hb) (Kd.R_base ho0)) (Kd.R_base ho1)) (fun _ h_ => h_.1)); replace Vy := hqZ (zd0 (g := jr) (Vy.1) hb); replace HB := hqZ (za0 (HB.1) hb); clear hb ho0 ho1) | ((with_reducible refine ze0 (f := 42) rfl ?_); refine zM (some 50) Try.func42 #[.slice A2 l2.length c2] ?_; (with_reducible refine (yr1.calls _ _ l2 XM _ ?side1 ?side2 A22.1).mono ?_); (case side1 => exact (Kd.C_below jz.1 HB.1)); (case side2 => exact HC2.1); rintro e w26 ⟨v669, rfl, ho0, hb⟩; refine ⟨_, rfl, ?_⟩; have Dm := hqZ (Kd.R_lower (Kd.R_new' (Kd.R_new' (Kd.R_new' (Kd.R_new' ho0 (Kd.R_lt (Jj.1))) (Kd.R_lt (JI.1))) (Kd.R_lt (UT.1))) (Kd.R_lt (dm.1))) (zb0 (HB.1))); replace Jj := hqZ (Kd.R_elder' (Jj.1) (Kd.R_base ho0) hb); replace JI := hqZ (Kd.R_elder' (JI.1) (Kd.R_base ho0) hb); replace UT := hqZ (Kd.R_elder' (UT.1) (Kd.R_base ho0) hb); replace dm := hqZ (Kd.R_elder' (dm.1) (Kd.R_base ho0) hb); replace Vy := hqZ (zd0 (g := jr) (Vy.1) hb); replace HB := hqZ (za0 (HB.1) hb); clear hb ho0; obtain ⟨uh, ui, eo27⟩ := Kd.R_slice Dm.1; subst eo27))
  go_loopg [53] k1 (fun kq v53 w' => ∃ (Yh : List Int) (Jq : Int), v53 = .int .i64 Jq ∧ zg0 (yh0.l1 kq a1 l2 Jt XN Yh (XM.length : Int) Jq J0 = some (r1, r2)) ∧ zg0 (kq ≤ k1) ∧ zg0 (Kd.R (Kd.int .i64) 3 w' w.heap.size (fun k_ => some k_ ≠ (v662 : Value).ownBlock ∧ some k_ ≠ ((.slice uh XM.length ui) : Value).ownBlock) (.slice EC Jt.length ED) Jt) ∧ zg0 (Kd.R (Kd.int .i64) 3 w' w.heap.size (fun k_ => some k_ ≠ ((.slice EC Jt.length ED) : Value).ownBlock ∧ some k_ ≠ ((.slice uh XM.length ui) : Value).ownBlock) v662 XN) ∧ zg0 (Kd.R (Kd.int .i64) 3 w' w.heap.size (fun k_ => some k_ ≠ ((.slice EC Jt.length ED) : Value).ownBlock ∧ some k_ ≠ (v662 : Value).ownBlock) (.slice uh XM.length ui) Yh) ∧ zg0 (w'.heap[jr]? = some (.cells #[(.slice J4 J0.length J2)] 26 (0, 0))) ∧ zg0 (Below w.heap.size w w'))
  case atStart => exact ⟨(XM), (0), (rfl), H', ⟨Nat.le_refl _⟩, ⟨Kd.R_mono Jj.1 (fun _ hk => ⟨hk.1.1.2, hk.2⟩)⟩, ⟨Kd.R_mono UT.1 (fun _ hk => ⟨hk.1.1.2, hk.2⟩)⟩, ⟨Kd.R_mono Dm.1 (fun _ hk => ⟨hk.1.1.1.2, hk.1.2⟩)⟩, ⟨Vy.1⟩, ⟨HB.1⟩⟩
  case round =>
   clear H'
   try clear c1
   try clear p1
   try clear q1
   try clear hx1
   try clear c2
   try clear p2
   try clear c3
   try clear c4
   try clear c5
   try clear c5b0
   try clear c5b1
   try clear c6
   try clear c6b0
   try clear c6b1
   try clear p6
   try clear q6
   try clear hx6
   try clear c13
   try clear c13b0
   try clear c14
   try clear c14b0
   try clear c15
   try clear c15b0
   try clear c16
   try clear c16b0
   try clear p17
   try clear q17
   try clear hx17
   try clear hf17
   try clear c21
   try clear Ul
   try clear oD
   try clear Um
   try clear Uq
   try clear hx17_0
   try clear hx659_0
   try clear p17
   try clear p2
   try clear p659
   try clear q17
   try clear q659
   obtain ⟨Yh, Jq, rfl, HA, YO, Jj, V5, Vq, Vy, HB⟩ := hrel
   have hl15_2 := (Kd.R_reads' Vq.1).1
   rw [hl15_2] at Vq
   (try simp only [hl15_2])
   (try simp only [hl15_2] at Vy)
   (try simp only [hl15_2] at Jj)
   (try simp only [hl15_2] at V5)
   obtain _ | k2 := gk
   ·exact absurd HA.1 (by simp [yh0.l1])
   have H := HA.1
   clear HA
   simp only [yh0.l1] at H
   by_cases c28 : Jq < (XM.length : Int)
   rotate_left
   ·rw [if_neg c28] at H
    have c28b0 : decide (Jq < (XM.length : Int)) = false := decide_eq_false c28
    (try (have c28b0h := c28b0; simp only [hl15_2] at c28b0h))
    clear c28
    replace H := Option.bind_eq_some_iff.mp H
    obtain ⟨⟨mA, Mx, Jh7⟩, A370, H⟩ := H
    try dsimp only at H
    have A37 := hqZ A370
    clear A370
    by_cases c38 : Jh7 = true
    rotate_left
    ·replace c38 := Bool.eq_false_iff.mpr c38
     subst c38
     rw [if_neg (show ¬ (false = true) by decide)] at H
     simp only [Option.some.injEq, Prod.mk.injEq] at H
     obtain ⟨rfl, rfl⟩ := H
     have uP : wr.cell? ⟨jr, 0, none⟩ = some (.slice J4 J0.length J2) := (zf0 Vy.1 0).trans rfl
     have uQ := zc0 Vy.1 0
     go_wp2_with (((with_reducible refine ze0 (f := 31) rfl ?_); refine zM (some 76) Try.func31 #[.agg #[.slice J4 J0.length J2], .int .i64 a1, .slice uh Yh.length ui] ?_; (with_reducible refine (yi0.calls k2 _ _ J0 a1 _ _ Yh mA Mx false _ ?side1 ?side2 ?side3 ?side4 A37.1).mono ?_); (case side1 => exact (Kd.C_below Ja.1 HB.1)); (case side2 => exact HC0_0.1); (case side3 => exact (Kd.R_reads' Vq.1).2.2); (case side4 => exact (Kd.R_reads' Vq.1).2.1); rintro e w44 ⟨v676, v679, rfl, ho0, ho1, hb⟩; refine ⟨_, rfl, ?_⟩; have dn := hqZ (Kd.R_lower (Kd.R_new' (Kd.R_new' (Kd.R_new' ho0 (Kd.R_lt (Jj.1))) (Kd.R_lt (V5.1))) (Kd.R_lt (Vq.1))) (zb0 (HB.1))); have My := hqZ (Kd.R_lower (Kd.R_new' (Kd.R_new' (Kd.R_new' ho1 (Kd.R_lt (Jj.1))) (Kd.R_lt (V5.1))) (Kd.R_lt (Vq.1))) (zb0 (HB.1))); replace Jj := hqZ (Kd.R_mono (Kd.R_told (Kd.R_told (Kd.R_old (Jj.1) hb) (Kd.R_base ho0)) (Kd.R_base ho1)) (fun _ h_ => h_.1)); replace V5 := hqZ (Kd.R_mono (Kd.R_told (Kd.R_told (Kd.R_old (V5.1) hb) (Kd.R_base ho0)) (Kd.R_base ho1)) (fun _ h_ => h_.1)); replace Vq := hqZ (Kd.R_mono (Kd.R_told (Kd.R_told (Kd.R_old (Vq.1) hb) (Kd.R_base ho0)) (Kd.R_base ho1)) (fun _ h_ => h_.1)); replace Vy := hqZ (zd0 (g := jr) (Vy.1) hb); replace HB := hqZ (za0 (HB.1) hb); clear hb ho0 ho1))
     go_ret2
     exact ⟨rfl, HB.1⟩
    subst c38
    rw [if_pos rfl] at H
    replace H := Option.bind_eq_some_iff.mp H
    obtain ⟨mv, A390, H⟩ := H
    try dsimp only at H
    have A39 := hqZ A390
    clear A390
    simp only [Option.some.injEq, Prod.mk.injEq] at H
    obtain ⟨rfl, rfl⟩ := H
    have qT : wr.cell? ⟨jr, 0, none⟩ = some (.slice J4 J0.length J2) := (zf0 Vy.1 0).trans rfl
    have qU := zc0 Vy.1 0
    go_wp2_with (first | ((with_reducible refine ze0 (f := 31) rfl ?_); refine zM (some 76) Try.func31 #[.agg #[.slice J4 J0.length J2], .int .i64 a1, .slice uh Yh.length ui] ?_; (with_reducible refine (yi0.calls k2 _ _ J0 a1 _ _ Yh mA Mx true _ ?side1 ?side2 ?side3 ?side4 A37.1).mono ?_); (case side1 => exact (Kd.C_below Ja.1 HB.1)); (case side2 => exact HC0_0.1); (case side3 => exact (Kd.R_reads' Vq.1).2.2); (case side4 => exact (Kd.R_reads' Vq.1).2.1); rintro e w41 ⟨v676, v679, rfl, ho0, ho1, hb⟩; refine ⟨_, rfl, ?_⟩; have dn := hqZ (Kd.R_lower (Kd.R_new' (Kd.R_new' (Kd.R_new' ho0 (Kd.R_lt (Jj.1))) (Kd.R_lt (V5.1))) (Kd.R_lt (Vq.1))) (zb0 (HB.1))); have My := hqZ (Kd.R_lower (Kd.R_new' (Kd.R_new' (Kd.R_new' ho1 (Kd.R_lt (Jj.1))) (Kd.R_lt (V5.1))) (Kd.R_lt (Vq.1))) (zb0 (HB.1))); replace Jj := hqZ (Kd.R_mono (Kd.R_told (Kd.R_told (Kd.R_old (Jj.1) hb) (Kd.R_base ho0)) (Kd.R_base ho1)) (fun _ h_ => h_.1)); replace V5 := hqZ (Kd.R_mono (Kd.R_told (Kd.R_told (Kd.R_old (V5.1) hb) (Kd.R_base ho0)) (Kd.R_base ho1)) (fun _ h_ => h_.1)); replace Vq := hqZ (Kd.R_mono (Kd.R_told (Kd.R_told (Kd.R_old (Vq.1) hb) (Kd.R_base ho0)) (Kd.R_base ho1)) (fun _ h_ => h_.1)); replace Vy := hqZ (zd0 (g := jr) (Vy.1) hb); replace HB := hqZ (za0 (HB.1) hb); clear hb ho0 ho1; obtain ⟨dG, dH, eo42⟩ := Kd.R_slice dn.1; subst eo42) | (go_at_call 67; (with_reducible refine (yc1.calls k2 _ _ mA _ _ l2 mv _ ?side1 ?side2 ?side3 ?side4 A39.1).mono ?_); (case side1 => exact (Kd.R_reads' dn.1).2.2); (case side2 => exact (Kd.R_reads' dn.1).2.1); (case side3 => exact (Kd.C_below jz.1 HB.1)); (case side4 => exact HC2.1); rintro e w' ⟨rfl, ⟨nd, rfl⟩⟩))
    go_ret2
    exact ⟨rfl, hqB HB.1⟩
   rw [if_pos c28] at H
   have c28b0 : decide (Jq < (XM.length : Int)) = true := decide_eq_true c28
   (try (have c28b0h := c28b0; simp only [hl15_2] at c28b0h))
   clear c28
   by_cases c29 : 0 ≤ Jq
   rotate_left
   ·rw [if_neg c29] at H
    exact absurd H (by simp)
   rw [if_pos c29] at H
   have c29b0 : decide (0 ≤ Jq) = true := decide_eq_true c29
   (try (have c29b0h := c29b0; simp only [hl15_2] at c29b0h))
   clear c29
   by_cases c30 : Jq < (Yh.length : Int)
   rotate_left
   ·rw [if_neg c30] at H
    exact absurd H (by simp)
   rw [if_pos c30] at H
   have c30b0 : decide (Jq < (Yh.length : Int)) = true := decide_eq_true c30
   (try (have c30b0h := c30b0; simp only [hl15_2] at c30b0h))
   clear c30
   by_cases c31 : Jq < (Jt.length : Int)
   rotate_left
   ·rw [if_neg c31] at H
    exact absurd H (by simp)
   rw [if_pos c31] at H
   have c31b0 : decide (Jq < (Jt.length : Int)) = true := decide_eq_true c31
   (try (have c31b0h := c31b0; simp only [hl15_2] at c31b0h))
   clear c31
   by_cases c32 : Jq < (XN.length : Int)
   rotate_left
   ·rw [if_neg c32] at H
    exact absurd H (by simp)
   rw [if_pos c32] at H
   have c32b0 : decide (Jq < (XN.length : Int)) = true := decide_eq_true c32
   (try (have c32b0h := c32b0; simp only [hl15_2] at c32b0h))
   clear c32
   obtain ⟨Mz, hy674⟩ : ∃ y_ : List Int, y_ = (Yh.set (Jq : Int).toNat (wrap64 ((rd Yh Jq) + (wrap64 ((rd Jt Jq) - (rd XN Jq)))))) := ⟨_, rfl⟩
   replace H : (yh0.l1 k2 a1 l2 Jt XN Mz (XM.length : Int) (wrap64 (Jq + 1)) J0) = some (r1, r2) := by (rw [hy674]; with_reducible exact H)
   have Ny674 := hqZ hy674
   clear hy674
   have H' := hqZ H
   clear H
   try go_wp2
   have n0_ := hqZ (Kd.R_drew Jj.1)
   have n1_ := hqZ (Kd.R_drew V5.1)
   have n2_ := hqZ (Kd.R_drew Vq.1)
   have n3_ := hqZ (blk_drew Vy.1)
   have n4_ := hqZ (below_drew1 HB.1)
   clear Jj V5 Vq Vy HB
   have Jj := n0_
   have V5 := n1_
   have Vq := n2_
   have Vy := n3_
   have HB := n4_
   clear n0_ n1_ n2_ n3_ n4_
   have p671 : 0 ≤ (Jq : Int) := oA
   have q671 : Jq < (Yh.length : Int) := oA
   obtain ⟨ad671, e671, hx671_0⟩ := Kd.at_int (Kd.R_reads' Vq.1).2.2 Jq p671 q671
   cases e671
   replace p671 := eq_true p671
   replace q671 := eq_true q671
   have p672 : 0 ≤ (Jq : Int) := oA
   have q672 : Jq < (Jt.length : Int) := oA
   obtain ⟨ad672, e672, hx672_0⟩ := Kd.at_int (Kd.R_reads' Jj.1).2.2 Jq p672 q672
   cases e672
   replace p672 := eq_true p672
   replace q672 := eq_true q672
   obtain ⟨mB, UU, eo35⟩ := Kd.R_slice V5.1
   (subst eo35)
   have p673 : 0 ≤ (Jq : Int) := oA
   have q673 : Jq < (XN.length : Int) := oA
   obtain ⟨ad673, e673, hx673_0⟩ := Kd.at_int (Kd.R_reads' V5.1).2.2 Jq p673 q673
   cases e673
   replace p673 := eq_true p673
   replace q673 := eq_true q673
   have p33 : 0 ≤ (Jq : Int) := oA
   have q33 : (Jq : Int) < ((Yh.length : Int) : Int) := oA
   obtain ⟨XO, ob, eo33, EE, gl33, cl33, HG33⟩ := Kd.R_form Vq.1 (by omega)
   (cases eo33)
   have GB33 := hqZ EE
   have GG33 := hqZ HG33
   clear EE gl33 HG33
   (simp only [add_plain] at hx671_0)
   obtain ⟨hx33_0, hf33_0⟩ := Kd.R_celln 0 Vq.1 (Jq : Int) p33 q33
   replace p33 := eq_true p33
   replace q33 := eq_true q33
   have HP36 := Kd.R_putn Vq.1 (Jq : Int) (wrap64 ((rd Yh Jq) + (wrap64 ((rd Jt Jq) - (rd XN Jq)))))
   rw [← Ny674.1] at HP36
   have MA := hqZ HP36
   clear HP36
   refine start_ (n := 16) (S := fun w' => w'.cell? ⟨XO, (Jq).toNat, none⟩ = some (.int .i64 (rd Yh Jq)) ∧ w'.cell? (ad672.add (Jq).toNat) = some (.int .i64 (rd Jt Jq)) ∧ w'.cell? (ad673.add (Jq).toNat) = some (.int .i64 (rd XN Jq))) (ds := [15]) #[false, false, false, false, false, false, false, false, false, false, false, false, false, false, false, false] (by kernel_rfl) rfl rfl ⟨hx671_0, hx672_0, hx673_0⟩ (fun hHeld => ?_); refine with_tabW yh0.tab15 yh0.bits15 (fun HT_ HW_ => ?_)
   generalize wr.drew = w34 at Jj V5 Vq Vy HB GG33 MA hf33_0 hx33_0 hx671_0 hx672_0 hx673_0 hHeld ⊢
   refine pure_ (i := 0) (N := some 56) (v := ?_) (a' := ?_) (bf 16 1) rfl rfl (zt0 HT_.1 (by kernel_rfl)) (fun _ _ _ h => h) (Or.inl ⟨by rfl, ?_⟩) ?_ ?_
   rotate_left
   ·intro w'; go_simp; with_reducible rfl
   rotate_left
   ·simp only [Act.put, zA, zB, zC, i64_w, i32_w]; rfl
   refine pure_ (i := 1) (N := some 57) (v := ?_) (a' := ?_) (bf 16 3) rfl rfl (zt0 HT_.1 (by kernel_rfl)) (fun _ _ _ h => h) (Or.inl ⟨by rfl, ?_⟩) ?_ ?_
   rotate_left
   ·intro w'; go_simp; with_reducible rfl
   rotate_left
   ·simp only [Act.put, zA, zB, zC, i64_w, i32_w]; rfl
   refine pure_ (i := 2) (N := some 58) (v := ?_) (a' := ?_) (bf 16 7) rfl rfl (zt0 HT_.1 (by kernel_rfl)) (fun _ _ _ h => h) (Or.inl ⟨by rfl, ?_⟩) ?_ ?_
   rotate_left
   ·intro w'; go_simp; with_reducible rfl
   rotate_left
   ·simp only [Act.put, zA, zB, zC, i64_w, i32_w]; rfl
   refine pure_ (i := 4) (N := some 60) (v := ?_) (a' := ?_) (bf 16 23) rfl rfl (zt0 HT_.1 (by kernel_rfl)) (fun _ _ _ h => h) (Or.inl ⟨by rfl, ?_⟩) ?_ ?_
   rotate_left
   ·intro w'; go_simp; with_reducible rfl
   rotate_left
   ·simp only [Act.put, zA, zB, zC, i64_w, i32_w]; rfl
   refine pure_ (i := 5) (N := some 61) (v := ?_) (a' := ?_) (bf 16 55) rfl rfl (zt0 HT_.1 (by kernel_rfl)) (fun _ _ _ h => h) (Or.inl ⟨by rfl, ?_⟩) ?_ ?_
   rotate_left
   ·intro w'; go_simp; with_reducible rfl
   rotate_left
   ·simp only [Act.put, zA, zB, zC, i64_w, i32_w]; rfl
   refine pure_ (i := 6) (N := some 62) (v := ?_) (a' := ?_) (bf 16 119) rfl rfl (zt0 HT_.1 (by kernel_rfl)) (fun _ _ _ h => h) (Or.inl ⟨by rfl, ?_⟩) ?_ ?_
   rotate_left
   ·intro w'; go_simp; with_reducible rfl
   rotate_left
   ·simp only [Act.put, zA, zB, zC, i64_w, i32_w]; rfl
   refine pure_ (i := 8) (N := some 64) (v := ?_) (a' := ?_) (bf 16 375) rfl rfl (zt0 HT_.1 (by kernel_rfl)) (fun _ _ _ h => h) (Or.inl ⟨by rfl, ?_⟩) ?_ ?_
   rotate_left
   ·intro w'; go_simp; with_reducible rfl
   rotate_left
   ·simp only [Act.put, zA, zB, zC, i64_w, i32_w]; rfl
   refine pure_ (i := 9) (N := some 65) (v := ?_) (a' := ?_) (bf 16 887) rfl rfl (zt0 HT_.1 (by kernel_rfl)) (fun _ _ _ h => h) (Or.inl ⟨by rfl, ?_⟩) ?_ ?_
   rotate_left
   ·intro w'; go_simp; with_reducible rfl
   rotate_left
   ·simp only [Act.put, zA, zB, zC, i64_w, i32_w]; rfl
   refine pure_ (i := 10) (N := some 66) (v := ?_) (a' := ?_) (bf 16 1911) rfl rfl (zt0 HT_.1 (by kernel_rfl)) (fun _ _ _ h => h) (Or.inl ⟨by rfl, ?_⟩) ?_ ?_
   rotate_left
   ·intro w'; go_simp; with_reducible rfl
   rotate_left
   ·simp only [Act.put, zA, zB, zC, i64_w, i32_w]; rfl
   refine take_ (i := 3) (N := some 59) (v := ?_) (a' := ?_) (bf 16 1919) rfl rfl (take_ofW HT_.1 HW_.1 (by kernel_rfl)) (fun _ _ _ h => h) (Or.inl ⟨by rfl, ?_⟩) hHeld ?_ ?_
   rotate_left
   ·rintro w' ⟨s0, s1, s2⟩; go_simp; with_reducible rfl
   rotate_left
   ·simp only [Act.put, zA, zB, zC, i64_w, i32_w]; rfl
   refine take_ (i := 7) (N := some 63) (v := ?_) (a' := ?_) (bf 16 2047) rfl rfl (take_ofW HT_.1 HW_.1 (by kernel_rfl)) (fun _ _ _ h => h) (Or.inl ⟨by rfl, ?_⟩) hHeld ?_ ?_
   rotate_left
   ·rintro w' ⟨s0, s1, s2⟩; go_simp; with_reducible rfl
   rotate_left
   ·simp only [Act.put, zA, zB, zC, i64_w, i32_w]; rfl
   refine take_ (i := 11) (N := some 67) (v := ?_) (a' := ?_) (bf 16 4095) rfl rfl (take_ofW HT_.1 HW_.1 (by kernel_rfl)) (fun _ _ _ h => h) (Or.inl ⟨by rfl, ?_⟩) hHeld ?_ ?_
   rotate_left
   ·rintro w' ⟨s0, s1, s2⟩; go_simp; with_reducible rfl
   rotate_left
   ·simp only [Act.put, zA, zB, zC, i64_w, i32_w]; rfl
   refine pure_ (i := 12) (N := some 68) (v := ?_) (a' := ?_) (bf 16 8191) rfl rfl (zt0 HT_.1 (by kernel_rfl)) (fun _ _ _ h => h) (Or.inl ⟨by rfl, ?_⟩) ?_ ?_
   rotate_left
   ·intro w'; go_simp; with_reducible rfl
   rotate_left
   ·simp only [Act.put, zA, zB, zC, i64_w, i32_w]; rfl
   refine pure_ (i := 13) (N := some 69) (v := ?_) (a' := ?_) (bf 16 16383) rfl rfl (zt0 HT_.1 (by kernel_rfl)) (fun _ _ _ h => h) (Or.inl ⟨by rfl, ?_⟩) ?_ ?_
   rotate_left
   ·intro w'; go_simp; with_reducible rfl
   rotate_left
   ·simp only [Act.put, zA, zB, zC, i64_w, i32_w]; rfl
   refine pure_ (i := 14) (N := some 70) (v := ?_) (a' := ?_) (bf 16 32767) rfl rfl (zt0 HT_.1 (by kernel_rfl)) (fun _ _ _ h => h) (Or.inl ⟨by rfl, ?_⟩) ?_ ?_
   rotate_left
   ·intro w'; go_simp; with_reducible rfl
   rotate_left
   ·simp only [Act.put, zA, zB, zC, i64_w, i32_w]; rfl
   refine last_ (i := 15) (N := none) (bf 16 65535) rfl rfl (one_of HT_.1 (by kernel_rfl)) (by decide) (fun K hK => ?_)
   refine skip_ (w1 := ?_) (by rfl) rfl ?_ ?_
   rotate_left
   ·go_simp
    rfl
   refine hK.out _ _ ?_
   clear hK K
   refine done_ (done_of HT_.1 (by kernel_rfl)) ?_
   try go_wp2
   (try simp only [← hl15_2])
   go_roundg k2
   case measure => have := V8.1; have := YO.1; omega
   case rel => exact ⟨(Mz), (wrap64 (Jq + 1)), (rfl), H', ⟨by have := V8.1; have := YO.1; omega⟩, ⟨by (try simp only [hl15_2]); exact Kd.R_mono (Kd.R_far (p := ⟨XO, (Jq : Int).toNat, none⟩) (Kd.R_mono Jj.1 (fun k_ hk => (⟨hk, fun e_ => hk.2 (by rw [e_]; rfl)⟩ : _ ∧ k_ ≠ XO))) (fun _ hk => hk.2) (.int .i64 (wrap64 ((rd Yh Jq) + (wrap64 ((rd Jt Jq) - (rd XN Jq))))))) (fun _ hk => ⟨hk.1.1, hk.1.2⟩)⟩, ⟨by (try simp only [hl15_2]); exact Kd.R_mono (Kd.R_far (p := ⟨XO, (Jq : Int).toNat, none⟩) (Kd.R_mono V5.1 (fun k_ hk => (⟨hk, fun e_ => hk.2 (by rw [e_]; rfl)⟩ : _ ∧ k_ ≠ XO))) (fun _ hk => hk.2) (.int .i64 (wrap64 ((rd Yh Jq) + (wrap64 ((rd Jt Jq) - (rd XN Jq))))))) (fun _ hk => ⟨hk.1.1, hk.1.2⟩)⟩, ⟨by (try simp only [hl15_2]); exact MA.1⟩, ⟨by (try simp only [hl15_2]); refine blk_far ?_ (by have h_ := Kd.R_ne Vq.1 Vy.1 (by decide); intro e_; exact h_ (by rw [e_]; rfl)) _; exact Vy.1⟩, ⟨zm0 HB.1 GB33.1⟩⟩
mutual
def yf0.l0 : Nat → Int → List Int → Int → List Int → Int → Int → List (List Int) → Option (Int × Bool)
 | 0, _, _, _, _, _, _, _ => none
 | k + 1, x1, x6, x7, x25, X9, qm, jR => if qm < X9 then (if 0 ≤ qm then (if qm < (x25.length : Int) then (yf0.l0 k x1 x6 (wrap64 (x7 * (wrap64 ((rd x25 qm) + 1)))) x25 X9 (wrap64 (qm + 1)) jR) else (none)) else (none)) else (if x7 > 5000 then (some (0, false)) else (yf0.l1 k x1 x6 x7 0 0 jR))
def yf0.l1 : Nat → Int → List Int → Int → Int → Int → List (List Int) → Option (Int × Bool)
 | 0, _, _, _, _, _, _ => none
 | k + 1, x1, x6, x7, vq, YE, jR => if YE < x7 then (yf0.l2 k x1 x6 x7 vq YE YE ([] : List Int) x6 (x6.length : Int) 0 jR) else (some (vq, true))
def yf0.l2 : Nat → Int → List Int → Int → Int → Int → Int → List Int → List Int → Int → Int → List (List Int) → Option (Int × Bool)
 | 0, _, _, _, _, _, _, _, _, _, _, _ => none
 | k + 1, x1, x6, x7, vq, YE, YZ, jA, ql, mU, Zb, jR => if Zb < mU then (if 0 ≤ Zb then (if Zb < (ql.length : Int) then (if (wrap64 ((rd ql Zb) + 1)) = 0 then (none) else (if jA.length < 17592186044416 then (yf0.l2 k x1 x6 x7 vq YE (wrap64 (Int.tdiv YZ (wrap64 ((rd ql Zb) + 1)))) (jA ++ [Int.tmod YZ (wrap64 ((rd ql Zb) + 1))]) ql mU (wrap64 (Zb + 1)) jR) else (none))) else (none)) else (none)) else ((yh0.f k jR x1 jA).bind fun Dn => (if Dn.2 = true then (if Dn.1 = true then (yf0.l1 k x1 x6 x7 (wrap64 (vq + 1)) (wrap64 (YE + 1)) jR) else (yf0.l1 k x1 x6 x7 vq (wrap64 (YE + 1)) jR)) else (some (0, false))))
end
def yf0.f (k : Nat) (J0 : List (List Int)) (a1 : Int) : Option (Int × Bool) := (yh1.f k J0 a1).bind fun EF => (if EF = true then ((yo0.f k J0 a1).bind fun VG => (yf0.l0 k a1 VG 1 VG (VG.length : Int) 0 J0)) else (some (0, false)))
theorem yf0.mono_l : ∀ k, (∀ y0 y1 y2 y3 y4 y5 y6, LeO (yf0.l0 k y0 y1 y2 y3 y4 y5 y6) (yf0.l0 (k + 1) y0 y1 y2 y3 y4 y5 y6)) ∧ (∀ y0 y1 y2 y3 y4 y5, LeO (yf0.l1 k y0 y1 y2 y3 y4 y5) (yf0.l1 (k + 1) y0 y1 y2 y3 y4 y5)) ∧ (∀ y0 y1 y2 y3 y4 y5 y6 y7 y8 y9 y10, LeO (yf0.l2 k y0 y1 y2 y3 y4 y5 y6 y7 y8 y9 y10) (yf0.l2 (k + 1) y0 y1 y2 y3 y4 y5 y6 y7 y8 y9 y10))
 | 0 => ⟨fun _ _ _ _ _ _ _ r h => by simp [yf0.l0] at h, fun _ _ _ _ _ _ r h => by simp [yf0.l1] at h, fun _ _ _ _ _ _ _ _ _ _ _ r h => by simp [yf0.l2] at h⟩
 | k + 1 => by
  obtain ⟨ih0, ih1, ih2⟩ := yf0.mono_l k
  refine ⟨?_, ?_, ?_⟩
  ·intro y0 y1 y2 y3 y4 y5 y6
   unfold yf0.l0
   repeat' (with_reducible first | apply ih0 | apply ih1 | apply ih2 | apply yo0.mono | apply yh0.mono | apply yh1.mono | apply LeO.refl | apply LeO.none | refine LeO.ite ?_ ?_ | refine LeO.bind ?_ (fun _ => ?_))
  ·intro y0 y1 y2 y3 y4 y5
   unfold yf0.l1
   repeat' (with_reducible first | apply ih0 | apply ih1 | apply ih2 | apply yo0.mono | apply yh0.mono | apply yh1.mono | apply LeO.refl | apply LeO.none | refine LeO.ite ?_ ?_ | refine LeO.bind ?_ (fun _ => ?_))
  ·intro y0 y1 y2 y3 y4 y5 y6 y7 y8 y9 y10
   unfold yf0.l2
   repeat' (with_reducible first | apply ih0 | apply ih1 | apply ih2 | apply yo0.mono | apply yh0.mono | apply yh1.mono | apply LeO.refl | apply LeO.none | refine LeO.ite ?_ ?_ | refine LeO.bind ?_ (fun _ => ?_))
theorem yf0.mono : ∀ a0 a1 k, LeO (yf0.f k a0 a1) (yf0.f (k + 1) a0 a1) := by
 intro a0 a1 k
 obtain ⟨ih0, ih1, ih2⟩ := yf0.mono_l k
 unfold yf0.f
 repeat' (with_reducible first | apply ih0 | apply ih1 | apply ih2 | apply yo0.mono | apply yh0.mono | apply yh1.mono | apply LeO.refl | apply LeO.none | refine LeO.ite ?_ ?_ | refine LeO.bind ?_ (fun _ => ?_))
theorem yf0.calls (k : Nat) (J4 : Option Addr) (J2 : Nat) (J0 : List (List Int)) (a1 : Int) (r1 : Int) (r2 : Bool) (w : World) (hr0_0 : Kd.C (Kd.slice 3 (Kd.int .i64)) w J4 J0.length J0) (hc0_0 : J0.length ≤ J2) (h : yf0.f k J0 a1 = some (r1, r2)) :
  Calls Try.prog 20 #[.agg #[.slice J4 J0.length J2], .int .i64 a1] w fun e w' => e = .returned (.tuple #[.int .i64 r1, .bool r2]) ∧ Below w.heap.size w w' := by
 have hu26 := Try.underlying26
 have Ja := hqZ hr0_0
 have HC0_0 := hqZ hc0_0
 clear hr0_0 hc0_0
 have HB := hqZ (Below.refl w.heap.size w)
 have H : ((yh1.f k J0 a1).bind fun EF => (if EF = true then ((yo0.f k J0 a1).bind fun VG => (yf0.l0 k a1 VG 1 VG (VG.length : Int) 0 J0)) else (some (0, false)))) = some (r1, r2) := h
 clear h
 replace H := Option.bind_eq_some_iff.mp H
 obtain ⟨EF, A30, H⟩ := H
 try dsimp only at H
 have A3 := hqZ A30
 clear A30
 by_cases c4 : EF = true
 rotate_left
 ·replace c4 := Bool.eq_false_iff.mpr c4
  subst c4
  rw [if_neg (show ¬ (false = true) by decide)] at H
  simp only [Option.some.injEq, Prod.mk.injEq] at H
  obtain ⟨rfl, rfl⟩ := H
  go_enter Try.func20, Try.ntmps20
  go_wp2_with (first | ((with_reducible refine zi0 (N := 2) rfl ?_); refine zk0 ?hg (N := 2) ?hd (cs := #[.slice J4 J0.length J2]) (t := 26) ?hr ?_; (case hd | hg => rfl); (case hr => go_simp); intro YC hg w35 hbox hb; have Vz := hqZ (hbox); have MB := hqZ ((by rw [hg]; exact (zb0 (HB.1)) : w.heap.size ≤ YC)); have MC := hqZ ((by rw [hg]; exact (zb0 (HB.1)) : w.heap.size ≤ YC)); replace HB := hqZ (za0 (HB.1) hb); clear hb hbox hg; have NL : w35.cell? ⟨YC, 0, none⟩ = some (.slice J4 J0.length J2) := (zf0 Vz.1 0).trans rfl; have NM := zc0 Vz.1 0) | ((with_reducible refine ze0 (f := 50) rfl ?_); refine zM (some 20) Try.func50 #[.agg #[.slice J4 J0.length J2], .int .i64 a1] ?_; (with_reducible refine (yh1.calls k _ _ J0 a1 false _ ?side1 ?side2 A3.1).mono ?_); (case side1 => exact (Kd.C_below Ja.1 HB.1)); (case side2 => exact HC0_0.1); rintro e w37 ⟨rfl, hb⟩; refine ⟨_, rfl, ?_⟩; replace Vz := hqZ (zd0 (g := YC) (Vz.1) hb); replace HB := hqZ (za0 (HB.1) hb); clear hb))
  go_ret2
  exact ⟨rfl, HB.1⟩
 subst c4
 rw [if_pos rfl] at H
 replace H := Option.bind_eq_some_iff.mp H
 obtain ⟨VG, A50, H⟩ := H
 try dsimp only at H
 have A5 := hqZ A50
 clear A50
 have H' := hqZ H
 clear H
 go_enter Try.func20, Try.ntmps20
 go_wp2_with (first | ((with_reducible refine zi0 (N := 2) rfl ?_); refine zk0 ?hg (N := 2) ?hd (cs := #[.slice J4 J0.length J2]) (t := 26) ?hr ?_; (case hd | hg => rfl); (case hr => go_simp); intro YC hg w6 hbox hb; have Vz := hqZ (hbox); have MB := hqZ ((by rw [hg]; exact (zb0 (HB.1)) : w.heap.size ≤ YC)); have MC := hqZ ((by rw [hg]; exact (zb0 (HB.1)) : w.heap.size ≤ YC)); replace HB := hqZ (za0 (HB.1) hb); clear hb hbox hg; have jC : w6.cell? ⟨YC, 0, none⟩ = some (.slice J4 J0.length J2) := (zf0 Vz.1 0).trans rfl; have jD := zc0 Vz.1 0) | ((with_reducible refine ze0 (f := 50) rfl ?_); refine zM (some 20) Try.func50 #[.agg #[.slice J4 J0.length J2], .int .i64 a1] ?_; (with_reducible refine (yh1.calls k _ _ J0 a1 true _ ?side1 ?side2 A3.1).mono ?_); (case side1 => exact (Kd.C_below Ja.1 HB.1)); (case side2 => exact HC0_0.1); rintro e w8 ⟨rfl, hb⟩; refine ⟨_, rfl, ?_⟩; replace Vz := hqZ (zd0 (g := YC) (Vz.1) hb); replace HB := hqZ (za0 (HB.1) hb); clear hb; have jB : w8.cell? ⟨YC, 0, none⟩ = some (.slice J4 J0.length J2) := (zf0 Vz.1 0).trans rfl; have vm := zc0 Vz.1 0) | ((with_reducible refine ze0 (f := 51) rfl ?_); refine zM (some 24) Try.func51 #[.agg #[.slice J4 J0.length J2], .int .i64 a1] ?_; (with_reducible refine (yo0.calls k _ _ J0 a1 VG _ ?side1 ?side2 A5.1).mono ?_); (case side1 => exact (Kd.C_below Ja.1 HB.1)); (case side2 => exact HC0_0.1); rintro e w10 ⟨v686, rfl, ho0, hb⟩; refine ⟨_, rfl, ?_⟩; have EG := hqZ (Kd.R_lower ho0 (zb0 (HB.1))); replace Vz := hqZ (zd0 (g := YC) (Vz.1) hb); replace HB := hqZ (za0 (HB.1) hb); clear hb ho0; obtain ⟨j5, Yt, eo11⟩ := Kd.R_slice EG.1; subst eo11))
 go_loopg [7, 27] k (fun kq v7 v27 w' => ∃ (jm : Int) (vo : Int), v7 = .int .i64 jm ∧ v27 = .int .i64 vo ∧ zg0 (yf0.l0 kq a1 VG jm VG (VG.length : Int) vo J0 = some (r1, r2)) ∧ zg0 (kq ≤ k) ∧ zg0 (Kd.R (Kd.int .i64) 3 w' w.heap.size (fun _ => True) (.slice j5 VG.length Yt) VG) ∧ zg0 (Kd.R (Kd.int .i64) 3 w' w.heap.size (fun _ => True) (.slice j5 VG.length Yt) VG) ∧ zg0 (w'.heap[YC]? = some (.cells #[(.slice J4 J0.length J2)] 26 (0, 0))) ∧ zg0 (Below w.heap.size w w'))
 case atStart => exact ⟨(1), (0), (rfl), (rfl), H', ⟨Nat.le_refl _⟩, ⟨EG.1⟩, ⟨EG.1⟩, ⟨Vz.1⟩, ⟨HB.1⟩⟩
 case round =>
  clear H'
  try clear c2
  try clear p2
  try clear c4
  try clear c5
  try clear jC
  try clear jB
  try clear jD
  try clear vm
  obtain ⟨jm, vo, rfl, rfl, HA, V8, Jy, Do, Vz, HB⟩ := hrel
  obtain _ | k1 := gk
  ·exact absurd HA.1 (by simp [yf0.l0])
  have H := HA.1
  clear HA
  simp only [yf0.l0] at H
  by_cases c12 : vo < (VG.length : Int)
  ·rw [if_pos c12] at H
   have c12b0 : decide (vo < (VG.length : Int)) = true := decide_eq_true c12
   clear c12
   by_cases c13 : 0 ≤ vo
   rotate_left
   ·rw [if_neg c13] at H
    exact absurd H (by simp)
   rw [if_pos c13] at H
   have c13b0 : decide (0 ≤ vo) = true := decide_eq_true c13
   clear c13
   by_cases c14 : vo < (VG.length : Int)
   rotate_left
   ·rw [if_neg c14] at H
    exact absurd H (by simp)
   rw [if_pos c14] at H
   have c14b0 : decide (vo < (VG.length : Int)) = true := decide_eq_true c14
   clear c14
   have H' := hqZ H
   clear H
   have p688 : 0 ≤ (vo : Int) := oA
   have q688 : vo < (VG.length : Int) := oA
   obtain ⟨ad688, e688, hx688_0⟩ := Kd.at_int (Kd.R_reads' Do.1).2.2 vo p688 q688
   cases e688
   replace p688 := eq_true p688
   replace q688 := eq_true q688
   go_wp2
   go_roundg k1
   case measure => have := V8.1; omega
   case rel => exact ⟨(wrap64 (jm * (wrap64 ((rd VG vo) + 1)))), (wrap64 (vo + 1)), (rfl), (rfl), H', ⟨by have := V8.1; omega⟩, ⟨Jy.1⟩, ⟨Do.1⟩, ⟨Vz.1⟩, ⟨HB.1⟩⟩
  rw [if_neg c12] at H
  have c12b0 : decide (vo < (VG.length : Int)) = false := decide_eq_false c12
  clear c12
  by_cases c15 : jm > 5000
  ·rw [if_pos c15] at H
   have c15b0 : decide (5000 < jm) = true := decide_eq_true c15
   clear c15
   simp only [Option.some.injEq, Prod.mk.injEq] at H
   obtain ⟨rfl, rfl⟩ := H
   go_wp2
   go_ret2
   exact ⟨rfl, HB.1⟩
  rw [if_neg c15] at H
  have c15b0 : decide (5000 < jm) = false := decide_eq_false c15
  clear c15
  have H' := hqZ H
  clear H
  go_wp2
  go_loopg [10, 11] k1 (fun kq v10 v11 w' => ∃ (oU : Int) (uw : Int), v10 = .int .i64 oU ∧ v11 = .int .i64 uw ∧ zg0 (yf0.l1 kq a1 VG jm oU uw J0 = some (r1, r2)) ∧ zg0 (kq ≤ k1) ∧ zg0 (Kd.R (Kd.int .i64) 3 w' w.heap.size (fun _ => True) (.slice j5 VG.length Yt) VG) ∧ zg0 (w'.heap[YC]? = some (.cells #[(.slice J4 J0.length J2)] 26 (0, 0))) ∧ zg0 (Below w.heap.size w w'))
  case atStart => exact ⟨(0), (0), (rfl), (rfl), H', ⟨Nat.le_refl _⟩, ⟨Jy.1⟩, ⟨Vz.1⟩, ⟨HB.1⟩⟩
  case round =>
   clear H'
   try clear c1
   try clear c2
   try clear p2
   try clear c4
   try clear c5
   try clear p6
   try clear q6
   try clear hx6
   try clear c12
   try clear c12b0
   try clear c13
   try clear c13b0
   try clear c14
   try clear c14b0
   try clear c15
   try clear c15b0
   try clear jC
   try clear jB
   try clear jD
   try clear vm
   try clear hx688_0
   try clear p2
   try clear p688
   try clear q688
   obtain ⟨oU, uw, rfl, rfl, HA, YO, Jy, Vz, HB⟩ := hrel
   obtain _ | k2 := gk
   ·exact absurd HA.1 (by simp [yf0.l1])
   have H := HA.1
   clear HA
   simp only [yf0.l1] at H
   by_cases c16 : uw < jm
   rotate_left
   ·rw [if_neg c16] at H
    have c16b0 : decide (uw < jm) = false := decide_eq_false c16
    clear c16
    simp only [Option.some.injEq, Prod.mk.injEq] at H
    obtain ⟨rfl, rfl⟩ := H
    go_wp2
    go_ret2
    exact ⟨rfl, HB.1⟩
   rw [if_pos c16] at H
   have c16b0 : decide (uw < jm) = true := decide_eq_true c16
   clear c16
   have H' := hqZ H
   clear H
   go_wp2
   go_loopg [12, 13, 46] k2 (fun kq v12 v13 v46 w' => ∃ (XZ : Int) (ub : List Int) (Ym : Int), v12 = .int .i64 XZ ∧ v46 = .int .i64 Ym ∧ zg0 (yf0.l2 kq a1 VG jm oU uw XZ ub VG (VG.length : Int) Ym J0 = some (r1, r2)) ∧ zg0 (kq ≤ k2) ∧ zg0 (Kd.R (Kd.int .i64) 3 w' w.heap.size (fun k_ => some k_ ≠ (v13 : Value).ownBlock) (.slice j5 VG.length Yt) VG) ∧ zg0 (Kd.R (Kd.int .i64) 3 w' w.heap.size (fun k_ => some k_ ≠ ((.slice j5 VG.length Yt) : Value).ownBlock ∧ some k_ ≠ ((.slice j5 VG.length Yt) : Value).ownBlock) v13 ub) ∧ zg0 (Kd.R (Kd.int .i64) 3 w' w.heap.size (fun k_ => some k_ ≠ (v13 : Value).ownBlock) (.slice j5 VG.length Yt) VG) ∧ zg0 (w'.heap[YC]? = some (.cells #[(.slice J4 J0.length J2)] 26 (0, 0))) ∧ zg0 (Below w.heap.size w w'))
   case atStart => exact ⟨(uw), (([] : List Int)), (0), (rfl), (rfl), H', ⟨Nat.le_refl _⟩, ⟨Kd.R_mono Jy.1 (fun _ hk => (by simp [Value.ownBlock]))⟩, ⟨by exact Kd.R_nil _ _ _ _ _⟩, ⟨Kd.R_mono Jy.1 (fun _ hk => (by simp [Value.ownBlock]))⟩, ⟨Vz.1⟩, ⟨HB.1⟩⟩
   case round =>
    clear H'
    try clear c1
    try clear c2
    try clear p2
    try clear c4
    try clear c5
    try clear p6
    try clear q6
    try clear hx6
    try clear c12
    try clear c12b0
    try clear c13
    try clear c13b0
    try clear c14
    try clear c14b0
    try clear c15
    try clear c15b0
    try clear c16
    try clear c16b0
    try clear jC
    try clear jB
    try clear jD
    try clear vm
    try clear hx688_0
    try clear p2
    try clear p6
    try clear p688
    try clear q6
    try clear q688
    obtain ⟨XZ, ub, Ym, rfl, rfl, HA, Ux, Jy, j9, uc, Vz, HB⟩ := hrel
    obtain _ | k3 := gk
    ·exact absurd HA.1 (by simp [yf0.l2])
    have H := HA.1
    clear HA
    simp only [yf0.l2] at H
    by_cases c17 : Ym < (VG.length : Int)
    ·rw [if_pos c17] at H
     have c17b0 : decide (Ym < (VG.length : Int)) = true := decide_eq_true c17
     clear c17
     by_cases c18 : 0 ≤ Ym
     rotate_left
     ·rw [if_neg c18] at H
      exact absurd H (by simp)
     rw [if_pos c18] at H
     have c18b0 : decide (0 ≤ Ym) = true := decide_eq_true c18
     clear c18
     by_cases c19 : Ym < (VG.length : Int)
     rotate_left
     ·rw [if_neg c19] at H
      exact absurd H (by simp)
     rw [if_pos c19] at H
     have c19b0 : decide (Ym < (VG.length : Int)) = true := decide_eq_true c19
     clear c19
     by_cases c20 : (wrap64 ((rd VG Ym) + 1)) = 0
     ·rw [if_pos c20] at H
      exact absurd H (by simp)
     rw [if_neg c20] at H
     have c20b0 : ((wrap64 ((rd VG Ym) + 1)) == 0) = false := beq_eq_false_iff_ne.mpr c20
     have c20b1 : ((wrap64 ((rd VG Ym) + 1)) != 0) = true := bne_iff_ne.mpr c20
     by_cases c21 : ub.length < 17592186044416
     rotate_left
     ·rw [if_neg c21] at H
      exact absurd H (by simp)
     rw [if_pos c21] at H
     have LMc21 := hqZ c21
     clear c21
     obtain ⟨MD, hy690⟩ : ∃ y_ : List Int, y_ = (ub ++ [Int.tmod XZ (wrap64 ((rd VG Ym) + 1))]) := ⟨_, rfl⟩
     replace H : (yf0.l2 k3 a1 VG jm oU uw (wrap64 (Int.tdiv XZ (wrap64 ((rd VG Ym) + 1)))) MD VG (VG.length : Int) (wrap64 (Ym + 1)) J0) = some (r1, r2) := by (rw [hy690]; with_reducible exact H)
     have Ny690 := hqZ hy690
     clear hy690
     have H' := hqZ H
     clear H
     have p689 : 0 ≤ (Ym : Int) := oA
     have q689 : Ym < (VG.length : Int) := oA
     obtain ⟨ad689, e689, hx689_0⟩ := Kd.at_int (Kd.R_reads' uc.1).2.2 Ym p689 q689
     cases e689
     replace p689 := eq_true p689
     replace q689 := eq_true q689
     go_wp2_with (((with_reducible refine zu0 (b := .append) (xs := #[.tmp 50, .tmp 55]) rfl ?_); at_builtin; refine Kd.R_append (Kd.int .i64) (w0 := w) w.heap.size rfl (.tmp 50) (.tmp 55) 27 3 (.int .i64 0) 8 rfl Try.underlying27 info3 rfl (by decide) (by omega) u13 ub (Int.tmod XZ (wrap64 ((rd VG Ym) + 1))) [.int .i64 (Int.tmod XZ (wrap64 ((rd VG Ym) + 1)))] (fun k_ => some k_ ≠ (.slice (some ad689) VG.length Yt : Value).ownBlock ∧ some k_ ≠ (.slice (some ad689) VG.length Yt : Value).ownBlock) (fun _ => False) rfl rfl ?aP (fun _ hk => hk.elim) ?aF ?aO ?aB ?aS ?aL ?_; (case aP => exact rfl); (case aB => exact (HB.1)); (case aF => exact (fun k_ hk => ⟨Kd.fresh' (Kd.R_lt (Jy.1)) k_ hk, Kd.fresh' (Kd.R_lt (uc.1)) k_ hk⟩)); (case aO => exact (by (with_reducible repeat (first | apply Kd.R_alloc | apply Kd.R_drewN | apply Kd.R_drew)); exact j9.1)); (case aS => exact (zb0 (HB.1))); (case aL => have := LMc21.1; omega); intro v691 w22 ho hb hg hat; rw [← Ny690.1] at ho; have n0_ := hqZ (Kd.R_after (ok := (fun _ => True)) (Kd.R_mono Jy.1 (fun _ hk => ⟨trivial, hk⟩)) hg hat); have n1_ := hqZ (Kd.R_after (ok := (fun _ => True)) (Kd.R_mono uc.1 (fun _ hk => ⟨trivial, hk⟩)) hg hat); have n2_ := hqZ (zl0 (g := YC) (Vz.1) hg (Kd.R_ne j9.1 Vz.1 (by decide))); have n3_ := hqZ (hb); have n4_ := hqZ (ho); clear Jy; clear uc; clear Vz; clear HB; clear j9; have Jy := n0_; have uc := n1_; have Vz := n2_; have HB := n3_; have ME := n4_; clear n0_ n1_ n2_ n3_ n4_; clear ho hb hg hat))
     go_roundg k3
     case measure => have := V8.1; have := YO.1; have := Ux.1; omega
     case rel => exact ⟨(wrap64 (Int.tdiv XZ (wrap64 ((rd VG Ym) + 1)))), (MD), (wrap64 (Ym + 1)), (rfl), (rfl), H', ⟨by have := V8.1; have := YO.1; have := Ux.1; omega⟩, ⟨Kd.R_mono Jy.1 (fun _ hk => hk.2)⟩, ⟨ME.1⟩, ⟨Kd.R_mono uc.1 (fun _ hk => hk.2)⟩, ⟨Vz.1⟩, ⟨HB.1⟩⟩
    rw [if_neg c17] at H
    have c17b0 : decide (Ym < (VG.length : Int)) = false := decide_eq_false c17
    clear c17
    replace H := Option.bind_eq_some_iff.mp H
    obtain ⟨⟨MF, Jh9⟩, A230, H⟩ := H
    try dsimp only at H
    have A23 := hqZ A230
    clear A230
    by_cases c24 : Jh9 = true
    rotate_left
    ·replace c24 := Bool.eq_false_iff.mpr c24
     subst c24
     rw [if_neg (show ¬ (false = true) by decide)] at H
     simp only [Option.some.injEq, Prod.mk.injEq] at H
     obtain ⟨rfl, rfl⟩ := H
     have ZL : wr.cell? ⟨YC, 0, none⟩ = some (.slice J4 J0.length J2) := (zf0 Vz.1 0).trans rfl
     have ZM := zc0 Vz.1 0
     obtain ⟨U3, ob, eo33⟩ := Kd.R_slice j9.1
     subst eo33
     go_wp2_with (((with_reducible refine ze0 (f := 52) rfl ?_); refine zM (some 66) Try.func52 #[.agg #[.slice J4 J0.length J2], .int .i64 a1, .slice U3 ub.length ob] ?_; (with_reducible refine (yh0.calls k3 _ _ J0 a1 _ _ ub MF false _ ?side1 ?side2 ?side3 ?side4 A23.1).mono ?_); (case side1 => exact (Kd.C_below Ja.1 HB.1)); (case side2 => exact HC0_0.1); (case side3 => exact (Kd.R_reads' j9.1).2.2); (case side4 => exact (Kd.R_reads' j9.1).2.1); rintro e w34 ⟨rfl, hb⟩; refine ⟨_, rfl, ?_⟩; replace Jy := hqZ (Kd.R_below (Jy.1) hb); replace j9 := hqZ (Kd.R_below (j9.1) hb); replace uc := hqZ (Kd.R_below (uc.1) hb); replace Vz := hqZ (zd0 (g := YC) (Vz.1) hb); replace HB := hqZ (za0 (HB.1) hb); clear hb))
     go_ret2
     exact ⟨rfl, HB.1⟩
    subst c24
    rw [if_pos rfl] at H
    by_cases c25 : MF = true
    ·subst c25
     rw [if_pos rfl] at H
     have H' := hqZ H
     clear H
     have ZJ : wr.cell? ⟨YC, 0, none⟩ = some (.slice J4 J0.length J2) := (zf0 Vz.1 0).trans rfl
     have ZK := zc0 Vz.1 0
     obtain ⟨uh, ui, eo27⟩ := Kd.R_slice j9.1
     subst eo27
     go_wp2_with (((with_reducible refine ze0 (f := 52) rfl ?_); refine zM (some 66) Try.func52 #[.agg #[.slice J4 J0.length J2], .int .i64 a1, .slice uh ub.length ui] ?_; (with_reducible refine (yh0.calls k3 _ _ J0 a1 _ _ ub true true _ ?side1 ?side2 ?side3 ?side4 A23.1).mono ?_); (case side1 => exact (Kd.C_below Ja.1 HB.1)); (case side2 => exact HC0_0.1); (case side3 => exact (Kd.R_reads' j9.1).2.2); (case side4 => exact (Kd.R_reads' j9.1).2.1); rintro e w28 ⟨rfl, hb⟩; refine ⟨_, rfl, ?_⟩; replace Jy := hqZ (Kd.R_below (Jy.1) hb); replace j9 := hqZ (Kd.R_below (j9.1) hb); replace uc := hqZ (Kd.R_below (uc.1) hb); replace Vz := hqZ (zd0 (g := YC) (Vz.1) hb); replace HB := hqZ (za0 (HB.1) hb); clear hb))
     go_roundg k3
     case measure => have := V8.1; have := YO.1; have := Ux.1; omega
     case rel => exact ⟨(wrap64 (oU + 1)), (wrap64 (uw + 1)), (rfl), (rfl), H', ⟨by have := V8.1; have := YO.1; have := Ux.1; omega⟩, ⟨Kd.R_mono Jy.1 (fun _ hk => trivial)⟩, ⟨Vz.1⟩, ⟨HB.1⟩⟩
    replace c25 := Bool.eq_false_iff.mpr c25
    subst c25
    rw [if_neg (show ¬ (false = true) by decide)] at H
    have H' := hqZ H
    clear H
    have qN : wr.cell? ⟨YC, 0, none⟩ = some (.slice J4 J0.length J2) := (zf0 Vz.1 0).trans rfl
    have qO := zc0 Vz.1 0
    obtain ⟨mC, EH, eo30⟩ := Kd.R_slice j9.1
    subst eo30
    go_wp2_with (((with_reducible refine ze0 (f := 52) rfl ?_); refine zM (some 66) Try.func52 #[.agg #[.slice J4 J0.length J2], .int .i64 a1, .slice mC ub.length EH] ?_; (with_reducible refine (yh0.calls k3 _ _ J0 a1 _ _ ub false true _ ?side1 ?side2 ?side3 ?side4 A23.1).mono ?_); (case side1 => exact (Kd.C_below Ja.1 HB.1)); (case side2 => exact HC0_0.1); (case side3 => exact (Kd.R_reads' j9.1).2.2); (case side4 => exact (Kd.R_reads' j9.1).2.1); rintro e w31 ⟨rfl, hb⟩; refine ⟨_, rfl, ?_⟩; replace Jy := hqZ (Kd.R_below (Jy.1) hb); replace j9 := hqZ (Kd.R_below (j9.1) hb); replace uc := hqZ (Kd.R_below (uc.1) hb); replace Vz := hqZ (zd0 (g := YC) (Vz.1) hb); replace HB := hqZ (za0 (HB.1) hb); clear hb))
    go_roundg k3
    case measure => have := V8.1; have := YO.1; have := Ux.1; omega
    case rel => exact ⟨(oU), (wrap64 (uw + 1)), (rfl), (rfl), H', ⟨by have := V8.1; have := YO.1; have := Ux.1; omega⟩, ⟨Kd.R_mono Jy.1 (fun _ hk => trivial)⟩, ⟨Vz.1⟩, ⟨HB.1⟩⟩
def yi1.f (k : Nat) (J0 : List (List Int)) (a1 : Int) : Option (List Int × Bool) := (yj1.f k J0 a1).bind fun EI => (if EI = true then ((yp0.f k J0 a1).bind fun EJ => (some (EJ, true))) else (some (([] : List Int), false)))
theorem yi1.mono : ∀ a0 a1 k, LeO (yi1.f k a0 a1) (yi1.f (k + 1) a0 a1) := by
 intro a0 a1 k
 unfold yi1.f
 repeat' (with_reducible first | apply yp0.mono | apply yj1.mono | apply LeO.refl | apply LeO.none | refine LeO.ite ?_ ?_ | refine LeO.bind ?_ (fun _ => ?_))
theorem yi1.calls (k : Nat) (J4 : Option Addr) (J2 : Nat) (J0 : List (List Int)) (a1 : Int) (r1 : List Int) (r2 : Bool) (w : World) (hr0_0 : Kd.C (Kd.slice 3 (Kd.int .i64)) w J4 J0.length J0) (hc0_0 : J0.length ≤ J2) (h : yi1.f k J0 a1 = some (r1, r2)) :
  Calls Try.prog 21 #[.agg #[.slice J4 J0.length J2], .int .i64 a1] w fun e w' => ∃ v0_ : Value, e = .returned (.tuple #[v0_, .bool r2]) ∧ Kd.R (Kd.int .i64) 3 w' w.heap.size (fun _ => True) v0_ r1 ∧ Below w.heap.size w w' := by
 have hu26 := Try.underlying26
 have Ja := hqZ hr0_0
 have HC0_0 := hqZ hc0_0
 clear hr0_0 hc0_0
 have HB := hqZ (Below.refl w.heap.size w)
 have H : ((yj1.f k J0 a1).bind fun EI => (if EI = true then ((yp0.f k J0 a1).bind fun EJ => (some (EJ, true))) else (some (([] : List Int), false)))) = some (r1, r2) := h
 clear h
 replace H := Option.bind_eq_some_iff.mp H
 obtain ⟨EI, A30, H⟩ := H
 try dsimp only at H
 have A3 := hqZ A30
 clear A30
 by_cases c4 : EI = true
 rotate_left
 ·replace c4 := Bool.eq_false_iff.mpr c4
  subst c4
  rw [if_neg (show ¬ (false = true) by decide)] at H
  simp only [Option.some.injEq, Prod.mk.injEq] at H
  obtain ⟨rfl, rfl⟩ := H
  go_enter Try.func21, Try.ntmps21
  go_wp2_with (first | ((with_reducible refine zi0 (N := 2) rfl ?_); refine zk0 ?hg (N := 2) ?hd (cs := #[.slice J4 J0.length J2]) (t := 26) ?hr ?_; (case hd | hg => rfl); (case hr => go_simp); intro ux hg w11 hbox hb; have vO := hqZ (hbox); have MG := hqZ ((by rw [hg]; exact (zb0 (HB.1)) : w.heap.size ≤ ux)); have MH := hqZ ((by rw [hg]; exact (zb0 (HB.1)) : w.heap.size ≤ ux)); replace HB := hqZ (za0 (HB.1) hb); clear hb hbox hg; have jj : w11.cell? ⟨ux, 0, none⟩ = some (.slice J4 J0.length J2) := (zf0 vO.1 0).trans rfl; have jk := zc0 vO.1 0) | ((with_reducible refine ze0 (f := 46) rfl ?_); refine zM (some 8) Try.func46 #[.agg #[.slice J4 J0.length J2], .int .i64 a1] ?_; (with_reducible refine (yj1.calls k _ _ J0 a1 false _ ?side1 ?side2 A3.1).mono ?_); (case side1 => exact (Kd.C_below Ja.1 HB.1)); (case side2 => exact HC0_0.1); rintro e w13 ⟨rfl, hb⟩; refine ⟨_, rfl, ?_⟩; replace vO := hqZ (zd0 (g := ux) (vO.1) hb); replace HB := hqZ (za0 (HB.1) hb); clear hb))
  go_ret2
  exact ⟨_, rfl, by exact Kd.R_nil _ _ _ _ _, HB.1⟩
 subst c4
 rw [if_pos rfl] at H
 replace H := Option.bind_eq_some_iff.mp H
 obtain ⟨EJ, A50, H⟩ := H
 try dsimp only at H
 have A5 := hqZ A50
 clear A50
 simp only [Option.some.injEq, Prod.mk.injEq] at H
 obtain ⟨rfl, rfl⟩ := H
 go_enter Try.func21, Try.ntmps21
 go_wp2_with (first | ((with_reducible refine zi0 (N := 2) rfl ?_); refine zk0 ?hg (N := 2) ?hd (cs := #[.slice J4 J0.length J2]) (t := 26) ?hr ?_; (case hd | hg => rfl); (case hr => go_simp); intro ux hg w6 hbox hb; have vO := hqZ (hbox); have MG := hqZ ((by rw [hg]; exact (zb0 (HB.1)) : w.heap.size ≤ ux)); have MH := hqZ ((by rw [hg]; exact (zb0 (HB.1)) : w.heap.size ≤ ux)); replace HB := hqZ (za0 (HB.1) hb); clear hb hbox hg; have jC : w6.cell? ⟨ux, 0, none⟩ = some (.slice J4 J0.length J2) := (zf0 vO.1 0).trans rfl; have jD := zc0 vO.1 0) | ((with_reducible refine ze0 (f := 46) rfl ?_); refine zM (some 8) Try.func46 #[.agg #[.slice J4 J0.length J2], .int .i64 a1] ?_; (with_reducible refine (yj1.calls k _ _ J0 a1 true _ ?side1 ?side2 A3.1).mono ?_); (case side1 => exact (Kd.C_below Ja.1 HB.1)); (case side2 => exact HC0_0.1); rintro e w8 ⟨rfl, hb⟩; refine ⟨_, rfl, ?_⟩; replace vO := hqZ (zd0 (g := ux) (vO.1) hb); replace HB := hqZ (za0 (HB.1) hb); clear hb; have jB : w8.cell? ⟨ux, 0, none⟩ = some (.slice J4 J0.length J2) := (zf0 vO.1 0).trans rfl; have vm := zc0 vO.1 0) | ((with_reducible refine ze0 (f := 47) rfl ?_); refine zM (some 12) Try.func47 #[.agg #[.slice J4 J0.length J2], .int .i64 a1] ?_; (with_reducible refine (yp0.calls k _ _ J0 a1 EJ _ ?side1 ?side2 A5.1).mono ?_); (case side1 => exact (Kd.C_below Ja.1 HB.1)); (case side2 => exact HC0_0.1); rintro e w10 ⟨v698, rfl, ho0, hb⟩; refine ⟨_, rfl, ?_⟩; have MI := hqZ (Kd.R_lower ho0 (zb0 (HB.1))); replace vO := hqZ (zd0 (g := ux) (vO.1) hb); replace HB := hqZ (za0 (HB.1) hb); clear hb ho0))
 go_ret2
 exact ⟨_, rfl, MI.1, HB.1⟩
def yk1.f (k : Nat) (J0 : List (List Int)) (a1 : Int) : Option (List Int × Bool) := (yh1.f k J0 a1).bind fun EK => (if EK = true then ((yo0.f k J0 a1).bind fun EL => (some (EL, true))) else (some (([] : List Int), false)))
theorem yk1.mono : ∀ a0 a1 k, LeO (yk1.f k a0 a1) (yk1.f (k + 1) a0 a1) := by
 intro a0 a1 k
 unfold yk1.f
 repeat' (with_reducible first | apply yo0.mono | apply yh1.mono | apply LeO.refl | apply LeO.none | refine LeO.ite ?_ ?_ | refine LeO.bind ?_ (fun _ => ?_))
theorem yk1.calls (k : Nat) (J4 : Option Addr) (J2 : Nat) (J0 : List (List Int)) (a1 : Int) (r1 : List Int) (r2 : Bool) (w : World) (hr0_0 : Kd.C (Kd.slice 3 (Kd.int .i64)) w J4 J0.length J0) (hc0_0 : J0.length ≤ J2) (h : yk1.f k J0 a1 = some (r1, r2)) :
  Calls Try.prog 22 #[.agg #[.slice J4 J0.length J2], .int .i64 a1] w fun e w' => ∃ v0_ : Value, e = .returned (.tuple #[v0_, .bool r2]) ∧ Kd.R (Kd.int .i64) 3 w' w.heap.size (fun _ => True) v0_ r1 ∧ Below w.heap.size w w' := by
 have hu26 := Try.underlying26
 have Ja := hqZ hr0_0
 have HC0_0 := hqZ hc0_0
 clear hr0_0 hc0_0
 have HB := hqZ (Below.refl w.heap.size w)
 have H : ((yh1.f k J0 a1).bind fun EK => (if EK = true then ((yo0.f k J0 a1).bind fun EL => (some (EL, true))) else (some (([] : List Int), false)))) = some (r1, r2) := h
 clear h
 replace H := Option.bind_eq_some_iff.mp H
 obtain ⟨EK, A30, H⟩ := H
 try dsimp only at H
 have A3 := hqZ A30
 clear A30
 by_cases c4 : EK = true
 rotate_left
 ·replace c4 := Bool.eq_false_iff.mpr c4
  subst c4
  rw [if_neg (show ¬ (false = true) by decide)] at H
  simp only [Option.some.injEq, Prod.mk.injEq] at H
  obtain ⟨rfl, rfl⟩ := H
  go_enter Try.func22, Try.ntmps22
  go_wp2_with (first | ((with_reducible refine zi0 (N := 2) rfl ?_); refine zk0 ?hg (N := 2) ?hd (cs := #[.slice J4 J0.length J2]) (t := 26) ?hr ?_; (case hd | hg => rfl); (case hr => go_simp); intro uy hg w11 hbox hb; have vP := hqZ (hbox); have MJ := hqZ ((by rw [hg]; exact (zb0 (HB.1)) : w.heap.size ≤ uy)); have MK := hqZ ((by rw [hg]; exact (zb0 (HB.1)) : w.heap.size ≤ uy)); replace HB := hqZ (za0 (HB.1) hb); clear hb hbox hg; have jj : w11.cell? ⟨uy, 0, none⟩ = some (.slice J4 J0.length J2) := (zf0 vP.1 0).trans rfl; have jk := zc0 vP.1 0) | ((with_reducible refine ze0 (f := 50) rfl ?_); refine zM (some 8) Try.func50 #[.agg #[.slice J4 J0.length J2], .int .i64 a1] ?_; (with_reducible refine (yh1.calls k _ _ J0 a1 false _ ?side1 ?side2 A3.1).mono ?_); (case side1 => exact (Kd.C_below Ja.1 HB.1)); (case side2 => exact HC0_0.1); rintro e w13 ⟨rfl, hb⟩; refine ⟨_, rfl, ?_⟩; replace vP := hqZ (zd0 (g := uy) (vP.1) hb); replace HB := hqZ (za0 (HB.1) hb); clear hb))
  go_ret2
  exact ⟨_, rfl, by exact Kd.R_nil _ _ _ _ _, HB.1⟩
 subst c4
 rw [if_pos rfl] at H
 replace H := Option.bind_eq_some_iff.mp H
 obtain ⟨EL, A50, H⟩ := H
 try dsimp only at H
 have A5 := hqZ A50
 clear A50
 simp only [Option.some.injEq, Prod.mk.injEq] at H
 obtain ⟨rfl, rfl⟩ := H
 go_enter Try.func22, Try.ntmps22
 go_wp2_with (first | ((with_reducible refine zi0 (N := 2) rfl ?_); refine zk0 ?hg (N := 2) ?hd (cs := #[.slice J4 J0.length J2]) (t := 26) ?hr ?_; (case hd | hg => rfl); (case hr => go_simp); intro uy hg w6 hbox hb; have vP := hqZ (hbox); have MJ := hqZ ((by rw [hg]; exact (zb0 (HB.1)) : w.heap.size ≤ uy)); have MK := hqZ ((by rw [hg]; exact (zb0 (HB.1)) : w.heap.size ≤ uy)); replace HB := hqZ (za0 (HB.1) hb); clear hb hbox hg; have jC : w6.cell? ⟨uy, 0, none⟩ = some (.slice J4 J0.length J2) := (zf0 vP.1 0).trans rfl; have jD := zc0 vP.1 0) | ((with_reducible refine ze0 (f := 50) rfl ?_); refine zM (some 8) Try.func50 #[.agg #[.slice J4 J0.length J2], .int .i64 a1] ?_; (with_reducible refine (yh1.calls k _ _ J0 a1 true _ ?side1 ?side2 A3.1).mono ?_); (case side1 => exact (Kd.C_below Ja.1 HB.1)); (case side2 => exact HC0_0.1); rintro e w8 ⟨rfl, hb⟩; refine ⟨_, rfl, ?_⟩; replace vP := hqZ (zd0 (g := uy) (vP.1) hb); replace HB := hqZ (za0 (HB.1) hb); clear hb; have jB : w8.cell? ⟨uy, 0, none⟩ = some (.slice J4 J0.length J2) := (zf0 vP.1 0).trans rfl; have vm := zc0 vP.1 0) | ((with_reducible refine ze0 (f := 51) rfl ?_); refine zM (some 12) Try.func51 #[.agg #[.slice J4 J0.length J2], .int .i64 a1] ?_; (with_reducible refine (yo0.calls k _ _ J0 a1 EL _ ?side1 ?side2 A5.1).mono ?_); (case side1 => exact (Kd.C_below Ja.1 HB.1)); (case side2 => exact HC0_0.1); rintro e w10 ⟨v703, rfl, ho0, hb⟩; refine ⟨_, rfl, ?_⟩; have ML := hqZ (Kd.R_lower ho0 (zb0 (HB.1))); replace vP := hqZ (zd0 (g := uy) (vP.1) hb); replace HB := hqZ (za0 (HB.1) hb); clear hb ho0))
 go_ret2
 exact ⟨_, rfl, ML.1, HB.1⟩
def ym1.f (k : Nat) (J0 : List (List Int)) (a1 : Int) : Option (Int × Bool) := (ys1.f J0 (([a1] : List Int))).bind fun qI => (if qI = true then ((yk0.f k J0 a1).bind fun Ur => ((yb0.f k Ur).bind fun qJ => (some (qJ, true)))) else (some (0, false)))
theorem ym1.mono : ∀ a0 a1 k, LeO (ym1.f k a0 a1) (ym1.f (k + 1) a0 a1) := by
 intro a0 a1 k
 unfold ym1.f
 repeat' (with_reducible first | apply yb0.mono | apply yk0.mono | apply LeO.refl | apply LeO.none | refine LeO.ite ?_ ?_ | refine LeO.bind ?_ (fun _ => ?_))
theorem ym1.calls (k : Nat) (J4 : Option Addr) (J2 : Nat) (J0 : List (List Int)) (a1 : Int) (r1 : Int) (r2 : Bool) (w : World) (hr0_0 : Kd.C (Kd.slice 3 (Kd.int .i64)) w J4 J0.length J0) (hc0_0 : J0.length ≤ J2) (h : ym1.f k J0 a1 = some (r1, r2)) :
  Calls Try.prog 23 #[.agg #[.slice J4 J0.length J2], .int .i64 a1] w fun e w' => e = .returned (.tuple #[.int .i64 r1, .bool r2]) ∧ Below w.heap.size w w' := by
 have hu26 := Try.underlying26
 have Ja := hqZ hr0_0
 have HC0_0 := hqZ hc0_0
 clear hr0_0 hc0_0
 have HB := hqZ (Below.refl w.heap.size w)
 have H : ((ys1.f J0 (([a1] : List Int))).bind fun qI => (if qI = true then ((yk0.f k J0 a1).bind fun Ur => ((yb0.f k Ur).bind fun qJ => (some (qJ, true)))) else (some (0, false)))) = some (r1, r2) := h
 clear h
 obtain ⟨EM, hy706⟩ : ∃ y_ : List Int, y_ = (([a1] : List Int)) := ⟨_, rfl⟩
 replace H : ((ys1.f J0 EM).bind fun qI => (if qI = true then ((yk0.f k J0 a1).bind fun Ur => ((yb0.f k Ur).bind fun qJ => (some (qJ, true)))) else (some (0, false)))) = some (r1, r2) := by (rw [hy706]; with_reducible exact H)
 have Ny706 := hqZ hy706
 clear hy706
 replace H := Option.bind_eq_some_iff.mp H
 obtain ⟨qI, A30, H⟩ := H
 try dsimp only at H
 have A3 := hqZ A30
 clear A30
 by_cases c4 : qI = true
 rotate_left
 ·replace c4 := Bool.eq_false_iff.mpr c4
  subst c4
  rw [if_neg (show ¬ (false = true) by decide)] at H
  simp only [Option.some.injEq, Prod.mk.injEq] at H
  obtain ⟨rfl, rfl⟩ := H
  go_enter Try.func23, Try.ntmps23
  go_wp2_with (first | ((with_reducible refine zi0 (N := 2) rfl ?_); refine zk0 ?hg (N := 2) ?hd (cs := #[.slice J4 J0.length J2]) (t := 26) ?hr ?_; (case hd | hg => rfl); (case hr => go_simp); intro vA hg w17 hbox hb; have YV := hqZ (hbox); have MM := hqZ ((by rw [hg]; exact (zb0 (HB.1)) : w.heap.size ≤ vA)); have MN := hqZ ((by rw [hg]; exact (zb0 (HB.1)) : w.heap.size ≤ vA)); replace HB := hqZ (za0 (HB.1) hb); clear hb hbox hg; have YT : w17.cell? ⟨vA, 0, none⟩ = some (.slice J4 J0.length J2) := (zf0 YV.1 0).trans rfl; have YU := zc0 YV.1 0) | ((with_reducible refine zi0 (N := 8) rfl ?_); refine Kd.R_lit (Kd.int .i64) _ 3 ?hg (N := 8) ?hd (xs := ([a1] : List Int)) (inner := [.int .i64 a1]) (ok := fun _ => True) (okp := fun _ => True) ?hr ?hp (fun _ hk => hk) trivial (Below.refl _ _) (Nat.le_refl _) (by simp) ?_; (case hd | hg => rfl); (case hr => go_simp); (case hp => exact (Reps.one (show Kd.M (Kd.int .i64) _ _ _ a1 [.int .i64 a1] from rfl) (Reps.none _ _))); intro v707 w19 ho20 hb hg_ hnew_; clear hg_ hnew_; (rw [← Ny706.1] at ho20); have jH := hqZ (Kd.R_lower ho20 (zb0 (HB.1))); replace YV := hqZ (zd0 (g := vA) (YV.1) hb); replace HB := hqZ (za0 (HB.1) hb); clear hb ho20; obtain ⟨qv, qw, eo21⟩ := Kd.R_slice jH.1; subst eo21) | ((with_reducible refine ze0 (f := 36) rfl ?_); refine zM (some 9) Try.func36 #[.agg #[.slice J4 J0.length J2], .slice qv EM.length qw] ?_; (with_reducible refine (ys1.calls _ _ J0 _ _ EM false _ ?side1 ?side2 ?side3 ?side4 A3.1).mono ?_); (case side1 => exact (Kd.C_below Ja.1 HB.1)); (case side2 => exact HC0_0.1); (case side3 => exact (Kd.R_reads' jH.1).2.2); (case side4 => exact (Kd.R_reads' jH.1).2.1); rintro e w22 ⟨rfl, hb⟩; refine ⟨_, rfl, ?_⟩; replace jH := hqZ (Kd.R_below (jH.1) hb); replace YV := hqZ (zd0 (g := vA) (YV.1) hb); replace HB := hqZ (za0 (HB.1) hb); clear hb))
  go_ret2
  exact ⟨rfl, HB.1⟩
 subst c4
 rw [if_pos rfl] at H
 replace H := Option.bind_eq_some_iff.mp H
 obtain ⟨Ur, A50, H⟩ := H
 try dsimp only at H
 have A5 := hqZ A50
 clear A50
 replace H := Option.bind_eq_some_iff.mp H
 obtain ⟨qJ, A60, H⟩ := H
 try dsimp only at H
 have A6 := hqZ A60
 clear A60
 simp only [Option.some.injEq, Prod.mk.injEq] at H
 obtain ⟨rfl, rfl⟩ := H
 go_enter Try.func23, Try.ntmps23
 go_wp2_with (first | ((with_reducible refine zi0 (N := 2) rfl ?_); refine zk0 ?hg (N := 2) ?hd (cs := #[.slice J4 J0.length J2]) (t := 26) ?hr ?_; (case hd | hg => rfl); (case hr => go_simp); intro vA hg w7 hbox hb; have YV := hqZ (hbox); have MM := hqZ ((by rw [hg]; exact (zb0 (HB.1)) : w.heap.size ≤ vA)); have MN := hqZ ((by rw [hg]; exact (zb0 (HB.1)) : w.heap.size ≤ vA)); replace HB := hqZ (za0 (HB.1) hb); clear hb hbox hg; have oD : w7.cell? ⟨vA, 0, none⟩ = some (.slice J4 J0.length J2) := (zf0 YV.1 0).trans rfl; have Uq := zc0 YV.1 0) | ((with_reducible refine zi0 (N := 8) rfl ?_); refine Kd.R_lit (Kd.int .i64) _ 3 ?hg (N := 8) ?hd (xs := ([a1] : List Int)) (inner := [.int .i64 a1]) (ok := fun _ => True) (okp := fun _ => True) ?hr ?hp (fun _ hk => hk) trivial (Below.refl _ _) (Nat.le_refl _) (by simp) ?_; (case hd | hg => rfl); (case hr => go_simp); (case hp => exact (Reps.one (show Kd.M (Kd.int .i64) _ _ _ a1 [.int .i64 a1] from rfl) (Reps.none _ _))); intro v707 w9 ho10 hb hg_ hnew_; clear hg_ hnew_; (rw [← Ny706.1] at ho10); have jH := hqZ (Kd.R_lower ho10 (zb0 (HB.1))); replace YV := hqZ (zd0 (g := vA) (YV.1) hb); replace HB := hqZ (za0 (HB.1) hb); clear hb ho10; obtain ⟨j5, Yt, eo11⟩ := Kd.R_slice jH.1; subst eo11) | ((with_reducible refine ze0 (f := 36) rfl ?_); refine zM (some 9) Try.func36 #[.agg #[.slice J4 J0.length J2], .slice j5 EM.length Yt] ?_; (with_reducible refine (ys1.calls _ _ J0 _ _ EM true _ ?side1 ?side2 ?side3 ?side4 A3.1).mono ?_); (case side1 => exact (Kd.C_below Ja.1 HB.1)); (case side2 => exact HC0_0.1); (case side3 => exact (Kd.R_reads' jH.1).2.2); (case side4 => exact (Kd.R_reads' jH.1).2.1); rintro e w12 ⟨rfl, hb⟩; refine ⟨_, rfl, ?_⟩; replace jH := hqZ (Kd.R_below (jH.1) hb); replace YV := hqZ (zd0 (g := vA) (YV.1) hb); replace HB := hqZ (za0 (HB.1) hb); clear hb; have vw : w12.cell? ⟨vA, 0, none⟩ = some (.slice J4 J0.length J2) := (zf0 YV.1 0).trans rfl; have vx := zc0 YV.1 0) | ((with_reducible refine ze0 (f := 49) rfl ?_); refine zM (some 13) Try.func49 #[.agg #[.slice J4 J0.length J2], .int .i64 a1] ?_; (with_reducible refine (yk0.calls k _ _ J0 a1 Ur _ ?side1 ?side2 A5.1).mono ?_); (case side1 => exact (Kd.C_below Ja.1 HB.1)); (case side2 => exact HC0_0.1); rintro e w14 ⟨v711, rfl, ho0, hb⟩; refine ⟨_, rfl, ?_⟩; have UV := hqZ (Kd.S_lower (Kd.S_new' ho0 (Kd.R_lt (jH.1))) (zb0 (HB.1))); replace jH := hqZ (Kd.R_below (jH.1) hb); replace YV := hqZ (zd0 (g := vA) (YV.1) hb); replace HB := hqZ (za0 (HB.1) hb); clear hb ho0; obtain ⟨DY, DZ, eo15⟩ := Kd.S_slice UV.1; subst eo15) | ((with_reducible refine ze0 (f := 48) rfl ?_); refine zM (some 14) Try.func48 #[.slice DY Ur.length DZ] ?_; (with_reducible refine (yb0.calls k _ _ Ur qJ _ ?side1 ?side2 A6.1).mono ?_); (case side1 => exact (Kd.S_reads' UV.1).2.2); (case side2 => exact (Kd.S_reads' UV.1).2.1); rintro e w16 ⟨rfl, hb⟩; refine ⟨_, rfl, ?_⟩; replace jH := hqZ (Kd.R_below (jH.1) hb); replace UV := hqZ (Kd.S_below (UV.1) hb); replace YV := hqZ (zd0 (g := vA) (YV.1) hb); replace HB := hqZ (za0 (HB.1) hb); clear hb))
 go_ret2
 exact ⟨rfl, HB.1⟩
def yu1.f (k : Nat) (J0 : List (List Int)) (a1 : Int) (l2 : List Int) : Option (Bool) := (yj1.f k J0 a1).bind fun EN => (if EN = true then ((yg2.f J0 l2).bind fun EO => (if EO = true then (if 0 ≤ a1 then (if a1 < (l2.length : Int) then (some ((rd l2 a1) == 0)) else (none)) else (none)) else (some false))) else (some false))
theorem yu1.mono : ∀ a0 a1 a2 k, LeO (yu1.f k a0 a1 a2) (yu1.f (k + 1) a0 a1 a2) := by
 intro a0 a1 a2 k
 unfold yu1.f
 repeat' (with_reducible first | apply yj1.mono | apply LeO.refl | apply LeO.none | refine LeO.ite ?_ ?_ | refine LeO.bind ?_ (fun _ => ?_))
theorem yu1.calls (k : Nat) (J4 : Option Addr) (J2 : Nat) (J0 : List (List Int)) (a1 : Int) (A2 : Option Addr) (c2 : Nat) (l2 : List Int) (r : Bool) (w : World) (hr0_0 : Kd.C (Kd.slice 3 (Kd.int .i64)) w J4 J0.length J0) (hc0_0 : J0.length ≤ J2) (hr2 : Kd.C (Kd.int .i64) w A2 l2.length l2) (hc2 : l2.length ≤ c2) (h : yu1.f k J0 a1 l2 = some r) :
  Calls Try.prog 28 #[.agg #[.slice J4 J0.length J2], .int .i64 a1, .slice A2 l2.length c2] w fun e w' => e = .returned (.bool r) ∧ Below w.heap.size w w' := by
 have hu26 := Try.underlying26
 have Ja := hqZ hr0_0
 have HC0_0 := hqZ hc0_0
 clear hr0_0 hc0_0
 have jz := hqZ hr2
 have HC2 := hqZ hc2
 clear hr2 hc2
 have HB := hqZ (Below.refl w.heap.size w)
 have H : ((yj1.f k J0 a1).bind fun EN => (if EN = true then ((yg2.f J0 l2).bind fun EO => (if EO = true then (if 0 ≤ a1 then (if a1 < (l2.length : Int) then (some ((rd l2 a1) == 0)) else (none)) else (none)) else (some false))) else (some false))) = some r := h
 clear h
 replace H := Option.bind_eq_some_iff.mp H
 obtain ⟨EN, A40, H⟩ := H
 try dsimp only at H
 have A4 := hqZ A40
 clear A40
 by_cases c5 : EN = true
 rotate_left
 ·replace c5 := Bool.eq_false_iff.mpr c5
  subst c5
  rw [if_neg (show ¬ (false = true) by decide)] at H
  obtain rfl := Option.some.inj H
  go_enter Try.func28, Try.ntmps28
  go_wp2_with (first | ((with_reducible refine zi0 (N := 3) rfl ?_); refine zk0 ?hg (N := 3) ?hd (cs := #[.slice J4 J0.length J2]) (t := 26) ?hr ?_; (case hd | hg => rfl); (case hr => go_simp); intro ja hg w20 hbox hb; have Yy := hqZ (hbox); have Dp := hqZ ((by rw [hg]; exact (zb0 (HB.1)) : w.heap.size ≤ ja)); have Dq := hqZ ((by rw [hg]; exact (zb0 (HB.1)) : w.heap.size ≤ ja)); replace HB := hqZ (za0 (HB.1) hb); clear hb hbox hg; have NN : w20.cell? ⟨ja, 0, none⟩ = some (.slice J4 J0.length J2) := (zf0 Yy.1 0).trans rfl; have NO := zc0 Yy.1 0) | ((with_reducible refine ze0 (f := 46) rfl ?_); refine zM (some 9) Try.func46 #[.agg #[.slice J4 J0.length J2], .int .i64 a1] ?_; (with_reducible refine (yj1.calls k _ _ J0 a1 false _ ?side1 ?side2 A4.1).mono ?_); (case side1 => exact (Kd.C_below Ja.1 HB.1)); (case side2 => exact HC0_0.1); rintro e w22 ⟨rfl, hb⟩; refine ⟨_, rfl, ?_⟩; replace Yy := hqZ (zd0 (g := ja) (Yy.1) hb); replace HB := hqZ (za0 (HB.1) hb); clear hb))
  go_ret
  exact ⟨rfl, HB.1⟩
 subst c5
 rw [if_pos rfl] at H
 replace H := Option.bind_eq_some_iff.mp H
 obtain ⟨EO, A60, H⟩ := H
 try dsimp only at H
 have A6 := hqZ A60
 clear A60
 by_cases c7 : EO = true
 rotate_left
 ·replace c7 := Bool.eq_false_iff.mpr c7
  subst c7
  rw [if_neg (show ¬ (false = true) by decide)] at H
  obtain rfl := Option.some.inj H
  go_enter Try.func28, Try.ntmps28
  go_wp2_with (first | ((with_reducible refine zi0 (N := 3) rfl ?_); refine zk0 ?hg (N := 3) ?hd (cs := #[.slice J4 J0.length J2]) (t := 26) ?hr ?_; (case hd | hg => rfl); (case hr => go_simp); intro ja hg w15 hbox hb; have Yy := hqZ (hbox); have Dp := hqZ ((by rw [hg]; exact (zb0 (HB.1)) : w.heap.size ≤ ja)); have Dq := hqZ ((by rw [hg]; exact (zb0 (HB.1)) : w.heap.size ≤ ja)); replace HB := hqZ (za0 (HB.1) hb); clear hb hbox hg; have YM : w15.cell? ⟨ja, 0, none⟩ = some (.slice J4 J0.length J2) := (zf0 Yy.1 0).trans rfl; have YN := zc0 Yy.1 0) | ((with_reducible refine ze0 (f := 46) rfl ?_); refine zM (some 9) Try.func46 #[.agg #[.slice J4 J0.length J2], .int .i64 a1] ?_; (with_reducible refine (yj1.calls k _ _ J0 a1 true _ ?side1 ?side2 A4.1).mono ?_); (case side1 => exact (Kd.C_below Ja.1 HB.1)); (case side2 => exact HC0_0.1); rintro e w17 ⟨rfl, hb⟩; refine ⟨_, rfl, ?_⟩; replace Yy := hqZ (zd0 (g := ja) (Yy.1) hb); replace HB := hqZ (za0 (HB.1) hb); clear hb; have YT : w17.cell? ⟨ja, 0, none⟩ = some (.slice J4 J0.length J2) := (zf0 Yy.1 0).trans rfl; have YU := zc0 Yy.1 0) | (go_at_call 40; (with_reducible refine (yg2.calls _ _ J0 _ _ l2 false _ ?side1 ?side2 ?side3 ?side4 A6.1).mono ?_); (case side1 => exact (Kd.C_below Ja.1 HB.1)); (case side2 => exact HC0_0.1); (case side3 => exact (Kd.C_below jz.1 HB.1)); (case side4 => exact HC2.1); rintro e w19 ⟨rfl, hb⟩; replace Yy := hqZ (zd0 (g := ja) (Yy.1) hb); replace HB := hqZ (za0 (HB.1) hb); clear hb))
  go_ret
  exact ⟨rfl, HB.1⟩
 subst c7
 rw [if_pos rfl] at H
 by_cases c8 : 0 ≤ a1
 rotate_left
 ·rw [if_neg c8] at H
  exact absurd H (by simp)
 rw [if_pos c8] at H
 have c8b0 : decide (0 ≤ a1) = true := decide_eq_true c8
 clear c8
 by_cases c9 : a1 < (l2.length : Int)
 rotate_left
 ·rw [if_neg c9] at H
  exact absurd H (by simp)
 rw [if_pos c9] at H
 have c9b0 : decide (a1 < (l2.length : Int)) = true := decide_eq_true c9
 clear c9
 obtain rfl := Option.some.inj H
 go_enter Try.func28, Try.ntmps28
 go_wp2_with (first | ((with_reducible refine zi0 (N := 3) rfl ?_); refine zk0 ?hg (N := 3) ?hd (cs := #[.slice J4 J0.length J2]) (t := 26) ?hr ?_; (case hd | hg => rfl); (case hr => go_simp); intro ja hg w10 hbox hb; have Yy := hqZ (hbox); have Dp := hqZ ((by rw [hg]; exact (zb0 (HB.1)) : w.heap.size ≤ ja)); have Dq := hqZ ((by rw [hg]; exact (zb0 (HB.1)) : w.heap.size ≤ ja)); replace HB := hqZ (za0 (HB.1) hb); clear hb hbox hg; have vZ : w10.cell? ⟨ja, 0, none⟩ = some (.slice J4 J0.length J2) := (zf0 Yy.1 0).trans rfl; have u0 := zc0 Yy.1 0) | ((with_reducible refine ze0 (f := 46) rfl ?_); refine zM (some 9) Try.func46 #[.agg #[.slice J4 J0.length J2], .int .i64 a1] ?_; (with_reducible refine (yj1.calls k _ _ J0 a1 true _ ?side1 ?side2 A4.1).mono ?_); (case side1 => exact (Kd.C_below Ja.1 HB.1)); (case side2 => exact HC0_0.1); rintro e w12 ⟨rfl, hb⟩; refine ⟨_, rfl, ?_⟩; replace Yy := hqZ (zd0 (g := ja) (Yy.1) hb); replace HB := hqZ (za0 (HB.1) hb); clear hb; have vw : w12.cell? ⟨ja, 0, none⟩ = some (.slice J4 J0.length J2) := (zf0 Yy.1 0).trans rfl; have vx := zc0 Yy.1 0) | (go_at_call 40; (with_reducible refine (yg2.calls _ _ J0 _ _ l2 true _ ?side1 ?side2 ?side3 ?side4 A6.1).mono ?_); (case side1 => exact (Kd.C_below Ja.1 HB.1)); (case side2 => exact HC0_0.1); (case side3 => exact (Kd.C_below jz.1 HB.1)); (case side4 => exact HC2.1); rintro e w14 ⟨rfl, hb⟩; replace Yy := hqZ (zd0 (g := ja) (Yy.1) hb); replace HB := hqZ (za0 (HB.1) hb); clear hb; have p321 : 0 ≤ (a1 : Int) := oA; have q321 : a1 < (l2.length : Int) := oA; obtain ⟨ad321, e321, hx321_0⟩ := Kd.at_int jz.1 a1 p321 q321; cases e321; replace hx321_0 := (HB.1.cell (World.block_lt_of_cell? w _ hx321_0)).trans hx321_0; replace p321 := eq_true p321; replace q321 := eq_true q321))
 go_ret
 exact ⟨rfl, HB.1⟩
def yd2.f (J0 : List (List Int)) (a1 : Int) (l2 : List Int) (a3 : Int) : Option (Bool) := if a3 = a1 then (some false) else (if 0 ≤ a3 then (if a3 < (l2.length : Int) then (if a3 < (J0.length : Int) then (some (decide ((rd l2 a3) ≥ ((rd_L2 J0 a3).length : Int)))) else (none)) else (none)) else (none))
theorem yd2.calls (J4 : Option Addr) (J2 : Nat) (J0 : List (List Int)) (a1 : Int) (A2 : Option Addr) (c2 : Nat) (l2 : List Int) (a3 : Int) (r : Bool) (w : World) (hr0_0 : Kd.C (Kd.slice 3 (Kd.int .i64)) w J4 J0.length J0) (hc0_0 : J0.length ≤ J2) (hr2 : Kd.C (Kd.int .i64) w A2 l2.length l2) (hc2 : l2.length ≤ c2) (h : yd2.f J0 a1 l2 a3 = some r) :
  Calls Try.prog 37 #[.agg #[.slice J4 J0.length J2], .int .i64 a1, .slice A2 l2.length c2, .int .i64 a3] w fun e w' => e = .returned (.bool r) ∧ Below w.heap.size w w' := by
 have hu26 := Try.underlying26
 have Ja := hqZ hr0_0
 have HC0_0 := hqZ hc0_0
 clear hr0_0 hc0_0
 have jz := hqZ hr2
 have HC2 := hqZ hc2
 clear hr2 hc2
 have HB := hqZ (Below.refl w.heap.size w)
 have H : (if a3 = a1 then (some false) else (if 0 ≤ a3 then (if a3 < (l2.length : Int) then (if a3 < (J0.length : Int) then (some (decide ((rd l2 a3) ≥ ((rd_L2 J0 a3).length : Int)))) else (none)) else (none)) else (none))) = some r := h
 clear h
 by_cases c5 : a3 = a1
 ·rw [if_pos c5] at H
  have c5b0 : (a3 == a1) = true := beq_iff_eq.mpr c5
  have c5b1 : (a3 != a1) = false := bne_eq_false_iff_eq.mpr c5
  clear c5
  obtain rfl := Option.some.inj H
  go_enter Try.func37, Try.ntmps37
  go_wp2_with (((with_reducible refine zi0 (N := 4) rfl ?_); (try (refine gate_guard (by rfl) ?_; dsimp only)); refine zk0 ?hg (N := 4) ?hd (cs := #[.slice J4 J0.length J2]) (t := 26) ?hr ?_; (case hd | hg => rfl); (case hr => go_simp); intro YI hg w6 hbox hb; have uz := hqZ (hbox); have UW := hqZ ((by rw [hg]; exact (zb0 (HB.1)) : w.heap.size ≤ YI)); have UX := hqZ ((by rw [hg]; exact (zb0 (HB.1)) : w.heap.size ≤ YI)); replace HB := hqZ (za0 (HB.1) hb); clear hb hbox hg))
  repeat (go_quiet (first | ((with_reducible refine zi0 (N := 4) rfl ?_); (try (refine gate_guard (by rfl) ?_; dsimp only)); refine zk0 ?hg (N := 4) ?hd (cs := #[.slice J4 J0.length J2]) (t := 26) ?hr ?_; (case hd | hg => rfl); (case hr => go_simp <;> rfl); intro YI hg w6 hbox hb; have uz := hqZ (hbox); have UW := hqZ ((by rw [hg]; exact (zb0 (HB.1)) : w.heap.size ≤ YI)); have UX := hqZ ((by rw [hg]; exact (zb0 (HB.1)) : w.heap.size ≤ YI)); replace HB := hqZ (za0 (HB.1) hb); clear hb hbox hg)); try go_wp2_with (first | ((with_reducible refine zi0 (N := 4) rfl ?_); (try (refine gate_guard (by rfl) ?_; dsimp only)); refine zk0 ?hg (N := 4) ?hd (cs := #[.slice J4 J0.length J2]) (t := 26) ?hr ?_; (case hd | hg => rfl); (case hr => go_simp <;> rfl); intro YI hg w6 hbox hb; have uz := hqZ (hbox); have UW := hqZ ((by rw [hg]; exact (zb0 (HB.1)) : w.heap.size ≤ YI)); have UX := hqZ ((by rw [hg]; exact (zb0 (HB.1)) : w.heap.size ≤ YI)); replace HB := hqZ (za0 (HB.1) hb); clear hb hbox hg)))
  go_ret
  exact ⟨rfl, hqB HB.1⟩
 rw [if_neg c5] at H
 have c5b0 : (a3 == a1) = false := beq_eq_false_iff_ne.mpr c5
 have c5b1 : (a3 != a1) = true := bne_iff_ne.mpr c5
 by_cases c7 : 0 ≤ a3
 rotate_left
 ·rw [if_neg c7] at H
  exact absurd H (by simp)
 rw [if_pos c7] at H
 have c7b0 : decide (0 ≤ a3) = true := decide_eq_true c7
 clear c7
 by_cases c8 : a3 < (l2.length : Int)
 rotate_left
 ·rw [if_neg c8] at H
  exact absurd H (by simp)
 rw [if_pos c8] at H
 have c8b0 : decide (a3 < (l2.length : Int)) = true := decide_eq_true c8
 clear c8
 by_cases c9 : a3 < (J0.length : Int)
 rotate_left
 ·rw [if_neg c9] at H
  exact absurd H (by simp)
 rw [if_pos c9] at H
 have c9b0 : decide (a3 < (J0.length : Int)) = true := decide_eq_true c9
 clear c9
 obtain rfl := Option.some.inj H
 go_enter Try.func37, Try.ntmps37
 go_wp2_with (((with_reducible refine zi0 (N := 4) rfl ?_); (try (refine gate_guard (by rfl) ?_; dsimp only)); refine zk0 ?hg (N := 4) ?hd (cs := #[.slice J4 J0.length J2]) (t := 26) ?hr ?_; (case hd | hg => rfl); (case hr => go_simp); intro YI hg w10 hbox hb; have uz := hqZ (hbox); have UW := hqZ ((by rw [hg]; exact (zb0 (HB.1)) : w.heap.size ≤ YI)); have UX := hqZ ((by rw [hg]; exact (zb0 (HB.1)) : w.heap.size ≤ YI)); replace HB := hqZ (za0 (HB.1) hb); clear hb hbox hg; have p323 : 0 ≤ (a3 : Int) := oA; have q323 : a3 < (l2.length : Int) := oA; obtain ⟨ad323, e323, hx323_0⟩ := Kd.at_int jz.1 a3 p323 q323; cases e323; replace hx323_0 := (HB.1.cell (World.block_lt_of_cell? w _ hx323_0)).trans hx323_0; replace p323 := eq_true p323; replace q323 := eq_true q323; have vZ : w10.cell? ⟨YI, 0, none⟩ = some (.slice J4 J0.length J2) := (zf0 uz.1 0).trans rfl; have u0 := zc0 uz.1 0; have p324 : 0 ≤ (a3 : Int) := oA; have q324 : a3 < (J0.length : Int) := oA; obtain ⟨ad324, EP, EQ, e324, hx324_0, hl324_0, hi324_0⟩ := at_L2 Ja.1 a3 p324 q324; cases e324; replace hx324_0 := (HB.1.cell (World.block_lt_of_cell? w _ hx324_0)).trans hx324_0; have dp := hqZ hi324_0; have HC324_0 := hqZ hl324_0; clear hi324_0 hl324_0; replace p324 := eq_true p324; replace q324 := eq_true q324))
 repeat (go_quiet (first | ((with_reducible refine zi0 (N := 4) rfl ?_); (try (refine gate_guard (by rfl) ?_; dsimp only)); refine zk0 ?hg (N := 4) ?hd (cs := #[.slice J4 J0.length J2]) (t := 26) ?hr ?_; (case hd | hg => rfl); (case hr => go_simp <;> rfl); intro YI hg w10 hbox hb; have uz := hqZ (hbox); have UW := hqZ ((by rw [hg]; exact (zb0 (HB.1)) : w.heap.size ≤ YI)); have UX := hqZ ((by rw [hg]; exact (zb0 (HB.1)) : w.heap.size ≤ YI)); replace HB := hqZ (za0 (HB.1) hb); clear hb hbox hg; have p323 : 0 ≤ (a3 : Int) := of_decide_eq_true (by assumption); have q323 : a3 < (l2.length : Int) := of_decide_eq_true (by assumption); obtain ⟨ad323, e323, hx323_0⟩ := Kd.at_int jz.1 a3 p323 q323; cases e323; replace hx323_0 := (HB.1.cell (World.block_lt_of_cell? w _ hx323_0)).trans hx323_0; replace p323 := eq_true p323; replace q323 := eq_true q323; have vZ : w10.cell? ⟨YI, 0, none⟩ = some (.slice J4 J0.length J2) := (zf0 uz.1 0).trans rfl; have u0 := zc0 uz.1 0; have p324 : 0 ≤ (a3 : Int) := of_decide_eq_true (by assumption); have q324 : a3 < (J0.length : Int) := of_decide_eq_true (by assumption); obtain ⟨ad324, EP, EQ, e324, hx324_0, hl324_0, hi324_0⟩ := at_L2 Ja.1 a3 p324 q324; cases e324; replace hx324_0 := (HB.1.cell (World.block_lt_of_cell? w _ hx324_0)).trans hx324_0; have dp := hqZ hi324_0; have HC324_0 := hqZ hl324_0; clear hi324_0 hl324_0; replace p324 := eq_true p324; replace q324 := eq_true q324)); try go_wp2_with (first | ((with_reducible refine zi0 (N := 4) rfl ?_); (try (refine gate_guard (by rfl) ?_; dsimp only)); refine zk0 ?hg (N := 4) ?hd (cs := #[.slice J4 J0.length J2]) (t := 26) ?hr ?_; (case hd | hg => rfl); (case hr => go_simp <;> rfl); intro YI hg w10 hbox hb; have uz := hqZ (hbox); have UW := hqZ ((by rw [hg]; exact (zb0 (HB.1)) : w.heap.size ≤ YI)); have UX := hqZ ((by rw [hg]; exact (zb0 (HB.1)) : w.heap.size ≤ YI)); replace HB := hqZ (za0 (HB.1) hb); clear hb hbox hg; have p323 : 0 ≤ (a3 : Int) := of_decide_eq_true (by assumption); have q323 : a3 < (l2.length : Int) := of_decide_eq_true (by assumption); obtain ⟨ad323, e323, hx323_0⟩ := Kd.at_int jz.1 a3 p323 q323; cases e323; replace hx323_0 := (HB.1.cell (World.block_lt_of_cell? w _ hx323_0)).trans hx323_0; replace p323 := eq_true p323; replace q323 := eq_true q323; have vZ : w10.cell? ⟨YI, 0, none⟩ = some (.slice J4 J0.length J2) := (zf0 uz.1 0).trans rfl; have u0 := zc0 uz.1 0; have p324 : 0 ≤ (a3 : Int) := of_decide_eq_true (by assumption); have q324 : a3 < (J0.length : Int) := of_decide_eq_true (by assumption); obtain ⟨ad324, EP, EQ, e324, hx324_0, hl324_0, hi324_0⟩ := at_L2 Ja.1 a3 p324 q324; cases e324; replace hx324_0 := (HB.1.cell (World.block_lt_of_cell? w _ hx324_0)).trans hx324_0; have dp := hqZ hi324_0; have HC324_0 := hqZ hl324_0; clear hi324_0 hl324_0; replace p324 := eq_true p324; replace q324 := eq_true q324)))
 go_ret
 exact ⟨rfl, hqB HB.1⟩
def ye1.l0 : Nat → Int → List Int → Int → Int → List (List Int) → Option (Bool)
 | 0, _, _, _, _, _ => none
 | k + 1, x1, x2, x9, vq, dq => if vq < x9 then ((yd2.f dq x1 x2 vq).bind fun mD => (if mD = true then (some false) else (ye1.l0 k x1 x2 x9 (wrap64 (vq + 1)) dq))) else (some true)
def ye1.f (k : Nat) (J0 : List (List Int)) (a1 : Int) (l2 : List Int) : Option (Bool) := ye1.l0 k a1 l2 (l2.length : Int) 0 J0
theorem ye1.mono_l : ∀ k, (∀ y0 y1 y2 y3 y4, LeO (ye1.l0 k y0 y1 y2 y3 y4) (ye1.l0 (k + 1) y0 y1 y2 y3 y4))
 | 0 => fun _ _ _ _ _ r h => by simp [ye1.l0] at h
 | k + 1 => by
  have ih0 := ye1.mono_l k
  ·intro y0 y1 y2 y3 y4
   unfold ye1.l0
   repeat' (with_reducible first | apply ih0 | apply LeO.refl | apply LeO.none | refine LeO.ite ?_ ?_ | refine LeO.bind ?_ (fun _ => ?_))
theorem ye1.mono : ∀ a0 a1 a2 k, LeO (ye1.f k a0 a1 a2) (ye1.f (k + 1) a0 a1 a2) := by
 intro a0 a1 a2 k
 have ih0 := ye1.mono_l k
 unfold ye1.f
 repeat' (with_reducible first | apply ih0 | apply LeO.refl | apply LeO.none | refine LeO.ite ?_ ?_ | refine LeO.bind ?_ (fun _ => ?_))
theorem ye1.calls (k : Nat) (J4 : Option Addr) (J2 : Nat) (J0 : List (List Int)) (a1 : Int) (A2 : Option Addr) (c2 : Nat) (l2 : List Int) (r : Bool) (w : World) (hr0_0 : Kd.C (Kd.slice 3 (Kd.int .i64)) w J4 J0.length J0) (hc0_0 : J0.length ≤ J2) (hr2 : Kd.C (Kd.int .i64) w A2 l2.length l2) (hc2 : l2.length ≤ c2) (h : ye1.f k J0 a1 l2 = some r) :
  Calls Try.prog 32 #[.agg #[.slice J4 J0.length J2], .int .i64 a1, .slice A2 l2.length c2] w fun e w' => e = .returned (.bool r) ∧ Below w.heap.size w w' := by
 have hu26 := Try.underlying26
 have Ja := hqZ hr0_0
 have HC0_0 := hqZ hc0_0
 clear hr0_0 hc0_0
 have jz := hqZ hr2
 have HC2 := hqZ hc2
 clear hr2 hc2
 have HB := hqZ (Below.refl w.heap.size w)
 have H : (ye1.l0 k a1 l2 (l2.length : Int) 0 J0) = some r := h
 clear h
 have H' := hqZ H
 clear H
 go_enter Try.func32, Try.ntmps32
 go_wp2_with (((with_reducible refine zi0 (N := 3) rfl ?_); refine zk0 ?hg (N := 3) ?hd (cs := #[.slice J4 J0.length J2]) (t := 26) ?hr ?_; (case hd | hg => rfl); (case hr => go_simp); intro oV hg w4 hbox hb; have uA := hqZ (hbox); have Jm7 := hqZ ((by rw [hg]; exact (zb0 (HB.1)) : w.heap.size ≤ oV)); have Jm8 := hqZ ((by rw [hg]; exact (zb0 (HB.1)) : w.heap.size ≤ oV)); replace HB := hqZ (za0 (HB.1) hb); clear hb hbox hg))
 go_loopg [10] k (fun kq v10 w' => ∃ (Y9 : Int), v10 = .int .i64 Y9 ∧ zg0 (ye1.l0 kq a1 l2 (l2.length : Int) Y9 J0 = some r) ∧ zg0 (kq ≤ k) ∧ zg0 (w'.heap[oV]? = some (.cells #[(.slice J4 J0.length J2)] 26 (0, 0))) ∧ zg0 (Below w.heap.size w w'))
 case atStart => exact ⟨(0), (rfl), H', ⟨Nat.le_refl _⟩, ⟨uA.1⟩, ⟨HB.1⟩⟩
 case round =>
  clear H'
  try clear c2
  try clear p2
  try clear c3
  obtain ⟨Y9, rfl, HA, V8, uA, HB⟩ := hrel
  obtain _ | k1 := gk
  ·exact absurd HA.1 (by simp [ye1.l0])
  have H := HA.1
  clear HA
  simp only [ye1.l0] at H
  by_cases c5 : Y9 < (l2.length : Int)
  rotate_left
  ·rw [if_neg c5] at H
   have c5b0 : decide (Y9 < (l2.length : Int)) = false := decide_eq_false c5
   clear c5
   obtain rfl := Option.some.inj H
   go_wp2
   go_ret
   exact ⟨rfl, HB.1⟩
  rw [if_pos c5] at H
  have c5b0 : decide (Y9 < (l2.length : Int)) = true := decide_eq_true c5
  clear c5
  replace H := Option.bind_eq_some_iff.mp H
  obtain ⟨mD, A60, H⟩ := H
  try dsimp only at H
  have A6 := hqZ A60
  clear A60
  by_cases c7 : mD = true
  ·subst c7
   rw [if_pos rfl] at H
   obtain rfl := Option.some.inj H
   have oD : wr.cell? ⟨oV, 0, none⟩ = some (.slice J4 J0.length J2) := (zf0 uA.1 0).trans rfl
   have Uq := zc0 uA.1 0
   go_wp2_with (((with_reducible refine ze0 (f := 37) rfl ?_); refine zM (some 17) Try.func37 #[.agg #[.slice J4 J0.length J2], .int .i64 a1, .slice A2 l2.length c2, .int .i64 Y9] ?_; (with_reducible refine (yd2.calls _ _ J0 a1 _ _ l2 Y9 true _ ?side1 ?side2 ?side3 ?side4 A6.1).mono ?_); (case side1 => exact (Kd.C_below Ja.1 HB.1)); (case side2 => exact HC0_0.1); (case side3 => exact (Kd.C_below jz.1 HB.1)); (case side4 => exact HC2.1); rintro e w9 ⟨rfl, hb⟩; refine ⟨_, rfl, ?_⟩; replace uA := hqZ (zd0 (g := oV) (uA.1) hb); replace HB := hqZ (za0 (HB.1) hb); clear hb))
   go_ret
   exact ⟨rfl, HB.1⟩
  replace c7 := Bool.eq_false_iff.mpr c7
  subst c7
  rw [if_neg (show ¬ (false = true) by decide)] at H
  have H' := hqZ H
  clear H
  have Y0 : wr.cell? ⟨oV, 0, none⟩ = some (.slice J4 J0.length J2) := (zf0 uA.1 0).trans rfl
  have Y1 := zc0 uA.1 0
  go_wp2_with (((with_reducible refine ze0 (f := 37) rfl ?_); refine zM (some 17) Try.func37 #[.agg #[.slice J4 J0.length J2], .int .i64 a1, .slice A2 l2.length c2, .int .i64 Y9] ?_; (with_reducible refine (yd2.calls _ _ J0 a1 _ _ l2 Y9 false _ ?side1 ?side2 ?side3 ?side4 A6.1).mono ?_); (case side1 => exact (Kd.C_below Ja.1 HB.1)); (case side2 => exact HC0_0.1); (case side3 => exact (Kd.C_below jz.1 HB.1)); (case side4 => exact HC2.1); rintro e w11 ⟨rfl, hb⟩; refine ⟨_, rfl, ?_⟩; replace uA := hqZ (zd0 (g := oV) (uA.1) hb); replace HB := hqZ (za0 (HB.1) hb); clear hb))
  go_roundg k1
  case measure => have := V8.1; omega
  case rel => exact ⟨(wrap64 (Y9 + 1)), (rfl), H', ⟨by have := V8.1; omega⟩, ⟨uA.1⟩, ⟨HB.1⟩⟩
def yq0.l0 : Nat → Int → List Int → List Int → Int → Int → Option (List Int)
 | 0, _, _, _, _, _ => none
 | k + 1, x1, x2, X9, qm, vk => if vk < qm then (if 0 ≤ vk then (if vk < (X9.length : Int) then (if (rd X9 vk) = x1 then (yq0.l0 k x1 x2 X9 qm (wrap64 (vk + 1))) else (if 0 ≤ (rd X9 vk) then (if (rd X9 vk) < (x2.length : Int) then (yq0.l0 k x1 (x2.set ((rd X9 vk) : Int).toNat (wrap64 ((rd x2 (rd X9 vk)) + 1))) X9 qm (wrap64 (vk + 1))) else (none)) else (none))) else (none)) else (none)) else (some x2)
def yq0.f (k : Nat) (J0 : List (List Int)) (a1 : Int) (l2 : List Int) (a3 : Int) : Option (List Int) := if 0 ≤ a3 then (if a3 < (l2.length : Int) then (if a3 < (J0.length : Int) then (yq0.l0 k a1 (l2.set (a3 : Int).toNat (wrap64 ((rd l2 a3) - ((rd_L2 J0 a3).length : Int)))) (rd_L2 J0 a3) ((rd_L2 J0 a3).length : Int) 0) else (none)) else (none)) else (none)
theorem yq0.mono_l : ∀ k, (∀ y0 y1 y2 y3 y4, LeO (yq0.l0 k y0 y1 y2 y3 y4) (yq0.l0 (k + 1) y0 y1 y2 y3 y4))
 | 0 => fun _ _ _ _ _ r h => by simp [yq0.l0] at h
 | k + 1 => by
  have ih0 := yq0.mono_l k
  ·intro y0 y1 y2 y3 y4
   unfold yq0.l0
   repeat' (with_reducible first | apply ih0 | apply LeO.refl | apply LeO.none | refine LeO.ite ?_ ?_ | refine LeO.bind ?_ (fun _ => ?_))
theorem yq0.mono : ∀ a0 a1 a2 a3 k, LeO (yq0.f k a0 a1 a2 a3) (yq0.f (k + 1) a0 a1 a2 a3) := by
 intro a0 a1 a2 a3 k
 have ih0 := yq0.mono_l k
 unfold yq0.f
 repeat' (with_reducible first | apply ih0 | apply LeO.refl | apply LeO.none | refine LeO.ite ?_ ?_ | refine LeO.bind ?_ (fun _ => ?_))
def yq0.T1 : Bool × List (List Nat × List Nat) := (true, [([], []), ([], []), ([0, 1], [0, 1]), ([2], [2]), ([], []), ([4], [4]), ([], []), ([5, 6], [5, 6]), ([7], [7]), ([8], [8]), ([3, 9], [3, 9]), ([0, 1, 0, 1, 2, 3, 4, 5, 6, 7, 8, 9, 10], [0, 1]), ([11, 10, 0, 1, 2, 3, 4, 5, 6, 7, 8, 9, 10], [10, 11])])
def yq0.B1 : List Nat := [0, 0, 3, 7, 0, 16, 0, 112, 240, 496, 1023, 2047, 4095]
theorem yq0.tab1 : rtab .any (opsOf Try.f39 1) = yq0.T1 := by kernel_rfl
theorem yq0.bits1 : waitsOk yq0.T1.2 yq0.B1 = true := by kernel_rfl
theorem yq0.calls (k : Nat) (J4 : Option Addr) (J2 : Nat) (J0 : List (List Int)) (a1 : Int) (P2_ : Nat → Prop) (u9000_ : Value) (l2 : List Int) (a3 : Int) (r : List Int) (w0 w : World) (hB : Below w0.heap.size w0 w) (hr0_0 : ∀ W_, Kept w W_ (fun k_ => P2_ k_) → Kd.C (Kd.slice 3 (Kd.int .i64)) W_ J4 J0.length J0) (hc0_0 : J0.length ≤ J2) (ho2 : Kd.R (Kd.int .i64) 3 w w0.heap.size P2_ u9000_ l2) (h : yq0.f k J0 a1 l2 a3 = some r) :
  Calls Try.prog 39 #[.agg #[.slice J4 J0.length J2], .int .i64 a1, u9000_, .int .i64 a3] w fun e w' => e = .returned (.tuple #[]) ∧ Kd.R (Kd.int .i64) 3 w' w0.heap.size (fun k_ => (P2_ k_ ∨ w.heap.size ≤ k_)) u9000_ r ∧ Below w0.heap.size w0 w' ∧ Kept w w' (fun k_ => P2_ k_) := by
 have hu26 := Try.underlying26
 have Ja := hqZ hr0_0
 have HC0_0 := hqZ hc0_0
 clear hr0_0 hc0_0
 have Xo := hqZ (show Kd.R (Kd.int .i64) 3 w w0.heap.size (fun k_ => (P2_ k_ ∨ w.heap.size ≤ k_)) u9000_ l2 from Kd.R_mono ho2 (fun k_ hk => (.inl hk)))
 have HK := hqZ (Kept.refl w (fun k_ => P2_ k_))
 have HW0 := hqZ hB.size
 have HB := hqZ hB
 clear hB
 have H : (if 0 ≤ a3 then (if a3 < (l2.length : Int) then (if a3 < (J0.length : Int) then (yq0.l0 k a1 (l2.set (a3 : Int).toNat (wrap64 ((rd l2 a3) - ((rd_L2 J0 a3).length : Int)))) (rd_L2 J0 a3) ((rd_L2 J0 a3).length : Int) 0) else (none)) else (none)) else (none)) = some r := h
 clear h
 by_cases c5 : 0 ≤ a3
 rotate_left
 ·rw [if_neg c5] at H
  exact absurd H (by simp)
 rw [if_pos c5] at H
 have c5b0 : decide (0 ≤ a3) = true := decide_eq_true c5
 clear c5
 by_cases c6 : a3 < (l2.length : Int)
 rotate_left
 ·rw [if_neg c6] at H
  exact absurd H (by simp)
 rw [if_pos c6] at H
 have c6b0 : decide (a3 < (l2.length : Int)) = true := decide_eq_true c6
 clear c6
 by_cases c7 : a3 < (J0.length : Int)
 rotate_left
 ·rw [if_neg c7] at H
  exact absurd H (by simp)
 rw [if_pos c7] at H
 have c7b0 : decide (a3 < (J0.length : Int)) = true := decide_eq_true c7
 clear c7
 obtain ⟨MO, hy328⟩ : ∃ y_ : List Int, y_ = (l2.set (a3 : Int).toNat (wrap64 ((rd l2 a3) - ((rd_L2 J0 a3).length : Int)))) := ⟨_, rfl⟩
 replace H : (yq0.l0 k a1 MO (rd_L2 J0 a3) ((rd_L2 J0 a3).length : Int) 0) = some r := by (rw [hy328]; with_reducible exact H)
 have Ny328 := hqZ hy328
 clear hy328
 have H' := hqZ H
 clear H
 go_enter Try.func39, Try.ntmps39
 try go_wp2_with (((with_reducible refine zi0 (N := 4) rfl ?_); refine zk0 ?hg (N := 4) ?hd (cs := #[.slice J4 J0.length J2]) (t := 26) ?hr ?_; (case hd | hg => rfl); (case hr => go_simp); intro oW hg w9 hbox hb; replace Xo := hqZ (Kd.R_below (Xo.1) hb); have js := hqZ (hbox); have Jm9 := hqZ ((by rw [hg]; exact (by exact HK.1.1) : w.heap.size ≤ oW)); replace HK := hqZ (Kept.below (S := (fun k_ => P2_ k_)) (HK.1) hb); have Jn0 := hqZ ((by rw [hg]; exact (zb0 (HB.1)) : w0.heap.size ≤ oW)); replace HB := hqZ (za0 (HB.1) hb); clear hb hbox hg))
 have n0_ := hqZ (Kd.R_drew Xo.1)
 have n1_ := hqZ (blk_drew js.1)
 have n2_ := hqZ (Kept.drew HK.1)
 have n3_ := hqZ (below_drew1 HB.1)
 clear Xo js HK HB
 have Xo := n0_
 have js := n1_
 have HK := n2_
 have HB := n3_
 clear n0_ n1_ n2_ n3_
 obtain ⟨j5, Yt, eo11⟩ := Kd.R_slice Xo.1
 (subst eo11)
 have p326 : 0 ≤ (a3 : Int) := oA
 have q326 : a3 < (l2.length : Int) := oA
 obtain ⟨ad326, e326, hx326_0⟩ := Kd.at_int (Kd.R_reads' Xo.1).2.2 a3 p326 q326
 cases e326
 replace p326 := eq_true p326
 replace q326 := eq_true q326
 have p327 : 0 ≤ (a3 : Int) := oA
 have q327 : a3 < (J0.length : Int) := oA
 obtain ⟨ad327, mE, mF, e327, hx327_0, hl327_0, hi327_0⟩ := kept_L2 Ja.1 HK.1 a3 p327 q327
 have hw327_0 := hx327_0
 cases e327
 have ZN := hqZ hi327_0
 have HC327_0 := hqZ hl327_0
 clear hi327_0 hl327_0
 replace p327 := eq_true p327
 replace q327 := eq_true q327
 have p8 : 0 ≤ (a3 : Int) := oA
 have q8 : (a3 : Int) < ((l2.length : Int) : Int) := oA
 obtain ⟨oa, co8, eo8, Mr, gl8, cl8, HG8⟩ := Kd.R_form Xo.1 (by omega)
 (cases eo8)
 have GB8 := hqZ Mr
 have GG8 := hqZ HG8
 clear Mr gl8 HG8
 have HMgo8 := hqZ (show (P2_ oa ∨ w.heap.size ≤ oa) from (Xo.1.1 _ rfl))
 (simp only [add_plain] at hx326_0)
 obtain ⟨hx8_0, hf8_0⟩ := Kd.R_celln 0 Xo.1 (a3 : Int) p8 q8
 replace p8 := eq_true p8
 replace q8 := eq_true q8
 have HP12 := Kd.R_putn Xo.1 (a3 : Int) (wrap64 ((rd l2 a3) - ((rd_L2 J0 a3).length : Int)))
 rw [← Ny328.1] at HP12
 have Ey := hqZ HP12
 clear HP12
 refine start_ (n := 13) (S := fun w' => w'.cell? ⟨oW, 0, none⟩ = some (.slice (some ad327) J0.length J2) ∧ w'.cell? ⟨oa, (a3).toNat, none⟩ = some (.int .i64 (rd l2 a3)) ∧ w'.cell? (ad327.add (a3).toNat) = some (.slice mE (rd_L2 J0 a3).length mF)) (ds := [12]) #[false, false, false, false, false, false, false, false, false, false, false, false, false] (by kernel_rfl) rfl rfl ⟨(zf0 js.1 0).trans rfl, hx326_0, hx327_0⟩ (fun hHeld => ?_); refine with_tabW yq0.tab1 yq0.bits1 (fun HT_ HW_ => ?_)
 generalize w9.drew = w10 at Xo js HK HB GG8 Ey ZN hf8_0 hx326_0 hx327_0 hx8_0 hHeld ⊢
 refine pure_ (i := 0) (N := some 10) (v := ?_) (a' := ?_) (bf 13 1) rfl rfl (zt0 HT_.1 (by kernel_rfl)) (fun _ _ _ h => h) (Or.inl ⟨by rfl, ?_⟩) ?_ ?_
 rotate_left
 ·intro w'; go_simp; with_reducible rfl
 rotate_left
 ·simp only [Act.put, zA, zB, zC, i64_w, i32_w]; rfl
 refine pure_ (i := 1) (N := some 11) (v := ?_) (a' := ?_) (bf 13 3) rfl rfl (zt0 HT_.1 (by kernel_rfl)) (fun _ _ _ h => h) (Or.inl ⟨by rfl, ?_⟩) ?_ ?_
 rotate_left
 ·intro w'; go_simp; with_reducible rfl
 rotate_left
 ·simp only [Act.put, zA, zB, zC, i64_w, i32_w]; rfl
 refine pure_ (i := 2) (N := some 12) (v := ?_) (a' := ?_) (bf 13 7) rfl rfl (zt0 HT_.1 (by kernel_rfl)) (fun _ _ _ h => h) (Or.inl ⟨by rfl, ?_⟩) ?_ ?_
 rotate_left
 ·intro w'; go_simp; with_reducible rfl
 rotate_left
 ·simp only [Act.put, zA, zB, zC, i64_w, i32_w]; rfl
 refine pure_ (i := 4) (N := some 14) (v := ?_) (a' := ?_) (bf 13 23) rfl rfl (zt0 HT_.1 (by kernel_rfl)) (fun _ _ _ h => h) (Or.inl ⟨by rfl, ?_⟩) ?_ ?_
 rotate_left
 ·intro w'; go_simp; with_reducible rfl
 rotate_left
 ·simp only [Act.put, zA, zB, zC, i64_w, i32_w]; rfl
 refine pure_ (i := 6) (N := some 16) (v := ?_) (a' := ?_) (bf 13 87) rfl rfl (zt0 HT_.1 (by kernel_rfl)) (fun _ _ _ h => h) (Or.inl ⟨by rfl, ?_⟩) ?_ ?_
 rotate_left
 ·intro w'; go_simp; with_reducible rfl
 rotate_left
 ·simp only [Act.put, zA, zB, zC, i64_w, i32_w]; rfl
 refine take_ (i := 3) (N := some 13) (v := ?_) (a' := ?_) (bf 13 95) rfl rfl (take_ofW HT_.1 HW_.1 (by kernel_rfl)) (fun _ _ _ h => h) (Or.inl ⟨by rfl, ?_⟩) hHeld ?_ ?_
 rotate_left
 ·rintro w' ⟨s0, s1, s2⟩; go_simp; with_reducible rfl
 rotate_left
 ·simp only [Act.put, zA, zB, zC, i64_w, i32_w]; rfl
 refine take_ (i := 5) (N := some 15) (v := ?_) (a' := ?_) (bf 13 127) rfl rfl (take_ofW HT_.1 HW_.1 (by kernel_rfl)) (fun _ _ _ h => h) (Or.inl ⟨by rfl, ?_⟩) hHeld ?_ ?_
 rotate_left
 ·rintro w' ⟨s0, s1, s2⟩; go_simp; with_reducible rfl
 rotate_left
 ·simp only [Act.put, zA, zB, zC, i64_w, i32_w]; rfl
 refine pure_ (i := 7) (N := some 17) (v := ?_) (a' := ?_) (bf 13 255) rfl rfl (zt0 HT_.1 (by kernel_rfl)) (fun _ _ _ h => h) (Or.inl ⟨by rfl, ?_⟩) ?_ ?_
 rotate_left
 ·intro w'; go_simp; with_reducible rfl
 rotate_left
 ·simp only [Act.put, zA, zB, zC, i64_w, i32_w]; rfl
 refine take_ (i := 8) (N := some 18) (v := ?_) (a' := ?_) (bf 13 511) rfl rfl (take_ofW HT_.1 HW_.1 (by kernel_rfl)) (fun _ _ _ h => h) (Or.inl ⟨by rfl, ?_⟩) hHeld ?_ ?_
 rotate_left
 ·rintro w' ⟨s0, s1, s2⟩; go_simp; with_reducible rfl
 rotate_left
 ·simp only [Act.put, zA, zB, zC, i64_w, i32_w]; rfl
 refine pure_ (i := 9) (N := some 19) (v := ?_) (a' := ?_) (bf 13 1023) rfl rfl (zt0 HT_.1 (by kernel_rfl)) (fun _ _ _ h => h) (Or.inl ⟨by rfl, ?_⟩) ?_ ?_
 rotate_left
 ·intro w'; go_simp; with_reducible rfl
 rotate_left
 ·simp only [Act.put, zA, zB, zC, i64_w, i32_w]; rfl
 refine pure_ (i := 10) (N := some 20) (v := ?_) (a' := ?_) (bf 13 2047) rfl rfl (zt0 HT_.1 (by kernel_rfl)) (fun _ _ _ h => h) (Or.inl ⟨by rfl, ?_⟩) ?_ ?_
 rotate_left
 ·intro w'; go_simp; with_reducible rfl
 rotate_left
 ·simp only [Act.put, zA, zB, zC, i64_w, i32_w]; rfl
 refine pure_ (i := 11) (N := some 21) (v := ?_) (a' := ?_) (bf 13 4095) rfl rfl (zt0 HT_.1 (by kernel_rfl)) (fun _ _ _ h => h) (Or.inl ⟨by rfl, ?_⟩) ?_ ?_
 rotate_left
 ·intro w'; go_simp; with_reducible rfl
 rotate_left
 ·simp only [Act.put, zA, zB, zC, i64_w, i32_w]; rfl
 refine last_ (i := 12) (N := none) (bf 13 8191) rfl rfl (one_of HT_.1 (by kernel_rfl)) (by decide) (fun K hK => ?_)
 refine skip_ (w1 := ?_) (by rfl) rfl ?_ ?_
 rotate_left
 ·go_simp
  rfl
 refine hK.out _ _ ?_
 clear hK K
 refine done_ (done_of HT_.1 (by kernel_rfl)) ?_
 have vw : (w10.setCell ⟨oa, (a3 : Int).toNat, none⟩ (.int .i64 (wrap64 ((rd l2 a3) - ((rd_L2 J0 a3).length : Int))))).cell? ⟨oW, 0, none⟩ = some (.slice (some ad327) J0.length J2) := (cell_far (p := ⟨oa, (a3 : Int).toNat, none⟩) (show oW ≠ oa from (by have h_ := Kd.R_ne Xo.1 js.1 (by decide); intro e_; exact h_ (by rw [e_]; rfl))) (.int .i64 (wrap64 ((rd l2 a3) - ((rd_L2 J0 a3).length : Int))))).trans ((zf0 js.1 0).trans rfl)
 have vx := zc0 js.1 0
 have p329 : 0 ≤ (a3 : Int) := oA
 have q329 : a3 < (J0.length : Int) := oA
 obtain ⟨ad329, Ji0, Ji1, e329, hx329_0, hl329_0, hi329_0⟩ := kept_L2 Ja.1 (show Kept w (w10.setCell ⟨oa, (a3 : Int).toNat, none⟩ (.int .i64 (wrap64 ((rd l2 a3) - ((rd_L2 J0 a3).length : Int))))) (fun k_ => P2_ k_) from by repeat ((with_reducible first | exact HK.1 | refine Kept.setCell ?_ HMgo8.1 _))) a3 p329 q329
 obtain rfl : ad327 = ad329 := (by injection e329)
 have dr := hqZ hi329_0
 have HC329_0 := hqZ hl329_0
 clear hi329_0 hl329_0
 replace p329 := eq_true p329
 replace q329 := eq_true q329
 try go_wp2
 go_loopg [28] k (fun kq v28 w' => ∃ (je : List Int) (Jh : Int), v28 = .int .i64 Jh ∧ zg0 (yq0.l0 kq a1 je (rd_L2 J0 a3) ((rd_L2 J0 a3).length : Int) Jh = some r) ∧ zg0 (kq ≤ k) ∧ zg0 (Kd.R (Kd.int .i64) 3 w' w0.heap.size (fun k_ => (P2_ k_ ∨ w.heap.size ≤ k_)) (.slice (some ⟨oa, 0, none⟩) l2.length Yt) je) ∧ zg0 (w'.heap[oW]? = some (.cells #[(.slice (some ad327) J0.length J2)] 26 (0, 0))) ∧ zg0 (Kept w w' (fun k_ => P2_ k_)) ∧ zg0 (Below w0.heap.size w0 w'))
 case atStart => exact ⟨(MO), (0), (rfl), H', ⟨Nat.le_refl _⟩, ⟨Ey.1⟩, ⟨by refine blk_far ?_ (by have h_ := Kd.R_ne Xo.1 js.1 (by decide); intro e_; exact h_ (by rw [e_]; rfl)) _; exact js.1⟩, ⟨by repeat ((with_reducible first | exact HK.1 | refine Kept.setCell ?_ HMgo8.1 _))⟩, ⟨zm0 HB.1 GB8.1⟩⟩
 case round =>
  clear H'
  try clear p2
  try clear c3
  try clear p3
  try clear q3
  try clear hx3
  try clear c5
  try clear c5b0
  try clear c6
  try clear c6b0
  try clear p6
  try clear c7
  try clear c7b0
  try clear p8
  try clear q8
  try clear hx8
  try clear hf8
  try clear vw
  try clear vx
  try clear hx326_0
  try clear hx327_0
  try clear hx329_0
  try clear hx8_0
  try clear p326
  try clear p327
  try clear p329
  try clear p8
  try clear q326
  try clear q327
  try clear q329
  try clear q8
  obtain ⟨je, Jh, rfl, HA, V8, vn, js, HK, HB⟩ := hrel
  have hl2_1 := (Kd.R_reads' vn.1).1
  rw [hl2_1] at vn
  (try simp only [hl2_1])
  (try simp only [hl2_1] at js)
  obtain _ | k1 := gk
  ·exact absurd HA.1 (by simp [yq0.l0])
  have H := HA.1
  clear HA
  simp only [yq0.l0] at H
  by_cases c14 : Jh < ((rd_L2 J0 a3).length : Int)
  rotate_left
  ·rw [if_neg c14] at H
   have c14b0 : decide (Jh < ((rd_L2 J0 a3).length : Int)) = false := decide_eq_false c14
   (try (have c14b0h := c14b0; simp only [hl2_1] at c14b0h))
   clear c14
   obtain rfl := Option.some.inj H
   go_wp2
   go_end0
   exact ⟨rfl, (by exact (vn.1)), HB.1, HK.1⟩
  rw [if_pos c14] at H
  have c14b0 : decide (Jh < ((rd_L2 J0 a3).length : Int)) = true := decide_eq_true c14
  (try (have c14b0h := c14b0; simp only [hl2_1] at c14b0h))
  clear c14
  by_cases c15 : 0 ≤ Jh
  rotate_left
  ·rw [if_neg c15] at H
   exact absurd H (by simp)
  rw [if_pos c15] at H
  have c15b0 : decide (0 ≤ Jh) = true := decide_eq_true c15
  (try (have c15b0h := c15b0; simp only [hl2_1] at c15b0h))
  clear c15
  by_cases c16 : Jh < ((rd_L2 J0 a3).length : Int)
  rotate_left
  ·rw [if_neg c16] at H
   exact absurd H (by simp)
  rw [if_pos c16] at H
  have c16b0 : decide (Jh < ((rd_L2 J0 a3).length : Int)) = true := decide_eq_true c16
  (try (have c16b0h := c16b0; simp only [hl2_1] at c16b0h))
  clear c16
  by_cases c17 : (rd (rd_L2 J0 a3) Jh) = a1
  ·rw [if_pos c17] at H
   have c17b0 : ((rd (rd_L2 J0 a3) Jh) == a1) = true := beq_iff_eq.mpr c17
   (try (have c17b0h := c17b0; simp only [hl2_1] at c17b0h))
   have c17b1 : ((rd (rd_L2 J0 a3) Jh) != a1) = false := bne_eq_false_iff_eq.mpr c17
   (try (have c17b1h := c17b1; simp only [hl2_1] at c17b1h))
   clear c17
   have H' := hqZ H
   clear H
   have p330 : 0 ≤ (Jh : Int) := oA
   have q330 : Jh < ((rd_L2 J0 a3).length : Int) := oA
   obtain ⟨ad330, e330, hx330_0⟩ := Kd.at_int (Kd.C_kept_now dr.1 HK.1) Jh p330 q330
   cases e330
   replace p330 := eq_true p330
   replace q330 := eq_true q330
   go_wp2
   (try simp only [← hl2_1])
   go_roundg k1
   case measure => have := V8.1; omega
   case rel => exact ⟨(je), (wrap64 (Jh + 1)), (rfl), H', ⟨by have := V8.1; omega⟩, ⟨by (try simp only [hl2_1]); exact vn.1⟩, ⟨by (try simp only [hl2_1]); exact js.1⟩, ⟨HK.1⟩, ⟨HB.1⟩⟩
  rw [if_neg c17] at H
  have c17b0 : ((rd (rd_L2 J0 a3) Jh) == a1) = false := beq_eq_false_iff_ne.mpr c17
  (try (have c17b0h := c17b0; simp only [hl2_1] at c17b0h))
  have c17b1 : ((rd (rd_L2 J0 a3) Jh) != a1) = true := bne_iff_ne.mpr c17
  (try (have c17b1h := c17b1; simp only [hl2_1] at c17b1h))
  by_cases c18 : 0 ≤ (rd (rd_L2 J0 a3) Jh)
  rotate_left
  ·rw [if_neg c18] at H
   exact absurd H (by simp)
  rw [if_pos c18] at H
  have c18b0 : decide (0 ≤ (rd (rd_L2 J0 a3) Jh)) = true := decide_eq_true c18
  (try (have c18b0h := c18b0; simp only [hl2_1] at c18b0h))
  clear c18
  by_cases c19 : (rd (rd_L2 J0 a3) Jh) < (je.length : Int)
  rotate_left
  ·rw [if_neg c19] at H
   exact absurd H (by simp)
  rw [if_pos c19] at H
  have c19b0 : decide ((rd (rd_L2 J0 a3) Jh) < (je.length : Int)) = true := decide_eq_true c19
  (try (have c19b0h := c19b0; simp only [hl2_1] at c19b0h))
  clear c19
  obtain ⟨mG, hy332⟩ : ∃ y_ : List Int, y_ = (je.set ((rd (rd_L2 J0 a3) Jh) : Int).toNat (wrap64 ((rd je (rd (rd_L2 J0 a3) Jh)) + 1))) := ⟨_, rfl⟩
  replace H : (yq0.l0 k1 a1 mG (rd_L2 J0 a3) ((rd_L2 J0 a3).length : Int) (wrap64 (Jh + 1))) = some r := by (rw [hy332]; with_reducible exact H)
  have Ny332 := hqZ hy332
  clear hy332
  have H' := hqZ H
  clear H
  have p330 : 0 ≤ (Jh : Int) := oA
  have q330 : Jh < ((rd_L2 J0 a3).length : Int) := oA
  obtain ⟨ad330, e330, hx330_0⟩ := Kd.at_int (Kd.C_kept_now dr.1 HK.1) Jh p330 q330
  cases e330
  replace p330 := eq_true p330
  replace q330 := eq_true q330
  have p331 : 0 ≤ ((rd (rd_L2 J0 a3) Jh) : Int) := oA
  have q331 : (rd (rd_L2 J0 a3) Jh) < (je.length : Int) := oA
  obtain ⟨ad331, e331, hx331_0⟩ := Kd.at_int (Kd.R_reads' vn.1).2.2 (rd (rd_L2 J0 a3) Jh) p331 q331
  obtain rfl : (⟨oa, 0, none⟩ : Addr) = ad331 := (by injection e331)
  (simp only [add_plain] at hx331_0)
  replace p331 := eq_true p331
  replace q331 := eq_true q331
  have p20 : 0 ≤ ((rd (rd_L2 J0 a3) Jh) : Int) := oA
  have q20 : ((rd (rd_L2 J0 a3) Jh) : Int) < ((je.length : Int) : Int) := oA
  obtain ⟨hx20_0, hf20_0⟩ := Kd.R_celln 0 vn.1 ((rd (rd_L2 J0 a3) Jh) : Int) p20 q20
  replace p20 := eq_true p20
  replace q20 := eq_true q20
  have HP21 := Kd.R_putg vn.1 ((rd (rd_L2 J0 a3) Jh) : Int) (wrap64 ((rd je (rd (rd_L2 J0 a3) Jh)) + 1))
  go_wp2_with (((with_reducible refine gate_store (t := 3) (p := 40) rfl ?_); refine store_event (t := 3) (p := 40) (v := ?vo_w22) (w1 := (wr.setCell ⟨oa, ((rd (rd_L2 J0 a3) Jh) : Int).toNat, none⟩ (.int .i64 (wrap64 ((rd je (rd (rd_L2 J0 a3) Jh)) + 1))))) ?hg ?ho ?hn ?hr ?_; (case ho => rfl); (case hg => rfl); (case hn => rfl); (case hr => go_simp); intro w22 hw; have hg : wr.grownBy w22 (some oa) := (by rw [hw]; exact HP21.2); have hp_ : Kd.R (Kd.int .i64) 3 w22 w0.heap.size (fun k_ => (P2_ k_ ∨ w.heap.size ≤ k_)) (.slice (some ⟨oa, 0, none⟩) je.length Yt) mG := (by rw [hw, Ny332.1]; exact HP21.1); clear HP21; replace js := hqZ (zl0 (g := oW) (js.1) hg (Kd.R_ne vn.1 js.1 (by decide))); replace HB := hqZ ((by rw [hw]; exact zm0 (HB.1) GB8.1 : Below w0.heap.size w0 w22)); replace HK := hqZ (Kept.of_grown (S := (fun k_ => P2_ k_)) hg (HK.1) (fun k_ e_ => (vn.1.1 k_ e_))); replace vn := hqZ (hp_); clear hg hw hp_))
  (try simp only [← hl2_1])
  go_roundg k1
  case measure => have := V8.1; omega
  case rel => exact ⟨(mG), (wrap64 (Jh + 1)), (rfl), H', ⟨by have := V8.1; omega⟩, ⟨by (try simp only [hl2_1]); exact vn.1⟩, ⟨by (try simp only [hl2_1]); exact js.1⟩, ⟨HK.1⟩, ⟨HB.1⟩⟩
mutual
def yg0.l0 : Nat → Int → Int → List Int → List Int → Int → List (List Int) → Option (List Int × List Int × Bool)
 | 0, _, _, _, _, _, _ => none
 | k + 1, x1, x3, YE, YZ, jA, jS => yg0.l1 k x1 x3 YE YZ jA 0 jS
def yg0.j2 : Nat → Int → Int → List Int → List Int → Int → Int → List (List Int) → Option (List Int × List Int × Bool)
 | 0, _, _, _, _, _, _, _ => none
 | k + 1, x1, x3, YE, YZ, jA, oY, jS => if oY = (YE.length : Int) then (some (YE, YZ, true)) else (if jA = x3 then (some (([] : List Int), ([] : List Int), false)) else ((yq0.f k jS x1 YE oY).bind fun ER => (if 0 ≤ oY then (if oY < (YZ.length : Int) then (yg0.l0 k x1 x3 ER (YZ.set (oY : Int).toNat (wrap64 ((rd YZ oY) + 1))) (wrap64 (jA + 1)) jS) else (none)) else (none))))
def yg0.l1 : Nat → Int → Int → List Int → List Int → Int → Int → List (List Int) → Option (List Int × List Int × Bool)
 | 0, _, _, _, _, _, _, _ => none
 | k + 1, x1, x3, YE, YZ, jA, oY, jS => if oY < (YE.length : Int) then ((yd2.f jS x1 YE oY).bind fun dQ => (if dQ = true then (yg0.j2 k x1 x3 YE YZ jA oY jS) else (yg0.l1 k x1 x3 YE YZ jA (wrap64 (oY + 1)) jS))) else (yg0.j2 k x1 x3 YE YZ jA oY jS)
end
def yg0.f (k : Nat) (J0 : List (List Int)) (a1 : Int) (l2 : List Int) (a3 : Int) : Option (List Int × List Int × Bool) := (yw1.f l2).bind fun U4 => (if 0 ≤ (l2.length : Int) then (if ((l2.length : Int) : Int).toNat ≤ 35184372088832 then (yg0.l0 k a1 a3 U4 (List.replicate ((l2.length : Int) : Int).toNat 0) 0 J0) else (none)) else (none))
theorem yg0.mono_l : ∀ k, (∀ y0 y1 y2 y3 y4 y5, LeO (yg0.l0 k y0 y1 y2 y3 y4 y5) (yg0.l0 (k + 1) y0 y1 y2 y3 y4 y5)) ∧ (∀ y0 y1 y2 y3 y4 y5 y6, LeO (yg0.j2 k y0 y1 y2 y3 y4 y5 y6) (yg0.j2 (k + 1) y0 y1 y2 y3 y4 y5 y6)) ∧ (∀ y0 y1 y2 y3 y4 y5 y6, LeO (yg0.l1 k y0 y1 y2 y3 y4 y5 y6) (yg0.l1 (k + 1) y0 y1 y2 y3 y4 y5 y6))
 | 0 => ⟨fun _ _ _ _ _ _ r h => by simp [yg0.l0] at h, fun _ _ _ _ _ _ _ r h => by simp [yg0.j2] at h, fun _ _ _ _ _ _ _ r h => by simp [yg0.l1] at h⟩
 | k + 1 => by
  obtain ⟨ih0, ih1, ih2⟩ := yg0.mono_l k
  refine ⟨?_, ?_, ?_⟩
  ·intro y0 y1 y2 y3 y4 y5
   unfold yg0.l0
   repeat' (with_reducible first | apply ih0 | apply ih1 | apply ih2 | apply yq0.mono | apply LeO.refl | apply LeO.none | refine LeO.ite ?_ ?_ | refine LeO.bind ?_ (fun _ => ?_))
  ·intro y0 y1 y2 y3 y4 y5 y6
   unfold yg0.j2
   repeat' (with_reducible first | apply ih0 | apply ih1 | apply ih2 | apply yq0.mono | apply LeO.refl | apply LeO.none | refine LeO.ite ?_ ?_ | refine LeO.bind ?_ (fun _ => ?_))
  ·intro y0 y1 y2 y3 y4 y5 y6
   unfold yg0.l1
   repeat' (with_reducible first | apply ih0 | apply ih1 | apply ih2 | apply yq0.mono | apply LeO.refl | apply LeO.none | refine LeO.ite ?_ ?_ | refine LeO.bind ?_ (fun _ => ?_))
theorem yg0.mono : ∀ a0 a1 a2 a3 k, LeO (yg0.f k a0 a1 a2 a3) (yg0.f (k + 1) a0 a1 a2 a3) := by
 intro a0 a1 a2 a3 k
 obtain ⟨ih0, ih1, ih2⟩ := yg0.mono_l k
 unfold yg0.f
 repeat' (with_reducible first | apply ih0 | apply ih1 | apply ih2 | apply yq0.mono | apply LeO.refl | apply LeO.none | refine LeO.ite ?_ ?_ | refine LeO.bind ?_ (fun _ => ?_))
theorem yg0.calls (k : Nat) (J4 : Option Addr) (J2 : Nat) (J0 : List (List Int)) (a1 : Int) (A2 : Option Addr) (c2 : Nat) (l2 : List Int) (a3 : Int) (r1 : List Int) (r2 : List Int) (r3 : Bool) (w : World) (hr0_0 : Kd.C (Kd.slice 3 (Kd.int .i64)) w J4 J0.length J0) (hc0_0 : J0.length ≤ J2) (hr2 : Kd.C (Kd.int .i64) w A2 l2.length l2) (hc2 : l2.length ≤ c2) (h : yg0.f k J0 a1 l2 a3 = some (r1, r2, r3)) :
  Calls Try.prog 29 #[.agg #[.slice J4 J0.length J2], .int .i64 a1, .slice A2 l2.length c2, .int .i64 a3] w fun e w' => ∃ v0_ v1_ : Value, e = .returned (.tuple #[v0_, v1_, .bool r3]) ∧ Kd.R (Kd.int .i64) 3 w' w.heap.size (fun k_ => some k_ ≠ (v1_ : Value).ownBlock) v0_ r1 ∧ Kd.R (Kd.int .i64) 3 w' w.heap.size (fun k_ => some k_ ≠ (v0_ : Value).ownBlock) v1_ r2 ∧ Below w.heap.size w w' := by
 have hu26 := Try.underlying26
 have Ja := hqZ hr0_0
 have HC0_0 := hqZ hc0_0
 clear hr0_0 hc0_0
 have jz := hqZ hr2
 have HC2 := hqZ hc2
 clear hr2 hc2
 have HB := hqZ (Below.refl w.heap.size w)
 have H : ((yw1.f l2).bind fun U4 => (if 0 ≤ (l2.length : Int) then (if ((l2.length : Int) : Int).toNat ≤ 35184372088832 then (yg0.l0 k a1 a3 U4 (List.replicate ((l2.length : Int) : Int).toNat 0) 0 J0) else (none)) else (none))) = some (r1, r2, r3) := h
 clear h
 replace H := Option.bind_eq_some_iff.mp H
 obtain ⟨U4, A50, H⟩ := H
 try dsimp only at H
 have A5 := hqZ A50
 clear A50
 by_cases c6 : 0 ≤ (l2.length : Int)
 rotate_left
 ·rw [if_neg c6] at H
  exact absurd H (by simp)
 rw [if_pos c6] at H
 have c6b0 := eq_true c6
 have c6b1 : decide (0 ≤ (l2.length : Int)) = true := decide_eq_true c6
 clear c6
 by_cases c7 : ((l2.length : Int) : Int).toNat ≤ 35184372088832
 rotate_left
 ·rw [if_neg c7] at H
  exact absurd H (by simp)
 rw [if_pos c7] at H
 have c7b0 := eq_true c7
 have c7b1 : decide (((l2.length : Int) : Int).toNat ≤ 35184372088832) = true := decide_eq_true c7
 clear c7
 obtain ⟨ZO, hy337⟩ : ∃ y_ : List Int, y_ = (List.replicate ((l2.length : Int) : Int).toNat 0) := ⟨_, rfl⟩
 replace H : (yg0.l0 k a1 a3 U4 ZO 0 J0) = some (r1, r2, r3) := by (rw [hy337]; with_reducible exact H)
 have Ny337 := hqZ hy337
 clear hy337
 have H' := hqZ H
 clear H
 go_enter Try.func29, Try.ntmps29
 try go_wp2_with (((with_reducible refine zi0 (N := 4) rfl ?_); refine zk0 ?hg (N := 4) ?hd (cs := #[.slice J4 J0.length J2]) (t := 26) ?hr ?_; (case hd | hg => rfl); (case hr => go_simp); intro jt hg w8 hbox hb; have Vf := hqZ (hbox); have Jn1 := hqZ ((by rw [hg]; exact (zb0 (HB.1)) : w.heap.size ≤ jt)); have Jn2 := hqZ ((by rw [hg]; exact (zb0 (HB.1)) : w.heap.size ≤ jt)); replace HB := hqZ (za0 (HB.1) hb); clear hb hbox hg))
 have n0_ := hqZ (blk_drew Vf.1)
 have n1_ := hqZ (below_drew1 HB.1)
 clear Vf HB
 have Vf := n0_
 have HB := n1_
 clear n0_ n1_
 refine start_ (n := 7) (S := fun w' => True) (ds := []) #[false, false, false, false, false, false, false] (by kernel_rfl) rfl rfl trivial (fun hHeld => ?_)
 generalize w8.drew = w9 at Vf HB hHeld ⊢
 refine pu 0 (some 15) (v := ?_) (a' := ?_) (bf 7 1) ?_ ?_ ?_
 rotate_left
 ·intro w'; go_simp; with_reducible rfl
 rotate_left
 ·simp only [Act.put, zA, zB, zC, i64_w, i32_w]; rfl
 refine pu 2 (some 17) (v := ?_) (a' := ?_) (bf 7 5) ?_ ?_ ?_
 rotate_left
 ·intro w'; go_simp; with_reducible rfl
 rotate_left
 ·simp only [Act.put, zA, zB, zC, i64_w, i32_w]; rfl
 refine pu 3 (some 18) (v := ?_) (a' := ?_) (bf 7 13) ?_ ?_ ?_
 rotate_left
 ·intro w'; go_simp; with_reducible rfl
 rotate_left
 ·simp only [Act.put, zA, zB, zC, i64_w, i32_w]; rfl
 refine join_ (σ := Value × Value) 1 (bf 7 63) (fun s_ => [(16, s_.1), (19, s_.2), (11, s_.1)]) (fun s_ w' => (Kd.R (Kd.int .i64) 3 w' w.heap.size (fun k_ => some k_ ≠ (s_.2 : Value).ownBlock) s_.1 U4) ∧ (Kd.R (Kd.int .i64) 3 w' w.heap.size (fun k_ => some k_ ≠ (s_.1 : Value).ownBlock) s_.2 ZO) ∧ (w'.heap[jt]? = some (.cells #[.slice J4 J0.length J2] 26 (0, 0))) ∧ (Below w.heap.size w w')) ?_ ?_
 rotate_left
 ·intro hCont
  refine two_ (i := 1) (j := 4) (Ni := some 16) (Nj := some 19) #[true, true, true, true, false, false, false] (bf 7 29) rfl rfl rfl rfl (by kernel_rfl) (by decide) (by decide) (fun K hK => ?_) (fun K hK => ?_)
  ·skip
   refine goes_ Try.func38 (by kernel_rfl) rfl #[.slice A2 l2.length c2] (by rfl) rfl rfl (by simp only [hqa, hqb, hqc]; rfl) ?_
   with_reducible refine (yw1.calls _ _ l2 U4 _ ?side1 ?side2 A5.1).mono ?_
   (case side1 => exact (Kd.C_below jz.1 HB.1))
   (case side2 => exact HC2.1)
   rintro e w10 ⟨v335, rfl, ho0, hb⟩
   refine ⟨_, rfl, ?_⟩
   have n0_ := hqZ (Kd.R_lower ho0 (zb0 (HB.1)))
   have n1_ := hqZ (zd0 (g := jt) (Vf.1) hb)
   have n2_ := hqZ (za0 (HB.1) hb)
   clear Vf HB
   have Xr := n0_
   have Vf := n1_
   have HB := n2_
   clear n0_ n1_ n2_
   (try clear hb)
   (try clear hb2)
   (try clear hk)
   (try clear hi)
   (try clear ho0)
   refine hK.out _ _ trivial (fun hHeld => ?_)
   clear hK K
   refine norm_ (a' := ?_) ?_ ?_
   rotate_left
   ·show Act.put _ (some 16) _ = _; simp only [Act.put, zA, zB, zC, i64_w, i32_w]; rfl
   refine pu 5 (some 11) (v := ?_) (a' := ?_) (bf 7 47) ?_ ?_ ?_
   rotate_left
   ·intro w'; go_simp; with_reducible rfl
   rotate_left
   ·simp only [Act.put, zA, zB, zC, i64_w, i32_w]; rfl
   refine one_ (i := 4) (N := some 19) (bf 7 63) rfl rfl (by kernel_rfl) (by decide) (fun K hK => ?_)
   refine Kd.R_make_step (Kd.int .i64) _ 3 (by rfl) (N := 19) rfl 27 _ _ rfl (l2.length : Int) rfl rfl Try.underlying27 (.int .i64 0) 8 info3 rfl (by decide) (by omega) 0 (ok := fun _ => True) (okp := fun _ => True) rfl (fun _ hk => hk) trivial (oA) (Nat.le_trans (Nat.mul_le_mul_right _ (oA : (l2.length : Int).toNat ≤ 35184372088832)) (by omega)) (Below.refl _ _) (Nat.le_refl _) ?_
   intro v338 w11 ho12 hb hg_ hnew_
   clear hg_ hnew_
   (rw [← Ny337.1] at ho12)
   have n0_ := hqZ (Kd.R_elder' (Xr.1) (Kd.R_base ho12) hb)
   have n1_ := hqZ (Kd.R_lower (Kd.R_new' ho12 (Kd.R_lt (Xr.1))) (zb0 (HB.1)))
   have n2_ := hqZ (zd0 (g := jt) (Vf.1) hb)
   have n3_ := hqZ (za0 (HB.1) hb)
   clear Xr Vf HB
   have Xr := n0_
   have Xs := n1_
   have Vf := n2_
   have HB := n3_
   clear n0_ n1_ n2_ n3_ hb ho12
   refine hK.out _ _ trivial (fun hHeld => ?_)
   clear hK K
   refine norm_ (a' := ?_) ?_ ?_
   rotate_left
   ·show Act.put _ (some 19) _ = _; simp only [Act.put, zA, zB, zC, i64_w, i32_w]; rfl
   exact norm_ (by simp only [putAll, Act.put, zA, zB, zC]) (hCont (v335, v338) _ ⟨(Kd.R_mono Xr.1 (fun _ hk => hk.2)), (Kd.R_mono Xs.1 (fun _ hk => hk.2)), (Vf.1), (HB.1)⟩)
  ·skip
   refine Kd.R_make_step (Kd.int .i64) _ 3 (by rfl) (N := 19) rfl 27 _ _ rfl (l2.length : Int) rfl rfl Try.underlying27 (.int .i64 0) 8 info3 rfl (by decide) (by omega) 0 (ok := fun _ => True) (okp := fun _ => True) rfl (fun _ hk => hk) trivial (oA) (Nat.le_trans (Nat.mul_le_mul_right _ (oA : (l2.length : Int).toNat ≤ 35184372088832)) (by omega)) (Below.refl _ _) (Nat.le_refl _) ?_
   intro v338 w10 ho11 hb hg_ hnew_
   clear hg_ hnew_
   (rw [← Ny337.1] at ho11)
   have n0_ := hqZ (Kd.R_lower ho11 (zb0 (HB.1)))
   have n1_ := hqZ (zd0 (g := jt) (Vf.1) hb)
   have n2_ := hqZ (za0 (HB.1) hb)
   clear Vf HB
   have Xs := n0_
   have Vf := n1_
   have HB := n2_
   clear n0_ n1_ n2_ hb ho11
   refine hK.out _ _ trivial (fun hHeld => ?_)
   clear hK K
   refine norm_ (a' := ?_) ?_ ?_
   rotate_left
   ·show Act.put _ (some 19) _ = _; simp only [Act.put, zA, zB, zC, i64_w, i32_w]; rfl
   refine one_ (i := 1) (N := some 16) (bf 7 31) rfl rfl (by kernel_rfl) (by decide) (fun K hK => ?_)
   refine goes_ Try.func38 (by kernel_rfl) rfl #[.slice A2 l2.length c2] (by rfl) rfl rfl (by simp only [hqa, hqb, hqc]; rfl) ?_
   with_reducible refine (yw1.calls _ _ l2 U4 _ ?side1 ?side2 A5.1).mono ?_
   (case side1 => exact (Kd.C_below jz.1 HB.1))
   (case side2 => exact HC2.1)
   rintro e w12 ⟨v335, rfl, ho0, hb⟩
   refine ⟨_, rfl, ?_⟩
   have n0_ := hqZ (Kd.R_elder' (Xs.1) (Kd.R_base ho0) hb)
   have n1_ := hqZ (Kd.R_lower (Kd.R_new' ho0 (Kd.R_lt (Xs.1))) (zb0 (HB.1)))
   have n2_ := hqZ (zd0 (g := jt) (Vf.1) hb)
   have n3_ := hqZ (za0 (HB.1) hb)
   clear Xs Vf HB
   have Xs := n0_
   have Xr := n1_
   have Vf := n2_
   have HB := n3_
   clear n0_ n1_ n2_ n3_
   (try clear hb)
   (try clear hb2)
   (try clear hk)
   (try clear hi)
   (try clear ho0)
   refine hK.out _ _ trivial (fun hHeld => ?_)
   clear hK K
   refine norm_ (a' := ?_) ?_ ?_
   rotate_left
   ·show Act.put _ (some 16) _ = _; simp only [Act.put, zA, zB, zC, i64_w, i32_w]; rfl
   refine pu 5 (some 11) (v := ?_) (a' := ?_) (bf 7 63) ?_ ?_ ?_
   rotate_left
   ·intro w'; go_simp; with_reducible rfl
   rotate_left
   ·simp only [Act.put, zA, zB, zC, i64_w, i32_w]; rfl
   exact norm_ (by simp only [putAll, Act.put, zA, zB, zC]) (hCont (v335, v338) _ ⟨(Kd.R_mono Xr.1 (fun _ hk => hk.2)), (Kd.R_mono Xs.1 (fun _ hk => hk.2)), (Vf.1), (HB.1)⟩)
 rintro ⟨v335, v338⟩ w13 ⟨h0_, h1_, h2_, h3_⟩
 have n0_ : zg0 (Kd.R (Kd.int .i64) 3 w13 w.heap.size (fun k_ => some k_ ≠ (v338 : Value).ownBlock) v335 U4) := ⟨h0_⟩
 have n1_ : zg0 (Kd.R (Kd.int .i64) 3 w13 w.heap.size (fun k_ => some k_ ≠ (v335 : Value).ownBlock) v338 ZO) := ⟨h1_⟩
 have n2_ : zg0 (w13.heap[jt]? = some (.cells #[.slice J4 J0.length J2] 26 (0, 0))) := ⟨h2_⟩
 have n3_ : zg0 (Below w.heap.size w w13) := ⟨h3_⟩
 clear Vf HB h0_ h1_ h2_ h3_
 have Xr := n0_
 have Xs := n1_
 have Vf := n2_
 have HB := n3_
 clear n0_ n1_ n2_ n3_
 have hHeld := trivial
 refine norm_ (a' := ?_) ?_ ?_
 rotate_left
 ·simp only [putAll, Act.put, zA, zB, zC]
  rfl
 refine pu 6 (some 12) (v := ?_) (a' := ?_) (bf 7 127) ?_ ?_ ?_
 rotate_left
 ·intro w'; go_simp; with_reducible rfl
 rotate_left
 ·simp only [Act.put, zA, zB, zC, i64_w, i32_w]; rfl
 refine done_ (by kernel_rfl) ?_
 try go_wp2
 go_loopg [13] k (fun kq v13 w' => ∃ (Jo : List Int) (Jz : List Int) (Je : Int), v13 = .int .i64 Je ∧ zg0 (yg0.l0 kq a1 a3 Jo Jz Je J0 = some (r1, r2, r3)) ∧ zg0 (kq ≤ k) ∧ zg0 (Kd.R (Kd.int .i64) 3 w' w.heap.size (fun k_ => some k_ ≠ (v338 : Value).ownBlock) v335 Jo) ∧ zg0 (Kd.R (Kd.int .i64) 3 w' w.heap.size (fun k_ => some k_ ≠ (v335 : Value).ownBlock) v338 Jz) ∧ zg0 (w'.heap[jt]? = some (.cells #[(.slice J4 J0.length J2)] 26 (0, 0))) ∧ zg0 (Below w.heap.size w w'))
 case atStart => exact ⟨(U4), (ZO), (0), (rfl), H', ⟨Nat.le_refl _⟩, ⟨Xr.1⟩, ⟨Xs.1⟩, ⟨Vf.1⟩, ⟨HB.1⟩⟩
 case round =>
  clear H'
  try clear c2
  try clear p2
  try clear c3
  try clear c6
  try clear c6b0
  try clear c6b1
  try clear c7
  try clear c7b0
  try clear c7b1
  obtain ⟨Jo, Jz, Je, rfl, HA, V8, JJ, V5, Vf, HB⟩ := hrel
  obtain _ | k1 := gk
  ·exact absurd HA.1 (by simp [yg0.l0])
  have H := HA.1
  clear HA
  simp only [yg0.l0] at H
  have HC14 := hqZ H
  clear H
  go_upto_block 2 with (fail)
  go_cut [14] (fun v14 wc => ∃ (kq : Nat) (VC : Int), v14 = .int .i64 VC ∧ zg0 (yg0.j2 kq a1 a3 Jo Jz Je VC J0 = some (r1, r2, r3)) ∧ zg0 (kq ≤ k1) ∧ zg0 (Kd.R (Kd.int .i64) 3 wc w.heap.size (fun k_ => some k_ ≠ (v338 : Value).ownBlock) v335 Jo) ∧ zg0 (Kd.R (Kd.int .i64) 3 wc w.heap.size (fun k_ => some k_ ≠ (v335 : Value).ownBlock) v338 Jz) ∧ zg0 (wc.heap[jt]? = some (.cells #[(.slice J4 J0.length J2)] 26 (0, 0))) ∧ zg0 (Below w.heap.size w wc))
  case first =>
   have H := HC14.1
   clear HC14
   have H' := hqZ H
   clear H
   go_wp2
   go_loopg [14] k1 (fun kq v14 w' => ∃ (uB : Int), v14 = .int .i64 uB ∧ zg0 (yg0.l1 kq a1 a3 Jo Jz Je uB J0 = some (r1, r2, r3)) ∧ zg0 (kq ≤ k1) ∧ zg0 (Kd.R (Kd.int .i64) 3 w' w.heap.size (fun k_ => some k_ ≠ (v338 : Value).ownBlock) v335 Jo) ∧ zg0 (Kd.R (Kd.int .i64) 3 w' w.heap.size (fun k_ => some k_ ≠ (v335 : Value).ownBlock) v338 Jz) ∧ zg0 (w'.heap[jt]? = some (.cells #[(.slice J4 J0.length J2)] 26 (0, 0))) ∧ zg0 (Below w.heap.size w w'))
   case atStart => exact ⟨(0), (rfl), H', ⟨Nat.le_refl _⟩, ⟨JJ.1⟩, ⟨V5.1⟩, ⟨Vf.1⟩, ⟨HB.1⟩⟩
   case round =>
    clear H'
    try clear c2
    try clear p2
    try clear c3
    try clear c6
    try clear c6b0
    try clear c6b1
    try clear c7
    try clear c7b0
    try clear c7b1
    try clear p2
    obtain ⟨uB, rfl, HA, YO, JJ, V5, Vf, HB⟩ := hrel
    obtain _ | k2 := gk
    ·exact absurd HA.1 (by simp [yg0.l1])
    have H := HA.1
    clear HA
    simp only [yg0.l1] at H
    by_cases c15 : uB < (Jo.length : Int)
    rotate_left
    ·rw [if_neg c15] at H
     have c15b0 : decide (uB < (Jo.length : Int)) = false := decide_eq_false c15
     clear c15
     (skip)
     have H' := hqZ H
     clear H
     obtain ⟨EC, ED, eo24⟩ := Kd.R_slice JJ.1
     subst eo24
     go_wp2
     go_meet
     case rel => exact ⟨_, (uB), (rfl), H', ⟨by have := V8.1; have := YO.1; omega⟩, ⟨JJ.1⟩, ⟨V5.1⟩, ⟨Vf.1⟩, ⟨HB.1⟩⟩
    rw [if_pos c15] at H
    have c15b0 : decide (uB < (Jo.length : Int)) = true := decide_eq_true c15
    clear c15
    (skip)
    replace H := Option.bind_eq_some_iff.mp H
    obtain ⟨dQ, A160, H⟩ := H
    try dsimp only at H
    have A16 := hqZ A160
    clear A160
    by_cases c17 : dQ = true
    ·subst c17
     rw [if_pos rfl] at H
     have H' := hqZ H
     clear H
     obtain ⟨qn, Uy, eo18⟩ := Kd.R_slice JJ.1
     subst eo18
     have oq : wr.cell? ⟨jt, 0, none⟩ = some (.slice J4 J0.length J2) := (zf0 Vf.1 0).trans rfl
     have or := zc0 Vf.1 0
     go_wp2_with ((go_at_call 37; (with_reducible refine (yd2.calls _ _ J0 a1 _ _ Jo uB true _ ?side1 ?side2 ?side3 ?side4 A16.1).mono ?_); (case side1 => exact (Kd.C_below Ja.1 HB.1)); (case side2 => exact HC0_0.1); (case side3 => exact (Kd.R_reads' JJ.1).2.2); (case side4 => exact (Kd.R_reads' JJ.1).2.1); rintro e w20 ⟨rfl, hb⟩; replace JJ := hqZ (Kd.R_below (JJ.1) hb); replace V5 := hqZ (Kd.R_below (V5.1) hb); replace Vf := hqZ (zd0 (g := jt) (Vf.1) hb); replace HB := hqZ (za0 (HB.1) hb); clear hb))
     go_meet
     case rel => exact ⟨_, (uB), (rfl), H', ⟨by have := V8.1; have := YO.1; omega⟩, ⟨JJ.1⟩, ⟨V5.1⟩, ⟨Vf.1⟩, ⟨HB.1⟩⟩
    replace c17 := Bool.eq_false_iff.mpr c17
    subst c17
    rw [if_neg (show ¬ (false = true) by decide)] at H
    have H' := hqZ H
    clear H
    obtain ⟨qv, qw, eo21⟩ := Kd.R_slice JJ.1
    subst eo21
    have Yp : wr.cell? ⟨jt, 0, none⟩ = some (.slice J4 J0.length J2) := (zf0 Vf.1 0).trans rfl
    have Yq := zc0 Vf.1 0
    go_wp2_with ((go_at_call 37; (with_reducible refine (yd2.calls _ _ J0 a1 _ _ Jo uB false _ ?side1 ?side2 ?side3 ?side4 A16.1).mono ?_); (case side1 => exact (Kd.C_below Ja.1 HB.1)); (case side2 => exact HC0_0.1); (case side3 => exact (Kd.R_reads' JJ.1).2.2); (case side4 => exact (Kd.R_reads' JJ.1).2.1); rintro e w23 ⟨rfl, hb⟩; replace JJ := hqZ (Kd.R_below (JJ.1) hb); replace V5 := hqZ (Kd.R_below (V5.1) hb); replace Vf := hqZ (zd0 (g := jt) (Vf.1) hb); replace HB := hqZ (za0 (HB.1) hb); clear hb))
    go_roundg k2
    case measure => have := V8.1; have := YO.1; omega
    case rel => exact ⟨(wrap64 (uB + 1)), (rfl), H', ⟨by have := V8.1; have := YO.1; omega⟩, ⟨JJ.1⟩, ⟨V5.1⟩, ⟨Vf.1⟩, ⟨HB.1⟩⟩
  case rest =>
   clear HC14
   try clear c1
   try clear c2
   try clear p2
   try clear c3
   try clear c6
   try clear c6b0
   try clear c6b1
   try clear p6
   try clear c7
   try clear c7b0
   try clear c7b1
   try clear c15
   try clear c15b0
   try clear c17
   try clear oq
   try clear Yp
   try clear or
   try clear Yq
   try clear p2
   obtain ⟨kq, VC, rfl, HA, Uk, JJ, V5, Vf, HB⟩ := hcut
   cases kq with
   | zero => exact absurd HA.1 (by simp [yg0.j2])
   | succ kj13 =>
    have H := HA.1
    clear HA
    simp only [yg0.j2] at H
    by_cases c25 : VC = (Jo.length : Int)
    ·rw [if_pos c25] at H
     have c25b0 : (VC == (Jo.length : Int)) = true := beq_iff_eq.mpr c25
     have c25b1 : (VC != (Jo.length : Int)) = false := bne_eq_false_iff_eq.mpr c25
     clear c25
     simp only [Option.some.injEq, Prod.mk.injEq] at H
     obtain ⟨rfl, rfl, rfl⟩ := H
     obtain ⟨Jq1, Jg1, eo26⟩ := Kd.R_slice JJ.1
     subst eo26
     go_wp2
     go_ret3
     exact ⟨_, _, rfl, JJ.1, V5.1, HB.1⟩
    rw [if_neg c25] at H
    have c25b0 : (VC == (Jo.length : Int)) = false := beq_eq_false_iff_ne.mpr c25
    have c25b1 : (VC != (Jo.length : Int)) = true := bne_iff_ne.mpr c25
    by_cases c27 : Je = a3
    ·rw [if_pos c27] at H
     have c27b0 : (Je == a3) = true := beq_iff_eq.mpr c27
     have c27b1 : (Je != a3) = false := bne_eq_false_iff_eq.mpr c27
     clear c27
     simp only [Option.some.injEq, Prod.mk.injEq] at H
     obtain ⟨rfl, rfl, rfl⟩ := H
     obtain ⟨Zi, Zj, eo28⟩ := Kd.R_slice JJ.1
     subst eo28
     go_wp2
     go_ret3
     exact ⟨_, _, rfl, by exact Kd.R_nil _ _ _ _ _, by exact Kd.R_nil _ _ _ _ _, HB.1⟩
    rw [if_neg c27] at H
    have c27b0 : (Je == a3) = false := beq_eq_false_iff_ne.mpr c27
    have c27b1 : (Je != a3) = true := bne_iff_ne.mpr c27
    replace H := Option.bind_eq_some_iff.mp H
    obtain ⟨ER, A290, H⟩ := H
    try dsimp only at H
    have A29 := hqZ A290
    clear A290
    by_cases c30 : 0 ≤ VC
    rotate_left
    ·rw [if_neg c30] at H
     exact absurd H (by simp)
    rw [if_pos c30] at H
    have c30b0 : decide (0 ≤ VC) = true := decide_eq_true c30
    clear c30
    by_cases c31 : VC < (Jz.length : Int)
    rotate_left
    ·rw [if_neg c31] at H
     exact absurd H (by simp)
    rw [if_pos c31] at H
    have c31b0 : decide (VC < (Jz.length : Int)) = true := decide_eq_true c31
    clear c31
    obtain ⟨mH, hy343⟩ : ∃ y_ : List Int, y_ = (Jz.set (VC : Int).toNat (wrap64 ((rd Jz VC) + 1))) := ⟨_, rfl⟩
    replace H : (yg0.l0 kj13 a1 a3 ER mH (wrap64 (Je + 1)) J0) = some (r1, r2, r3) := by (rw [hy343]; with_reducible exact H)
    have Ny343 := hqZ hy343
    clear hy343
    have H' := hqZ H
    clear H
    obtain ⟨U3, ob, eo33⟩ := Kd.R_slice JJ.1
    subst eo33
    have NP : wc.cell? ⟨jt, 0, none⟩ = some (.slice J4 J0.length J2) := (zf0 Vf.1 0).trans rfl
    have NQ := zc0 Vf.1 0
    go_wp2_with (first | ((with_reducible refine ze0 (f := 39) rfl ?_); refine zM (some 49) Try.func39 #[.agg #[.slice J4 J0.length J2], .int .i64 a1, .slice U3 Jo.length ob, .int .i64 VC] ?_; (with_reducible refine (yq0.calls kj13 _ _ J0 a1 (fun k_ => some k_ = (.slice U3 Jo.length ob : Value).ownBlock) (.slice U3 Jo.length ob) Jo VC ER w _ ?side1 ?side2 ?side3 ?side4 A29.1).mono ?_); (case side1 => exact HB.1); (case side2 => exact Kd.C_kept_came (Kd.heap_slice 3 (Kd.heap_int .i64)) Ja.1 (HB.1) (fun k_ hs_ => (fun e_ => Kd.R_base JJ.1 k_ e_.symm) hs_)); (case side3 => exact HC0_0.1); (case side4 => exact Kd.R_tight rfl JJ.1); rintro e w35 ⟨rfl, hy0, hb, hkp⟩; refine ⟨_, rfl, ?_⟩; replace V5 := hqZ (Kd.R_mono (ok' := fun k_ => some k_ ≠ (.slice U3 Jo.length ob : Value).ownBlock) (Kd.R_keptB (V5.1) hkp (fun k_ hk_ hs_ => (hk_) hs_)) (fun k_ hk_ => hk_.1)); replace Vf := hqZ (blk_kept (Vf.1) hkp (fun hs_ => (fun e_ => (Kd.R_ne JJ.1 Vf.1 (by decide)) e_) hs_)); replace JJ := hqZ (Kd.R_reok rfl hy0 (fun k_ e_ => JJ.1.1 k_ e_)); replace HB := hqZ (hb); clear hb hkp hy0; obtain ⟨Jq2, mI, eo36⟩ := Kd.R_slice V5.1; subst eo36; have p342 : 0 ≤ (VC : Int) := oA; have q342 : VC < (Jz.length : Int) := oA; obtain ⟨ad342, e342, hx342_0⟩ := Kd.at_int (Kd.R_reads' V5.1).2.2 VC p342 q342; cases e342; replace p342 := eq_true p342; replace q342 := eq_true q342; have p32 : 0 ≤ (VC : Int) := oA; have q32 : (VC : Int) < ((Jz.length : Int) : Int) := oA; obtain ⟨ES, XE, eo32, MP, gl32, cl32, HG32⟩ := Kd.R_form V5.1 (by omega); (cases eo32); have GB32 := hqZ MP; have GG32 := hqZ HG32; clear MP gl32 HG32; (simp only [add_plain] at hx342_0); obtain ⟨hx32_0, hf32_0⟩ := Kd.R_celln 0 V5.1 (VC : Int) p32 q32; replace p32 := eq_true p32; replace q32 := eq_true q32; obtain ⟨hy37_, hz37_⟩ := Kd.R_celln 0 V5.1 (VC : Int) (oA) (oA); have HP37 := Kd.R_putg V5.1 (VC : Int) (wrap64 ((rd Jz VC) + 1))) | ((with_reducible refine gate_store (t := 3) (p := 55) rfl ?_); refine store_event (t := 3) (p := 55) (v := ?vo_w38) (w1 := (w35.setCell ⟨ES, (VC : Int).toNat, none⟩ (.int .i64 (wrap64 ((rd Jz VC) + 1))))) ?hg ?ho ?hn ?hr ?_; (case ho => rfl); (case hg => rfl); (case hn => rfl); (case hr => go_simp); intro w38 hw; have hg : w35.grownBy w38 (some ES) := (by rw [hw]; exact HP37.2); have hp_ : Kd.R (Kd.int .i64) 3 w38 w.heap.size (fun k_ => some k_ ≠ (.slice U3 Jo.length ob : Value).ownBlock) (.slice (some ⟨ES, 0, none⟩) Jz.length mI) mH := (by rw [hw, Ny343.1]; exact HP37.1); clear HP37; replace JJ := hqZ (Kd.R_after (v := (.slice (some ⟨ES, 0, none⟩) Jz.length mI)) (v1 := (.slice (some ⟨ES, 0, none⟩) Jz.length mI)) (ok := (fun _ => True)) (Kd.R_mono JJ.1 (fun _ hk => ⟨trivial, hk⟩)) hg (.inl rfl)); replace Vf := hqZ (zl0 (g := jt) (Vf.1) hg (Kd.R_ne V5.1 Vf.1 (by decide))); replace V5 := hqZ (hp_); replace HB := hqZ ((by rw [hw]; exact zm0 (HB.1) GB32.1 : Below w.heap.size w w38)); clear hg hw hp_))
    go_roundg kj13
    case measure => have := V8.1; have := Uk.1; omega
    case rel => exact ⟨(ER), (mH), (wrap64 (Je + 1)), (rfl), H', ⟨by have := V8.1; have := Uk.1; omega⟩, ⟨Kd.R_mono JJ.1 (fun _ hk => hk.2)⟩, ⟨V5.1⟩, ⟨Vf.1⟩, ⟨HB.1⟩⟩
mutual
def yj0.l0 : Nat → Int → List Int → List Int → List Int → Int → Int → List (List Int) → Option (List Int × Bool)
 | 0, _, _, _, _, _, _, _ => none
 | k + 1, x1, x2, x9, MQ, NR, MR, dt => if MR < NR then (if 0 ≤ MR then (if MR < (MQ.length : Int) then (if x9.length < 17592186044416 then (yj0.l0 k x1 x2 (x9 ++ [wrap64 (2 * (rd MQ MR))]) MQ NR (wrap64 (MR + 1)) dt) else (none)) else (none)) else (none)) else ((yg0.f k dt x1 x9 3000000).bind fun Ds => (if Ds.2.2 = true then (yj0.l1 k x9 Ds.1 (([] : List Int)) x2 (x2.length : Int) 0) else (some (([] : List Int), false))))
def yj0.l1 : Nat → List Int → List Int → List Int → List Int → Int → Int → Option (List Int × Bool)
 | 0, _, _, _, _, _, _ => none
 | k + 1, x9, YZ, us, mU, Zb, ZP => if ZP < Zb then (if 0 ≤ ZP then (if ZP < (mU.length : Int) then (if ZP < (x9.length : Int) then (if ZP < (YZ.length : Int) then (if us.length < 17592186044416 then (yj0.l1 k x9 YZ (us ++ [wrap64 ((wrap64 ((rd mU ZP) + (rd x9 ZP))) - (rd YZ ZP))]) mU Zb (wrap64 (ZP + 1))) else (none)) else (none)) else (none)) else (none)) else (none)) else (some (us, true))
end
def yj0.f (k : Nat) (J0 : List (List Int)) (a1 : Int) (l2 : List Int) : Option (List Int × Bool) := (yp0.f k J0 a1).bind fun ju => (yj0.l0 k a1 l2 (([] : List Int)) ju (ju.length : Int) 0 J0)
theorem yj0.mono_l : ∀ k, (∀ y0 y1 y2 y3 y4 y5 y6, LeO (yj0.l0 k y0 y1 y2 y3 y4 y5 y6) (yj0.l0 (k + 1) y0 y1 y2 y3 y4 y5 y6)) ∧ (∀ y0 y1 y2 y3 y4 y5, LeO (yj0.l1 k y0 y1 y2 y3 y4 y5) (yj0.l1 (k + 1) y0 y1 y2 y3 y4 y5))
 | 0 => ⟨fun _ _ _ _ _ _ _ r h => by simp [yj0.l0] at h, fun _ _ _ _ _ _ r h => by simp [yj0.l1] at h⟩
 | k + 1 => by
  obtain ⟨ih0, ih1⟩ := yj0.mono_l k
  refine ⟨?_, ?_⟩
  ·intro y0 y1 y2 y3 y4 y5 y6
   unfold yj0.l0
   repeat' (with_reducible first | apply ih0 | apply ih1 | apply yp0.mono | apply yg0.mono | apply LeO.refl | apply LeO.none | refine LeO.ite ?_ ?_ | refine LeO.bind ?_ (fun _ => ?_))
  ·intro y0 y1 y2 y3 y4 y5
   unfold yj0.l1
   repeat' (with_reducible first | apply ih0 | apply ih1 | apply yp0.mono | apply yg0.mono | apply LeO.refl | apply LeO.none | refine LeO.ite ?_ ?_ | refine LeO.bind ?_ (fun _ => ?_))
theorem yj0.mono : ∀ a0 a1 a2 k, LeO (yj0.f k a0 a1 a2) (yj0.f (k + 1) a0 a1 a2) := by
 intro a0 a1 a2 k
 obtain ⟨ih0, ih1⟩ := yj0.mono_l k
 unfold yj0.f
 repeat' (with_reducible first | apply ih0 | apply ih1 | apply yp0.mono | apply yg0.mono | apply LeO.refl | apply LeO.none | refine LeO.ite ?_ ?_ | refine LeO.bind ?_ (fun _ => ?_))
def yj0.T15 : Bool × List (List Nat × List Nat) := (true, [([], []), ([], []), ([], []), ([], []), ([2, 3], [2, 3]), ([4], [4]), ([1, 5], [1, 5]), ([], []), ([], []), ([7, 8], [7, 8]), ([9], [9]), ([6, 10], [6, 10]), ([11], [11]), ([0, 12], [0, 12]), ([13, 13, 0, 1, 2, 3, 4, 5, 6, 7, 8, 9, 10, 11, 12, 13], [0, 13])])
def yj0.B15 : List Nat := [0, 0, 0, 0, 12, 28, 62, 0, 0, 384, 896, 2046, 4094, 8191, 16383]
theorem yj0.tab15 : rtab .any (opsOf Try.f68 15) = yj0.T15 := by kernel_rfl
theorem yj0.bits15 : waitsOk yj0.T15.2 yj0.B15 = true := by kernel_rfl
theorem yj0.calls (k : Nat) (J4 : Option Addr) (J2 : Nat) (J0 : List (List Int)) (a1 : Int) (A2 : Option Addr) (c2 : Nat) (l2 : List Int) (r1 : List Int) (r2 : Bool) (w : World) (hr0_0 : Kd.C (Kd.slice 3 (Kd.int .i64)) w J4 J0.length J0) (hc0_0 : J0.length ≤ J2) (hr2 : Kd.C (Kd.int .i64) w A2 l2.length l2) (hc2 : l2.length ≤ c2) (h : yj0.f k J0 a1 l2 = some (r1, r2)) :
  Calls Try.prog 68 #[.agg #[.slice J4 J0.length J2], .int .i64 a1, .slice A2 l2.length c2] w fun e w' => ∃ v0_ : Value, e = .returned (.tuple #[v0_, .bool r2]) ∧ Kd.R (Kd.int .i64) 3 w' w.heap.size (fun _ => True) v0_ r1 ∧ Below w.heap.size w w' := by
 have hu26 := Try.underlying26
 have Ja := hqZ hr0_0
 have HC0_0 := hqZ hc0_0
 clear hr0_0 hc0_0
 have jz := hqZ hr2
 have HC2 := hqZ hc2
 clear hr2 hc2
 have HB := hqZ (Below.refl w.heap.size w)
 have H : ((yp0.f k J0 a1).bind fun ju => (yj0.l0 k a1 l2 (([] : List Int)) ju (ju.length : Int) 0 J0)) = some (r1, r2) := h
 clear h
 replace H := Option.bind_eq_some_iff.mp H
 obtain ⟨ju, A40, H⟩ := H
 try dsimp only at H
 have A4 := hqZ A40
 clear A40
 obtain ⟨MS, hy718⟩ : ∃ y_ : List Int, y_ = (([] : List Int)) := ⟨_, rfl⟩
 replace H : (yj0.l0 k a1 l2 MS ju (ju.length : Int) 0 J0) = some (r1, r2) := by (rw [hy718]; with_reducible exact H)
 have Ny718 := hqZ hy718
 clear hy718
 have H' := hqZ H
 clear H
 go_enter Try.func68, Try.ntmps68
 go_wp2_with (first | ((with_reducible refine zi0 (N := 3) rfl ?_); refine zk0 ?hg (N := 3) ?hd (cs := #[.slice J4 J0.length J2]) (t := 26) ?hr ?_; (case hd | hg => rfl); (case hr => go_simp); intro vB hg w5 hbox hb; have VL := hqZ (hbox); have Jn3 := hqZ ((by rw [hg]; exact (zb0 (HB.1)) : w.heap.size ≤ vB)); have Jn4 := hqZ ((by rw [hg]; exact (zb0 (HB.1)) : w.heap.size ≤ vB)); replace HB := hqZ (za0 (HB.1) hb); clear hb hbox hg; have Yk : w5.cell? ⟨vB, 0, none⟩ = some (.slice J4 J0.length J2) := (zf0 VL.1 0).trans rfl; have Yz := zc0 VL.1 0) | ((with_reducible refine ze0 (f := 47) rfl ?_); refine zM (some 20) Try.func47 #[.agg #[.slice J4 J0.length J2], .int .i64 a1] ?_; (with_reducible refine (yp0.calls k _ _ J0 a1 ju _ ?side1 ?side2 A4.1).mono ?_); (case side1 => exact (Kd.C_below Ja.1 HB.1)); (case side2 => exact HC0_0.1); rintro e w7 ⟨v716, rfl, ho0, hb⟩; refine ⟨_, rfl, ?_⟩; have UY := hqZ (Kd.R_lower ho0 (zb0 (HB.1))); replace VL := hqZ (zd0 (g := vB) (VL.1) hb); replace HB := hqZ (za0 (HB.1) hb); clear hb ho0) | ((with_reducible refine zi0 (N := 21) rfl ?_); refine Kd.R_lit (Kd.int .i64) _ 3 ?hg (N := 21) ?hd (xs := ([] : List Int)) (inner := []) (ok := fun _ => True) (okp := fun _ => True) ?hr ?hp (fun _ hk => hk) trivial (Below.refl _ _) (Nat.le_refl _) (by simp) ?_; (case hd | hg => rfl); (case hr => go_simp); (case hp => exact (Reps.none _ _)); intro v719 w8 ho9 hb hg_ hnew_; clear hg_ hnew_; (rw [← Ny718.1] at ho9); have MT := hqZ (Kd.R_lower (Kd.R_new' ho9 (Kd.R_lt (UY.1))) (zb0 (HB.1))); replace UY := hqZ (Kd.R_elder' (UY.1) (Kd.R_base ho9) hb); replace VL := hqZ (zd0 (g := vB) (VL.1) hb); replace HB := hqZ (za0 (HB.1) hb); clear hb ho9; obtain ⟨qD, Un, eo10⟩ := Kd.R_slice UY.1; subst eo10))
 go_loopg [9, 24] k (fun kq v9 v24 w' => ∃ (Jt : List Int) (jb : Int), v24 = .int .i64 jb ∧ zg0 (yj0.l0 kq a1 l2 Jt ju (ju.length : Int) jb J0 = some (r1, r2)) ∧ zg0 (kq ≤ k) ∧ zg0 (Kd.R (Kd.int .i64) 3 w' w.heap.size (fun k_ => some k_ ≠ ((.slice qD ju.length Un) : Value).ownBlock) v9 Jt) ∧ zg0 (Kd.R (Kd.int .i64) 3 w' w.heap.size (fun k_ => some k_ ≠ (v9 : Value).ownBlock) (.slice qD ju.length Un) ju) ∧ zg0 (w'.heap[vB]? = some (.cells #[(.slice J4 J0.length J2)] 26 (0, 0))) ∧ zg0 (Below w.heap.size w w'))
 case atStart => exact ⟨(MS), (0), (rfl), H', ⟨Nat.le_refl _⟩, ⟨Kd.R_mono MT.1 (fun _ hk => hk.2)⟩, ⟨Kd.R_mono UY.1 (fun _ hk => hk.2)⟩, ⟨VL.1⟩, ⟨HB.1⟩⟩
 case round =>
  clear H'
  try clear c2
  try clear p2
  try clear c4
  try clear c6
  try clear Yk
  try clear Yz
  obtain ⟨Jt, jb, rfl, HA, V8, Jj, jv, VL, HB⟩ := hrel
  obtain _ | k1 := gk
  ·exact absurd HA.1 (by simp [yj0.l0])
  have H := HA.1
  clear HA
  simp only [yj0.l0] at H
  by_cases c11 : jb < (ju.length : Int)
  ·rw [if_pos c11] at H
   have c11b0 : decide (jb < (ju.length : Int)) = true := decide_eq_true c11
   clear c11
   by_cases c12 : 0 ≤ jb
   rotate_left
   ·rw [if_neg c12] at H
    exact absurd H (by simp)
   rw [if_pos c12] at H
   have c12b0 : decide (0 ≤ jb) = true := decide_eq_true c12
   clear c12
   by_cases c13 : jb < (ju.length : Int)
   rotate_left
   ·rw [if_neg c13] at H
    exact absurd H (by simp)
   rw [if_pos c13] at H
   have c13b0 : decide (jb < (ju.length : Int)) = true := decide_eq_true c13
   clear c13
   by_cases c14 : Jt.length < 17592186044416
   rotate_left
   ·rw [if_neg c14] at H
    exact absurd H (by simp)
   rw [if_pos c14] at H
   have LMc14 := hqZ c14
   clear c14
   obtain ⟨MU, hy722⟩ : ∃ y_ : List Int, y_ = (Jt ++ [wrap64 (2 * (rd ju jb))]) := ⟨_, rfl⟩
   replace H : (yj0.l0 k1 a1 l2 MU ju (ju.length : Int) (wrap64 (jb + 1)) J0) = some (r1, r2) := by (rw [hy722]; with_reducible exact H)
   have Ny722 := hqZ hy722
   clear hy722
   have H' := hqZ H
   clear H
   have p721 : 0 ≤ (jb : Int) := oA
   have q721 : jb < (ju.length : Int) := oA
   obtain ⟨ad721, e721, hx721_0⟩ := Kd.at_int (Kd.R_reads' jv.1).2.2 jb p721 q721
   cases e721
   replace p721 := eq_true p721
   replace q721 := eq_true q721
   go_wp2_with (((with_reducible refine zu0 (b := .append) (xs := #[.tmp 28, .tmp 31]) rfl ?_); at_builtin; refine Kd.R_append (Kd.int .i64) (w0 := w) w.heap.size rfl (.tmp 28) (.tmp 31) 27 3 (.int .i64 0) 8 rfl Try.underlying27 info3 rfl (by decide) (by omega) u9 Jt (wrap64 (2 * (rd ju jb))) [.int .i64 (wrap64 (2 * (rd ju jb)))] (fun k_ => some k_ ≠ (.slice (some ad721) ju.length Un : Value).ownBlock) (fun _ => False) rfl rfl ?aP (fun _ hk => hk.elim) ?aF ?aO ?aB ?aS ?aL ?_; (case aP => exact rfl); (case aB => exact (HB.1)); (case aF => exact (fun k_ hk => Kd.fresh' (Kd.R_lt (jv.1)) k_ hk)); (case aO => exact (by (with_reducible repeat (first | apply Kd.R_alloc | apply Kd.R_drewN | apply Kd.R_drew)); exact Jj.1)); (case aS => exact (zb0 (HB.1))); (case aL => have := LMc14.1; omega); intro v723 w15 ho hb hg hat; rw [← Ny722.1] at ho; have n0_ := hqZ (Kd.R_after (ok := (fun _ => True)) (Kd.R_mono jv.1 (fun _ hk => ⟨trivial, hk⟩)) hg hat); have n1_ := hqZ (zl0 (g := vB) (VL.1) hg (Kd.R_ne Jj.1 VL.1 (by decide))); have n2_ := hqZ (hb); have n3_ := hqZ (ho); clear jv; clear VL; clear HB; clear Jj; have jv := n0_; have VL := n1_; have HB := n2_; have MV := n3_; clear n0_ n1_ n2_ n3_; clear ho hb hg hat))
   go_roundg k1
   case measure => have := V8.1; omega
   case rel => exact ⟨(MU), (wrap64 (jb + 1)), (rfl), H', ⟨by have := V8.1; omega⟩, ⟨MV.1⟩, ⟨Kd.R_mono jv.1 (fun _ hk => hk.2)⟩, ⟨VL.1⟩, ⟨HB.1⟩⟩
  rw [if_neg c11] at H
  have c11b0 : decide (jb < (ju.length : Int)) = false := decide_eq_false c11
  clear c11
  replace H := Option.bind_eq_some_iff.mp H
  obtain ⟨⟨Xa, MW, Ji2⟩, A160, H⟩ := H
  try dsimp only at H
  have A16 := hqZ A160
  clear A160
  by_cases c17 : Ji2 = true
  rotate_left
  ·replace c17 := Bool.eq_false_iff.mpr c17
   subst c17
   rw [if_neg (show ¬ (false = true) by decide)] at H
   simp only [Option.some.injEq, Prod.mk.injEq] at H
   obtain ⟨rfl, rfl⟩ := H
   have ZL : wr.cell? ⟨vB, 0, none⟩ = some (.slice J4 J0.length J2) := (zf0 VL.1 0).trans rfl
   have ZM := zc0 VL.1 0
   obtain ⟨U3, ob, eo33⟩ := Kd.R_slice Jj.1
   subst eo33
   go_wp2_with (((with_reducible refine ze0 (f := 29) rfl ?_); refine zM (some 38) Try.func29 #[.agg #[.slice J4 J0.length J2], .int .i64 a1, .slice U3 Jt.length ob, .int .i64 3000000] ?_; (with_reducible refine (yg0.calls k1 _ _ J0 a1 _ _ Jt 3000000 Xa MW false _ ?side1 ?side2 ?side3 ?side4 A16.1).mono ?_); (case side1 => exact (Kd.C_below Ja.1 HB.1)); (case side2 => exact HC0_0.1); (case side3 => exact (Kd.R_reads' Jj.1).2.2); (case side4 => exact (Kd.R_reads' Jj.1).2.1); rintro e w34 ⟨v726, v729, rfl, ho0, ho1, hb⟩; refine ⟨_, rfl, ?_⟩; have UZ := hqZ (Kd.R_lower (Kd.R_new' (Kd.R_new' ho0 (Kd.R_lt (Jj.1))) (Kd.R_lt (jv.1))) (zb0 (HB.1))); have du := hqZ (Kd.R_lower (Kd.R_new' (Kd.R_new' ho1 (Kd.R_lt (Jj.1))) (Kd.R_lt (jv.1))) (zb0 (HB.1))); replace Jj := hqZ (Kd.R_mono (Kd.R_told (Kd.R_told (Kd.R_old (Jj.1) hb) (Kd.R_base ho0)) (Kd.R_base ho1)) (fun _ h_ => h_.1)); replace jv := hqZ (Kd.R_mono (Kd.R_told (Kd.R_told (Kd.R_old (jv.1) hb) (Kd.R_base ho0)) (Kd.R_base ho1)) (fun _ h_ => h_.1)); replace VL := hqZ (zd0 (g := vB) (VL.1) hb); replace HB := hqZ (za0 (HB.1) hb); clear hb ho0 ho1))
   go_ret2
   exact ⟨_, rfl, by exact Kd.R_nil _ _ _ _ _, HB.1⟩
  subst c17
  rw [if_pos rfl] at H
  obtain ⟨MX, hy732⟩ : ∃ y_ : List Int, y_ = (([] : List Int)) := ⟨_, rfl⟩
  replace H : (yj0.l1 k1 Jt Xa MX l2 (l2.length : Int) 0) = some (r1, r2) := by (rw [hy732]; with_reducible exact H)
  have Ny732 := hqZ hy732
  clear hy732
  have H' := hqZ H
  clear H
  have YT : wr.cell? ⟨vB, 0, none⟩ = some (.slice J4 J0.length J2) := (zf0 VL.1 0).trans rfl
  have YU := zc0 VL.1 0
  obtain ⟨qo, Uf, eo19⟩ := Kd.R_slice Jj.1
  subst eo19
  go_wp2_with (first | ((with_reducible refine ze0 (f := 29) rfl ?_); refine zM (some 38) Try.func29 #[.agg #[.slice J4 J0.length J2], .int .i64 a1, .slice qo Jt.length Uf, .int .i64 3000000] ?_; (with_reducible refine (yg0.calls k1 _ _ J0 a1 _ _ Jt 3000000 Xa MW true _ ?side1 ?side2 ?side3 ?side4 A16.1).mono ?_); (case side1 => exact (Kd.C_below Ja.1 HB.1)); (case side2 => exact HC0_0.1); (case side3 => exact (Kd.R_reads' Jj.1).2.2); (case side4 => exact (Kd.R_reads' Jj.1).2.1); rintro e w20 ⟨v726, v729, rfl, ho0, ho1, hb⟩; refine ⟨_, rfl, ?_⟩; have UZ := hqZ (Kd.R_lower (Kd.R_new' (Kd.R_new' ho0 (Kd.R_lt (Jj.1))) (Kd.R_lt (jv.1))) (zb0 (HB.1))); have du := hqZ (Kd.R_lower (Kd.R_new' (Kd.R_new' ho1 (Kd.R_lt (Jj.1))) (Kd.R_lt (jv.1))) (zb0 (HB.1))); replace Jj := hqZ (Kd.R_mono (Kd.R_told (Kd.R_told (Kd.R_old (Jj.1) hb) (Kd.R_base ho0)) (Kd.R_base ho1)) (fun _ h_ => h_.1)); replace jv := hqZ (Kd.R_mono (Kd.R_told (Kd.R_told (Kd.R_old (jv.1) hb) (Kd.R_base ho0)) (Kd.R_base ho1)) (fun _ h_ => h_.1)); replace VL := hqZ (zd0 (g := vB) (VL.1) hb); replace HB := hqZ (za0 (HB.1) hb); clear hb ho0 ho1) | ((with_reducible refine zi0 (N := 44) rfl ?_); refine Kd.R_lit (Kd.int .i64) _ 3 ?hg (N := 44) ?hd (xs := ([] : List Int)) (inner := []) (ok := fun _ => True) (okp := fun _ => True) ?hr ?hp (fun _ hk => hk) trivial (Below.refl _ _) (Nat.le_refl _) (by simp) ?_; (case hd | hg => rfl); (case hr => go_simp); (case hp => exact (Reps.none _ _)); intro v733 w21 ho22 hb hg_ hnew_; clear hg_ hnew_; (rw [← Ny732.1] at ho22); have MY := hqZ (Kd.R_lower (Kd.R_new' (Kd.R_new' (Kd.R_new' (Kd.R_new' ho22 (Kd.R_lt (Jj.1))) (Kd.R_lt (jv.1))) (Kd.R_lt (UZ.1))) (Kd.R_lt (du.1))) (zb0 (HB.1))); replace Jj := hqZ (Kd.R_elder' (Jj.1) (Kd.R_base ho22) hb); replace jv := hqZ (Kd.R_elder' (jv.1) (Kd.R_base ho22) hb); replace UZ := hqZ (Kd.R_elder' (UZ.1) (Kd.R_base ho22) hb); replace du := hqZ (Kd.R_elder' (du.1) (Kd.R_base ho22) hb); replace VL := hqZ (zd0 (g := vB) (VL.1) hb); replace HB := hqZ (za0 (HB.1) hb); clear hb ho22))
  go_loopg [15, 47] k1 (fun kq v15 v47 w' => ∃ (Yh : List Int) (VB : Int), v47 = .int .i64 VB ∧ zg0 (yj0.l1 kq Jt Xa Yh l2 (l2.length : Int) VB = some (r1, r2)) ∧ zg0 (kq ≤ k1) ∧ zg0 (Kd.R (Kd.int .i64) 3 w' w.heap.size (fun k_ => some k_ ≠ (v726 : Value).ownBlock ∧ some k_ ≠ (v15 : Value).ownBlock) (.slice qo Jt.length Uf) Jt) ∧ zg0 (Kd.R (Kd.int .i64) 3 w' w.heap.size (fun k_ => some k_ ≠ ((.slice qo Jt.length Uf) : Value).ownBlock ∧ some k_ ≠ (v15 : Value).ownBlock) v726 Xa) ∧ zg0 (Kd.R (Kd.int .i64) 3 w' w.heap.size (fun k_ => some k_ ≠ ((.slice qo Jt.length Uf) : Value).ownBlock ∧ some k_ ≠ (v726 : Value).ownBlock) v15 Yh) ∧ zg0 (w'.heap[vB]? = some (.cells #[(.slice J4 J0.length J2)] 26 (0, 0))) ∧ zg0 (Below w.heap.size w w'))
  case atStart => exact ⟨(MX), (0), (rfl), H', ⟨Nat.le_refl _⟩, ⟨Kd.R_mono Jj.1 (fun _ hk => ⟨hk.1.1.2, hk.2⟩)⟩, ⟨Kd.R_mono UZ.1 (fun _ hk => ⟨hk.1.1.2, hk.2⟩)⟩, ⟨Kd.R_mono MY.1 (fun _ hk => ⟨hk.1.1.1.2, hk.1.2⟩)⟩, ⟨VL.1⟩, ⟨HB.1⟩⟩
  case round =>
   clear H'
   try clear c1
   try clear c2
   try clear p2
   try clear c4
   try clear c6
   try clear p6
   try clear p7
   try clear q7
   try clear hx7
   try clear c11
   try clear c11b0
   try clear c12
   try clear c12b0
   try clear c13
   try clear c13b0
   try clear c14
   try clear c17
   try clear YT
   try clear Yk
   try clear YU
   try clear Yz
   try clear hx721_0
   try clear p2
   try clear p721
   try clear q721
   obtain ⟨Yh, VB, rfl, HA, YO, Jj, V5, Vq, VL, HB⟩ := hrel
   obtain _ | k2 := gk
   ·exact absurd HA.1 (by simp [yj0.l1])
   have H := HA.1
   clear HA
   simp only [yj0.l1] at H
   by_cases c23 : VB < (l2.length : Int)
   rotate_left
   ·rw [if_neg c23] at H
    have c23b0 : decide (VB < (l2.length : Int)) = false := decide_eq_false c23
    clear c23
    simp only [Option.some.injEq, Prod.mk.injEq] at H
    obtain ⟨rfl, rfl⟩ := H
    go_wp2
    go_ret2
    exact ⟨_, rfl, Kd.R_mono Vq.1 (fun _ hk => trivial), HB.1⟩
   rw [if_pos c23] at H
   have c23b0 : decide (VB < (l2.length : Int)) = true := decide_eq_true c23
   clear c23
   by_cases c24 : 0 ≤ VB
   rotate_left
   ·rw [if_neg c24] at H
    exact absurd H (by simp)
   rw [if_pos c24] at H
   have c24b0 : decide (0 ≤ VB) = true := decide_eq_true c24
   clear c24
   by_cases c25 : VB < (l2.length : Int)
   rotate_left
   ·rw [if_neg c25] at H
    exact absurd H (by simp)
   rw [if_pos c25] at H
   have c25b0 : decide (VB < (l2.length : Int)) = true := decide_eq_true c25
   clear c25
   by_cases c26 : VB < (Jt.length : Int)
   rotate_left
   ·rw [if_neg c26] at H
    exact absurd H (by simp)
   rw [if_pos c26] at H
   have c26b0 : decide (VB < (Jt.length : Int)) = true := decide_eq_true c26
   clear c26
   by_cases c27 : VB < (Xa.length : Int)
   rotate_left
   ·rw [if_neg c27] at H
    exact absurd H (by simp)
   rw [if_pos c27] at H
   have c27b0 : decide (VB < (Xa.length : Int)) = true := decide_eq_true c27
   clear c27
   by_cases c28 : Yh.length < 17592186044416
   rotate_left
   ·rw [if_neg c28] at H
    exact absurd H (by simp)
   rw [if_pos c28] at H
   have LMc28 := hqZ c28
   clear c28
   obtain ⟨MZ, hy738⟩ : ∃ y_ : List Int, y_ = (Yh ++ [wrap64 ((wrap64 ((rd l2 VB) + (rd Jt VB))) - (rd Xa VB))]) := ⟨_, rfl⟩
   replace H : (yj0.l1 k2 Jt Xa MZ l2 (l2.length : Int) (wrap64 (VB + 1))) = some (r1, r2) := by (rw [hy738]; with_reducible exact H)
   have Ny738 := hqZ hy738
   clear hy738
   have H' := hqZ H
   clear H
   have p735 : 0 ≤ (VB : Int) := oA
   have q735 : VB < (l2.length : Int) := oA
   obtain ⟨ad735, e735, hx735_0⟩ := Kd.at_int jz.1 VB p735 q735
   cases e735
   replace hx735_0 := (HB.1.cell (World.block_lt_of_cell? w _ hx735_0)).trans hx735_0
   replace p735 := eq_true p735
   replace q735 := eq_true q735
   try go_wp2
   have n0_ := hqZ (Kd.R_drew Jj.1)
   have n1_ := hqZ (Kd.R_drew V5.1)
   have n2_ := hqZ (Kd.R_drew Vq.1)
   have n3_ := hqZ (blk_drew VL.1)
   have n4_ := hqZ (below_drew1 HB.1)
   clear Jj V5 Vq VL HB
   have Jj := n0_
   have V5 := n1_
   have Vq := n2_
   have VL := n3_
   have HB := n4_
   clear n0_ n1_ n2_ n3_ n4_
   have p736 : 0 ≤ (VB : Int) := oA
   have q736 : VB < (Jt.length : Int) := oA
   obtain ⟨ad736, e736, hx736_0⟩ := Kd.at_int (Kd.R_reads' Jj.1).2.2 VB p736 q736
   cases e736
   replace p736 := eq_true p736
   replace q736 := eq_true q736
   obtain ⟨mC, EH, eo30⟩ := Kd.R_slice V5.1
   (subst eo30)
   have p737 : 0 ≤ (VB : Int) := oA
   have q737 : VB < (Xa.length : Int) := oA
   obtain ⟨ad737, e737, hx737_0⟩ := Kd.at_int (Kd.R_reads' V5.1).2.2 VB p737 q737
   cases e737
   replace p737 := eq_true p737
   replace q737 := eq_true q737
   refine start_ (n := 15) (S := fun w' => w'.cell? (ad736.add (VB).toNat) = some (.int .i64 (rd Jt VB)) ∧ w'.cell? (ad737.add (VB).toNat) = some (.int .i64 (rd Xa VB))) (ds := [12, 13]) #[false, false, false, false, false, false, false, false, false, false, false, false, false, false, false] (by kernel_rfl) rfl rfl ⟨hx736_0, hx737_0⟩ (fun hHeld => ?_); refine with_tabW yj0.tab15 yj0.bits15 (fun HT_ HW_ => ?_)
   generalize wr.drew = w29 at Jj V5 Vq VL HB hx736_0 hx737_0 hHeld ⊢
   refine pure_ (i := 0) (N := some 52) (v := ?_) (a' := ?_) (bf 15 1) rfl rfl (zt0 HT_.1 (by kernel_rfl)) (fun _ _ _ h => h) (Or.inl ⟨by rfl, ?_⟩) ?_ ?_
   rotate_left
   ·intro w'; go_simp; with_reducible rfl
   rotate_left
   ·simp only [Act.put, zA, zB, zC, i64_w, i32_w]; rfl
   refine pure_ (i := 1) (N := some 53) (v := ?_) (a' := ?_) (bf 15 3) rfl rfl (zt0 HT_.1 (by kernel_rfl)) (fun _ _ _ h => h) (Or.inl ⟨by rfl, ?_⟩) ?_ ?_
   rotate_left
   ·intro w'; go_simp; with_reducible rfl
   rotate_left
   ·simp only [Act.put, zA, zB, zC, i64_w, i32_w]; rfl
   refine pure_ (i := 2) (N := some 54) (v := ?_) (a' := ?_) (bf 15 7) rfl rfl (zt0 HT_.1 (by kernel_rfl)) (fun _ _ _ h => h) (Or.inl ⟨by rfl, ?_⟩) ?_ ?_
   rotate_left
   ·intro w'; go_simp; with_reducible rfl
   rotate_left
   ·simp only [Act.put, zA, zB, zC, i64_w, i32_w]; rfl
   refine pure_ (i := 3) (N := some 55) (v := ?_) (a' := ?_) (bf 15 15) rfl rfl (zt0 HT_.1 (by kernel_rfl)) (fun _ _ _ h => h) (Or.inl ⟨by rfl, ?_⟩) ?_ ?_
   rotate_left
   ·intro w'; go_simp; with_reducible rfl
   rotate_left
   ·simp only [Act.put, zA, zB, zC, i64_w, i32_w]; rfl
   refine pure_ (i := 4) (N := some 56) (v := ?_) (a' := ?_) (bf 15 31) rfl rfl (zt0 HT_.1 (by kernel_rfl)) (fun _ _ _ h => h) (Or.inl ⟨by rfl, ?_⟩) ?_ ?_
   rotate_left
   ·intro w'; go_simp; with_reducible rfl
   rotate_left
   ·simp only [Act.put, zA, zB, zC, i64_w, i32_w]; rfl
   refine pure_ (i := 7) (N := some 59) (v := ?_) (a' := ?_) (bf 15 159) rfl rfl (zt0 HT_.1 (by kernel_rfl)) (fun _ _ _ h => h) (Or.inl ⟨by rfl, ?_⟩) ?_ ?_
   rotate_left
   ·intro w'; go_simp; with_reducible rfl
   rotate_left
   ·simp only [Act.put, zA, zB, zC, i64_w, i32_w]; rfl
   refine pure_ (i := 8) (N := some 60) (v := ?_) (a' := ?_) (bf 15 415) rfl rfl (zt0 HT_.1 (by kernel_rfl)) (fun _ _ _ h => h) (Or.inl ⟨by rfl, ?_⟩) ?_ ?_
   rotate_left
   ·intro w'; go_simp; with_reducible rfl
   rotate_left
   ·simp only [Act.put, zA, zB, zC, i64_w, i32_w]; rfl
   refine pure_ (i := 9) (N := some 61) (v := ?_) (a' := ?_) (bf 15 927) rfl rfl (zt0 HT_.1 (by kernel_rfl)) (fun _ _ _ h => h) (Or.inl ⟨by rfl, ?_⟩) ?_ ?_
   rotate_left
   ·intro w'; go_simp; with_reducible rfl
   rotate_left
   ·simp only [Act.put, zA, zB, zC, i64_w, i32_w]; rfl
   refine take_ (i := 5) (N := some 57) (v := ?_) (a' := ?_) (bf 15 959) rfl rfl (take_ofW HT_.1 HW_.1 (by kernel_rfl)) (fun _ _ _ h => h) (Or.inl ⟨by rfl, ?_⟩) hHeld ?_ ?_
   rotate_left
   ·rintro w' ⟨s0, s1⟩; go_simp; with_reducible rfl
   rotate_left
   ·simp only [Act.put, zA, zB, zC, i64_w, i32_w]; rfl
   refine pure_ (i := 6) (N := some 58) (v := ?_) (a' := ?_) (bf 15 1023) rfl rfl (zt0 HT_.1 (by kernel_rfl)) (fun _ _ _ h => h) (Or.inl ⟨by rfl, ?_⟩) ?_ ?_
   rotate_left
   ·intro w'; go_simp; with_reducible rfl
   rotate_left
   ·simp only [Act.put, zA, zB, zC, i64_w, i32_w]; rfl
   refine take_ (i := 10) (N := some 62) (v := ?_) (a' := ?_) (bf 15 2047) rfl rfl (take_ofW HT_.1 HW_.1 (by kernel_rfl)) (fun _ _ _ h => h) (Or.inl ⟨by rfl, ?_⟩) hHeld ?_ ?_
   rotate_left
   ·rintro w' ⟨s0, s1⟩; go_simp; with_reducible rfl
   rotate_left
   ·simp only [Act.put, zA, zB, zC, i64_w, i32_w]; rfl
   refine pure_ (i := 11) (N := some 63) (v := ?_) (a' := ?_) (bf 15 4095) rfl rfl (zt0 HT_.1 (by kernel_rfl)) (fun _ _ _ h => h) (Or.inl ⟨by rfl, ?_⟩) ?_ ?_
   rotate_left
   ·intro w'; go_simp; with_reducible rfl
   rotate_left
   ·simp only [Act.put, zA, zB, zC, i64_w, i32_w]; rfl
   refine last_ (i := 12) (N := some 64) (bf 15 8191) rfl rfl (one_of HT_.1 (by kernel_rfl)) (by decide) (fun K hK => ?_)
   refine value_ (w1 := ?_) (v := ?_) (by rfl) rfl ?_ ?_
   rotate_left 2
   ·go_simp
    constructor
    ·rfl
    ·rfl
   refine hK.out _ _ ?_
   clear hK K
   refine norm_ (a' := ?_) ?_ ?_
   rotate_left
   ·show Act.put _ (some 64) _ = _; simp only [Act.put, zA, zB, zC, i64_w, i32_w]; rfl
   refine last_ (i := 13) (N := some 65) (bf 15 16383) rfl rfl (one_of HT_.1 (by kernel_rfl)) (by decide) (fun K hK => ?_)
   refine Kd.R_append_step (Kd.int .i64) (w0 := w) w.heap.size (by rfl) (.tmp 52) (.tmp 64) 27 3 (.int .i64 0) 8 rfl Try.underlying27 info3 rfl (by decide) (by omega) u15 Yh (wrap64 ((wrap64 ((rd l2 VB) + (rd Jt VB))) - (rd Xa VB))) [.int .i64 (wrap64 ((wrap64 ((rd l2 VB) + (rd Jt VB))) - (rd Xa VB)))] (fun k_ => some k_ ≠ (.slice (some ad736) Jt.length Uf : Value).ownBlock ∧ some k_ ≠ (.slice (some ad737) Xa.length EH : Value).ownBlock) (fun _ => False) rfl rfl ?aP (fun _ hk => hk.elim) ?aF ?aO ?aB ?aS ?aL ?_
   (case aP => exact rfl)
   (case aB => exact (HB.1))
   (case aF => exact (fun k_ hk => ⟨Kd.fresh' (Kd.R_lt (Jj.1)) k_ hk, Kd.fresh' (Kd.R_lt (V5.1)) k_ hk⟩))
   (case aO => exact (by (with_reducible repeat (first | apply Kd.R_alloc | apply Kd.R_drewN | apply Kd.R_drew)); exact Vq.1))
   (case aS => exact (zb0 (HB.1)))
   (case aL => have := LMc28.1; omega)
   intro v739 w31 ho hb hg hat
   rw [← Ny738.1] at ho
   have n0_ := hqZ (Kd.R_after (ok := (fun k_ => some k_ ≠ (.slice (some ad737) Xa.length EH : Value).ownBlock)) (Jj.1) hg hat)
   have n1_ := hqZ (Kd.R_after (ok := (fun k_ => some k_ ≠ (.slice (some ad736) Jt.length Uf : Value).ownBlock)) (V5.1) hg hat)
   have n2_ := hqZ (zl0 (g := vB) (VL.1) hg (Kd.R_ne Vq.1 VL.1 (by decide)))
   have n3_ := hqZ (hb)
   have n4_ := hqZ (ho)
   clear Jj V5 VL HB Vq
   have Jj := n0_
   have V5 := n1_
   have VL := n2_
   have HB := n3_
   have N0 := n4_
   clear n0_ n1_ n2_ n3_ n4_ ho hb hg hat
   refine hK.out _ _ ?_
   clear hK K
   refine norm_ (a' := ?_) ?_ ?_
   rotate_left
   ·show Act.put _ (some 65) _ = _; simp only [Act.put, zA, zB, zC, i64_w, i32_w]; rfl
   refine pure_ (i := 14) (N := some 15) (v := ?_) (a' := ?_) (bf 15 32767) rfl rfl (zt0 HT_.1 (by kernel_rfl)) (fun _ _ _ h => h) (Or.inl ⟨by rfl, ?_⟩) ?_ ?_
   rotate_left
   ·intro w'; go_simp; with_reducible rfl
   rotate_left
   ·simp only [Act.put, zA, zB, zC, i64_w, i32_w]; rfl
   refine done_ (done_of HT_.1 (by kernel_rfl)) ?_
   try go_wp2
   go_roundg k2
   case measure => have := V8.1; have := YO.1; omega
   case rel => exact ⟨(MZ), (wrap64 (VB + 1)), (rfl), H', ⟨by have := V8.1; have := YO.1; omega⟩, ⟨Jj.1⟩, ⟨V5.1⟩, ⟨N0.1⟩, ⟨VL.1⟩, ⟨HB.1⟩⟩
def yd1.l0 : Nat → List Int → List Int → Int → Int → Option (Bool)
 | 0, _, _, _, _ => none
 | k + 1, x0, x1, YZ, jA => if jA < YZ then (if 0 ≤ jA then (if jA < (x0.length : Int) then (if jA < (x1.length : Int) then (if (rd x0 jA) = (rd x1 jA) then (yd1.l0 k x0 x1 YZ (wrap64 (jA + 1))) else (some false)) else (none)) else (none)) else (none)) else (some true)
def yd1.f (k : Nat) (l0 : List Int) (l1 : List Int) : Option (Bool) := if (l0.length : Int) = (l1.length : Int) then (yd1.l0 k l0 l1 (l0.length : Int) 0) else (some false)
theorem yd1.mono_l : ∀ k, (∀ y0 y1 y2 y3, LeO (yd1.l0 k y0 y1 y2 y3) (yd1.l0 (k + 1) y0 y1 y2 y3))
 | 0 => fun _ _ _ _ r h => by simp [yd1.l0] at h
 | k + 1 => by
  have ih0 := yd1.mono_l k
  ·intro y0 y1 y2 y3
   unfold yd1.l0
   repeat' (with_reducible first | apply ih0 | apply LeO.refl | apply LeO.none | refine LeO.ite ?_ ?_ | refine LeO.bind ?_ (fun _ => ?_))
theorem yd1.mono : ∀ a0 a1 k, LeO (yd1.f k a0 a1) (yd1.f (k + 1) a0 a1) := by
 intro a0 a1 k
 have ih0 := yd1.mono_l k
 unfold yd1.f
 repeat' (with_reducible first | apply ih0 | apply LeO.refl | apply LeO.none | refine LeO.ite ?_ ?_ | refine LeO.bind ?_ (fun _ => ?_))
theorem yd1.calls (k : Nat) (A0 : Option Addr) (c0 : Nat) (l0 : List Int) (A1 : Option Addr) (c1 : Nat) (l1 : List Int) (r : Bool) (w : World) (hr0 : Kd.C (Kd.int .i64) w A0 l0.length l0) (hc0 : l0.length ≤ c0) (hr1 : Kd.C (Kd.int .i64) w A1 l1.length l1) (hc1 : l1.length ≤ c1) (h : yd1.f k l0 l1 = some r) :
  Calls Try.prog 69 #[.slice A0 l0.length c0, .slice A1 l1.length c1] w fun e w' => e = .returned (.bool r) ∧ Drawn0 w w' := by
 have uU := hqZ hr0
 have HC0 := hqZ hc0
 clear hr0 hc0
 have Ue := hqZ hr1
 have HC1 := hqZ hc1
 clear hr1 hc1
 have H : (if (l0.length : Int) = (l1.length : Int) then (yd1.l0 k l0 l1 (l0.length : Int) 0) else (some false)) = some r := h
 clear h
 by_cases c3 : (l0.length : Int) = (l1.length : Int)
 rotate_left
 ·rw [if_neg c3] at H
  have c3b0 : ((l0.length : Int) == (l1.length : Int)) = false := beq_eq_false_iff_ne.mpr c3
  have c3b1 : ((l0.length : Int) != (l1.length : Int)) = true := bne_iff_ne.mpr c3
  have c3b2 : (l0.length == l1.length) = false := by (simp at c3 ⊢; omega)
  obtain rfl := Option.some.inj H
  go_enter Try.func69, Try.ntmps69
  go_wp2
  repeat (go_quiet (fail); try go_wp2)
  go_ret
  exact ⟨rfl, by repeat (exact Drawn0.refl _)⟩
 rw [if_pos c3] at H
 have c3b0 : ((l0.length : Int) == (l1.length : Int)) = true := beq_iff_eq.mpr c3
 have c3b1 : ((l0.length : Int) != (l1.length : Int)) = false := bne_eq_false_iff_eq.mpr c3
 have c3b2 : (l0.length == l1.length) = true := by (simp at c3 ⊢; omega)
 clear c3
 have H' := hqZ H
 clear H
 go_enter Try.func69, Try.ntmps69
 go_wp2
 repeat (go_quiet (fail); try go_wp2)
 go_loopg [13] k (fun kq v13 w' => ∃ (Je : Int), v13 = .int .i64 Je ∧ zg0 (yd1.l0 kq l0 l1 (l0.length : Int) Je = some r) ∧ zg0 (kq ≤ k) ∧ Drawn0 w w')
 case atStart => exact ⟨(0), (rfl), H', ⟨Nat.le_refl _⟩, by repeat (exact Drawn0.refl _)⟩
 case round =>
  clear H'
  try clear c1
  try clear p2
  try clear c3
  try clear c3b0
  try clear c3b1
  try clear c3b2
  obtain ⟨Je, rfl, HA, V8, ⟨m1, rfl⟩⟩ := hrel
  obtain _ | k1 := gk
  ·exact absurd HA.1 (by simp [yd1.l0])
  have H := HA.1
  clear HA
  simp only [yd1.l0] at H
  by_cases c4 : Je < (l0.length : Int)
  rotate_left
  ·rw [if_neg c4] at H
   have c4b0 : decide (Je < (l0.length : Int)) = false := decide_eq_false c4
   clear c4
   obtain rfl := Option.some.inj H
   go_wp2
   repeat (go_quiet (fail); try go_wp2)
   go_ret
   exact ⟨rfl, by repeat (first | exact Drawn0.refl _ | apply Drawn0.step)⟩
  rw [if_pos c4] at H
  have c4b0 : decide (Je < (l0.length : Int)) = true := decide_eq_true c4
  clear c4
  by_cases c5 : 0 ≤ Je
  rotate_left
  ·rw [if_neg c5] at H
   exact absurd H (by simp)
  rw [if_pos c5] at H
  have c5b0 : decide (0 ≤ Je) = true := decide_eq_true c5
  clear c5
  by_cases c6 : Je < (l0.length : Int)
  rotate_left
  ·rw [if_neg c6] at H
   exact absurd H (by simp)
  rw [if_pos c6] at H
  have c6b0 : decide (Je < (l0.length : Int)) = true := decide_eq_true c6
  clear c6
  by_cases c7 : Je < (l1.length : Int)
  rotate_left
  ·rw [if_neg c7] at H
   exact absurd H (by simp)
  rw [if_pos c7] at H
  have c7b0 : decide (Je < (l1.length : Int)) = true := decide_eq_true c7
  clear c7
  by_cases c8 : (rd l0 Je) = (rd l1 Je)
  rotate_left
  ·rw [if_neg c8] at H
   have c8b0 : ((rd l0 Je) == (rd l1 Je)) = false := beq_eq_false_iff_ne.mpr c8
   have c8b1 : ((rd l0 Je) != (rd l1 Je)) = true := bne_iff_ne.mpr c8
   obtain rfl := Option.some.inj H
   have p741 : 0 ≤ (Je : Int) := oA
   have q741 : Je < (l0.length : Int) := oA
   obtain ⟨ad741, e741, hx741_0⟩ := Kd.at_int uU.1 Je p741 q741
   cases e741
   replace p741 := eq_true p741
   replace q741 := eq_true q741
   have p742 : 0 ≤ (Je : Int) := oA
   have q742 : Je < (l1.length : Int) := oA
   obtain ⟨ad742, e742, hx742_0⟩ := Kd.at_int Ue.1 Je p742 q742
   cases e742
   replace p742 := eq_true p742
   replace q742 := eq_true q742
   go_wp2
   repeat (go_quiet (fail); try go_wp2)
   go_ret
   exact ⟨rfl, by repeat (first | exact Drawn0.refl _ | apply Drawn0.step)⟩
  rw [if_pos c8] at H
  have c8b0 : ((rd l0 Je) == (rd l1 Je)) = true := beq_iff_eq.mpr c8
  have c8b1 : ((rd l0 Je) != (rd l1 Je)) = false := bne_eq_false_iff_eq.mpr c8
  clear c8
  have H' := hqZ H
  clear H
  have p741 : 0 ≤ (Je : Int) := oA
  have q741 : Je < (l0.length : Int) := oA
  obtain ⟨ad741, e741, hx741_0⟩ := Kd.at_int uU.1 Je p741 q741
  cases e741
  replace p741 := eq_true p741
  replace q741 := eq_true q741
  have p742 : 0 ≤ (Je : Int) := oA
  have q742 : Je < (l1.length : Int) := oA
  obtain ⟨ad742, e742, hx742_0⟩ := Kd.at_int Ue.1 Je p742 q742
  cases e742
  replace p742 := eq_true p742
  replace q742 := eq_true q742
  go_wp2
  repeat (go_quiet (fail); try go_wp2)
  go_roundg k1
  case measure => have := V8.1; omega
  case rel => exact ⟨(wrap64 (Je + 1)), (rfl), H', ⟨by have := V8.1; omega⟩, by repeat (first | exact Drawn0.refl _ | apply Drawn0.step)⟩
def yx1.f (k : Nat) (J0 : List (List Int)) (a1 : Int) (l2 : List Int) : Option (Bool × Bool) := (yj0.f k J0 a1 l2).bind fun q4 => (if q4.2 = true then ((yg0.f k J0 a1 q4.1 3000000).bind fun q9 => ((yd1.f k q9.1 l2).bind fun ET => (some (ET, q9.2.2)))) else (some (false, false)))
theorem yx1.mono : ∀ a0 a1 a2 k, LeO (yx1.f k a0 a1 a2) (yx1.f (k + 1) a0 a1 a2) := by
 intro a0 a1 a2 k
 unfold yx1.f
 repeat' (with_reducible first | apply yj0.mono | apply yg0.mono | apply yd1.mono | apply LeO.refl | apply LeO.none | refine LeO.ite ?_ ?_ | refine LeO.bind ?_ (fun _ => ?_))
theorem yx1.calls (k : Nat) (J4 : Option Addr) (J2 : Nat) (J0 : List (List Int)) (a1 : Int) (A2 : Option Addr) (c2 : Nat) (l2 : List Int) (r1 : Bool) (r2 : Bool) (w : World) (hr0_0 : Kd.C (Kd.slice 3 (Kd.int .i64)) w J4 J0.length J0) (hc0_0 : J0.length ≤ J2) (hr2 : Kd.C (Kd.int .i64) w A2 l2.length l2) (hc2 : l2.length ≤ c2) (h : yx1.f k J0 a1 l2 = some (r1, r2)) :
  Calls Try.prog 53 #[.agg #[.slice J4 J0.length J2], .int .i64 a1, .slice A2 l2.length c2] w fun e w' => e = .returned (.tuple #[.bool r1, .bool r2]) ∧ Below w.heap.size w w' := by
 have hu26 := Try.underlying26
 have Ja := hqZ hr0_0
 have HC0_0 := hqZ hc0_0
 clear hr0_0 hc0_0
 have jz := hqZ hr2
 have HC2 := hqZ hc2
 clear hr2 hc2
 have HB := hqZ (Below.refl w.heap.size w)
 have H : ((yj0.f k J0 a1 l2).bind fun q4 => (if q4.2 = true then ((yg0.f k J0 a1 q4.1 3000000).bind fun q9 => ((yd1.f k q9.1 l2).bind fun ET => (some (ET, q9.2.2)))) else (some (false, false)))) = some (r1, r2) := h
 clear h
 replace H := Option.bind_eq_some_iff.mp H
 obtain ⟨⟨ZQ, Ji3⟩, A40, H⟩ := H
 try dsimp only at H
 have A4 := hqZ A40
 clear A40
 by_cases c5 : Ji3 = true
 rotate_left
 ·replace c5 := Bool.eq_false_iff.mpr c5
  subst c5
  rw [if_neg (show ¬ (false = true) by decide)] at H
  simp only [Option.some.injEq, Prod.mk.injEq] at H
  obtain ⟨rfl, rfl⟩ := H
  go_enter Try.func53, Try.ntmps53
  go_wp2_with (first | ((with_reducible refine zi0 (N := 3) rfl ?_); refine zk0 ?hg (N := 3) ?hd (cs := #[.slice J4 J0.length J2]) (t := 26) ?hr ?_; (case hd | hg => rfl); (case hr => go_simp); intro uC hg w15 hbox hb; have vQ := hqZ (hbox); have N1 := hqZ ((by rw [hg]; exact (zb0 (HB.1)) : w.heap.size ≤ uC)); have N2 := hqZ ((by rw [hg]; exact (zb0 (HB.1)) : w.heap.size ≤ uC)); replace HB := hqZ (za0 (HB.1) hb); clear hb hbox hg; have YM : w15.cell? ⟨uC, 0, none⟩ = some (.slice J4 J0.length J2) := (zf0 vQ.1 0).trans rfl; have YN := zc0 vQ.1 0) | ((with_reducible refine ze0 (f := 68) rfl ?_); refine zM (some 16) Try.func68 #[.agg #[.slice J4 J0.length J2], .int .i64 a1, .slice A2 l2.length c2] ?_; (with_reducible refine (yj0.calls k _ _ J0 a1 _ _ l2 ZQ false _ ?side1 ?side2 ?side3 ?side4 A4.1).mono ?_); (case side1 => exact (Kd.C_below Ja.1 HB.1)); (case side2 => exact HC0_0.1); (case side3 => exact (Kd.C_below jz.1 HB.1)); (case side4 => exact HC2.1); rintro e w17 ⟨v745, rfl, ho0, hb⟩; refine ⟨_, rfl, ?_⟩; have o0 := hqZ (Kd.R_lower ho0 (zb0 (HB.1))); replace vQ := hqZ (zd0 (g := uC) (vQ.1) hb); replace HB := hqZ (za0 (HB.1) hb); clear hb ho0))
  go_ret2
  exact ⟨rfl, HB.1⟩
 subst c5
 rw [if_pos rfl] at H
 replace H := Option.bind_eq_some_iff.mp H
 obtain ⟨⟨mJ, Ji4, Ji5⟩, A60, H⟩ := H
 try dsimp only at H
 have A6 := hqZ A60
 clear A60
 replace H := Option.bind_eq_some_iff.mp H
 obtain ⟨ET, A70, H⟩ := H
 try dsimp only at H
 have A7 := hqZ A70
 clear A70
 simp only [Option.some.injEq, Prod.mk.injEq] at H
 obtain ⟨rfl, rfl⟩ := H
 go_enter Try.func53, Try.ntmps53
 go_wp2_with (first | ((with_reducible refine zi0 (N := 3) rfl ?_); refine zk0 ?hg (N := 3) ?hd (cs := #[.slice J4 J0.length J2]) (t := 26) ?hr ?_; (case hd | hg => rfl); (case hr => go_simp); intro uC hg w8 hbox hb; have vQ := hqZ (hbox); have N1 := hqZ ((by rw [hg]; exact (zb0 (HB.1)) : w.heap.size ≤ uC)); have N2 := hqZ ((by rw [hg]; exact (zb0 (HB.1)) : w.heap.size ≤ uC)); replace HB := hqZ (za0 (HB.1) hb); clear hb hbox hg; have jB : w8.cell? ⟨uC, 0, none⟩ = some (.slice J4 J0.length J2) := (zf0 vQ.1 0).trans rfl; have vm := zc0 vQ.1 0) | ((with_reducible refine ze0 (f := 68) rfl ?_); refine zM (some 16) Try.func68 #[.agg #[.slice J4 J0.length J2], .int .i64 a1, .slice A2 l2.length c2] ?_; (with_reducible refine (yj0.calls k _ _ J0 a1 _ _ l2 ZQ true _ ?side1 ?side2 ?side3 ?side4 A4.1).mono ?_); (case side1 => exact (Kd.C_below Ja.1 HB.1)); (case side2 => exact HC0_0.1); (case side3 => exact (Kd.C_below jz.1 HB.1)); (case side4 => exact HC2.1); rintro e w10 ⟨v745, rfl, ho0, hb⟩; refine ⟨_, rfl, ?_⟩; have o0 := hqZ (Kd.R_lower ho0 (zb0 (HB.1))); replace vQ := hqZ (zd0 (g := uC) (vQ.1) hb); replace HB := hqZ (za0 (HB.1) hb); clear hb ho0; have vZ : w10.cell? ⟨uC, 0, none⟩ = some (.slice J4 J0.length J2) := (zf0 vQ.1 0).trans rfl; have u0 := zc0 vQ.1 0; obtain ⟨DW, DX, eo12⟩ := Kd.R_slice o0.1; subst eo12) | ((with_reducible refine ze0 (f := 29) rfl ?_); refine zM (some 25) Try.func29 #[.agg #[.slice J4 J0.length J2], .int .i64 a1, .slice DW ZQ.length DX, .int .i64 3000000] ?_; (with_reducible refine (yg0.calls k _ _ J0 a1 _ _ ZQ 3000000 mJ Ji4 Ji5 _ ?side1 ?side2 ?side3 ?side4 A6.1).mono ?_); (case side1 => exact (Kd.C_below Ja.1 HB.1)); (case side2 => exact HC0_0.1); (case side3 => exact (Kd.R_reads' o0.1).2.2); (case side4 => exact (Kd.R_reads' o0.1).2.1); rintro e w13 ⟨v749, v752, rfl, ho0, ho1, hb⟩; refine ⟨_, rfl, ?_⟩; have EU := hqZ (Kd.R_lower (Kd.R_new' ho0 (Kd.R_lt (o0.1))) (zb0 (HB.1))); have Jn5 := hqZ (Kd.R_lower (Kd.R_new' ho1 (Kd.R_lt (o0.1))) (zb0 (HB.1))); replace o0 := hqZ (Kd.R_mono (Kd.R_told (Kd.R_told (Kd.R_old (o0.1) hb) (Kd.R_base ho0)) (Kd.R_base ho1)) (fun _ h_ => h_.1)); replace vQ := hqZ (zd0 (g := uC) (vQ.1) hb); replace HB := hqZ (za0 (HB.1) hb); clear hb ho0 ho1; obtain ⟨Ji6, XL, eo14⟩ := Kd.R_slice EU.1; subst eo14) | ((with_reducible refine ze0 (f := 69) rfl ?_); refine zM (some 31) Try.func69 #[.slice Ji6 mJ.length XL, .slice A2 l2.length c2] ?_; (with_reducible refine (yd1.calls k _ _ mJ _ _ l2 ET _ ?side1 ?side2 ?side3 ?side4 A7.1).mono ?_); (case side1 => exact (Kd.R_reads' EU.1).2.2); (case side2 => exact (Kd.R_reads' EU.1).2.1); (case side3 => exact (Kd.C_below jz.1 HB.1)); (case side4 => exact HC2.1); rintro e w' ⟨rfl, ⟨nd, rfl⟩⟩; refine ⟨_, rfl, ?_⟩))
 go_ret2
 exact ⟨rfl, hqB HB.1⟩
def ya1.f (k : Nat) (J0 : List (List Int)) (a1 : Int) (l2 : List Int) : Option (Bool × Bool) := (yu1.f k J0 a1 l2).bind fun EV => (if EV = true then ((ye1.f k J0 a1 l2).bind fun EW => (if EW = true then ((yx1.f k J0 a1 l2).bind fun qa => (some (qa.1, qa.2))) else (some (false, false)))) else (some (false, false)))
theorem ya1.mono : ∀ a0 a1 a2 k, LeO (ya1.f k a0 a1 a2) (ya1.f (k + 1) a0 a1 a2) := by
 intro a0 a1 a2 k
 unfold ya1.f
 repeat' (with_reducible first | apply yu1.mono | apply yx1.mono | apply ye1.mono | apply LeO.refl | apply LeO.none | refine LeO.ite ?_ ?_ | refine LeO.bind ?_ (fun _ => ?_))
theorem ya1.calls (k : Nat) (J4 : Option Addr) (J2 : Nat) (J0 : List (List Int)) (a1 : Int) (A2 : Option Addr) (c2 : Nat) (l2 : List Int) (r1 : Bool) (r2 : Bool) (w : World) (hr0_0 : Kd.C (Kd.slice 3 (Kd.int .i64)) w J4 J0.length J0) (hc0_0 : J0.length ≤ J2) (hr2 : Kd.C (Kd.int .i64) w A2 l2.length l2) (hc2 : l2.length ≤ c2) (h : ya1.f k J0 a1 l2 = some (r1, r2)) :
  Calls Try.prog 24 #[.agg #[.slice J4 J0.length J2], .int .i64 a1, .slice A2 l2.length c2] w fun e w' => e = .returned (.tuple #[.bool r1, .bool r2]) ∧ Below w.heap.size w w' := by
 have hu26 := Try.underlying26
 have Ja := hqZ hr0_0
 have HC0_0 := hqZ hc0_0
 clear hr0_0 hc0_0
 have jz := hqZ hr2
 have HC2 := hqZ hc2
 clear hr2 hc2
 have HB := hqZ (Below.refl w.heap.size w)
 have H : ((yu1.f k J0 a1 l2).bind fun EV => (if EV = true then ((ye1.f k J0 a1 l2).bind fun EW => (if EW = true then ((yx1.f k J0 a1 l2).bind fun qa => (some (qa.1, qa.2))) else (some (false, false)))) else (some (false, false)))) = some (r1, r2) := h
 clear h
 replace H := Option.bind_eq_some_iff.mp H
 obtain ⟨EV, A40, H⟩ := H
 try dsimp only at H
 have A4 := hqZ A40
 clear A40
 by_cases c5 : EV = true
 rotate_left
 ·replace c5 := Bool.eq_false_iff.mpr c5
  subst c5
  rw [if_neg (show ¬ (false = true) by decide)] at H
  simp only [Option.some.injEq, Prod.mk.injEq] at H
  obtain ⟨rfl, rfl⟩ := H
  go_enter Try.func24, Try.ntmps24
  go_wp2_with (first | ((with_reducible refine zi0 (N := 3) rfl ?_); refine zk0 ?hg (N := 3) ?hd (cs := #[.slice J4 J0.length J2]) (t := 26) ?hr ?_; (case hd | hg => rfl); (case hr => go_simp); intro YJ hg w21 hbox hb; have Ya := hqZ (hbox); have Dt := hqZ ((by rw [hg]; exact (zb0 (HB.1)) : w.heap.size ≤ YJ)); have Du := hqZ ((by rw [hg]; exact (zb0 (HB.1)) : w.heap.size ≤ YJ)); replace HB := hqZ (za0 (HB.1) hb); clear hb hbox hg; have Yp : w21.cell? ⟨YJ, 0, none⟩ = some (.slice J4 J0.length J2) := (zf0 Ya.1 0).trans rfl; have Yq := zc0 Ya.1 0) | ((with_reducible refine ze0 (f := 28) rfl ?_); refine zM (some 11) Try.func28 #[.agg #[.slice J4 J0.length J2], .int .i64 a1, .slice A2 l2.length c2] ?_; (with_reducible refine (yu1.calls k _ _ J0 a1 _ _ l2 false _ ?side1 ?side2 ?side3 ?side4 A4.1).mono ?_); (case side1 => exact (Kd.C_below Ja.1 HB.1)); (case side2 => exact HC0_0.1); (case side3 => exact (Kd.C_below jz.1 HB.1)); (case side4 => exact HC2.1); rintro e w23 ⟨rfl, hb⟩; refine ⟨_, rfl, ?_⟩; replace Ya := hqZ (zd0 (g := YJ) (Ya.1) hb); replace HB := hqZ (za0 (HB.1) hb); clear hb))
  go_ret2
  exact ⟨rfl, HB.1⟩
 subst c5
 rw [if_pos rfl] at H
 replace H := Option.bind_eq_some_iff.mp H
 obtain ⟨EW, A60, H⟩ := H
 try dsimp only at H
 have A6 := hqZ A60
 clear A60
 by_cases c7 : EW = true
 rotate_left
 ·replace c7 := Bool.eq_false_iff.mpr c7
  subst c7
  rw [if_neg (show ¬ (false = true) by decide)] at H
  simp only [Option.some.injEq, Prod.mk.injEq] at H
  obtain ⟨rfl, rfl⟩ := H
  go_enter Try.func24, Try.ntmps24
  go_wp2_with (first | ((with_reducible refine zi0 (N := 3) rfl ?_); refine zk0 ?hg (N := 3) ?hd (cs := #[.slice J4 J0.length J2]) (t := 26) ?hr ?_; (case hd | hg => rfl); (case hr => go_simp); intro YJ hg w16 hbox hb; have Ya := hqZ (hbox); have Dt := hqZ ((by rw [hg]; exact (zb0 (HB.1)) : w.heap.size ≤ YJ)); have Du := hqZ ((by rw [hg]; exact (zb0 (HB.1)) : w.heap.size ≤ YJ)); replace HB := hqZ (za0 (HB.1) hb); clear hb hbox hg; have ZR : w16.cell? ⟨YJ, 0, none⟩ = some (.slice J4 J0.length J2) := (zf0 Ya.1 0).trans rfl; have ZS := zc0 Ya.1 0) | ((with_reducible refine ze0 (f := 28) rfl ?_); refine zM (some 11) Try.func28 #[.agg #[.slice J4 J0.length J2], .int .i64 a1, .slice A2 l2.length c2] ?_; (with_reducible refine (yu1.calls k _ _ J0 a1 _ _ l2 true _ ?side1 ?side2 ?side3 ?side4 A4.1).mono ?_); (case side1 => exact (Kd.C_below Ja.1 HB.1)); (case side2 => exact HC0_0.1); (case side3 => exact (Kd.C_below jz.1 HB.1)); (case side4 => exact HC2.1); rintro e w18 ⟨rfl, hb⟩; refine ⟨_, rfl, ?_⟩; replace Ya := hqZ (zd0 (g := YJ) (Ya.1) hb); replace HB := hqZ (za0 (HB.1) hb); clear hb; have oq : w18.cell? ⟨YJ, 0, none⟩ = some (.slice J4 J0.length J2) := (zf0 Ya.1 0).trans rfl; have or := zc0 Ya.1 0) | (go_at_call 32; (with_reducible refine (ye1.calls k _ _ J0 a1 _ _ l2 false _ ?side1 ?side2 ?side3 ?side4 A6.1).mono ?_); (case side1 => exact (Kd.C_below Ja.1 HB.1)); (case side2 => exact HC0_0.1); (case side3 => exact (Kd.C_below jz.1 HB.1)); (case side4 => exact HC2.1); rintro e w20 ⟨rfl, hb⟩; replace Ya := hqZ (zd0 (g := YJ) (Ya.1) hb); replace HB := hqZ (za0 (HB.1) hb); clear hb))
  go_ret2
  exact ⟨rfl, HB.1⟩
 subst c7
 rw [if_pos rfl] at H
 replace H := Option.bind_eq_some_iff.mp H
 obtain ⟨⟨Ji7, Ji8⟩, A80, H⟩ := H
 try dsimp only at H
 have A8 := hqZ A80
 clear A80
 simp only [Option.some.injEq, Prod.mk.injEq] at H
 obtain ⟨rfl, rfl⟩ := H
 go_enter Try.func24, Try.ntmps24
 go_wp2_with (first | ((with_reducible refine zi0 (N := 3) rfl ?_); refine zk0 ?hg (N := 3) ?hd (cs := #[.slice J4 J0.length J2]) (t := 26) ?hr ?_; (case hd | hg => rfl); (case hr => go_simp); intro YJ hg w9 hbox hb; have Ya := hqZ (hbox); have Dt := hqZ ((by rw [hg]; exact (zb0 (HB.1)) : w.heap.size ≤ YJ)); have Du := hqZ ((by rw [hg]; exact (zb0 (HB.1)) : w.heap.size ≤ YJ)); replace HB := hqZ (za0 (HB.1) hb); clear hb hbox hg; have Y0 : w9.cell? ⟨YJ, 0, none⟩ = some (.slice J4 J0.length J2) := (zf0 Ya.1 0).trans rfl; have Y1 := zc0 Ya.1 0) | ((with_reducible refine ze0 (f := 28) rfl ?_); refine zM (some 11) Try.func28 #[.agg #[.slice J4 J0.length J2], .int .i64 a1, .slice A2 l2.length c2] ?_; (with_reducible refine (yu1.calls k _ _ J0 a1 _ _ l2 true _ ?side1 ?side2 ?side3 ?side4 A4.1).mono ?_); (case side1 => exact (Kd.C_below Ja.1 HB.1)); (case side2 => exact HC0_0.1); (case side3 => exact (Kd.C_below jz.1 HB.1)); (case side4 => exact HC2.1); rintro e w11 ⟨rfl, hb⟩; refine ⟨_, rfl, ?_⟩; replace Ya := hqZ (zd0 (g := YJ) (Ya.1) hb); replace HB := hqZ (za0 (HB.1) hb); clear hb; have jj : w11.cell? ⟨YJ, 0, none⟩ = some (.slice J4 J0.length J2) := (zf0 Ya.1 0).trans rfl; have jk := zc0 Ya.1 0) | (go_at_call 32; (with_reducible refine (ye1.calls k _ _ J0 a1 _ _ l2 true _ ?side1 ?side2 ?side3 ?side4 A6.1).mono ?_); (case side1 => exact (Kd.C_below Ja.1 HB.1)); (case side2 => exact HC0_0.1); (case side3 => exact (Kd.C_below jz.1 HB.1)); (case side4 => exact HC2.1); rintro e w13 ⟨rfl, hb⟩; replace Ya := hqZ (zd0 (g := YJ) (Ya.1) hb); replace HB := hqZ (za0 (HB.1) hb); clear hb; have u4 : w13.cell? ⟨YJ, 0, none⟩ = some (.slice J4 J0.length J2) := (zf0 Ya.1 0).trans rfl; have u7 := zc0 Ya.1 0) | ((with_reducible refine ze0 (f := 53) rfl ?_); refine zM (some 23) Try.func53 #[.agg #[.slice J4 J0.length J2], .int .i64 a1, .slice A2 l2.length c2] ?_; (with_reducible refine (yx1.calls k _ _ J0 a1 _ _ l2 Ji7 Ji8 _ ?side1 ?side2 ?side3 ?side4 A8.1).mono ?_); (case side1 => exact (Kd.C_below Ja.1 HB.1)); (case side2 => exact HC0_0.1); (case side3 => exact (Kd.C_below jz.1 HB.1)); (case side4 => exact HC2.1); rintro e w15 ⟨rfl, hb⟩; refine ⟨_, rfl, ?_⟩; replace Ya := hqZ (zd0 (g := YJ) (Ya.1) hb); replace HB := hqZ (za0 (HB.1) hb); clear hb))
 go_ret2
 exact ⟨rfl, HB.1⟩
def ym0.l0 : Nat → Int → Int → List Int → Int → Int → List Int → Int → Int → List (List Int) → Option ((List (List Int)) × Int × List Int × Int × Int)
 | 0, _, _, _, _, _, _, _, _, _ => none
 | k + 1, x1, x8, x9, Za, N3, VD, VY, VZ, uR => if N3 < Za then (if N3 = x8 then ((ys0.f VD VY VZ 12).bind fun qb => (if qb.1 = true then ((yz0.f VD qb.2.1 qb.2.2 x1).bind fun EX => (if x9.length < 17592186044416 then (ym0.l0 k x1 x8 (x9 ++ [EX.1]) Za (wrap64 (N3 + 1)) VD EX.2.1 EX.2.2 uR) else (none))) else (if x9.length < 17592186044416 then (ym0.l0 k x1 x8 (x9 ++ [0]) Za (wrap64 (N3 + 1)) VD qb.2.1 qb.2.2 uR) else (none)))) else ((yz0.f VD VY VZ x1).bind fun EY => (if x9.length < 17592186044416 then (ym0.l0 k x1 x8 (x9 ++ [EY.1]) Za (wrap64 (N3 + 1)) VD EY.2.1 EY.2.2 uR) else (none)))) else ((yz0.f VD VY VZ 18).bind fun o1 => (if o1.1 = 0 then ((yz0.f VD o1.2.1 o1.2.2 (x9.length : Int)).bind fun qc => ((yb2.f VD qc.2.1 qc.2.2 (([(-1), 20, 21, 4611686018427387904] : List Int))).bind fun oX => (if 0 ≤ qc.1 then (if qc.1 < (x9.length : Int) then (some (uR, x8, (x9.set (qc.1 : Int).toNat oX.1), oX.2.1, oX.2.2)) else (none)) else (none)))) else (if o1.1 = 1 then (if x9.length < 17592186044416 then (some (uR, x8, (x9 ++ [0]), o1.2.1, o1.2.2)) else (none)) else (some (uR, x8, x9, o1.2.1, o1.2.2)))))
def ym0.f (k : Nat) (J6 : List Int) (Jv : Int) (JQ : Int) (a1 : Int) : Option ((List (List Int)) × Int × List Int × Int × Int) := (yc0.f k J6 Jv JQ).bind fun uD => (ym0.l0 k a1 uD.2.1 ([] : List Int) (uD.1.length : Int) 0 J6 uD.2.2.1 uD.2.2.2 uD.1)
theorem ym0.mono_l : ∀ k, (∀ y0 y1 y2 y3 y4 y5 y6 y7 y8, LeO (ym0.l0 k y0 y1 y2 y3 y4 y5 y6 y7 y8) (ym0.l0 (k + 1) y0 y1 y2 y3 y4 y5 y6 y7 y8))
 | 0 => fun _ _ _ _ _ _ _ _ _ r h => by simp [ym0.l0] at h
 | k + 1 => by
  have ih0 := ym0.mono_l k
  ·intro y0 y1 y2 y3 y4 y5 y6 y7 y8
   unfold ym0.l0
   repeat' (with_reducible first | apply ih0 | apply yc0.mono | apply LeO.refl | apply LeO.none | refine LeO.ite ?_ ?_ | refine LeO.bind ?_ (fun _ => ?_))
theorem ym0.mono : ∀ a0 a1 a2 a3 k, LeO (ym0.f k a0 a1 a2 a3) (ym0.f (k + 1) a0 a1 a2 a3) := by
 intro a0 a1 a2 a3 k
 have ih0 := ym0.mono_l k
 unfold ym0.f
 repeat' (with_reducible first | apply ih0 | apply yc0.mono | apply LeO.refl | apply LeO.none | refine LeO.ite ?_ ?_ | refine LeO.bind ?_ (fun _ => ?_))
theorem ym0.calls (k : Nat) (g : Nat) (J6 : List Int) (Jv : Int) (JQ : Int) (a1 : Int) (r1 : List (List Int)) (r2 : Int) (r3 : List Int) (r4 : Int) (r5 : Int) (w0 w : World) (hI : IsS46 w0 w g J6 Jv JQ) (hB : Below w0.heap.size w0 w) (h : ym0.f k J6 Jv JQ a1 = some (r1, r2, r3, r4, r5)) :
  Calls Try.prog 27 #[.pointer (some ⟨g, 0, none⟩), .int .i64 a1] w fun e w' => ∃ v0_ v2_ : Value, e = .returned (.tuple #[.agg #[v0_], .int .i64 r2, v2_]) ∧ Kd.N (Kd.slice 3 (Kd.int .i64)) 27 w' w.heap.size (fun k_ => (w.heap.size ≤ k_) ∧ some k_ ≠ (v2_ : Value).ownBlock) v0_ r1 ∧ Kd.R (Kd.int .i64) 3 w' w.heap.size (fun k_ => (w.heap.size ≤ k_)) v2_ r3 ∧ IsS46 w0 w' g J6 r4 r5 ∧ Below w0.heap.size w0 w' ∧ zh0 w w' g none := by
 have hu26 := Try.underlying26
 have Jg := hqZ hI
 have HK := hqZ (zh0.refl w g none)
 have HL := hqZ hB.size
 clear hI
 have HW0 := hqZ hB.size
 have HB := hqZ hB
 clear hB
 have H : ((yc0.f k J6 Jv JQ).bind fun uD => (ym0.l0 k a1 uD.2.1 ([] : List Int) (uD.1.length : Int) 0 J6 uD.2.2.1 uD.2.2.2 uD.1)) = some (r1, r2, r3, r4, r5) := h
 clear h
 replace H := Option.bind_eq_some_iff.mp H
 obtain ⟨⟨YF, XP, ZT, ZU⟩, A30, H⟩ := H
 try dsimp only at H
 have A3 := hqZ A30
 clear A30
 have H' := hqZ H
 clear H
 go_enter Try.func27, Try.ntmps27
 go_wp2_with (first | ((with_reducible refine zi0 (N := 4) rfl ?_); refine zk0 ?hg (N := 4) ?hd (cs := #[.slice none 0 0]) (t := 26) ?hr ?_; (case hd | hg => rfl); (case hr => go_simp); intro JS hg w4 hbox hb; replace HB := hqZ (za0 (HB.1) hb); have JM := hqZ (hbox); have EZ := hqZ ((by rw [hg]; exact (zj0 (w := w) (g := g) (row := none) (HK.1)) : w.heap.size ≤ JS)); have Z0 := hqZ ((Nat.le_trans HW0.1 (by rw [hg]; exact (zj0 (w := w) (g := g) (row := none) (HK.1)) : w.heap.size ≤ JS) : w0.heap.size ≤ JS)); replace HK := hqZ (zh0.trans (HK.1) (zh0.of_below hb g none) (.inl rfl)); have uS := hqZ ((by rw [hg]; exact Nat.ne_of_lt (IsS46.lt (show IsS46 w0 _ g J6 Jv JQ from Jg.1)) : g ≠ JS)); have Yu := hqZ ((by rw [hg]; exact Nat.ne_of_gt (IsS46.lt (show IsS46 w0 _ g J6 Jv JQ from Jg.1)) : JS ≠ g)); replace Jg := hqZ (IsS46.below (Jg.1) hb); clear hb hbox hg) | ((with_reducible refine ze0 (f := 54) rfl ?_); refine zM (some 13) Try.func54 #[.pointer (some ⟨g, 0, none⟩)] ?_; (with_reducible refine (yc0.calls k g J6 Jv JQ YF XP ZT ZU w0 _ ?side1 ?side2 A3.1).mono ?_); (case side1 => exact Jg.1); (case side2 => exact HB.1); rintro e w5 ⟨v241, rfl, ho0, hi, hb, hk⟩; refine ⟨_, rfl, ?_⟩; have dv := hqZ (Kd.N_lower (Kd.N_mono (ok' := fun k_ => (w.heap.size ≤ k_) ∧ k_ ≠ JS ∧ k_ ≠ g) ho0 (fun k_ hk_ => ⟨(Nat.le_trans (zj0 (w := w) (g := g) (row := none) (HK.1)) hk_), (Kd.freshB (g := JS) (JM.1) k_ hk_), (IsS46.fresh (Jg.1) k_ hk_)⟩)) (zj0 (w := w) (g := g) (row := none) (HK.1))); replace JM := hqZ (zh0.blk hk (g' := JS) (JM.1) Yu.1 (by simp)); replace HK := hqZ (zh0.trans (HK.1) hk (.inl rfl)); replace HB := hqZ (hb); replace Jg := hqZ (hi); clear hb hk hi ho0) | ((with_reducible refine zi0 (N := 7) rfl ?_); refine zk0 ?hg (N := 7) ?hd (cs := #[.slice none 0 0]) (t := 26) ?hr ?_; (case hd | hg => rfl); (case hr => go_simp); intro Vg hg w6 hbox hb; replace dv := hqZ (Kd.N_below (Kd.N_elderB (dv.1) Vg (Nat.le_of_eq hg.symm)) hb); replace HB := hqZ (za0 (HB.1) hb); have V4 := hqZ (hbox); have N4 := hqZ ((by rw [hg]; exact (zj0 (w := w) (g := g) (row := none) (HK.1)) : w.heap.size ≤ Vg)); have N5 := hqZ ((Nat.le_trans HW0.1 (by rw [hg]; exact (zj0 (w := w) (g := g) (row := none) (HK.1)) : w.heap.size ≤ Vg) : w0.heap.size ≤ Vg)); replace HK := hqZ (zh0.trans (HK.1) (zh0.of_below hb g none) (.inl rfl)); have vR := hqZ ((by rw [hg]; exact Nat.ne_of_lt (blk_lt (g := JS) (JM.1)) : JS ≠ Vg)); have uT := hqZ ((by rw [hg]; exact Nat.ne_of_gt (blk_lt (g := JS) (JM.1)) : Vg ≠ JS)); replace JM := hqZ (zd0 (g := JS) (JM.1) hb); have Xt := hqZ ((by rw [hg]; exact Nat.ne_of_lt (IsS46.lt (show IsS46 w0 _ g J6 ZT ZU from Jg.1)) : g ≠ Vg)); have Yv := hqZ ((by rw [hg]; exact Nat.ne_of_gt (IsS46.lt (show IsS46 w0 _ g J6 ZT ZU from Jg.1)) : Vg ≠ g)); replace Jg := hqZ (IsS46.below (Jg.1) hb); clear hb hbox hg; obtain ⟨j7, YY, eo7⟩ := Kd.N_slice dv.1; subst eo7; have hnb8 := uT.1; have hnc8 := vR.1; have hnb9 := Yv.1; have hnc9 := Xt.1; have Y0 : w6.cell? ⟨Vg, 0, none⟩ = some (.slice none 0 0) := (zf0 V4.1 0).trans rfl; have Y1 := zc0 V4.1 0))
 go_loopg [9, 19] k (fun kq v9 v19 w' => ∃ (Jt : List Int) (jw : Int) (JD : Int) (JE : Int), v19 = .int .i64 jw ∧ zg0 (ym0.l0 kq a1 XP Jt (YF.length : Int) jw J6 JD JE YF = some (r1, r2, r3, r4, r5)) ∧ zg0 (kq ≤ k) ∧ zg0 (Kd.R (Kd.int .i64) 3 w' w.heap.size (fun k_ => (w.heap.size ≤ k_)) v9 Jt) ∧ zg0 (Kd.N (Kd.slice 3 (Kd.int .i64)) 27 w' w.heap.size (fun k_ => (w.heap.size ≤ k_) ∧ some k_ ≠ (v9 : Value).ownBlock ∧ k_ ≠ JS ∧ k_ ≠ Vg ∧ k_ ≠ g) (.slice j7 YF.length YY) YF) ∧ zg0 (w'.heap[JS]? = some (.cells #[(.slice none 0 0)] 26 (0, 0))) ∧ zg0 (w'.heap[Vg]? = some (.cells #[(.slice j7 YF.length YY)] 26 (0, 0))) ∧ zg0 (IsS46 w0 w' g J6 JD JE) ∧ zg0 (zh0 w w' g none) ∧ zg0 (Below w0.heap.size w0 w'))
 case atStart => exact ⟨(([] : List Int)), (0), (ZT), (ZU), (rfl), H', ⟨Nat.le_refl _⟩, ⟨by exact Kd.R_nil _ _ _ _ _⟩, ⟨Kd.N_mono (Kd.N_far (p := ⟨Vg, 0, none⟩) (Kd.N_mono dv.1 (fun k_ hk => (⟨hk, hk.2⟩ : _ ∧ k_ ≠ Vg))) (fun _ hk => hk.2) (.slice j7 YF.length YY)) (fun _ hk => ⟨hk.1.1.1, ⟨(by simp [Value.ownBlock]), ⟨hk.1.1.2.1, ⟨hk.1.2, hk.1.1.2.2⟩⟩⟩⟩)⟩, ⟨by refine blk_far ?_ vR.1 _; exact JM.1⟩, ⟨by refine blk_put (cs := #[.slice none 0 0]) ?_ 0 _ rfl; exact V4.1⟩, ⟨IsS46.far Jg.1 Xt.1 _⟩, ⟨keep_far HK.1 N4.1 _⟩, ⟨zm0 HB.1 N5.1⟩⟩
 case round =>
  clear H'
  try clear c2
  try clear p2
  try clear c5
  try clear c8
  try clear c9
  try clear Y0
  try clear Y1
  obtain ⟨Jt, jw, JD, JE, rfl, HA, V8, Jj, Jp, JM, V4, Jg, HK, HB⟩ := hrel
  obtain _ | k1 := gk
  ·exact absurd HA.1 (by simp [ym0.l0])
  have H := HA.1
  clear HA
  simp only [ym0.l0] at H
  by_cases c11 : jw < (YF.length : Int)
  rotate_left
  ·rw [if_neg c11] at H
   have c11b0 : decide (jw < (YF.length : Int)) = false := decide_eq_false c11
   clear c11
   replace H := Option.bind_eq_some_iff.mp H
   obtain ⟨⟨XQ, dR, dS⟩, A270, H⟩ := H
   try dsimp only at H
   have A27 := hqZ A270
   clear A270
   by_cases c28 : XQ = 0
   rotate_left
   ·rw [if_neg c28] at H
    have c28b0 : (XQ == 0) = false := beq_eq_false_iff_ne.mpr c28
    have c28b1 : (XQ != 0) = true := bne_iff_ne.mpr c28
    by_cases c48 : XQ = 1
    rotate_left
    ·rw [if_neg c48] at H
     have c48b0 : (XQ == 1) = false := beq_eq_false_iff_ne.mpr c48
     have c48b1 : (XQ != 1) = true := bne_iff_ne.mpr c48
     simp only [Option.some.injEq, Prod.mk.injEq] at H
     obtain ⟨rfl, rfl, rfl, rfl, rfl⟩ := H
     go_wp2_with (((with_reducible refine ze0 (f := 55) rfl ?_); refine zM (some 41) Try.func55 #[.pointer (some ⟨g, 0, none⟩), .int .i64 18] ?_; (with_reducible refine (yz0.calls g J6 JD JE 18 XQ dR dS w0 _ ?side1 ?side2 A27.1).mono ?_); (case side1 => exact Jg.1); (case side2 => exact HB.1); rintro e w57 ⟨rfl, hi, hb, hk⟩; refine ⟨_, rfl, ?_⟩; replace Jj := hqZ (Kd.R_mono (Kd.R_keep (IsS46.apart (show IsS46 w0 _ g J6 JD JE from Jg.1) (Jj.1) (by decide)) hk (fun _ h => h.2)) (fun _ h => h.1)); replace Jp := hqZ (Kd.N_mono (Kd.N_keep (Kd.N_mono (ok := fun k_ => (((w.heap.size ≤ k_)) ∧ (some k_ ≠ (u9 : Value).ownBlock ∧ (k_ ≠ JS ∧ (k_ ≠ Vg ∧ k_ ≠ g))))) (Jp.1) (fun k_ hk_ => (⟨hk_, hk_.2.2.2.2⟩ : _ ∧ k_ ≠ g))) hk (fun _ h => h.2)) (fun _ h => h.1)); replace JM := hqZ (zh0.blk hk (g' := JS) (JM.1) Yu.1 (by simp)); replace V4 := hqZ (zh0.blk hk (g' := Vg) (V4.1) Yv.1 (by simp)); replace HK := hqZ (zh0.trans (HK.1) hk (.inl rfl)); replace HB := hqZ (hb); replace Jg := hqZ (hi); clear hb hk hi; have hnb58 := uT.1; have hnc58 := vR.1; have hnb59 := Yv.1; have hnc59 := Xt.1; have Xu : w57.cell? ⟨Vg, 0, none⟩ = some (.slice j7 YF.length YY) := (zf0 V4.1 0).trans rfl; have Xv := zc0 V4.1 0; have hnb61 := Yu.1; have hnc61 := uS.1; have NS : w57.cell? ⟨JS, 0, none⟩ = some (.slice none 0 0) := (zf0 JM.1 0).trans rfl; have NT := zc0 JM.1 0))
     refine bodyPost_ret (results_ctt rfl _ _ JS 26 #[.slice j7 YF.length YY] (0, 0) _ rfl (by refine blk_put (cs := #[.slice none 0 0]) ?_ 0 _ rfl; exact JM.1) Try.underlying26 rfl (by kernel_rfl)) rfl ?_
     exact ⟨_, _, rfl, Kd.N_mono (Kd.N_far (p := ⟨JS, 0, none⟩) (Kd.N_mono Jp.1 (fun k_ hk => (⟨hk, hk.2.2.1⟩ : _ ∧ k_ ≠ JS))) (fun _ hk => hk.2) (.slice j7 YF.length YY)) (fun _ hk => ⟨hk.1.1, hk.1.2.1⟩), Kd.R_mono (Kd.R_far (p := ⟨JS, 0, none⟩) (Kd.R_types Jj.1 JM.1 (by decide)) (fun _ hk => hk.2) (.slice j7 YF.length YY)) (fun _ hk => hk.1), IsS46.far Jg.1 uS.1 _, zm0 HB.1 Z0.1, keep_far HK.1 EZ.1 _⟩
    rw [if_pos c48] at H
    have c48b0 : (XQ == 1) = true := beq_iff_eq.mpr c48
    have c48b1 : (XQ != 1) = false := bne_eq_false_iff_eq.mpr c48
    clear c48
    by_cases c49 : Jt.length < 17592186044416
    rotate_left
    ·rw [if_neg c49] at H
     exact absurd H (by simp)
    rw [if_pos c49] at H
    have LMc49 := hqZ c49
    clear c49
    obtain ⟨Ji9, hy278⟩ : ∃ y_ : List Int, y_ = (Jt ++ [0]) := ⟨_, rfl⟩
    replace H : (some (YF, XP, Ji9, dR, dS)) = some (r1, r2, r3, r4, r5) := by (rw [hy278]; with_reducible exact H)
    have Ny278 := hqZ hy278
    clear hy278
    simp only [Option.some.injEq, Prod.mk.injEq] at H
    obtain ⟨rfl, rfl, rfl, rfl, rfl⟩ := H
    go_wp2_with (first | ((with_reducible refine ze0 (f := 55) rfl ?_); refine zM (some 41) Try.func55 #[.pointer (some ⟨g, 0, none⟩), .int .i64 18] ?_; (with_reducible refine (yz0.calls g J6 JD JE 18 XQ dR dS w0 _ ?side1 ?side2 A27.1).mono ?_); (case side1 => exact Jg.1); (case side2 => exact HB.1); rintro e w50 ⟨rfl, hi, hb, hk⟩; refine ⟨_, rfl, ?_⟩; replace Jj := hqZ (Kd.R_mono (Kd.R_keep (IsS46.apart (show IsS46 w0 _ g J6 JD JE from Jg.1) (Jj.1) (by decide)) hk (fun _ h => h.2)) (fun _ h => h.1)); replace Jp := hqZ (Kd.N_mono (Kd.N_keep (Kd.N_mono (ok := fun k_ => (((w.heap.size ≤ k_)) ∧ (some k_ ≠ (u9 : Value).ownBlock ∧ (k_ ≠ JS ∧ (k_ ≠ Vg ∧ k_ ≠ g))))) (Jp.1) (fun k_ hk_ => (⟨hk_, hk_.2.2.2.2⟩ : _ ∧ k_ ≠ g))) hk (fun _ h => h.2)) (fun _ h => h.1)); replace JM := hqZ (zh0.blk hk (g' := JS) (JM.1) Yu.1 (by simp)); replace V4 := hqZ (zh0.blk hk (g' := Vg) (V4.1) Yv.1 (by simp)); replace HK := hqZ (zh0.trans (HK.1) hk (.inl rfl)); replace HB := hqZ (hb); replace Jg := hqZ (hi); clear hb hk hi) | ((with_reducible refine zu0 (b := .append) (xs := #[.tmp 55, .tmp 56]) rfl ?_); at_builtin; refine Kd.R_append (Kd.int .i64) w.heap.size rfl (.tmp 55) (.tmp 56) 27 3 (.int .i64 0) 8 rfl Try.underlying27 info3 rfl (by decide) (by omega) u9 Jt 0 [.int .i64 0] (fun k_ => (w.heap.size ≤ k_)) (fun _ => False) rfl rfl ?aP (fun _ hk => hk.elim) ?aF ?aO (Below.refl _ _) ?aS ?aL ?_; (case aP => exact rfl); (case aF => exact (fun k_ hk => (Nat.le_trans (zj0 (w := w) (g := g) (row := none) (HK.1)) hk))); (case aO => exact (by (with_reducible repeat (first | apply Kd.R_alloc | apply Kd.R_drewN | apply Kd.R_drew)); exact Jj.1)); (case aS => exact (zj0 (w := w) (g := g) (row := none) (HK.1))); (case aL => have := LMc49.1; omega); intro v279 w51 ho hb hg hat; rw [← Ny278.1] at ho; have n0_ := hqZ (Kd.N_afterv (ok := (fun k_ => (w.heap.size ≤ k_) ∧ k_ ≠ JS ∧ k_ ≠ Vg ∧ k_ ≠ g)) (Kd.N_mono Jp.1 (fun _ hk => ⟨⟨hk.1, ⟨hk.2.2.1, ⟨hk.2.2.2.1, hk.2.2.2.2⟩⟩⟩, hk.2.1⟩)) hg hat); have n1_ := hqZ (zl0 (g := JS) (JM.1) hg (Kd.R_ne Jj.1 JM.1 (by decide))); have n2_ := hqZ (zl0 (g := Vg) (V4.1) hg (Kd.R_ne Jj.1 V4.1 (by decide))); have n3_ := hqZ (IsS46.grown (Jg.1) hg (IsS46.own_ne Jg.1 Jj.1 (by decide))); have n4_ := hqZ (below_weaken (HB.1) HL.1 hb); have n5_ := hqZ (zh0.trans (HK.1) (zh0.of_grown hg g) (Kd.R_base2 Jj.1)); have n6_ := hqZ (ho); clear Jp; clear JM; clear V4; clear Jg; clear HB; clear HK; clear Jj; have Jp := n0_; have JM := n1_; have V4 := n2_; have Jg := n3_; have HB := n4_; have HK := n5_; have N6 := n6_; clear n0_ n1_ n2_ n3_ n4_ n5_ n6_; clear ho hb hg hat; have hnb52 := uT.1; have hnc52 := vR.1; have hnb53 := Yv.1; have hnc53 := Xt.1; have NU : w51.cell? ⟨Vg, 0, none⟩ = some (.slice j7 YF.length YY) := (zf0 V4.1 0).trans rfl; have NV := zc0 V4.1 0; have hnb55 := Yu.1; have hnc55 := uS.1; have NW : w51.cell? ⟨JS, 0, none⟩ = some (.slice none 0 0) := (zf0 JM.1 0).trans rfl; have NX := zc0 JM.1 0))
    refine bodyPost_ret (results_ctt rfl _ _ JS 26 #[.slice j7 YF.length YY] (0, 0) _ rfl (by refine blk_put (cs := #[.slice none 0 0]) ?_ 0 _ rfl; exact JM.1) Try.underlying26 rfl (by kernel_rfl)) rfl ?_
    exact ⟨_, _, rfl, Kd.N_mono (Kd.N_far (p := ⟨JS, 0, none⟩) (Kd.N_mono Jp.1 (fun k_ hk => (⟨hk, hk.1.2.1⟩ : _ ∧ k_ ≠ JS))) (fun _ hk => hk.2) (.slice j7 YF.length YY)) (fun _ hk => ⟨hk.1.1.1, hk.1.2⟩), Kd.R_mono (Kd.R_far (p := ⟨JS, 0, none⟩) (Kd.R_types N6.1 JM.1 (by decide)) (fun _ hk => hk.2) (.slice j7 YF.length YY)) (fun _ hk => hk.1), IsS46.far Jg.1 uS.1 _, zm0 HB.1 Z0.1, keep_far HK.1 EZ.1 _⟩
   rw [if_pos c28] at H
   have c28b0 : (XQ == 0) = true := beq_iff_eq.mpr c28
   have c28b1 : (XQ != 0) = false := bne_eq_false_iff_eq.mpr c28
   clear c28
   replace H := Option.bind_eq_some_iff.mp H
   obtain ⟨⟨Xb, Z1, Z2⟩, A290, H⟩ := H
   try dsimp only at H
   have A29 := hqZ A290
   clear A290
   obtain ⟨dT, hy271⟩ : ∃ y_ : List Int, y_ = (([(-1), 20, 21, 4611686018427387904] : List Int)) := ⟨_, rfl⟩
   replace H : ((yb2.f J6 Z1 Z2 dT).bind fun oX => (if 0 ≤ Xb then (if Xb < (Jt.length : Int) then (some (YF, XP, (Jt.set (Xb : Int).toNat oX.1), oX.2.1, oX.2.2)) else (none)) else (none))) = some (r1, r2, r3, r4, r5) := by (rw [hy271]; with_reducible exact H)
   have Ny271 := hqZ hy271
   clear hy271
   replace H := Option.bind_eq_some_iff.mp H
   obtain ⟨⟨ZV, N7, N8⟩, A300, H⟩ := H
   try dsimp only at H
   have A30 := hqZ A300
   clear A300
   by_cases c31 : 0 ≤ Xb
   rotate_left
   ·rw [if_neg c31] at H
    exact absurd H (by simp)
   rw [if_pos c31] at H
   have c31b0 : decide (0 ≤ Xb) = true := decide_eq_true c31
   clear c31
   by_cases c32 : Xb < (Jt.length : Int)
   rotate_left
   ·rw [if_neg c32] at H
    exact absurd H (by simp)
   rw [if_pos c32] at H
   have c32b0 : decide (Xb < (Jt.length : Int)) = true := decide_eq_true c32
   clear c32
   obtain ⟨N9, hy277⟩ : ∃ y_ : List Int, y_ = (Jt.set (Xb : Int).toNat ZV) := ⟨_, rfl⟩
   replace H : (some (YF, XP, N9, N7, N8)) = some (r1, r2, r3, r4, r5) := by (rw [hy277]; with_reducible exact H)
   have Ny277 := hqZ hy277
   clear hy277
   simp only [Option.some.injEq, Prod.mk.injEq] at H
   obtain ⟨rfl, rfl, rfl, rfl, rfl⟩ := H
   go_wp2_with (first | ((with_reducible refine ze0 (f := 55) rfl ?_); refine zM (some 41) Try.func55 #[.pointer (some ⟨g, 0, none⟩), .int .i64 18] ?_; (with_reducible refine (yz0.calls g J6 JD JE 18 XQ dR dS w0 _ ?side1 ?side2 A27.1).mono ?_); (case side1 => exact Jg.1); (case side2 => exact HB.1); rintro e w34 ⟨rfl, hi, hb, hk⟩; refine ⟨_, rfl, ?_⟩; replace Jj := hqZ (Kd.R_mono (Kd.R_keep (IsS46.apart (show IsS46 w0 _ g J6 JD JE from Jg.1) (Jj.1) (by decide)) hk (fun _ h => h.2)) (fun _ h => h.1)); replace Jp := hqZ (Kd.N_mono (Kd.N_keep (Kd.N_mono (ok := fun k_ => (((w.heap.size ≤ k_)) ∧ (some k_ ≠ (u9 : Value).ownBlock ∧ (k_ ≠ JS ∧ (k_ ≠ Vg ∧ k_ ≠ g))))) (Jp.1) (fun k_ hk_ => (⟨hk_, hk_.2.2.2.2⟩ : _ ∧ k_ ≠ g))) hk (fun _ h => h.2)) (fun _ h => h.1)); replace JM := hqZ (zh0.blk hk (g' := JS) (JM.1) Yu.1 (by simp)); replace V4 := hqZ (zh0.blk hk (g' := Vg) (V4.1) Yv.1 (by simp)); replace HK := hqZ (zh0.trans (HK.1) hk (.inl rfl)); replace HB := hqZ (hb); replace Jg := hqZ (hi); clear hb hk hi; obtain ⟨mB, UU, eo35⟩ := Kd.R_slice Jj.1; subst eo35) | ((with_reducible refine ze0 (f := 55) rfl ?_); refine zM (some 48) Try.func55 #[.pointer (some ⟨g, 0, none⟩), .int .i64 (Jt.length : Int)] ?_; (with_reducible refine (yz0.calls g J6 dR dS (Jt.length : Int) Xb Z1 Z2 w0 _ ?side1 ?side2 A29.1).mono ?_); (case side1 => exact Jg.1); (case side2 => exact HB.1); rintro e w36 ⟨rfl, hi, hb, hk⟩; refine ⟨_, rfl, ?_⟩; replace Jj := hqZ (Kd.R_mono (Kd.R_keep (IsS46.apart (show IsS46 w0 _ g J6 dR dS from Jg.1) (Jj.1) (by decide)) hk (fun _ h => h.2)) (fun _ h => h.1)); replace Jp := hqZ (Kd.N_mono (Kd.N_keep (Kd.N_mono (ok := fun k_ => (((w.heap.size ≤ k_)) ∧ (some k_ ≠ (.slice mB Jt.length UU : Value).ownBlock ∧ (k_ ≠ JS ∧ (k_ ≠ Vg ∧ k_ ≠ g))))) (Jp.1) (fun k_ hk_ => (⟨hk_, hk_.2.2.2.2⟩ : _ ∧ k_ ≠ g))) hk (fun _ h => h.2)) (fun _ h => h.1)); replace JM := hqZ (zh0.blk hk (g' := JS) (JM.1) Yu.1 (by simp)); replace V4 := hqZ (zh0.blk hk (g' := Vg) (V4.1) Yv.1 (by simp)); replace HK := hqZ (zh0.trans (HK.1) hk (.inl rfl)); replace HB := hqZ (hb); replace Jg := hqZ (hi); clear hb hk hi) | ((with_reducible refine zi0 (N := 50) rfl ?_); refine Kd.R_lit (Kd.int .i64) _ 3 ?hg (N := 50) ?hd (xs := ([(-1), 20, 21, 4611686018427387904] : List Int)) (inner := [.int .i64 (-1), .int .i64 20, .int .i64 21, .int .i64 4611686018427387904]) (ok := fun _ => True) (okp := fun _ => True) ?hr ?hp (fun _ hk => hk) trivial (Below.refl _ _) (Nat.le_refl _) (by simp) ?_; (case hd | hg => rfl); (case hr => go_simp); (case hp => exact (Reps.one (show Kd.M (Kd.int .i64) _ _ _ (-1) [.int .i64 (-1)] from rfl) (Reps.one (show Kd.M (Kd.int .i64) _ _ _ 20 [.int .i64 20] from rfl) (Reps.one (show Kd.M (Kd.int .i64) _ _ _ 21 [.int .i64 21] from rfl) (Reps.one (show Kd.M (Kd.int .i64) _ _ _ 4611686018427387904 [.int .i64 4611686018427387904] from rfl) (Reps.none _ _)))))); intro v272 w37 ho38 hb hg_ hnew_; clear hg_ hnew_; (rw [← Ny271.1] at ho38); replace Jp := hqZ (Kd.N_elder' (Jp.1) (Kd.R_base ho38) hb); have o2 := hqZ (Kd.R_lower (Kd.R_new' (Kd.R_newM (M := fun k_ => (w.heap.size ≤ k_)) ho38 (zj0 (w := w) (g := g) (row := none) (HK.1)) (fun k_ h_ => h_)) (Kd.R_lt (Jj.1))) (zj0 (w := w) (g := g) (row := none) (HK.1))); replace Jj := hqZ (Kd.R_elder' (Jj.1) (Kd.R_base ho38) hb); replace JM := hqZ (zd0 (g := JS) (JM.1) hb); replace V4 := hqZ (zd0 (g := Vg) (V4.1) hb); replace HK := hqZ (zh0.trans (HK.1) (zh0.of_below hb g none) (.inl rfl)); replace HB := hqZ (za0 (HB.1) hb); replace Jg := hqZ (IsS46.below (Jg.1) hb); clear hb ho38; obtain ⟨X3, Xg, eo39⟩ := Kd.R_slice o2.1; subst eo39) | ((with_reducible refine ze0 (f := 56) rfl ?_); refine zM (some 51) Try.func56 #[.pointer (some ⟨g, 0, none⟩), .slice X3 dT.length Xg] ?_; (with_reducible refine (yb2.calls g J6 Z1 Z2 _ _ dT ZV N7 N8 w0 _ ?side1 ?side2 ?side3 ?side4 ?side5 A30.1).mono ?_); (case side1 => exact Jg.1); (case side2 => exact HB.1); (case side3 => exact (Kd.R_reads' o2.1).2.2); (case side4 => exact (Kd.R_reads' o2.1).2.1); (case side5 => exact far_slice (IsS46.own_ne Jg.1 o2.1 (by decide))); rintro e w40 ⟨rfl, hi, hb, hk⟩; refine ⟨_, rfl, ?_⟩; replace Jj := hqZ (Kd.R_mono (Kd.R_keep (IsS46.apart (show IsS46 w0 _ g J6 Z1 Z2 from Jg.1) (Jj.1) (by decide)) hk (fun _ h => h.2)) (fun _ h => h.1)); replace Jp := hqZ (Kd.N_mono (Kd.N_keep (Kd.N_mono (ok := fun k_ => ((((w.heap.size ≤ k_)) ∧ (some k_ ≠ (.slice mB Jt.length UU : Value).ownBlock ∧ (k_ ≠ JS ∧ (k_ ≠ Vg ∧ k_ ≠ g)))) ∧ some k_ ≠ (.slice X3 dT.length Xg : Value).ownBlock)) (Jp.1) (fun k_ hk_ => (⟨hk_, hk_.1.2.2.2.2⟩ : _ ∧ k_ ≠ g))) hk (fun _ h => h.2)) (fun _ h => h.1)); replace JM := hqZ (zh0.blk hk (g' := JS) (JM.1) Yu.1 (by simp)); replace V4 := hqZ (zh0.blk hk (g' := Vg) (V4.1) Yv.1 (by simp)); replace o2 := hqZ (Kd.R_mono (Kd.R_keep (IsS46.apart (show IsS46 w0 _ g J6 Z1 Z2 from Jg.1) (o2.1) (by decide)) hk (fun _ h => h.2)) (fun _ h => h.1)); replace HK := hqZ (zh0.trans (HK.1) hk (.inl rfl)); replace HB := hqZ (hb); replace Jg := hqZ (hi); clear hb hk hi; have p33 : 0 ≤ (Xb : Int) := oA; have q33 : (Xb : Int) < ((Jt.length : Int) : Int) := oA; obtain ⟨XO, ob, eo33, EE, gl33, cl33, HG33⟩ := Kd.R_form Jj.1 (by omega); (cases eo33); have GB33 := hqZ EE; have GG33 := hqZ HG33; clear EE gl33 HG33; obtain ⟨hx33_0, hf33_0⟩ := Kd.R_celln 0 Jj.1 (Xb : Int) p33 q33; replace p33 := eq_true p33; replace q33 := eq_true q33; obtain ⟨hy41_, hz41_⟩ := Kd.R_celln 0 Jj.1 (Xb : Int) (oA) (oA); have HP41 := Kd.R_putg Jj.1 (Xb : Int) ZV) | ((with_reducible refine gate_store (t := 3) (p := 52) rfl ?_); refine store_event (t := 3) (p := 52) (v := ?vo_w42) (w1 := (w40.setCell ⟨XO, (Xb : Int).toNat, none⟩ (.int .i64 ZV))) ?hg ?ho ?hn ?hr ?_; (case ho => rfl); (case hg => rfl); (case hn => rfl); (case hr => go_simp); intro w42 hw; have hg : w40.grownBy w42 (some XO) := (by rw [hw]; exact HP41.2); have hp_ : Kd.R (Kd.int .i64) 3 w42 w.heap.size (fun k_ => (w.heap.size ≤ k_) ∧ some k_ ≠ (.slice X3 dT.length Xg : Value).ownBlock) (.slice (some ⟨XO, 0, none⟩) Jt.length UU) N9 := (by rw [hw, Ny277.1]; exact HP41.1); clear HP41; replace Jp := hqZ (Kd.N_afterv (v := (.slice (some ⟨XO, 0, none⟩) Jt.length UU)) (v1 := (.slice (some ⟨XO, 0, none⟩) Jt.length UU)) (ok := (fun k_ => (w.heap.size ≤ k_) ∧ some k_ ≠ (.slice X3 dT.length Xg : Value).ownBlock ∧ k_ ≠ JS ∧ k_ ≠ Vg ∧ k_ ≠ g)) (Kd.N_mono Jp.1 (fun _ hk => ⟨⟨hk.1.1, ⟨hk.2, ⟨hk.1.2.2.1, ⟨hk.1.2.2.2.1, hk.1.2.2.2.2⟩⟩⟩⟩, hk.1.2.1⟩)) hg (.inl rfl)); replace JM := hqZ (zl0 (g := JS) (JM.1) hg (Kd.R_ne Jj.1 JM.1 (by decide))); replace V4 := hqZ (zl0 (g := Vg) (V4.1) hg (Kd.R_ne Jj.1 V4.1 (by decide))); replace Jg := hqZ (IsS46.grown (Jg.1) hg (IsS46.own_ne Jg.1 Jj.1 (by decide))); replace o2 := hqZ (Kd.R_after (v := (.slice (some ⟨XO, 0, none⟩) Jt.length UU)) (v1 := (.slice (some ⟨XO, 0, none⟩) Jt.length UU)) (ok := (fun k_ => (w.heap.size ≤ k_))) (Kd.R_mono o2.1 (fun _ hk => ⟨hk.1.1, hk.2⟩)) hg (.inl rfl)); replace HB := hqZ ((by rw [hw]; exact zm0 (HB.1) (Nat.le_trans HL.1 GB33.1) : Below w0.heap.size w0 w42)); replace HK := hqZ (zh0.trans (HK.1) (zh0.of_grown hg g) (Kd.R_base2 Jj.1)); replace Jj := hqZ (hp_); clear hg hw hp_; have hnb43 := uT.1; have hnc43 := vR.1; have hnb44 := Yv.1; have hnc44 := Xt.1; have jg : w42.cell? ⟨Vg, 0, none⟩ = some (.slice j7 YF.length YY) := (zf0 V4.1 0).trans rfl; have jh := zc0 V4.1 0; have hnb46 := Yu.1; have hnc46 := uS.1; have NY : w42.cell? ⟨JS, 0, none⟩ = some (.slice none 0 0) := (zf0 JM.1 0).trans rfl; have NZ := zc0 JM.1 0))
   refine bodyPost_ret (results_ctt rfl _ _ JS 26 #[.slice j7 YF.length YY] (0, 0) _ rfl (by refine blk_put (cs := #[.slice none 0 0]) ?_ 0 _ rfl; exact JM.1) Try.underlying26 rfl (by kernel_rfl)) rfl ?_
   exact ⟨_, _, rfl, Kd.N_mono (Kd.N_far (p := ⟨JS, 0, none⟩) (Kd.N_mono Jp.1 (fun k_ hk => (⟨hk, hk.1.2.2.1⟩ : _ ∧ k_ ≠ JS))) (fun _ hk => hk.2) (.slice j7 YF.length YY)) (fun _ hk => ⟨hk.1.1.1, hk.1.2⟩), Kd.R_mono (Kd.R_far (p := ⟨JS, 0, none⟩) (Kd.R_types Jj.1 JM.1 (by decide)) (fun _ hk => hk.2) (.slice j7 YF.length YY)) (fun _ hk => hk.1.1), IsS46.far Jg.1 uS.1 _, zm0 HB.1 Z0.1, keep_far HK.1 EZ.1 _⟩
  rw [if_pos c11] at H
  have c11b0 : decide (jw < (YF.length : Int)) = true := decide_eq_true c11
  clear c11
  by_cases c12 : jw = XP
  rotate_left
  ·rw [if_neg c12] at H
   have c12b0 : (jw == XP) = false := beq_eq_false_iff_ne.mpr c12
   have c12b1 : (jw != XP) = true := bne_iff_ne.mpr c12
   replace H := Option.bind_eq_some_iff.mp H
   obtain ⟨⟨ZW, mK, mL⟩, A230, H⟩ := H
   try dsimp only at H
   have A23 := hqZ A230
   clear A230
   by_cases c24 : Jt.length < 17592186044416
   rotate_left
   ·rw [if_neg c24] at H
    exact absurd H (by simp)
   rw [if_pos c24] at H
   have LMc24 := hqZ c24
   clear c24
   obtain ⟨Na, hy262⟩ : ∃ y_ : List Int, y_ = (Jt ++ [ZW]) := ⟨_, rfl⟩
   replace H : (ym0.l0 k1 a1 XP Na (YF.length : Int) (wrap64 (jw + 1)) J6 mK mL YF) = some (r1, r2, r3, r4, r5) := by (rw [hy262]; with_reducible exact H)
   have Ny262 := hqZ hy262
   clear hy262
   have H' := hqZ H
   clear H
   go_wp2_with (first | ((with_reducible refine ze0 (f := 55) rfl ?_); refine zM (some 36) Try.func55 #[.pointer (some ⟨g, 0, none⟩), .int .i64 a1] ?_; (with_reducible refine (yz0.calls g J6 JD JE a1 ZW mK mL w0 _ ?side1 ?side2 A23.1).mono ?_); (case side1 => exact Jg.1); (case side2 => exact HB.1); rintro e w25 ⟨rfl, hi, hb, hk⟩; refine ⟨_, rfl, ?_⟩; replace Jj := hqZ (Kd.R_mono (Kd.R_keep (IsS46.apart (show IsS46 w0 _ g J6 JD JE from Jg.1) (Jj.1) (by decide)) hk (fun _ h => h.2)) (fun _ h => h.1)); replace Jp := hqZ (Kd.N_mono (Kd.N_keep (Kd.N_mono (ok := fun k_ => (((w.heap.size ≤ k_)) ∧ (some k_ ≠ (u9 : Value).ownBlock ∧ (k_ ≠ JS ∧ (k_ ≠ Vg ∧ k_ ≠ g))))) (Jp.1) (fun k_ hk_ => (⟨hk_, hk_.2.2.2.2⟩ : _ ∧ k_ ≠ g))) hk (fun _ h => h.2)) (fun _ h => h.1)); replace JM := hqZ (zh0.blk hk (g' := JS) (JM.1) Yu.1 (by simp)); replace V4 := hqZ (zh0.blk hk (g' := Vg) (V4.1) Yv.1 (by simp)); replace HK := hqZ (zh0.trans (HK.1) hk (.inl rfl)); replace HB := hqZ (hb); replace Jg := hqZ (hi); clear hb hk hi) | ((with_reducible refine zu0 (b := .append) (xs := #[.tmp 33, .tmp 37]) rfl ?_); at_builtin; refine Kd.R_append (Kd.int .i64) w.heap.size rfl (.tmp 33) (.tmp 37) 27 3 (.int .i64 0) 8 rfl Try.underlying27 info3 rfl (by decide) (by omega) u9 Jt ZW [.int .i64 ZW] (fun k_ => (w.heap.size ≤ k_)) (fun _ => False) rfl rfl ?aP (fun _ hk => hk.elim) ?aF ?aO (Below.refl _ _) ?aS ?aL ?_; (case aP => exact rfl); (case aF => exact (fun k_ hk => (Nat.le_trans (zj0 (w := w) (g := g) (row := none) (HK.1)) hk))); (case aO => exact (by (with_reducible repeat (first | apply Kd.R_alloc | apply Kd.R_drewN | apply Kd.R_drew)); exact Jj.1)); (case aS => exact (zj0 (w := w) (g := g) (row := none) (HK.1))); (case aL => have := LMc24.1; omega); intro v263 w26 ho hb hg hat; rw [← Ny262.1] at ho; have n0_ := hqZ (Kd.N_afterv (ok := (fun k_ => (w.heap.size ≤ k_) ∧ k_ ≠ JS ∧ k_ ≠ Vg ∧ k_ ≠ g)) (Kd.N_mono Jp.1 (fun _ hk => ⟨⟨hk.1, ⟨hk.2.2.1, ⟨hk.2.2.2.1, hk.2.2.2.2⟩⟩⟩, hk.2.1⟩)) hg hat); have n1_ := hqZ (zl0 (g := JS) (JM.1) hg (Kd.R_ne Jj.1 JM.1 (by decide))); have n2_ := hqZ (zl0 (g := Vg) (V4.1) hg (Kd.R_ne Jj.1 V4.1 (by decide))); have n3_ := hqZ (IsS46.grown (Jg.1) hg (IsS46.own_ne Jg.1 Jj.1 (by decide))); have n4_ := hqZ (below_weaken (HB.1) HL.1 hb); have n5_ := hqZ (zh0.trans (HK.1) (zh0.of_grown hg g) (Kd.R_base2 Jj.1)); have n6_ := hqZ (ho); clear Jp; clear JM; clear V4; clear Jg; clear HB; clear HK; clear Jj; have Jp := n0_; have JM := n1_; have V4 := n2_; have Jg := n3_; have HB := n4_; have HK := n5_; have Nb := n6_; clear n0_ n1_ n2_ n3_ n4_ n5_ n6_; clear ho hb hg hat))
   go_roundg k1
   case measure => have := V8.1; omega
   case rel => exact ⟨(Na), (wrap64 (jw + 1)), (mK), (mL), (rfl), H', ⟨by have := V8.1; omega⟩, ⟨Nb.1⟩, ⟨Kd.N_mono Jp.1 (fun _ hk => ⟨hk.1.1, ⟨hk.2, ⟨hk.1.2.1, ⟨hk.1.2.2.1, hk.1.2.2.2⟩⟩⟩⟩)⟩, ⟨JM.1⟩, ⟨V4.1⟩, ⟨Jg.1⟩, ⟨HK.1⟩, ⟨HB.1⟩⟩
  rw [if_pos c12] at H
  have c12b0 : (jw == XP) = true := beq_iff_eq.mpr c12
  have c12b1 : (jw != XP) = false := bne_eq_false_iff_eq.mpr c12
  clear c12
  replace H := Option.bind_eq_some_iff.mp H
  obtain ⟨⟨Jj0, dU, dV⟩, A130, H⟩ := H
  try dsimp only at H
  have A13 := hqZ A130
  clear A130
  by_cases c14 : Jj0 = true
  rotate_left
  ·replace c14 := Bool.eq_false_iff.mpr c14
   subst c14
   rw [if_neg (show ¬ (false = true) by decide)] at H
   by_cases c20 : Jt.length < 17592186044416
   rotate_left
   ·rw [if_neg c20] at H
    exact absurd H (by simp)
   rw [if_pos c20] at H
   have LMc20 := hqZ c20
   clear c20
   obtain ⟨Nc, hy256⟩ : ∃ y_ : List Int, y_ = (Jt ++ [0]) := ⟨_, rfl⟩
   replace H : (ym0.l0 k1 a1 XP Nc (YF.length : Int) (wrap64 (jw + 1)) J6 dU dV YF) = some (r1, r2, r3, r4, r5) := by (rw [hy256]; with_reducible exact H)
   have Ny256 := hqZ hy256
   clear hy256
   have H' := hqZ H
   clear H
   go_wp2_with (first | (go_at_call 34; (with_reducible refine (ys0.calls g J6 JD JE 12 false dU dV w0 _ ?side1 ?side2 A13.1).mono ?_); (case side1 => exact Jg.1); (case side2 => exact HB.1); rintro e w21 ⟨rfl, hi, hb, hk⟩; replace Jj := hqZ (Kd.R_mono (Kd.R_keep (IsS46.apart (show IsS46 w0 _ g J6 JD JE from Jg.1) (Jj.1) (by decide)) hk (fun _ h => h.2)) (fun _ h => h.1)); replace Jp := hqZ (Kd.N_mono (Kd.N_keep (Kd.N_mono (ok := fun k_ => (((w.heap.size ≤ k_)) ∧ (some k_ ≠ (u9 : Value).ownBlock ∧ (k_ ≠ JS ∧ (k_ ≠ Vg ∧ k_ ≠ g))))) (Jp.1) (fun k_ hk_ => (⟨hk_, hk_.2.2.2.2⟩ : _ ∧ k_ ≠ g))) hk (fun _ h => h.2)) (fun _ h => h.1)); replace JM := hqZ (zh0.blk hk (g' := JS) (JM.1) Yu.1 (by simp)); replace V4 := hqZ (zh0.blk hk (g' := Vg) (V4.1) Yv.1 (by simp)); replace HK := hqZ (zh0.trans (HK.1) hk (.inl rfl)); replace HB := hqZ (hb); replace Jg := hqZ (hi); clear hb hk hi) | ((with_reducible refine zu0 (b := .append) (xs := #[.tmp 30, .tmp 31]) rfl ?_); at_builtin; refine Kd.R_append (Kd.int .i64) w.heap.size rfl (.tmp 30) (.tmp 31) 27 3 (.int .i64 0) 8 rfl Try.underlying27 info3 rfl (by decide) (by omega) u9 Jt 0 [.int .i64 0] (fun k_ => (w.heap.size ≤ k_)) (fun _ => False) rfl rfl ?aP (fun _ hk => hk.elim) ?aF ?aO (Below.refl _ _) ?aS ?aL ?_; (case aP => exact rfl); (case aF => exact (fun k_ hk => (Nat.le_trans (zj0 (w := w) (g := g) (row := none) (HK.1)) hk))); (case aO => exact (by (with_reducible repeat (first | apply Kd.R_alloc | apply Kd.R_drewN | apply Kd.R_drew)); exact Jj.1)); (case aS => exact (zj0 (w := w) (g := g) (row := none) (HK.1))); (case aL => have := LMc20.1; omega); intro v257 w22 ho hb hg hat; rw [← Ny256.1] at ho; have n0_ := hqZ (Kd.N_afterv (ok := (fun k_ => (w.heap.size ≤ k_) ∧ k_ ≠ JS ∧ k_ ≠ Vg ∧ k_ ≠ g)) (Kd.N_mono Jp.1 (fun _ hk => ⟨⟨hk.1, ⟨hk.2.2.1, ⟨hk.2.2.2.1, hk.2.2.2.2⟩⟩⟩, hk.2.1⟩)) hg hat); have n1_ := hqZ (zl0 (g := JS) (JM.1) hg (Kd.R_ne Jj.1 JM.1 (by decide))); have n2_ := hqZ (zl0 (g := Vg) (V4.1) hg (Kd.R_ne Jj.1 V4.1 (by decide))); have n3_ := hqZ (IsS46.grown (Jg.1) hg (IsS46.own_ne Jg.1 Jj.1 (by decide))); have n4_ := hqZ (below_weaken (HB.1) HL.1 hb); have n5_ := hqZ (zh0.trans (HK.1) (zh0.of_grown hg g) (Kd.R_base2 Jj.1)); have n6_ := hqZ (ho); clear Jp; clear JM; clear V4; clear Jg; clear HB; clear HK; clear Jj; have Jp := n0_; have JM := n1_; have V4 := n2_; have Jg := n3_; have HB := n4_; have HK := n5_; have Nd := n6_; clear n0_ n1_ n2_ n3_ n4_ n5_ n6_; clear ho hb hg hat))
   go_roundg k1
   case measure => have := V8.1; omega
   case rel => exact ⟨(Nc), (wrap64 (jw + 1)), (dU), (dV), (rfl), H', ⟨by have := V8.1; omega⟩, ⟨Nd.1⟩, ⟨Kd.N_mono Jp.1 (fun _ hk => ⟨hk.1.1, ⟨hk.2, ⟨hk.1.2.1, ⟨hk.1.2.2.1, hk.1.2.2.2⟩⟩⟩⟩)⟩, ⟨JM.1⟩, ⟨V4.1⟩, ⟨Jg.1⟩, ⟨HK.1⟩, ⟨HB.1⟩⟩
  subst c14
  rw [if_pos rfl] at H
  replace H := Option.bind_eq_some_iff.mp H
  obtain ⟨⟨ZX, mM, mN⟩, A150, H⟩ := H
  try dsimp only at H
  have A15 := hqZ A150
  clear A150
  by_cases c16 : Jt.length < 17592186044416
  rotate_left
  ·rw [if_neg c16] at H
   exact absurd H (by simp)
  rw [if_pos c16] at H
  have LMc16 := hqZ c16
  clear c16
  obtain ⟨Nf, hy253⟩ : ∃ y_ : List Int, y_ = (Jt ++ [ZX]) := ⟨_, rfl⟩
  replace H : (ym0.l0 k1 a1 XP Nf (YF.length : Int) (wrap64 (jw + 1)) J6 mM mN YF) = some (r1, r2, r3, r4, r5) := by (rw [hy253]; with_reducible exact H)
  have Ny253 := hqZ hy253
  clear hy253
  have H' := hqZ H
  clear H
  go_wp2_with (first | (go_at_call 34; (with_reducible refine (ys0.calls g J6 JD JE 12 true dU dV w0 _ ?side1 ?side2 A13.1).mono ?_); (case side1 => exact Jg.1); (case side2 => exact HB.1); rintro e w17 ⟨rfl, hi, hb, hk⟩; replace Jj := hqZ (Kd.R_mono (Kd.R_keep (IsS46.apart (show IsS46 w0 _ g J6 JD JE from Jg.1) (Jj.1) (by decide)) hk (fun _ h => h.2)) (fun _ h => h.1)); replace Jp := hqZ (Kd.N_mono (Kd.N_keep (Kd.N_mono (ok := fun k_ => (((w.heap.size ≤ k_)) ∧ (some k_ ≠ (u9 : Value).ownBlock ∧ (k_ ≠ JS ∧ (k_ ≠ Vg ∧ k_ ≠ g))))) (Jp.1) (fun k_ hk_ => (⟨hk_, hk_.2.2.2.2⟩ : _ ∧ k_ ≠ g))) hk (fun _ h => h.2)) (fun _ h => h.1)); replace JM := hqZ (zh0.blk hk (g' := JS) (JM.1) Yu.1 (by simp)); replace V4 := hqZ (zh0.blk hk (g' := Vg) (V4.1) Yv.1 (by simp)); replace HK := hqZ (zh0.trans (HK.1) hk (.inl rfl)); replace HB := hqZ (hb); replace Jg := hqZ (hi); clear hb hk hi) | ((with_reducible refine ze0 (f := 55) rfl ?_); refine zM (some 36) Try.func55 #[.pointer (some ⟨g, 0, none⟩), .int .i64 a1] ?_; (with_reducible refine (yz0.calls g J6 dU dV a1 ZX mM mN w0 _ ?side1 ?side2 A15.1).mono ?_); (case side1 => exact Jg.1); (case side2 => exact HB.1); rintro e w18 ⟨rfl, hi, hb, hk⟩; refine ⟨_, rfl, ?_⟩; replace Jj := hqZ (Kd.R_mono (Kd.R_keep (IsS46.apart (show IsS46 w0 _ g J6 dU dV from Jg.1) (Jj.1) (by decide)) hk (fun _ h => h.2)) (fun _ h => h.1)); replace Jp := hqZ (Kd.N_mono (Kd.N_keep (Kd.N_mono (ok := fun k_ => (((w.heap.size ≤ k_)) ∧ (some k_ ≠ (u9 : Value).ownBlock ∧ (k_ ≠ JS ∧ (k_ ≠ Vg ∧ k_ ≠ g))))) (Jp.1) (fun k_ hk_ => (⟨hk_, hk_.2.2.2.2⟩ : _ ∧ k_ ≠ g))) hk (fun _ h => h.2)) (fun _ h => h.1)); replace JM := hqZ (zh0.blk hk (g' := JS) (JM.1) Yu.1 (by simp)); replace V4 := hqZ (zh0.blk hk (g' := Vg) (V4.1) Yv.1 (by simp)); replace HK := hqZ (zh0.trans (HK.1) hk (.inl rfl)); replace HB := hqZ (hb); replace Jg := hqZ (hi); clear hb hk hi) | ((with_reducible refine zu0 (b := .append) (xs := #[.tmp 33, .tmp 37]) rfl ?_); at_builtin; refine Kd.R_append (Kd.int .i64) w.heap.size rfl (.tmp 33) (.tmp 37) 27 3 (.int .i64 0) 8 rfl Try.underlying27 info3 rfl (by decide) (by omega) u9 Jt ZX [.int .i64 ZX] (fun k_ => (w.heap.size ≤ k_)) (fun _ => False) rfl rfl ?aP (fun _ hk => hk.elim) ?aF ?aO (Below.refl _ _) ?aS ?aL ?_; (case aP => exact rfl); (case aF => exact (fun k_ hk => (Nat.le_trans (zj0 (w := w) (g := g) (row := none) (HK.1)) hk))); (case aO => exact (by (with_reducible repeat (first | apply Kd.R_alloc | apply Kd.R_drewN | apply Kd.R_drew)); exact Jj.1)); (case aS => exact (zj0 (w := w) (g := g) (row := none) (HK.1))); (case aL => have := LMc16.1; omega); intro v254 w19 ho hb hg hat; rw [← Ny253.1] at ho; have n0_ := hqZ (Kd.N_afterv (ok := (fun k_ => (w.heap.size ≤ k_) ∧ k_ ≠ JS ∧ k_ ≠ Vg ∧ k_ ≠ g)) (Kd.N_mono Jp.1 (fun _ hk => ⟨⟨hk.1, ⟨hk.2.2.1, ⟨hk.2.2.2.1, hk.2.2.2.2⟩⟩⟩, hk.2.1⟩)) hg hat); have n1_ := hqZ (zl0 (g := JS) (JM.1) hg (Kd.R_ne Jj.1 JM.1 (by decide))); have n2_ := hqZ (zl0 (g := Vg) (V4.1) hg (Kd.R_ne Jj.1 V4.1 (by decide))); have n3_ := hqZ (IsS46.grown (Jg.1) hg (IsS46.own_ne Jg.1 Jj.1 (by decide))); have n4_ := hqZ (below_weaken (HB.1) HL.1 hb); have n5_ := hqZ (zh0.trans (HK.1) (zh0.of_grown hg g) (Kd.R_base2 Jj.1)); have n6_ := hqZ (ho); clear Jp; clear JM; clear V4; clear Jg; clear HB; clear HK; clear Jj; have Jp := n0_; have JM := n1_; have V4 := n2_; have Jg := n3_; have HB := n4_; have HK := n5_; have Ng := n6_; clear n0_ n1_ n2_ n3_ n4_ n5_ n6_; clear ho hb hg hat))
  go_roundg k1
  case measure => have := V8.1; omega
  case rel => exact ⟨(Nf), (wrap64 (jw + 1)), (mM), (mN), (rfl), H', ⟨by have := V8.1; omega⟩, ⟨Ng.1⟩, ⟨Kd.N_mono Jp.1 (fun _ hk => ⟨hk.1.1, ⟨hk.2, ⟨hk.1.2.1, ⟨hk.1.2.2.1, hk.1.2.2.2⟩⟩⟩⟩)⟩, ⟨JM.1⟩, ⟨V4.1⟩, ⟨Jg.1⟩, ⟨HK.1⟩, ⟨HB.1⟩⟩
end Go.Proofs.Ytdfabioienofhaa.P
