/- Texts of this session on the way to the law FnRecurrentHeaps, part 3: words of the print, walks, plain laws; only what the law's proof uses. -/
import Derived.Test.YtdfabioienofhaaCFnRecurrentHeapsb
namespace Go.Proofs.Ytdfabioienofhaa.P
set_option maxHeartbeats 8000000
set_option maxRecDepth 100000
open Go.RowKit Go.Proofs.YtdfabioienofhaaW.PrintWords Go.Proofs.YtdfabioienofhaaW.PrintLast Go.Proofs.YtdfabioienofhaaW.PrintMore
attribute [local go_sem] zr0 zp0 zw0 zv0 zn0 zo0 zq0 zs0
set_option linter.unusedVariables false
set_option linter.unusedSimpArgs false
mutual
def yc0.l0 : Nat → Int → Int → Int → List Int → Int → Int → List (List Int) → Option ((List (List Int)) × Int × Int × Int)
 | 0, _, _, _, _, _, _, _ => none
 | k + 1, x5, Uh, uY, VD, VY, VZ, Y4 => if uY < Uh then ((yd0.f k Y4 uY).bind fun XF => (if (XF.length : Int) > 0 then (if uY = x5 then (yc0.j1 k x5 uY Uh uY false VD VY VZ Y4) else ((yd0.f k Y4 uY).bind fun uj => (if 0 ≤ x5 then (if x5 < (uj.length : Int) then (if (rd uj x5) < 0 then ((ys0.f VD VY VZ 12).bind fun um => (yc0.j1 k x5 uY Uh uY (!um.1) VD um.2.1 um.2.2 Y4)) else (yc0.j1 k x5 uY Uh uY false VD VY VZ Y4)) else (none)) else (none)))) else (yc0.j1 k x5 uY Uh uY false VD VY VZ Y4))) else (some (Y4, x5, VY, VZ))
def yc0.j1 : Nat → Int → Int → Int → Int → Bool → List Int → Int → Int → List (List Int) → Option ((List (List Int)) × Int × Int × Int)
 | 0, _, _, _, _, _, _, _, _, _ => none
 | k + 1, x5, x6, Uh, uY, bh, VD, VY, VZ, Y4 => if bh = true then (if 0 ≤ x6 then (if x6 < (Y4.length : Int) then (if ((rd_L2 Y4 x6).length : Int) < 5 then ((yr1.f (rd_L2 Y4 x6)).bind fun un => ((some (([x5] : List Int) : List Int)).bind fun jP => (if un.length + jP.length < 17592186044416 then (yc0.l0 k x5 Uh (wrap64 (uY + 1)) VD VY VZ (Y4.set (x6 : Int).toNat (un ++ jP))) else (none)))) else ((some (([x5] : List Int) : List Int)).bind fun XG => (if 1 ≤ ((rd_L2 Y4 x6).length : Int) then ((some ((rd_L2 Y4 x6).drop 1 : List Int)).bind fun vE => (if XG.length + vE.length < 17592186044416 then (yc0.l0 k x5 Uh (wrap64 (uY + 1)) VD VY VZ (Y4.set (x6 : Int).toNat (XG ++ vE))) else (none))) else (none)))) else (none)) else (none)) else (yc0.l0 k x5 Uh (wrap64 (uY + 1)) VD VY VZ Y4)
end
def yc0.f (k : Nat) (J6 : List Int) (Jv : Int) (JQ : Int) : Option ((List (List Int)) × Int × Int × Int) := (ye0.f k J6 Jv JQ 5).bind fun uo => ((yz0.f J6 uo.2.1 uo.2.2 (uo.1.length : Int)).bind fun uq => (yc0.l0 k uq.1 (uo.1.length : Int) 0 J6 uq.2.1 uq.2.2 uo.1))
theorem yc0.mono_l : ∀ k, (∀ y0 y1 y2 y3 y4 y5 y6, LeO (yc0.l0 k y0 y1 y2 y3 y4 y5 y6) (yc0.l0 (k + 1) y0 y1 y2 y3 y4 y5 y6)) ∧ (∀ y0 y1 y2 y3 y4 y5 y6 y7 y8, LeO (yc0.j1 k y0 y1 y2 y3 y4 y5 y6 y7 y8) (yc0.j1 (k + 1) y0 y1 y2 y3 y4 y5 y6 y7 y8))
 | 0 => ⟨fun _ _ _ _ _ _ _ r h => by simp [yc0.l0] at h, fun _ _ _ _ _ _ _ _ _ r h => by simp [yc0.j1] at h⟩
 | k + 1 => by
  obtain ⟨ih0, ih1⟩ := yc0.mono_l k
  refine ⟨?_, ?_⟩
  ·intro y0 y1 y2 y3 y4 y5 y6
   unfold yc0.l0
   repeat' (with_reducible first | apply ih0 | apply ih1 | apply yd0.mono | apply ye0.mono | apply LeO.refl | apply LeO.none | refine LeO.ite ?_ ?_ | refine LeO.bind ?_ (fun _ => ?_))
  ·intro y0 y1 y2 y3 y4 y5 y6 y7 y8
   unfold yc0.j1
   repeat' (with_reducible first | apply ih0 | apply ih1 | apply yd0.mono | apply ye0.mono | apply LeO.refl | apply LeO.none | refine LeO.ite ?_ ?_ | refine LeO.bind ?_ (fun _ => ?_))
theorem yc0.mono : ∀ a0 a1 a2 k, LeO (yc0.f k a0 a1 a2) (yc0.f (k + 1) a0 a1 a2) := by
 intro a0 a1 a2 k
 obtain ⟨ih0, ih1⟩ := yc0.mono_l k
 unfold yc0.f
 repeat' (with_reducible first | apply ih0 | apply ih1 | apply yd0.mono | apply ye0.mono | apply LeO.refl | apply LeO.none | refine LeO.ite ?_ ?_ | refine LeO.bind ?_ (fun _ => ?_))
def yc0.T8 : Bool × List (List Nat × List Nat) := (true, [([], []), ([0], [0]), ([], []), ([], []), ([3], [3]), ([], []), ([4, 5], [4, 5]), ([6], [6]), ([7], [7]), ([], []), ([9], [9]), ([8, 10, 8], [8, 10]), ([1, 2, 0, 1, 2, 3, 4, 5, 6, 7, 8, 9, 10, 11], [1, 2]), ([12, 11, 11, 0, 1, 2, 3, 4, 5, 6, 7, 8, 9, 10, 11], [11, 12])])
def yc0.B8 : List Nat := [0, 1, 0, 0, 8, 0, 56, 120, 248, 0, 512, 2040, 4095, 8191]
theorem yc0.tab8 : rtab .any (opsOf Try.f54 8) = yc0.T8 := by kernel_rfl
theorem yc0.bits8 : waitsOk yc0.T8.2 yc0.B8 = true := by kernel_rfl
def yc0.T9 : Bool × List (List Nat × List Nat) := (true, [([], []), ([0], [0]), ([], []), ([], []), ([3], [3]), ([], []), ([5], [5]), ([], []), ([6, 7], [6, 7]), ([8], [8]), ([9], [9]), ([4, 10], [4, 10]), ([1, 2, 0, 1, 2, 3, 4, 5, 6, 7, 8, 9, 10, 11], [1, 2]), ([12, 11, 11, 0, 1, 2, 3, 4, 5, 6, 7, 8, 9, 10, 11], [11, 12])])
def yc0.B9 : List Nat := [0, 1, 0, 0, 8, 0, 32, 0, 224, 480, 992, 2040, 4095, 8191]
theorem yc0.tab9 : rtab .any (opsOf Try.f54 9) = yc0.T9 := by kernel_rfl
theorem yc0.bits9 : waitsOk yc0.T9.2 yc0.B9 = true := by kernel_rfl
theorem yc0.calls (k : Nat) (g : Nat) (J6 : List Int) (Jv : Int) (JQ : Int) (r1 : List (List Int)) (r2 : Int) (r3 : Int) (r4 : Int) (w0 w : World) (hI : IsS46 w0 w g J6 Jv JQ) (hB : Below w0.heap.size w0 w) (h : yc0.f k J6 Jv JQ = some (r1, r2, r3, r4)) :
  Calls Try.prog 54 #[.pointer (some ⟨g, 0, none⟩)] w fun e w' => ∃ v0_ : Value, e = .returned (.tuple #[.agg #[v0_], .int .i64 r2]) ∧ Kd.N (Kd.slice 3 (Kd.int .i64)) 27 w' w.heap.size (fun k_ => (w.heap.size ≤ k_)) v0_ r1 ∧ IsS46 w0 w' g J6 r3 r4 ∧ Below w0.heap.size w0 w' ∧ zh0 w w' g none := by
 have hu26 := Try.underlying26
 have Jg := hqZ hI
 have HK := hqZ (zh0.refl w g none)
 have HL := hqZ hB.size
 clear hI
 have HW0 := hqZ hB.size
 have HB := hqZ hB
 clear hB
 have H : ((ye0.f k J6 Jv JQ 5).bind fun uo => ((yz0.f J6 uo.2.1 uo.2.2 (uo.1.length : Int)).bind fun uq => (yc0.l0 k uq.1 (uo.1.length : Int) 0 J6 uq.2.1 uq.2.2 uo.1))) = some (r1, r2, r3, r4) := h
 clear h
 replace H := Option.bind_eq_some_iff.mp H
 obtain ⟨⟨Yj, Ec, Ed⟩, A20, H⟩ := H
 replace H : ((yz0.f J6 Ec Ed (Yj.length : Int)).bind fun uq => (yc0.l0 k uq.1 (Yj.length : Int) 0 J6 uq.2.1 uq.2.2 Yj)) = some (r1, r2, r3, r4) := H
 have A2 := hqZ A20
 clear A20
 replace H := Option.bind_eq_some_iff.mp H
 obtain ⟨⟨Vl, DO, DP⟩, A30, H⟩ := H
 replace H : (yc0.l0 k Vl (Yj.length : Int) 0 J6 DO DP Yj) = some (r1, r2, r3, r4) := H
 have A3 := hqZ A30
 clear A30
 have H' := hqZ H
 clear H
 go_enter Try.func54, Try.ntmps54
 go_wp2_with (first | ((with_reducible refine zi0 (N := 2) rfl ?_); refine zk0 ?hg (N := 2) ?hd (cs := #[.slice none 0 0]) (t := 26) ?hr ?_; (case hd | hg => rfl); (case hr => go_simp); intro JP hg w4 hbox hb; replace HB := hqZ (za0 (HB.1) hb); have JA := hqZ (hbox); have bm := hqZ ((by rw [hg]; exact (zj0 (w := w) (g := g) (row := none) (HK.1)) : w.heap.size ≤ JP)); have bn := hqZ ((Nat.le_trans HW0.1 (by rw [hg]; exact (zj0 (w := w) (g := g) (row := none) (HK.1)) : w.heap.size ≤ JP) : w0.heap.size ≤ JP)); replace HK := hqZ (zh0.trans (HK.1) (zh0.of_below hb g none) (.inl rfl)); have qW := hqZ ((by rw [hg]; exact Nat.ne_of_lt (IsS46.lt (show IsS46 w0 _ g J6 Jv JQ from Jg.1)) : g ≠ JP)); have oe := hqZ ((by rw [hg]; exact Nat.ne_of_gt (IsS46.lt (show IsS46 w0 _ g J6 Jv JQ from Jg.1)) : JP ≠ g)); replace Jg := hqZ (IsS46.below (Jg.1) hb); clear hb hbox hg) | ((with_reducible refine ze0 (f := 70) rfl ?_); refine zM (some 8) Try.func70 #[.pointer (some ⟨g, 0, none⟩), .int .i64 5] ?_; (with_reducible refine (ye0.calls k g J6 Jv JQ 5 Yj Ec Ed w0 _ ?side1 ?side2 A2.1).mono ?_); (case side1 => exact Jg.1); (case side2 => exact HB.1); rintro e w5 ⟨v192, rfl, ho0, hi, hb, hk⟩; refine ⟨_, rfl, ?_⟩; have Ua := hqZ (Kd.N_lower (Kd.N_mono (ok' := fun k_ => (w.heap.size ≤ k_) ∧ k_ ≠ JP ∧ k_ ≠ g) (Kd.S_N (Kd.S_bound ho0)) (fun k_ hk_ => ⟨(Nat.le_trans (zj0 (w := w) (g := g) (row := none) (HK.1)) hk_.2.1), (Kd.freshB (g := JP) (o := .cells #[.slice none 0 0] 26 (0, 0)) (JA.1) k_ hk_.2.1), (IsS46.fresh (Jg.1) k_ hk_.2.1)⟩)) (zj0 (w := w) (g := g) (row := none) (HK.1))); replace JA := hqZ (zh0.blk hk (g' := JP) (o := .cells #[.slice none 0 0] 26 (0, 0)) (JA.1) oe.1 (by simp)); replace HK := hqZ (zh0.trans (HK.1) hk (.inl rfl)); replace HB := hqZ (hb); replace Jg := hqZ (hi); clear hb hk hi ho0) | ((with_reducible refine zi0 (N := 4) rfl ?_); refine zk0 ?hg (N := 4) ?hd (cs := #[.slice none 0 0]) (t := 26) ?hr ?_; (case hd | hg => rfl); (case hr => go_simp); intro JF hg w6 hbox hb; replace Ua := hqZ (Kd.N_below (Kd.N_elderB (Ua.1) JF (Nat.le_of_eq hg.symm)) hb); replace HB := hqZ (za0 (HB.1) hb); have Jn := hqZ (hbox); have bo := hqZ ((by rw [hg]; exact (zj0 (w := w) (g := g) (row := none) (HK.1)) : w.heap.size ≤ JF)); have bp := hqZ ((Nat.le_trans HW0.1 (by rw [hg]; exact (zj0 (w := w) (g := g) (row := none) (HK.1)) : w.heap.size ≤ JF) : w0.heap.size ≤ JF)); replace HK := hqZ (zh0.trans (HK.1) (zh0.of_below hb g none) (.inl rfl)); have Ys := hqZ ((by rw [hg]; exact Nat.ne_of_lt (blk_lt (g := JP) (o := .cells #[.slice none 0 0] 26 (0, 0)) (JA.1)) : JP ≠ JF)); have YG := hqZ ((by rw [hg]; exact Nat.ne_of_gt (blk_lt (g := JP) (o := .cells #[.slice none 0 0] 26 (0, 0)) (JA.1)) : JF ≠ JP)); replace JA := hqZ (zd0 (g := JP) (o := .cells #[.slice none 0 0] 26 (0, 0)) (JA.1) hb); have jQ := hqZ ((by rw [hg]; exact Nat.ne_of_lt (IsS46.lt (show IsS46 w0 _ g J6 Ec Ed from Jg.1)) : g ≠ JF)); have ji := hqZ ((by rw [hg]; exact Nat.ne_of_gt (IsS46.lt (show IsS46 w0 _ g J6 Ec Ed from Jg.1)) : JF ≠ g)); replace Jg := hqZ (IsS46.below (Jg.1) hb); clear hb hbox hg; obtain ⟨j7, YY, eo7⟩ := Kd.N_slice Ua.1; subst eo7; have hnb8 := YG.1; have hnc8 := Ys.1; have hnb9 := ji.1; have hnc9 := jQ.1; have Y0 : w6.cell? ⟨JF, 0, none⟩ = some (.slice none 0 0) := (zf0 Jn.1 0).trans rfl; have Y1 := zc0 Jn.1 0) | ((with_reducible refine ze0 (f := 55) rfl ?_); refine zM (some 13) Try.func55 #[.pointer (some ⟨g, 0, none⟩), .int .i64 (Yj.length : Int)] ?_; (with_reducible refine (yz0.calls g J6 Ec Ed (Yj.length : Int) Vl DO DP w0 _ ?side1 ?side2 A3.1).mono ?_); (case side1 => repeat ((with_reducible first | exact Jg.1 | refine IsS46.far ?_ jQ.1 _))); (case side2 => repeat ((with_reducible first | exact HB.1 | refine zm0 ?_ bp.1))); rintro e w11 ⟨rfl, hi, hb, hk⟩; refine ⟨_, rfl, ?_⟩; replace JA := hqZ (zh0.blk hk (g' := JP) (o := .cells #[.slice none 0 0] 26 (0, 0)) (by refine blk_far ?_ Ys.1 _; exact JA.1) oe.1 (by simp)); replace Ua := hqZ (Kd.N_mono (Kd.N_keep (Kd.N_mono (ok := fun k_ => ((((w.heap.size ≤ k_)) ∧ (k_ ≠ JP ∧ k_ ≠ g)) ∧ k_ ≠ JF)) ((Kd.N_mono (Kd.N_far (p := ⟨JF, 0, none⟩) (Kd.N_mono Ua.1 (fun k_ hk => (⟨hk, hk.2⟩ : _ ∧ k_ ≠ JF))) (fun _ hk => hk.2) (.slice j7 Yj.length YY)) (fun _ h_ => h_.1))) (fun k_ hk_ => (⟨hk_, hk_.1.2.2⟩ : _ ∧ k_ ≠ g))) hk (fun _ h => h.2)) (fun _ h => h.1)); replace Jn := hqZ (zh0.blk hk (g' := JF) (o := .cells #[.slice j7 Yj.length YY] 26 (0, 0)) (by refine blk_put (cs := #[.slice none 0 0]) ?_ 0 _ rfl; exact Jn.1) ji.1 (by simp)); replace HK := hqZ (zh0.trans (keep_far HK.1 bo.1 _) hk (.inl rfl)); replace HB := hqZ (hb); replace Jg := hqZ (hi); clear hb hk hi; have jj : w11.cell? ⟨JF, 0, none⟩ = some (.slice j7 Yj.length YY) := (zf0 Jn.1 0).trans rfl; have jk := zc0 Jn.1 0))
 go_loopg [17] k (fun kq v17 w' => ∃ (J7 : Int) (JD : Int) (JE : Int) (J1 : List (List Int)) (u197000 : Value), v17 = .int .i64 J7 ∧ zg0 (yc0.l0 kq Vl (Yj.length : Int) J7 J6 JD JE J1 = some (r1, r2, r3, r4)) ∧ zg0 (kq ≤ k) ∧ zg0 (Kd.N (Kd.slice 3 (Kd.int .i64)) 27 w' w.heap.size (fun k_ => (w.heap.size ≤ k_) ∧ k_ ≠ JP ∧ k_ ≠ JF ∧ k_ ≠ g) u197000 J1) ∧ zg0 (w'.heap[JP]? = some (.cells #[(.slice none 0 0)] 26 (0, 0))) ∧ zg0 (w'.heap[JF]? = some (.cells #[u197000] 26 (0, 0))) ∧ zg0 (IsS46 w0 w' g J6 JD JE) ∧ zg0 (zh0 w w' g none) ∧ zg0 (Below w0.heap.size w0 w'))
 case atStart => exact ⟨(0), (DO), (DP), (Yj), (.slice j7 Yj.length YY), (rfl), H', ⟨Nat.le_refl _⟩, ⟨Kd.N_mono Ua.1 (fun _ hk => ⟨hk.1.1, ⟨hk.1.2.1, ⟨hk.2, hk.1.2.2⟩⟩⟩)⟩, ⟨JA.1⟩, ⟨Jn.1⟩, ⟨Jg.1⟩, ⟨HK.1⟩, ⟨HB.1⟩⟩
 case round =>
  clear H'
  try clear p2
  try clear c5
  try clear c7
  try clear c8
  try clear c9
  try clear Y0
  try clear jj
  try clear Y1
  try clear jk
  obtain ⟨J7, JD, JE, J1, u197000, rfl, HA, V8, J3, JA, Jn, Jg, HK, HB⟩ := hrel
  obtain _ | k1 := gk
  ·exact absurd HA.1 (by simp [yc0.l0])
  have H := HA.1
  clear HA
  simp only [yc0.l0] at H
  by_cases c13 : J7 < (Yj.length : Int)
  rotate_left
  ·rw [if_neg c13] at H
   have c13b0 : decide (J7 < (Yj.length : Int)) = false := decide_eq_false c13
   clear c13
   simp only [Option.some.injEq, Prod.mk.injEq] at H
   obtain ⟨rfl, rfl, rfl, rfl⟩ := H
   have hnb88 := YG.1
   have hnc88 := Ys.1
   have hnb89 := ji.1
   have hnc89 := jQ.1
   have NE : wr.cell? ⟨JF, 0, none⟩ = some (u197000) := (zf0 Jn.1 0).trans rfl
   have NF := zc0 Jn.1 0
   obtain ⟨bq, br, eo91⟩ := Kd.N_slice J3.1
   subst eo91
   have hnb92 := oe.1
   have hnc92 := qW.1
   have NG : wr.cell? ⟨JP, 0, none⟩ = some (.slice none 0 0) := (zf0 JA.1 0).trans rfl
   have NH := zc0 JA.1 0
   go_wp2
   refine bodyPost_ret (results_ct rfl _ _ JP 26 #[.slice bq J1.length br] (0, 0) _ rfl (by refine blk_put (cs := #[.slice none 0 0]) ?_ 0 _ rfl; exact JA.1) Try.underlying26 rfl (by kernel_rfl)) rfl ?_
   exact ⟨_, rfl, Kd.N_mono (Kd.N_far (p := ⟨JP, 0, none⟩) (Kd.N_mono J3.1 (fun k_ hk => (⟨hk, hk.2.1⟩ : _ ∧ k_ ≠ JP))) (fun _ hk => hk.2) (.slice bq J1.length br)) (fun _ hk => hk.1.1), IsS46.far Jg.1 qW.1 _, zm0 HB.1 bn.1, keep_far HK.1 bm.1 _⟩
  rw [if_pos c13] at H
  have c13b0 : decide (J7 < (Yj.length : Int)) = true := decide_eq_true c13
  clear c13
  have HC14 := hqZ H
  clear H
  go_upto_region 6 with (fail)
  go_cut [43] (fun v43 wc => ∃ (kq : Nat) (Uj : Bool) (Vw : Int) (Vx : Int), v43 = .bool Uj ∧ zg0 (yc0.j1 kq Vl J7 (Yj.length : Int) J7 Uj J6 Vw Vx J1 = some (r1, r2, r3, r4)) ∧ zg0 (kq ≤ k1) ∧ zg0 (Kd.N (Kd.slice 3 (Kd.int .i64)) 27 wc w.heap.size (fun k_ => (w.heap.size ≤ k_) ∧ k_ ≠ JP ∧ k_ ≠ JF ∧ k_ ≠ g) u197000 J1) ∧ zg0 (wc.heap[JP]? = some (.cells #[(.slice none 0 0)] 26 (0, 0))) ∧ zg0 (wc.heap[JF]? = some (.cells #[u197000] 26 (0, 0))) ∧ zg0 (IsS46 w0 wc g J6 Vw Vx) ∧ zg0 (zh0 w wc g none) ∧ zg0 (Below w0.heap.size w0 wc))
  case first =>
   have H := HC14.1
   clear HC14
   replace H := Option.bind_eq_some_iff.mp H
   obtain ⟨XF, A150, H⟩ := H
   replace H : (if (XF.length : Int) > 0 then (if J7 = Vl then (yc0.j1 k1 Vl J7 (Yj.length : Int) J7 false J6 JD JE J1) else ((yd0.f k1 J1 J7).bind fun uj => (if 0 ≤ Vl then (if Vl < (uj.length : Int) then (if (rd uj Vl) < 0 then ((ys0.f J6 JD JE 12).bind fun um => (yc0.j1 k1 Vl J7 (Yj.length : Int) J7 (!um.1) J6 um.2.1 um.2.2 J1)) else (yc0.j1 k1 Vl J7 (Yj.length : Int) J7 false J6 JD JE J1)) else (none)) else (none)))) else (yc0.j1 k1 Vl J7 (Yj.length : Int) J7 false J6 JD JE J1)) = some (r1, r2, r3, r4) := H
   have A15 := hqZ A150
   clear A150
   by_cases c16 : (XF.length : Int) > 0
   rotate_left
   ·rw [if_neg c16] at H
    have c16b0 : decide (0 < (XF.length : Int)) = false := decide_eq_false c16
    have c16b1 : decide (0 < XF.length) = false := decide_eq_false (by omega)
    clear c16
    (skip)
    have H' := hqZ H
    clear H
    have hnb48 := YG.1
    have hnc48 := Ys.1
    have hnb49 := ji.1
    have hnc49 := jQ.1
    have uL : wr.cell? ⟨JF, 0, none⟩ = some (u197000) := (zf0 Jn.1 0).trans rfl
    have uM := zc0 Jn.1 0
    obtain ⟨Zy, Zz, eo51⟩ := Kd.N_slice J3.1
    subst eo51
    go_wp2_with (((with_reducible refine ze0 (f := 71) rfl ?_); refine zM (some 22) Try.func71 #[.agg #[.slice Zy J1.length Zz], .int .i64 J7] ?_; (with_reducible refine (yd0.calls k1 _ _ J1 J7 XF _ ?side1 ?side2 A15.1).mono ?_); (case side1 => exact (Kd.N_reads' J3.1).2.2); (case side2 => exact (Kd.N_reads' J3.1).2.1); rintro e w52 ⟨v201, rfl, ho0, hb⟩; refine ⟨_, rfl, ?_⟩; replace J3 := hqZ (Kd.N_elder' (J3.1) (Kd.R_base ho0) hb); have jY := hqZ (Kd.R_lower (Kd.R_newM (M := fun k_ => (w.heap.size ≤ k_)) ho0 (zj0 (w := w) (g := g) (row := none) (HK.1)) (fun k_ h_ => h_)) (zj0 (w := w) (g := g) (row := none) (HK.1))); replace JA := hqZ (zd0 (g := JP) (o := .cells #[.slice none 0 0] 26 (0, 0)) (JA.1) hb); replace Jn := hqZ (zd0 (g := JF) (o := .cells #[.slice Zy J1.length Zz] 26 (0, 0)) (Jn.1) hb); replace HK := hqZ (zh0.trans (HK.1) (zh0.of_below hb g none) (.inl rfl)); replace HB := hqZ (za0 (HB.1) hb); replace Jg := hqZ (IsS46.below (Jg.1) hb); clear hb ho0; obtain ⟨Jp0, Jp1, eo53⟩ := Kd.R_slice jY.1; subst eo53))
    go_meet
    case rel => exact ⟨_, (false), (JD), (JE), (rfl), H', ⟨by have := V8.1; omega⟩, ⟨Kd.N_mono J3.1 (fun _ hk => ⟨hk.1.1, ⟨hk.1.2.1, ⟨hk.1.2.2.1, hk.1.2.2.2⟩⟩⟩)⟩, ⟨JA.1⟩, ⟨Jn.1⟩, ⟨Jg.1⟩, ⟨HK.1⟩, ⟨HB.1⟩⟩
   rw [if_pos c16] at H
   have c16b0 : decide (0 < (XF.length : Int)) = true := decide_eq_true c16
   have c16b1 : decide (0 < XF.length) = true := decide_eq_true (by omega)
   clear c16
   (skip)
   by_cases c17 : J7 = Vl
   ·rw [if_pos c17] at H
    have c17b0 : (J7 == Vl) = true := beq_iff_eq.mpr c17
    have c17b1 : (J7 != Vl) = false := bne_eq_false_iff_eq.mpr c17
    clear c17
    have H' := hqZ H
    clear H
    have hnb18 := YG.1
    have hnc18 := Ys.1
    have hnb19 := ji.1
    have hnc19 := jQ.1
    have jJ : wr.cell? ⟨JF, 0, none⟩ = some (u197000) := (zf0 Jn.1 0).trans rfl
    have jK := zc0 Jn.1 0
    obtain ⟨qv, qw, eo21⟩ := Kd.N_slice J3.1
    subst eo21
    go_wp2_with (((with_reducible refine ze0 (f := 71) rfl ?_); refine zM (some 22) Try.func71 #[.agg #[.slice qv J1.length qw], .int .i64 J7] ?_; (with_reducible refine (yd0.calls k1 _ _ J1 J7 XF _ ?side1 ?side2 A15.1).mono ?_); (case side1 => exact (Kd.N_reads' J3.1).2.2); (case side2 => exact (Kd.N_reads' J3.1).2.1); rintro e w22 ⟨v201, rfl, ho0, hb⟩; refine ⟨_, rfl, ?_⟩; replace J3 := hqZ (Kd.N_elder' (J3.1) (Kd.R_base ho0) hb); have jY := hqZ (Kd.R_lower (Kd.R_newM (M := fun k_ => (w.heap.size ≤ k_)) ho0 (zj0 (w := w) (g := g) (row := none) (HK.1)) (fun k_ h_ => h_)) (zj0 (w := w) (g := g) (row := none) (HK.1))); replace JA := hqZ (zd0 (g := JP) (o := .cells #[.slice none 0 0] 26 (0, 0)) (JA.1) hb); replace Jn := hqZ (zd0 (g := JF) (o := .cells #[.slice qv J1.length qw] 26 (0, 0)) (Jn.1) hb); replace HK := hqZ (zh0.trans (HK.1) (zh0.of_below hb g none) (.inl rfl)); replace HB := hqZ (za0 (HB.1) hb); replace Jg := hqZ (IsS46.below (Jg.1) hb); clear hb ho0; obtain ⟨DQ, ZA, eo23⟩ := Kd.R_slice jY.1; subst eo23))
    go_meet
    case rel => exact ⟨_, (false), (JD), (JE), (rfl), H', ⟨by have := V8.1; omega⟩, ⟨Kd.N_mono J3.1 (fun _ hk => ⟨hk.1.1, ⟨hk.1.2.1, ⟨hk.1.2.2.1, hk.1.2.2.2⟩⟩⟩)⟩, ⟨JA.1⟩, ⟨Jn.1⟩, ⟨Jg.1⟩, ⟨HK.1⟩, ⟨HB.1⟩⟩
   rw [if_neg c17] at H
   have c17b0 : (J7 == Vl) = false := beq_eq_false_iff_ne.mpr c17
   have c17b1 : (J7 != Vl) = true := bne_iff_ne.mpr c17
   replace H := Option.bind_eq_some_iff.mp H
   obtain ⟨uj, A240, H⟩ := H
   replace H : (if 0 ≤ Vl then (if Vl < (uj.length : Int) then (if (rd uj Vl) < 0 then ((ys0.f J6 JD JE 12).bind fun um => (yc0.j1 k1 Vl J7 (Yj.length : Int) J7 (!um.1) J6 um.2.1 um.2.2 J1)) else (yc0.j1 k1 Vl J7 (Yj.length : Int) J7 false J6 JD JE J1)) else (none)) else (none)) = some (r1, r2, r3, r4) := H
   have A24 := hqZ A240
   clear A240
   by_cases c25 : 0 ≤ Vl
   rotate_left
   ·rw [if_neg c25] at H
    exact absurd H (by simp)
   rw [if_pos c25] at H
   have c25b0 : decide (0 ≤ Vl) = true := decide_eq_true c25
   clear c25
   by_cases c26 : Vl < (uj.length : Int)
   rotate_left
   ·rw [if_neg c26] at H
    exact absurd H (by simp)
   rw [if_pos c26] at H
   have c26b0 : decide (Vl < (uj.length : Int)) = true := decide_eq_true c26
   clear c26
   by_cases c27 : (rd uj Vl) < 0
   rotate_left
   ·rw [if_neg c27] at H
    have c27b0 : decide ((rd uj Vl) < 0) = false := decide_eq_false c27
    clear c27
    have H' := hqZ H
    clear H
    have hnb39 := YG.1
    have hnc39 := Ys.1
    have hnb40 := ji.1
    have hnc40 := jQ.1
    have qX : wr.cell? ⟨JF, 0, none⟩ = some (u197000) := (zf0 Jn.1 0).trans rfl
    have qY := zc0 Jn.1 0
    obtain ⟨dG, dH, eo42⟩ := Kd.N_slice J3.1
    subst eo42
    go_wp2_with (first | ((with_reducible refine ze0 (f := 71) rfl ?_); refine zM (some 22) Try.func71 #[.agg #[.slice dG J1.length dH], .int .i64 J7] ?_; (with_reducible refine (yd0.calls k1 _ _ J1 J7 XF _ ?side1 ?side2 A15.1).mono ?_); (case side1 => exact (Kd.N_reads' J3.1).2.2); (case side2 => exact (Kd.N_reads' J3.1).2.1); rintro e w43 ⟨v201, rfl, ho0, hb⟩; refine ⟨_, rfl, ?_⟩; replace J3 := hqZ (Kd.N_elder' (J3.1) (Kd.R_base ho0) hb); have jY := hqZ (Kd.R_lower (Kd.R_newM (M := fun k_ => (w.heap.size ≤ k_)) ho0 (zj0 (w := w) (g := g) (row := none) (HK.1)) (fun k_ h_ => h_)) (zj0 (w := w) (g := g) (row := none) (HK.1))); replace JA := hqZ (zd0 (g := JP) (o := .cells #[.slice none 0 0] 26 (0, 0)) (JA.1) hb); replace Jn := hqZ (zd0 (g := JF) (o := .cells #[.slice dG J1.length dH] 26 (0, 0)) (Jn.1) hb); replace HK := hqZ (zh0.trans (HK.1) (zh0.of_below hb g none) (.inl rfl)); replace HB := hqZ (za0 (HB.1) hb); replace Jg := hqZ (IsS46.below (Jg.1) hb); clear hb ho0; obtain ⟨Jp2, Jp3, eo44⟩ := Kd.R_slice jY.1; subst eo44; have jg : w43.cell? ⟨JF, 0, none⟩ = some (.slice dG J1.length dH) := (zf0 Jn.1 0).trans rfl; have jh := zc0 Jn.1 0) | (go_at_call 71; (with_reducible refine (yd0.calls k1 _ _ J1 J7 uj _ ?side1 ?side2 A24.1).mono ?_); (case side1 => exact (Kd.N_reads' J3.1).2.2); (case side2 => exact (Kd.N_reads' J3.1).2.1); rintro e w46 ⟨v204, rfl, ho0, hb⟩; replace J3 := hqZ (Kd.N_elder' (J3.1) (Kd.R_base ho0) hb); have oI := hqZ (Kd.R_lower (Kd.R_new' (Kd.R_newM (M := fun k_ => (w.heap.size ≤ k_)) ho0 (zj0 (w := w) (g := g) (row := none) (HK.1)) (fun k_ h_ => h_)) (Kd.R_lt (jY.1))) (zj0 (w := w) (g := g) (row := none) (HK.1))); replace jY := hqZ (Kd.R_elder' (jY.1) (Kd.R_base ho0) hb); replace JA := hqZ (zd0 (g := JP) (o := .cells #[.slice none 0 0] 26 (0, 0)) (JA.1) hb); replace Jn := hqZ (zd0 (g := JF) (o := .cells #[.slice dG J1.length dH] 26 (0, 0)) (Jn.1) hb); replace HK := hqZ (zh0.trans (HK.1) (zh0.of_below hb g none) (.inl rfl)); replace HB := hqZ (za0 (HB.1) hb); replace Jg := hqZ (IsS46.below (Jg.1) hb); clear hb ho0; obtain ⟨DH, DI, eo47⟩ := Kd.R_slice oI.1; subst eo47; have p206 : 0 ≤ (Vl : Int) := oA; have q206 : Vl < (uj.length : Int) := oA; obtain ⟨ad206, e206, hx206_0⟩ := Kd.at_int (Kd.R_reads' oI.1).2.2 Vl p206 q206; cases e206; replace p206 := eq_true p206; replace q206 := eq_true q206))
    go_meet
    case rel => exact ⟨_, (false), (JD), (JE), (rfl), H', ⟨by have := V8.1; omega⟩, ⟨Kd.N_mono J3.1 (fun _ hk => ⟨hk.1.1.1, ⟨hk.1.1.2.1, ⟨hk.1.1.2.2.1, hk.1.1.2.2.2⟩⟩⟩)⟩, ⟨JA.1⟩, ⟨Jn.1⟩, ⟨Jg.1⟩, ⟨HK.1⟩, ⟨HB.1⟩⟩
   rw [if_pos c27] at H
   have c27b0 : decide ((rd uj Vl) < 0) = true := decide_eq_true c27
   clear c27
   replace H := Option.bind_eq_some_iff.mp H
   obtain ⟨⟨DR, DS, DT⟩, A280, H⟩ := H
   replace H : (yc0.j1 k1 Vl J7 (Yj.length : Int) J7 (!DR) J6 DS DT J1) = some (r1, r2, r3, r4) := H
   have A28 := hqZ A280
   clear A280
   have H' := hqZ H
   clear H
   have hnb29 := YG.1
   have hnc29 := Ys.1
   have hnb30 := ji.1
   have hnc30 := jQ.1
   have qL : wr.cell? ⟨JF, 0, none⟩ = some (u197000) := (zf0 Jn.1 0).trans rfl
   have qM := zc0 Jn.1 0
   obtain ⟨o6, XE, eo32⟩ := Kd.N_slice J3.1
   subst eo32
   go_wp2_with (first | ((with_reducible refine ze0 (f := 71) rfl ?_); refine zM (some 22) Try.func71 #[.agg #[.slice o6 J1.length XE], .int .i64 J7] ?_; (with_reducible refine (yd0.calls k1 _ _ J1 J7 XF _ ?side1 ?side2 A15.1).mono ?_); (case side1 => exact (Kd.N_reads' J3.1).2.2); (case side2 => exact (Kd.N_reads' J3.1).2.1); rintro e w33 ⟨v201, rfl, ho0, hb⟩; refine ⟨_, rfl, ?_⟩; replace J3 := hqZ (Kd.N_elder' (J3.1) (Kd.R_base ho0) hb); have jY := hqZ (Kd.R_lower (Kd.R_newM (M := fun k_ => (w.heap.size ≤ k_)) ho0 (zj0 (w := w) (g := g) (row := none) (HK.1)) (fun k_ h_ => h_)) (zj0 (w := w) (g := g) (row := none) (HK.1))); replace JA := hqZ (zd0 (g := JP) (o := .cells #[.slice none 0 0] 26 (0, 0)) (JA.1) hb); replace Jn := hqZ (zd0 (g := JF) (o := .cells #[.slice o6 J1.length XE] 26 (0, 0)) (Jn.1) hb); replace HK := hqZ (zh0.trans (HK.1) (zh0.of_below hb g none) (.inl rfl)); replace HB := hqZ (za0 (HB.1) hb); replace Jg := hqZ (IsS46.below (Jg.1) hb); clear hb ho0; obtain ⟨bs, UC, eo34⟩ := Kd.R_slice jY.1; subst eo34; have qZ : w33.cell? ⟨JF, 0, none⟩ = some (.slice o6 J1.length XE) := (zf0 Jn.1 0).trans rfl; have d2 := zc0 Jn.1 0) | (go_at_call 71; (with_reducible refine (yd0.calls k1 _ _ J1 J7 uj _ ?side1 ?side2 A24.1).mono ?_); (case side1 => exact (Kd.N_reads' J3.1).2.2); (case side2 => exact (Kd.N_reads' J3.1).2.1); rintro e w36 ⟨v204, rfl, ho0, hb⟩; replace J3 := hqZ (Kd.N_elder' (J3.1) (Kd.R_base ho0) hb); have oI := hqZ (Kd.R_lower (Kd.R_new' (Kd.R_newM (M := fun k_ => (w.heap.size ≤ k_)) ho0 (zj0 (w := w) (g := g) (row := none) (HK.1)) (fun k_ h_ => h_)) (Kd.R_lt (jY.1))) (zj0 (w := w) (g := g) (row := none) (HK.1))); replace jY := hqZ (Kd.R_elder' (jY.1) (Kd.R_base ho0) hb); replace JA := hqZ (zd0 (g := JP) (o := .cells #[.slice none 0 0] 26 (0, 0)) (JA.1) hb); replace Jn := hqZ (zd0 (g := JF) (o := .cells #[.slice o6 J1.length XE] 26 (0, 0)) (Jn.1) hb); replace HK := hqZ (zh0.trans (HK.1) (zh0.of_below hb g none) (.inl rfl)); replace HB := hqZ (za0 (HB.1) hb); replace Jg := hqZ (IsS46.below (Jg.1) hb); clear hb ho0; obtain ⟨Jp4, Je3, eo37⟩ := Kd.R_slice oI.1; subst eo37; have p206 : 0 ≤ (Vl : Int) := oA; have q206 : Vl < (uj.length : Int) := oA; obtain ⟨ad206, e206, hx206_0⟩ := Kd.at_int (Kd.R_reads' oI.1).2.2 Vl p206 q206; cases e206; replace p206 := eq_true p206; replace q206 := eq_true q206) | (go_at_call 34; (with_reducible refine (ys0.calls g J6 JD JE 12 DR DS DT w0 _ ?side1 ?side2 A28.1).mono ?_); (case side1 => exact Jg.1); (case side2 => exact HB.1); rintro e w38 ⟨rfl, hi, hb, hk⟩; replace J3 := hqZ (Kd.N_mono (Kd.N_keep (Kd.N_mono (ok := fun k_ => (((((w.heap.size ≤ k_)) ∧ (k_ ≠ JP ∧ (k_ ≠ JF ∧ k_ ≠ g))) ∧ some k_ ≠ (.slice bs XF.length UC : Value).ownBlock) ∧ some k_ ≠ (.slice (some ad206) uj.length Je3 : Value).ownBlock)) (J3.1) (fun k_ hk_ => (⟨hk_, hk_.1.1.2.2.2⟩ : _ ∧ k_ ≠ g))) hk (fun _ h => h.2)) (fun _ h => h.1)); replace JA := hqZ (zh0.blk hk (g' := JP) (o := .cells #[.slice none 0 0] 26 (0, 0)) (JA.1) oe.1 (by simp)); replace Jn := hqZ (zh0.blk hk (g' := JF) (o := .cells #[.slice o6 J1.length XE] 26 (0, 0)) (Jn.1) ji.1 (by simp)); replace jY := hqZ (Kd.R_mono (Kd.R_keep (IsS46.apart (show IsS46 w0 _ g J6 JD JE from Jg.1) (jY.1) (by decide)) hk (fun _ h => h.2)) (fun _ h => h.1)); replace oI := hqZ (Kd.R_mono (Kd.R_keep (IsS46.apart (show IsS46 w0 _ g J6 JD JE from Jg.1) (oI.1) (by decide)) hk (fun _ h => h.2)) (fun _ h => h.1)); replace HK := hqZ (zh0.trans (HK.1) hk (.inl rfl)); replace HB := hqZ (hb); replace Jg := hqZ (hi); clear hb hk hi))
   go_meet
   case rel => exact ⟨_, (!DR), (DS), (DT), (rfl), H', ⟨by have := V8.1; omega⟩, ⟨Kd.N_mono J3.1 (fun _ hk => ⟨hk.1.1.1, ⟨hk.1.1.2.1, ⟨hk.1.1.2.2.1, hk.1.1.2.2.2⟩⟩⟩)⟩, ⟨JA.1⟩, ⟨Jn.1⟩, ⟨Jg.1⟩, ⟨HK.1⟩, ⟨HB.1⟩⟩
  case rest =>
   clear HC14
   try clear c1
   try clear c2
   try clear p2
   try clear q2
   try clear hx2
   try clear c3
   try clear c4
   try clear c5
   try clear c7
   try clear c8
   try clear c9
   try clear c13
   try clear c13b0
   try clear c16
   try clear c16b0
   try clear c16b1
   try clear c17
   try clear c17b0
   try clear c17b1
   try clear c18
   try clear c19
   try clear p20
   try clear q20
   try clear hx20
   try clear c25
   try clear c25b0
   try clear c26
   try clear c26b0
   try clear c27
   try clear c27b0
   try clear c29
   try clear c30
   try clear c39
   try clear c40
   try clear c48
   try clear c49
   try clear Y0
   try clear jj
   try clear jJ
   try clear qL
   try clear qZ
   try clear qX
   try clear jg
   try clear uL
   try clear Y1
   try clear jk
   try clear jK
   try clear qM
   try clear d2
   try clear qY
   try clear jh
   try clear uM
   try clear hx206_0
   try clear p2
   try clear p206
   try clear q206
   obtain ⟨kq, Uj, Vw, Vx, rfl, HA, Uk, J3, JA, Jn, Jg, HK, HB⟩ := hcut
   cases kq with
   | zero => exact absurd HA.1 (by simp [yc0.j1])
   | succ kj13 =>
    have H := HA.1
    clear HA
    simp only [yc0.j1] at H
    by_cases c54 : Uj = true
    rotate_left
    ·replace c54 := Bool.eq_false_iff.mpr c54
     subst c54
     have H1 : (yc0.l0 kj13 Vl (Yj.length : Int) (wrap64 (J7 + 1)) J6 Vw Vx J1) = some (r1, r2, r3, r4) := by rw [if_neg (show ¬ (false = true) by decide)] at H; exact H
     clear H
     have H := H1
     clear H1
     have H' := hqZ H
     clear H
     go_wp2
     go_roundg kj13
     case measure => have := V8.1; have := Uk.1; omega
     case rel => exact ⟨(wrap64 (J7 + 1)), (Vw), (Vx), (J1), (u197000), (rfl), H', ⟨by have := V8.1; have := Uk.1; omega⟩, ⟨J3.1⟩, ⟨JA.1⟩, ⟨Jn.1⟩, ⟨Jg.1⟩, ⟨HK.1⟩, ⟨HB.1⟩⟩
    subst c54
    have H1 : (if 0 ≤ J7 then (if J7 < (J1.length : Int) then (if ((rd_L2 J1 J7).length : Int) < 5 then ((yr1.f (rd_L2 J1 J7)).bind fun un => ((some (([Vl] : List Int) : List Int)).bind fun jP => (if un.length + jP.length < 17592186044416 then (yc0.l0 kj13 Vl (Yj.length : Int) (wrap64 (J7 + 1)) J6 Vw Vx (J1.set (J7 : Int).toNat (un ++ jP))) else (none)))) else ((some (([Vl] : List Int) : List Int)).bind fun XG => (if 1 ≤ ((rd_L2 J1 J7).length : Int) then ((some ((rd_L2 J1 J7).drop 1 : List Int)).bind fun vE => (if XG.length + vE.length < 17592186044416 then (yc0.l0 kj13 Vl (Yj.length : Int) (wrap64 (J7 + 1)) J6 Vw Vx (J1.set (J7 : Int).toNat (XG ++ vE))) else (none))) else (none)))) else (none)) else (none)) = some (r1, r2, r3, r4) := by rw [if_pos rfl] at H; exact H
    clear H
    have H := H1
    clear H1
    by_cases c55 : 0 ≤ J7
    rotate_left
    ·rw [if_neg c55] at H
     exact absurd H (by simp)
    rw [if_pos c55] at H
    have c55b0 : decide (0 ≤ J7) = true := decide_eq_true c55
    clear c55
    by_cases c56 : J7 < (J1.length : Int)
    rotate_left
    ·rw [if_neg c56] at H
     exact absurd H (by simp)
    rw [if_pos c56] at H
    have c56b0 : decide (J7 < (J1.length : Int)) = true := decide_eq_true c56
    clear c56
    by_cases c57 : ((rd_L2 J1 J7).length : Int) < 5
    rotate_left
    ·rw [if_neg c57] at H
     have c57b0 : decide (((rd_L2 J1 J7).length : Int) < 5) = false := decide_eq_false c57
     have c57b1 : decide ((rd_L2 J1 J7).length < 5) = false := decide_eq_false (by omega)
     clear c57
     obtain ⟨XG, hy222⟩ : ∃ y_ : List Int, y_ = (([Vl] : List Int)) := ⟨_, rfl⟩
     replace H : (if 1 ≤ ((rd_L2 J1 J7).length : Int) then ((some ((rd_L2 J1 J7).drop 1 : List Int)).bind fun vE => (if XG.length + vE.length < 17592186044416 then (yc0.l0 kj13 Vl (Yj.length : Int) (wrap64 (J7 + 1)) J6 Vw Vx (J1.set (J7 : Int).toNat (XG ++ vE))) else (none))) else (none)) = some (r1, r2, r3, r4) := by (have H2_ := (Option.bind_some _ _).symm.trans H; rw [hy222]; with_reducible exact H2_)
     have Ny222 := hqZ hy222
     clear hy222
     by_cases c74 : 1 ≤ ((rd_L2 J1 J7).length : Int)
     rotate_left
     ·rw [if_neg c74] at H
      exact absurd H (by simp)
     rw [if_pos c74] at H
     have c74b0 := eq_true c74
     have c74b1 : decide (1 ≤ ((rd_L2 J1 J7).length : Int)) = true := decide_eq_true c74
     clear c74
     obtain ⟨vE, hy226⟩ : ∃ y_ : List Int, y_ = ((rd_L2 J1 J7).drop 1) := ⟨_, rfl⟩
     replace H : (if XG.length + vE.length < 17592186044416 then (yc0.l0 kj13 Vl (Yj.length : Int) (wrap64 (J7 + 1)) J6 Vw Vx (J1.set (J7 : Int).toNat (XG ++ vE))) else (none)) = some (r1, r2, r3, r4) := by (have H2_ := (Option.bind_some _ _).symm.trans H; rw [hy226]; with_reducible exact H2_)
     have Ny226 := hqZ hy226
     clear hy226
     by_cases c75 : XG.length + vE.length < 17592186044416
     rotate_left
     ·rw [if_neg c75] at H
      exact absurd H (by simp)
     rw [if_pos c75] at H
     have LMc75 := hqZ c75
     clear c75
     obtain ⟨Ee, hy231⟩ : ∃ y_ : List Int, y_ = (XG ++ vE) := ⟨_, rfl⟩
     replace H : (yc0.l0 kj13 Vl (Yj.length : Int) (wrap64 (J7 + 1)) J6 Vw Vx (J1.set (J7 : Int).toNat Ee)) = some (r1, r2, r3, r4) := by (rw [hy231]; with_reducible exact H)
     have Ny231 := hqZ hy231
     clear hy231
     obtain ⟨bt, hy234⟩ : ∃ y_ : List (List Int), y_ = (J1.set (J7 : Int).toNat Ee) := ⟨_, rfl⟩
     replace H : (yc0.l0 kj13 Vl (Yj.length : Int) (wrap64 (J7 + 1)) J6 Vw Vx bt) = some (r1, r2, r3, r4) := by (rw [hy234]; with_reducible exact H)
     have Ny234 := hqZ hy234
     clear hy234
     have H' := hqZ H
     clear H
     have hnb77 := YG.1
     have hnc77 := Ys.1
     have hnb78 := ji.1
     have hnc78 := jQ.1
     have Xh : wc.cell? ⟨JF, 0, none⟩ = some (u197000) := (zf0 Jn.1 0).trans rfl
     have Xi := zc0 Jn.1 0
     obtain ⟨DL, o7, eo80⟩ := Kd.N_slice J3.1
     subst eo80
     have p210 : 0 ≤ (J7 : Int) := oA
     have q210 : J7 < (J1.length : Int) := oA
     obtain ⟨ad210, qx, qy, e210, hx210_0, hl210_0, hi210_0⟩ := at_L2 (Kd.N_reads' J3.1).2.2 J7 p210 q210
     cases e210
     obtain ⟨ce210, hce210, hMe210, hcc210⟩ := Kd.N_get J3.1 [] J7 p210 (by exact q210)
     obtain ⟨ua210_0, uc210_0, rfl, ul210_0, ge210_0⟩ := Kd.FK_slice_open hMe210
     have hv210_0 := hcc210 0 _ rfl
     rw [Nat.add_zero, show ((Kd.slice 3 (Kd.int .i64))).sz = 1 from rfl, Nat.mul_one] at hv210_0
     replace hv210_0 := Option.some.inj (hv210_0.symm.trans hx210_0)
     injection hv210_0 with hva_ hvn_ hvc_
     rw [hva_] at ge210_0
     rw [hvc_] at ul210_0
     have HL210_0 := hqZ (show Kd.V (Kd.int .i64) 3 _ w.heap.size _ _ (rd_L2 J1 J7) from Kd.V_mk ul210_0 ge210_0)
     clear hva_ hvn_ hvc_ ge210_0 ul210_0 hcc210 hce210
     have Vm := hqZ hi210_0
     have HC210_0 := hqZ hl210_0
     clear hi210_0 hl210_0
     replace p210 := eq_true p210
     replace q210 := eq_true q210
     try go_wp2
     have n0_ := hqZ (Kd.N_drew J3.1)
     have n1_ := hqZ (Kd.V_drew HL210_0.1)
     have n2_ := hqZ (blk_drew JA.1)
     have n3_ := hqZ (blk_drew Jn.1)
     have n4_ := hqZ (Kd.C_drew Vm.1)
     have n5_ := hqZ (IsS46.drew Jg.1)
     have n6_ := hqZ (keep_drew HK.1)
     have n7_ := hqZ (below_drew1 HB.1)
     clear J3 HL210_0 JA Jn Vm Jg HK HB
     have J3 := n0_
     have HL210_0 := n1_
     have JA := n2_
     have Jn := n3_
     have Vm := n4_
     have Jg := n5_
     have HK := n6_
     have HB := n7_
     clear n0_ n1_ n2_ n3_ n4_ n5_ n6_ n7_
     have p225 : 0 ≤ (J7 : Int) := oA
     have q225 : J7 < (J1.length : Int) := oA
     obtain ⟨ad225, oJ, XH, e225, hx225_0, hl225_0, hi225_0⟩ := at_L2 (Kd.N_reads' J3.1).2.2 J7 p225 q225
     obtain rfl : ad210 = ad225 := (by injection e225)
     obtain ⟨ce225, hce225, hMe225, hcc225⟩ := Kd.N_get J3.1 [] J7 p225 (by exact q225)
     obtain ⟨ua225_0, uc225_0, rfl, ul225_0, ge225_0⟩ := Kd.FK_slice_open hMe225
     have hv225_0 := hcc225 0 _ rfl
     rw [Nat.add_zero, show ((Kd.slice 3 (Kd.int .i64))).sz = 1 from rfl, Nat.mul_one] at hv225_0
     replace hv225_0 := Option.some.inj (hv225_0.symm.trans hx225_0)
     injection hv225_0 with hva_ hvn_ hvc_
     rw [hva_] at ge225_0
     rw [hvc_] at ul225_0
     have HL225_0 := hqZ (show Kd.V (Kd.int .i64) 3 _ w.heap.size _ _ (rd_L2 J1 J7) from Kd.V_mk ul225_0 ge225_0)
     clear hva_ hvn_ hvc_ ge225_0 ul225_0 hcc225 hce225
     have oh := hqZ hi225_0
     have HC225_0 := hqZ hl225_0
     clear hi225_0 hl225_0
     replace p225 := eq_true p225
     replace q225 := eq_true q225
     have q82 : (1 : Int) ≤ (((rd_L2 J1 J7).length : Int) : Int) := oA
     obtain ⟨i082, hi082, _, hsz82, _⟩ := info_parts info3
     have hroom82 : (rd_L2 J1 J7).length ≤ XH := HC225_0.1
     have hC82 : Kd.F (Kd.int .i64) _ _ oJ (rd_L2 J1 J7).length (rd_L2 J1 J7) := (Kd.V_at (base := w.heap.size) HL225_0.1).2.2
     have hcut82 := cut_from (P := Try.prog) 27 3 .i64 Try.underlying27 hi082 1 hsz82 oJ (rd_L2 J1 J7).length XH 1 (by omega) q82
     have hr82 := Kd.F_cut (m := (1 : Int).toNat) (c := XH) hC82 (by omega) hroom82
     obtain ⟨A82, hA82⟩ : ∃ A1, A1 = (if XH = (1 : Int).toNat then oJ else (oJ : Option Addr).map (·.add ((1 : Int).toNat * 1))) := ⟨_, rfl⟩
     obtain ⟨c82, hc82⟩ : ∃ c1, c1 = XH - (1 : Int).toNat := ⟨_, rfl⟩
     have hy82 : vE.length = (rd_L2 J1 J7).length - (1 : Int).toNat := (by rw [Ny226.1, List.length_drop] <;> omega)
     rw [show (rd_L2 J1 J7).drop (1 : Int).toNat = vE from Ny226.1.symm] at hr82
     replace hr82 : Kd.F (Kd.int .i64) _ _ A82 vE.length vE := (by rw [hA82]; exact hr82)
     rw [← hy82, ← hA82, ← hc82] at hcut82
     have XS := hqZ (show Kd.V (Kd.int .i64) 3 _ w.heap.size _ (.slice A82 vE.length c82) vE from Kd.V_mk (by rw [hy82, hc82]; exact Nat.sub_le_sub_right hroom82 _) hr82)
     have HC230 := hqZ (show vE.length ≤ c82 from by rw [hy82, hc82]; exact Nat.sub_le_sub_right hroom82 _)
     clear hr82 hC82 hroom82 hi082 hsz82 hc82
     have KY82 := hqZ hy82
     have KA82 := hqZ hA82
     clear hy82 hA82
     replace q82 := eq_true q82
     refine start_ (n := 14) (S := fun w' => w'.cell? ⟨JF, 0, none⟩ = some (.slice (some ad210) J1.length o7) ∧ w'.cell? (ad210.add (J7).toNat) = some (.slice oJ (rd_L2 J1 J7).length XH)) (ds := [13]) #[false, false, false, false, false, false, false, false, false, false, false, false, false, false] (by kernel_rfl) rfl rfl ⟨(zf0 Jn.1 0).trans rfl, hx225_0⟩ (fun hHeld => ?_); refine with_tabW yc0.tab9 yc0.bits9 (fun HT_ HW_ => ?_)
     generalize wc.drew = w81 at J3 HL210_0 JA Jn Vm Jg HK HB HL225_0 XS oh hx225_0 hHeld ⊢
     refine pure_ (i := 0) (N := some 64) (v := ?_) (a' := ?_) (bf 14 1) rfl rfl (zt0 HT_.1 (by kernel_rfl)) (fun _ _ _ h => h) (Or.inl ⟨by rfl, ?_⟩) ?_ ?_
     rotate_left
     ·intro w'; go_simp; with_reducible rfl
     rotate_left
     ·simp only [Act.put, zA, zB, zC, i64_w, i32_w]; rfl
     refine pure_ (i := 2) (N := some 66) (v := ?_) (a' := ?_) (bf 14 5) rfl rfl (zt0 HT_.1 (by kernel_rfl)) (fun _ _ _ h => h) (Or.inl ⟨by rfl, ?_⟩) ?_ ?_
     rotate_left
     ·intro w'; go_simp; with_reducible rfl
     rotate_left
     ·simp only [Act.put, zA, zB, zC, i64_w, i32_w]; rfl
     refine pure_ (i := 3) (N := some 67) (v := ?_) (a' := ?_) (bf 14 13) rfl rfl (zt0 HT_.1 (by kernel_rfl)) (fun _ _ _ h => h) (Or.inl ⟨by rfl, ?_⟩) ?_ ?_
     rotate_left
     ·intro w'; go_simp; with_reducible rfl
     rotate_left
     ·simp only [Act.put, zA, zB, zC, i64_w, i32_w]; rfl
     refine pure_ (i := 5) (N := some 69) (v := ?_) (a' := ?_) (bf 14 45) rfl rfl (zt0 HT_.1 (by kernel_rfl)) (fun _ _ _ h => h) (Or.inl ⟨by rfl, ?_⟩) ?_ ?_
     rotate_left
     ·intro w'; go_simp; with_reducible rfl
     rotate_left
     ·simp only [Act.put, zA, zB, zC, i64_w, i32_w]; rfl
     refine pure_ (i := 7) (N := some 71) (v := ?_) (a' := ?_) (bf 14 173) rfl rfl (zt0 HT_.1 (by kernel_rfl)) (fun _ _ _ h => h) (Or.inl ⟨by rfl, ?_⟩) ?_ ?_
     rotate_left
     ·intro w'; go_simp; with_reducible rfl
     rotate_left
     ·simp only [Act.put, zA, zB, zC, i64_w, i32_w]; rfl
     refine take_ (i := 1) (N := some 65) (v := ?_) (a' := ?_) (bf 14 175) rfl rfl (take_ofW HT_.1 HW_.1 (by kernel_rfl)) (fun _ _ _ h => h) (Or.inl ⟨by rfl, ?_⟩) hHeld ?_ ?_
     rotate_left
     ·rintro w' ⟨s0, s1⟩; go_simp; with_reducible rfl
     rotate_left
     ·simp only [Act.put, zA, zB, zC, i64_w, i32_w]; rfl
     refine take_ (i := 6) (N := some 70) (v := ?_) (a' := ?_) (bf 14 239) rfl rfl (take_ofW HT_.1 HW_.1 (by kernel_rfl)) (fun _ _ _ h => h) (Or.inl ⟨by rfl, ?_⟩) hHeld ?_ ?_
     rotate_left
     ·rintro w' ⟨s0, s1⟩; go_simp; with_reducible rfl
     rotate_left
     ·simp only [Act.put, zA, zB, zC, i64_w, i32_w]; rfl
     refine pure_ (i := 8) (N := some 72) (v := ?_) (a' := ?_) (bf 14 495) rfl rfl (zt0 HT_.1 (by kernel_rfl)) (fun _ _ _ h => h) (Or.inl ⟨by rfl, ?_⟩) ?_ ?_
     rotate_left
     ·intro w'; go_simp; with_reducible rfl
     rotate_left
     ·simp only [Act.put, zA, zB, zC, i64_w, i32_w]; rfl
     refine take_ (i := 9) (N := some 73) (v := ?_) (a' := ?_) (bf 14 1007) rfl rfl (take_ofW HT_.1 HW_.1 (by kernel_rfl)) (fun _ _ _ h => h) (Or.inl ⟨by rfl, ?_⟩) hHeld ?_ ?_
     rotate_left
     ·rintro w' ⟨s0, s1⟩; go_simp; with_reducible rfl
     rotate_left
     ·simp only [Act.put, zA, zB, zC, i64_w, i32_w]; rfl
     refine pure_ (i := 10) (N := some 74) (v := ?_) (a' := ?_) (bf 14 2031) rfl rfl (zt0 HT_.1 (by kernel_rfl)) (fun _ _ _ h => h) (Or.inl ⟨by rfl, ?_⟩) ?_ ?_
     rotate_left
     ·intro w'; go_simp; with_reducible rfl
     rotate_left
     ·simp only [Act.put, zA, zB, zC, i64_w, i32_w]; rfl
     refine one_ (i := 4) (N := some 68) (bf 14 2047) rfl rfl (one_of HT_.1 (by kernel_rfl)) (by decide) (fun K hK => ?_)
     refine Kd.R_lit_step (Kd.int .i64) _ 3 ?hg (N := 68) ?hd (xs := ([Vl] : List Int)) (inner := [.int .i64 Vl]) (ok := fun _ => True) (okp := fun _ => True) ?hr ?hp (fun _ hk => hk) trivial (Below.refl _ _) (Nat.le_refl _) (by simp) ?_; (case hd | hg => rfl); (case hr => go_simp); (case hp => exact (Reps.one (show Kd.M (Kd.int .i64) _ _ _ Vl [.int .i64 Vl] from rfl) (Reps.none _ _)))
     intro v223 w83 ho84 hb hg_ hnew_
     have HS1_ := (hb.cell (World.block_lt_of_cell? _ _ (hHeld.2))).trans (hHeld.2)
     clear hg_ hnew_
     (rw [← Ny222.1] at ho84)
     have n0_ := hqZ (Kd.N_elder' (J3.1) (Kd.R_base ho84) hb)
     have n1_ := hqZ (Kd.V_elder' (HL210_0.1) (Kd.R_base ho84) hb)
     have n2_ := hqZ (Kd.V_elder' (HL225_0.1) (Kd.R_base ho84) hb)
     have n3_ := hqZ (Kd.V_elder' (XS.1) (Kd.R_base ho84) hb)
     have n4_ := hqZ (Kd.R_lower (Kd.R_newM (M := fun k_ => (w.heap.size ≤ k_)) ho84 (zj0 (w := w) (g := g) (row := none) (HK.1)) (fun k_ h_ => h_)) (zj0 (w := w) (g := g) (row := none) (HK.1)))
     have n5_ := hqZ (zd0 (g := JP) (o := .cells #[.slice none 0 0] 26 (0, 0)) (JA.1) hb)
     have n6_ := hqZ (zd0 (g := JF) (o := .cells #[.slice (some ad210) J1.length o7] 26 (0, 0)) (Jn.1) hb)
     have n7_ := hqZ (IsS46.below (Jg.1) hb)
     have n8_ := hqZ (Kd.C_below (by exact Vm.1) hb)
     have n9_ := hqZ (Kd.C_below (by exact oh.1) hb)
     have n10_ := hqZ (zh0.trans (HK.1) (zh0.of_below hb g none) (.inl rfl))
     have n11_ := hqZ (za0 (HB.1) hb)
     clear J3 HL210_0 HL225_0 XS JA Jn Jg Vm oh HK HB
     have J3 := n0_
     have HL210_0 := n1_
     have HL225_0 := n2_
     have XS := n3_
     have oK := n4_
     have JA := n5_
     have Jn := n6_
     have Jg := n7_
     have Vm := n8_
     have oh := n9_
     have HK := n10_
     have HB := n11_
     clear n0_ n1_ n2_ n3_ n4_ n5_ n6_ n7_ n8_ n9_ n10_ n11_ hb ho84
     refine hK.out _ _ ⟨(zf0 Jn.1 0).trans rfl, HS1_⟩ (fun hHeld => ?_)
     clear hK K
     refine norm_ (a' := ?_) ?_ ?_
     rotate_left
     ·show Act.put _ (some 68) _ = _; simp only [Act.put, zA, zB, zC, i64_w, i32_w]; rfl
     refine one_ (i := 11) (N := some 75) (bf 14 4095) rfl rfl (one_of HT_.1 (by kernel_rfl)) (by decide) (fun K hK => ?_)
     refine Kd.R_append_rows_step (Kd.int .i64) w.heap.size (by rfl) (.tmp 68) (.tmp 74) 27 3 (.int .i64 0) 8 rfl Try.underlying27 info3 rfl (by decide) (by omega) v223 XG vE _ _ _ (fun k_ => (w.heap.size ≤ k_)) (fun _ => False) rfl rfl ?aO ?aR (fun _ _ h => h) (fun _ h => h.elim) ?aF (Below.refl _ _) ?aS ?aL ?_
     (case aR => exact (Kd.V_reads' XS.1).2.2)
     (case aF => exact (fun k_ hk => (Nat.le_trans (zj0 (w := w) (g := g) (row := none) (HK.1)) hk)))
     (case aO => exact (Kd.R_mono oK.1 (fun _ hk => hk.1)))
     (case aS => exact (zj0 (w := w) (g := g) (row := none) (HK.1)))
     (case aL => have := LMc75.1; omega)
     intro v232 w85 ho hb hg hat
     have HS1_ := World.grownBy.cell hg (hHeld.2) (by (rw [add_block]; exact Kd.R_ne oK.1 (Kd.N_typed J3.1 _ rfl).choose_spec (by decide)))
     rw [← Ny231.1] at ho
     have n0_ := hqZ (Kd.N_afterv (ok := (fun k_ => (w.heap.size ≤ k_) ∧ k_ ≠ JP ∧ k_ ≠ JF ∧ k_ ≠ g)) (J3.1) hg hat)
     have n1_ := hqZ (zl0 (g := JP) (o := .cells #[.slice none 0 0] 26 (0, 0)) (JA.1) hg (Kd.R_ne oK.1 JA.1 (by decide)))
     have n2_ := hqZ (zl0 (g := JF) (o := .cells #[.slice (some ad210) J1.length o7] 26 (0, 0)) (Jn.1) hg (Kd.R_ne oK.1 Jn.1 (by decide)))
     have n3_ := hqZ (IsS46.grown (Jg.1) hg (IsS46.own_ne Jg.1 oK.1 (by decide)))
     have n4_ := hqZ (Kd.V_afterv (ok := (fun k_ => (w.heap.size ≤ k_) ∧ some k_ ≠ (.slice (some ad210) J1.length o7 : Value).ownBlock ∧ k_ ≠ JP ∧ k_ ≠ JF ∧ k_ ≠ g)) (Kd.V_mono HL210_0.1 (fun _ hk => ⟨⟨hk.1.1.1, ⟨hk.1.2, ⟨hk.1.1.2.1, ⟨hk.1.1.2.2.1, hk.1.1.2.2.2⟩⟩⟩⟩, hk.2⟩)) hg hat)
     have n5_ := hqZ (Kd.V_afterv (ok := (fun k_ => (w.heap.size ≤ k_) ∧ some k_ ≠ (.slice (some ad210) J1.length o7 : Value).ownBlock ∧ k_ ≠ JP ∧ k_ ≠ JF ∧ k_ ≠ g)) (Kd.V_mono HL225_0.1 (fun _ hk => ⟨⟨hk.1.1.1, ⟨hk.1.2, ⟨hk.1.1.2.1, ⟨hk.1.1.2.2.1, hk.1.1.2.2.2⟩⟩⟩⟩, hk.2⟩)) hg hat)
     have n6_ := hqZ (Kd.V_afterv (ok := (fun k_ => (w.heap.size ≤ k_) ∧ some k_ ≠ (.slice (some ad210) J1.length o7 : Value).ownBlock ∧ k_ ≠ JP ∧ k_ ≠ JF ∧ k_ ≠ g)) (Kd.V_mono XS.1 (fun _ hk => ⟨⟨hk.1.1.1, ⟨hk.1.2, ⟨hk.1.1.2.1, ⟨hk.1.1.2.2.1, hk.1.1.2.2.2⟩⟩⟩⟩, hk.2⟩)) hg hat)
     have n7_ := hqZ (below_weaken (HB.1) HL.1 hb)
     have n8_ := hqZ (zh0.trans (HK.1) (zh0.of_grown hg g) (Kd.R_base2 oK.1))
     have n9_ := hqZ (ho)
     clear J3 JA Jn Jg HL210_0 HL225_0 XS HB HK oK
     have J3 := n0_
     have JA := n1_
     have Jn := n2_
     have Jg := n3_
     have HL210_0 := n4_
     have HL225_0 := n5_
     have XS := n6_
     have HB := n7_
     have HK := n8_
     have Ef := n9_
     clear n0_ n1_ n2_ n3_ n4_ n5_ n6_ n7_ n8_ n9_ ho hb hg hat
     have p76 : 0 ≤ (J7 : Int) := oA
     have q76 : (J7 : Int) < ((J1.length : Int) : Int) := oA
     obtain ⟨dI, Jp5, eo76, bu, gl76, cl76, HG76⟩ := Kd.N_form J3.1 (by omega)
     (cases eo76)
     have GB76 := hqZ bu
     have GG76 := hqZ HG76
     clear bu gl76 HG76
     (simp only [add_plain] at hx210_0)
     (simp only [add_plain] at hx225_0)
     obtain ⟨ce76, hcl76, hM76, hcc76, hfr76⟩ := Kd.N_elem J3.1 [] (J7 : Int) p76 q76
     obtain ⟨ua76_0, uc76_0, rfl, ul76_0, ge76_0⟩ := Kd.FK_slice_open hM76
     have hx76_0 := hcc76 0 _ rfl
     have hf76_0 := hfr76 0
     (try simp only [show ((Kd.slice 3 (Kd.int .i64))).sz = 1 from rfl, Nat.mul_one, Nat.add_zero] at hx76_0)
     (try simp only [show ((Kd.slice 3 (Kd.int .i64))).sz = 1 from rfl, Nat.mul_one, Nat.add_zero] at hf76_0)
     (try clear hcl76); (try clear hcc76); (try clear hfr76); (try clear hM76)
     replace p76 := eq_true p76
     replace q76 := eq_true q76
     obtain ⟨bv, bw, eo86⟩ := Kd.R_slice Ef.1
     (subst eo86)
     have HN0_go76 := hqZ (show g ≠ dI from by have h_ := IsS46.own_neN Jg.1 J3.1 (by decide); intro e_; exact h_ (by rw [e_]; rfl))
     have HX87 := hqZ (show Kd.N (Kd.slice 3 (Kd.int .i64)) 27 _ w.heap.size (fun k_ => (w.heap.size ≤ k_) ∧ some k_ ≠ (.slice bv Ee.length bw : Value).ownBlock ∧ k_ ≠ JP ∧ k_ ≠ JF ∧ k_ ≠ g) (.slice (some ⟨dI, 0, none⟩) J1.length o7) J1 from (Kd.N_mono (J3.1) (fun k_ hk => ⟨hk.1.1, ⟨hk.2, ⟨hk.1.2.1, ⟨hk.1.2.2.1, hk.1.2.2.2⟩⟩⟩⟩)))
     replace HX87 := hqZ (show Kd.N (Kd.slice 3 (Kd.int .i64)) 27 _ w.heap.size (fun k_ => (w.heap.size ≤ k_) ∧ k_ ≠ JP ∧ k_ ≠ JF ∧ k_ ≠ g) (.slice (some ⟨dI, 0, none⟩) J1.length o7) J1 from Kd.N_mono HX87.1 (fun k_ hk => ⟨hk.1, ⟨hk.2.2.1, ⟨hk.2.2.2.1, hk.2.2.2.2⟩⟩⟩))
     obtain ⟨ce87, hcl87, hM87, hcc87, hfr87⟩ := Kd.N_elem HX87.1 [] (J7 : Int) (oA) (by have h_ : (J7 : Int) < ((J1.length : Int) : Int) := oA; exact h_)
     obtain ⟨ua87_0, uc87_0, rfl, ul87_0, ge87_0⟩ := Kd.FK_slice_open hM87
     have HP87 := (Kd.N_seg HX87.1 (J7 : Int) (oA) (by have h_ : (J7 : Int) < ((J1.length : Int) : Int) := oA; exact h_) (seg := [.slice bv Ee.length bw]) (j := 0) hcl87 hcc87 (show 1 ≤ 1 from by decide) (x' := Ee) (Kd.FK_slice_mk (Kd.R_reads' (Kd.R_mono (ok' := (fun k_ => ((fun k_ => (w.heap.size ≤ k_) ∧ k_ ≠ JP ∧ k_ ≠ JF ∧ k_ ≠ g)) k_ ∧ k_ ≠ dI)) (IsS46.apart Jg.1 (Kd.R_types (Kd.R_types (Kd.R_apart' (Ef.1) (Kd.N_typed J3.1) (by decide)) JA.1 (by decide)) Jn.1 (by decide)) (by decide)) (fun k_ hk => ⟨⟨hk.1.1.1.1, ⟨hk.1.1.2, ⟨hk.1.2, hk.2⟩⟩⟩, fun e_ => (hk.1.1.1.2) (by rw [e_]; rfl)⟩))).2.1 (Kd.R_F (Kd.R_mono (ok' := (fun k_ => ((fun k_ => (w.heap.size ≤ k_) ∧ k_ ≠ JP ∧ k_ ≠ JF ∧ k_ ≠ g)) k_ ∧ k_ ≠ dI)) (IsS46.apart Jg.1 (Kd.R_types (Kd.R_types (Kd.R_apart' (Ef.1) (Kd.N_typed J3.1) (by decide)) JA.1 (by decide)) Jn.1 (by decide)) (by decide)) (fun k_ hk => ⟨⟨hk.1.1.1.1, ⟨hk.1.1.2, ⟨hk.1.2, hk.2⟩⟩⟩, fun e_ => (hk.1.1.1.2) (by rw [e_]; rfl)⟩)))) (fun _ hk => hk)).1
     (try simp only [show ((Kd.slice 3 (Kd.int .i64))).sz = 1 from rfl, Nat.mul_one, Nat.add_zero] at HP87)
     rw [← Ny234.1] at HP87
     have Je4 := hqZ HP87
     (try clear hcl87); (try clear hcc87); (try clear hfr87); (try clear hM87); (try clear HP87)
     refine hK.out _ _ ⟨(zf0 Jn.1 0).trans rfl, HS1_⟩ (fun hHeld => ?_)
     clear hK K
     refine norm_ (a' := ?_) ?_ ?_
     rotate_left
     ·show Act.put _ (some 75) _ = _; simp only [Act.put, zA, zB, zC, i64_w, i32_w]; rfl
     refine pure_ (i := 12) (N := some 76) (v := ?_) (a' := ?_) (bf 14 8191) rfl rfl (zt0 HT_.1 (by kernel_rfl)) (fun _ _ _ h => h) (Or.inl ⟨by rfl, ?_⟩) ?_ ?_
     rotate_left
     ·intro w'; go_simp; with_reducible rfl
     rotate_left
     ·simp only [Act.put, zA, zB, zC, i64_w, i32_w]; rfl
     refine last_ (i := 13) (N := none) (bf 14 16383) rfl rfl (one_of HT_.1 (by kernel_rfl)) (by decide) (fun K hK => ?_)
     refine skip_ (w1 := ?_) (by rfl) rfl ?_ ?_
     rotate_left
     ·go_simp
      rfl
     refine hK.out _ _ ?_
     clear hK K
     refine done_ (done_of HT_.1 (by kernel_rfl)) ?_
     try go_wp2
     go_roundg kj13
     case measure => have := V8.1; have := Uk.1; omega
     case rel => exact ⟨(wrap64 (J7 + 1)), (Vw), (Vx), (bt), (.slice (some ⟨dI, 0, none⟩) J1.length o7), (rfl), H', ⟨by have := V8.1; have := Uk.1; omega⟩, ⟨Je4.1⟩, ⟨by refine blk_far ?_ (by (have h_ := Kd.N_away J3.1 (fun _ hk => hk.1.2.1); intro e_; exact h_ (by rw [e_]; rfl))) _; exact JA.1⟩, ⟨by refine blk_far ?_ (by (have h_ := Kd.N_away J3.1 (fun _ hk => hk.1.2.2.1); intro e_; exact h_ (by rw [e_]; rfl))) _; exact Jn.1⟩, ⟨IsS46.far Jg.1 HN0_go76.1 _⟩, ⟨keep_far HK.1 GB76.1 _⟩, ⟨zm0 HB.1 (Nat.le_trans HL.1 GB76.1)⟩⟩
    rw [if_pos c57] at H
    have c57b0 : decide (((rd_L2 J1 J7).length : Int) < 5) = true := decide_eq_true c57
    have c57b1 : decide ((rd_L2 J1 J7).length < 5) = true := decide_eq_true (by omega)
    clear c57
    replace H := Option.bind_eq_some_iff.mp H
    obtain ⟨un, A580, H⟩ := H
    replace H : ((some (([Vl] : List Int) : List Int)).bind fun jP => (if un.length + jP.length < 17592186044416 then (yc0.l0 kj13 Vl (Yj.length : Int) (wrap64 (J7 + 1)) J6 Vw Vx (J1.set (J7 : Int).toNat (un ++ jP))) else (none))) = some (r1, r2, r3, r4) := H
    have A58 := hqZ A580
    clear A580
    obtain ⟨jP, hy215⟩ : ∃ y_ : List Int, y_ = (([Vl] : List Int)) := ⟨_, rfl⟩
    replace H : (if un.length + jP.length < 17592186044416 then (yc0.l0 kj13 Vl (Yj.length : Int) (wrap64 (J7 + 1)) J6 Vw Vx (J1.set (J7 : Int).toNat (un ++ jP))) else (none)) = some (r1, r2, r3, r4) := by (have H2_ := (Option.bind_some _ _).symm.trans H; rw [hy215]; with_reducible exact H2_)
    have Ny215 := hqZ hy215
    clear hy215
    by_cases c59 : un.length + jP.length < 17592186044416
    rotate_left
    ·rw [if_neg c59] at H
     exact absurd H (by simp)
    rw [if_pos c59] at H
    have LMc59 := hqZ c59
    clear c59
    obtain ⟨Eg, hy218⟩ : ∃ y_ : List Int, y_ = (un ++ jP) := ⟨_, rfl⟩
    replace H : (yc0.l0 kj13 Vl (Yj.length : Int) (wrap64 (J7 + 1)) J6 Vw Vx (J1.set (J7 : Int).toNat Eg)) = some (r1, r2, r3, r4) := by (rw [hy218]; with_reducible exact H)
    have Ny218 := hqZ hy218
    clear hy218
    obtain ⟨bx, hy221⟩ : ∃ y_ : List (List Int), y_ = (J1.set (J7 : Int).toNat Eg) := ⟨_, rfl⟩
    replace H : (yc0.l0 kj13 Vl (Yj.length : Int) (wrap64 (J7 + 1)) J6 Vw Vx bx) = some (r1, r2, r3, r4) := by (rw [hy221]; with_reducible exact H)
    have Ny221 := hqZ hy221
    clear hy221
    have H' := hqZ H
    clear H
    have hnb61 := YG.1
    have hnc61 := Ys.1
    have hnb62 := ji.1
    have hnc62 := jQ.1
    have Xj : wc.cell? ⟨JF, 0, none⟩ = some (u197000) := (zf0 Jn.1 0).trans rfl
    have Xk := zc0 Jn.1 0
    obtain ⟨Jd6, jO, eo64⟩ := Kd.N_slice J3.1
    subst eo64
    have p210 : 0 ≤ (J7 : Int) := oA
    have q210 : J7 < (J1.length : Int) := oA
    obtain ⟨ad210, qx, qy, e210, hx210_0, hl210_0, hi210_0⟩ := at_L2 (Kd.N_reads' J3.1).2.2 J7 p210 q210
    cases e210
    obtain ⟨ce210, hce210, hMe210, hcc210⟩ := Kd.N_get J3.1 [] J7 p210 (by exact q210)
    obtain ⟨ua210_0, uc210_0, rfl, ul210_0, ge210_0⟩ := Kd.FK_slice_open hMe210
    have hv210_0 := hcc210 0 _ rfl
    rw [Nat.add_zero, show ((Kd.slice 3 (Kd.int .i64))).sz = 1 from rfl, Nat.mul_one] at hv210_0
    replace hv210_0 := Option.some.inj (hv210_0.symm.trans hx210_0)
    injection hv210_0 with hva_ hvn_ hvc_
    rw [hva_] at ge210_0
    rw [hvc_] at ul210_0
    have HL210_0 := hqZ (show Kd.V (Kd.int .i64) 3 _ w.heap.size _ _ (rd_L2 J1 J7) from Kd.V_mk ul210_0 ge210_0)
    clear hva_ hvn_ hvc_ ge210_0 ul210_0 hcc210 hce210
    have Vm := hqZ hi210_0
    have HC210_0 := hqZ hl210_0
    clear hi210_0 hl210_0
    replace p210 := eq_true p210
    replace q210 := eq_true q210
    try go_wp2
    have n0_ := hqZ (Kd.N_drew J3.1)
    have n1_ := hqZ (Kd.V_drew HL210_0.1)
    have n2_ := hqZ (blk_drew JA.1)
    have n3_ := hqZ (blk_drew Jn.1)
    have n4_ := hqZ (Kd.C_drew Vm.1)
    have n5_ := hqZ (IsS46.drew Jg.1)
    have n6_ := hqZ (keep_drew HK.1)
    have n7_ := hqZ (below_drew1 HB.1)
    clear J3 HL210_0 JA Jn Vm Jg HK HB
    have J3 := n0_
    have HL210_0 := n1_
    have JA := n2_
    have Jn := n3_
    have Vm := n4_
    have Jg := n5_
    have HK := n6_
    have HB := n7_
    clear n0_ n1_ n2_ n3_ n4_ n5_ n6_ n7_
    have p211 : 0 ≤ (J7 : Int) := oA
    have q211 : J7 < (J1.length : Int) := oA
    obtain ⟨ad211, X5, X6, e211, hx211_0, hl211_0, hi211_0⟩ := at_L2 (Kd.N_reads' J3.1).2.2 J7 p211 q211
    obtain rfl : ad210 = ad211 := (by injection e211)
    obtain ⟨ce211, hce211, hMe211, hcc211⟩ := Kd.N_get J3.1 [] J7 p211 (by exact q211)
    obtain ⟨ua211_0, uc211_0, rfl, ul211_0, ge211_0⟩ := Kd.FK_slice_open hMe211
    have hv211_0 := hcc211 0 _ rfl
    rw [Nat.add_zero, show ((Kd.slice 3 (Kd.int .i64))).sz = 1 from rfl, Nat.mul_one] at hv211_0
    replace hv211_0 := Option.some.inj (hv211_0.symm.trans hx211_0)
    injection hv211_0 with hva_ hvn_ hvc_
    rw [hva_] at ge211_0
    rw [hvc_] at ul211_0
    have HL211_0 := hqZ (show Kd.V (Kd.int .i64) 3 _ w.heap.size _ _ (rd_L2 J1 J7) from Kd.V_mk ul211_0 ge211_0)
    clear hva_ hvn_ hvc_ ge211_0 ul211_0 hcc211 hce211
    have Yd := hqZ hi211_0
    have HC211_0 := hqZ hl211_0
    clear hi211_0 hl211_0
    replace p211 := eq_true p211
    replace q211 := eq_true q211
    refine start_ (n := 14) (S := fun w' => w'.cell? ⟨JF, 0, none⟩ = some (.slice (some ad210) J1.length jO) ∧ w'.cell? (ad210.add (J7).toNat) = some (.slice X5 (rd_L2 J1 J7).length X6)) (ds := [13]) #[false, false, false, false, false, false, false, false, false, false, false, false, false, false] (by kernel_rfl) rfl rfl ⟨(zf0 Jn.1 0).trans rfl, hx211_0⟩ (fun hHeld => ?_); refine with_tabW yc0.tab8 yc0.bits8 (fun HT_ HW_ => ?_)
    generalize wc.drew = w65 at J3 HL210_0 JA Jn Vm Jg HK HB HL211_0 Yd hx211_0 hHeld ⊢
    refine pure_ (i := 0) (N := some 51) (v := ?_) (a' := ?_) (bf 14 1) rfl rfl (zt0 HT_.1 (by kernel_rfl)) (fun _ _ _ h => h) (Or.inl ⟨by rfl, ?_⟩) ?_ ?_
    rotate_left
    ·intro w'; go_simp; with_reducible rfl
    rotate_left
    ·simp only [Act.put, zA, zB, zC, i64_w, i32_w]; rfl
    refine pure_ (i := 2) (N := some 53) (v := ?_) (a' := ?_) (bf 14 5) rfl rfl (zt0 HT_.1 (by kernel_rfl)) (fun _ _ _ h => h) (Or.inl ⟨by rfl, ?_⟩) ?_ ?_
    rotate_left
    ·intro w'; go_simp; with_reducible rfl
    rotate_left
    ·simp only [Act.put, zA, zB, zC, i64_w, i32_w]; rfl
    refine pure_ (i := 3) (N := some 54) (v := ?_) (a' := ?_) (bf 14 13) rfl rfl (zt0 HT_.1 (by kernel_rfl)) (fun _ _ _ h => h) (Or.inl ⟨by rfl, ?_⟩) ?_ ?_
    rotate_left
    ·intro w'; go_simp; with_reducible rfl
    rotate_left
    ·simp only [Act.put, zA, zB, zC, i64_w, i32_w]; rfl
    refine pure_ (i := 5) (N := some 56) (v := ?_) (a' := ?_) (bf 14 45) rfl rfl (zt0 HT_.1 (by kernel_rfl)) (fun _ _ _ h => h) (Or.inl ⟨by rfl, ?_⟩) ?_ ?_
    rotate_left
    ·intro w'; go_simp; with_reducible rfl
    rotate_left
    ·simp only [Act.put, zA, zB, zC, i64_w, i32_w]; rfl
    refine pure_ (i := 9) (N := some 60) (v := ?_) (a' := ?_) (bf 14 557) rfl rfl (zt0 HT_.1 (by kernel_rfl)) (fun _ _ _ h => h) (Or.inl ⟨by rfl, ?_⟩) ?_ ?_
    rotate_left
    ·intro w'; go_simp; with_reducible rfl
    rotate_left
    ·simp only [Act.put, zA, zB, zC, i64_w, i32_w]; rfl
    refine take_ (i := 1) (N := some 52) (v := ?_) (a' := ?_) (bf 14 559) rfl rfl (take_ofW HT_.1 HW_.1 (by kernel_rfl)) (fun _ _ _ h => h) (Or.inl ⟨by rfl, ?_⟩) hHeld ?_ ?_
    rotate_left
    ·rintro w' ⟨s0, s1⟩; go_simp; with_reducible rfl
    rotate_left
    ·simp only [Act.put, zA, zB, zC, i64_w, i32_w]; rfl
    refine take_ (i := 4) (N := some 55) (v := ?_) (a' := ?_) (bf 14 575) rfl rfl (take_ofW HT_.1 HW_.1 (by kernel_rfl)) (fun _ _ _ h => h) (Or.inl ⟨by rfl, ?_⟩) hHeld ?_ ?_
    rotate_left
    ·rintro w' ⟨s0, s1⟩; go_simp; with_reducible rfl
    rotate_left
    ·simp only [Act.put, zA, zB, zC, i64_w, i32_w]; rfl
    refine pure_ (i := 6) (N := some 57) (v := ?_) (a' := ?_) (bf 14 639) rfl rfl (zt0 HT_.1 (by kernel_rfl)) (fun _ _ _ h => h) (Or.inl ⟨by rfl, ?_⟩) ?_ ?_
    rotate_left
    ·intro w'; go_simp; with_reducible rfl
    rotate_left
    ·simp only [Act.put, zA, zB, zC, i64_w, i32_w]; rfl
    refine take_ (i := 7) (N := some 58) (v := ?_) (a' := ?_) (bf 14 767) rfl rfl (take_ofW HT_.1 HW_.1 (by kernel_rfl)) (fun _ _ _ h => h) (Or.inl ⟨by rfl, ?_⟩) hHeld ?_ ?_
    rotate_left
    ·rintro w' ⟨s0, s1⟩; go_simp; with_reducible rfl
    rotate_left
    ·simp only [Act.put, zA, zB, zC, i64_w, i32_w]; rfl
    refine join_ (σ := Value × Value) 3 (bf 14 2047) (fun s_ => [(59, s_.1), (61, s_.2)]) (fun s_ w' => (w'.cell? ⟨JF, 0, none⟩ = some (.slice (some ad210) J1.length jO) ∧ w'.cell? (ad210.add (J7).toNat) = some (.slice X5 (rd_L2 J1 J7).length X6)) ∧ (Kd.V (Kd.int .i64) 3 w' w.heap.size (fun k_ => (w.heap.size ≤ k_) ∧ some k_ ≠ (s_.1 : Value).ownBlock ∧ some k_ ≠ (s_.2 : Value).ownBlock ∧ some k_ ≠ (.slice (some ad210) J1.length jO : Value).ownBlock ∧ k_ ≠ g ∧ k_ ≠ JP ∧ k_ ≠ JF) (.slice qx (rd_L2 J1 J7).length qy) (rd_L2 J1 J7)) ∧ (Kd.V (Kd.int .i64) 3 w' w.heap.size (fun k_ => (w.heap.size ≤ k_) ∧ some k_ ≠ (s_.1 : Value).ownBlock ∧ some k_ ≠ (s_.2 : Value).ownBlock ∧ some k_ ≠ (.slice (some ad210) J1.length jO : Value).ownBlock ∧ k_ ≠ g ∧ k_ ≠ JP ∧ k_ ≠ JF) (.slice X5 (rd_L2 J1 J7).length X6) (rd_L2 J1 J7)) ∧ (Kd.R (Kd.int .i64) 3 w' w.heap.size (fun k_ => (w.heap.size ≤ k_) ∧ some k_ ≠ (s_.2 : Value).ownBlock) s_.1 un) ∧ (Kd.R (Kd.int .i64) 3 w' w.heap.size (fun k_ => (w.heap.size ≤ k_) ∧ some k_ ≠ (s_.1 : Value).ownBlock) s_.2 jP) ∧ (Kd.N (Kd.slice 3 (Kd.int .i64)) 27 w' w.heap.size (fun k_ => (w.heap.size ≤ k_) ∧ some k_ ≠ (s_.1 : Value).ownBlock ∧ some k_ ≠ (s_.2 : Value).ownBlock ∧ k_ ≠ g ∧ k_ ≠ JP ∧ k_ ≠ JF) (.slice (some ad210) J1.length jO) J1) ∧ (w'.heap[JP]? = some (.cells #[.slice none 0 0] 26 (0, 0))) ∧ (w'.heap[JF]? = some (.cells #[.slice (some ad210) J1.length jO] 26 (0, 0))) ∧ (IsS46 w0 w' g J6 Vw Vx) ∧ (zh0 w w' g none) ∧ (Below w0.heap.size w0 w')) ?_ ?_
    rotate_left
    ·intro hCont
     refine two_ (i := 8) (j := 10) (Ni := some 59) (Nj := some 61) #[true, true, true, true, true, true, true, true, true, true, false, false, false, false] (bf 14 1791) rfl rfl rfl rfl (two_of HT_.1 (by kernel_rfl)) (by decide) (by decide) (fun K hK => ?_) (fun K hK => ?_)
     ·skip
      refine goes_ Try.func42 (by kernel_rfl) rfl #[.slice X5 (rd_L2 J1 J7).length X6] (by rfl) rfl rfl (by simp only [hqa, hqb, hqc]; rfl) ?_
      with_reducible refine (yr1.calls _ _ (rd_L2 J1 J7) un _ ?side1 ?side2 A58.1).mono ?_
      (case side1 => repeat (exact (by exact Yd.1)))
      (case side2 => exact HC211_0.1)
      rintro e w66 ⟨v213, rfl, ho0, hb⟩
      have HS1_ := (hb.cell (World.block_lt_of_cell? _ _ (hHeld.2))).trans (hHeld.2)
      refine ⟨_, rfl, ?_⟩
      have n0_ := hqZ (Kd.N_elder' (J3.1) (Kd.R_base ho0) hb)
      have n1_ := hqZ (Kd.V_elder' (HL210_0.1) (Kd.R_base ho0) hb)
      have n2_ := hqZ (Kd.V_elder' (HL211_0.1) (Kd.R_base ho0) hb)
      have n3_ := hqZ (Kd.R_lower (Kd.R_newM (M := fun k_ => (w.heap.size ≤ k_)) ho0 (zj0 (w := w) (g := g) (row := none) (HK.1)) (fun k_ h_ => h_)) (zj0 (w := w) (g := g) (row := none) (HK.1)))
      have n4_ := hqZ (zd0 (g := JP) (o := .cells #[.slice none 0 0] 26 (0, 0)) (JA.1) hb)
      have n5_ := hqZ (zd0 (g := JF) (o := .cells #[.slice (some ad210) J1.length jO] 26 (0, 0)) (Jn.1) hb)
      have n6_ := hqZ (IsS46.below (Jg.1) hb)
      have n7_ := hqZ (Kd.C_below (by exact Vm.1) hb)
      have n8_ := hqZ (Kd.C_below (by exact Yd.1) hb)
      have n9_ := hqZ (zh0.trans (HK.1) (zh0.of_below hb g none) (.inl rfl))
      have n10_ := hqZ (za0 (HB.1) hb)
      clear J3 HL210_0 HL211_0 JA Jn Jg Vm Yd HK HB
      have J3 := n0_
      have HL210_0 := n1_
      have HL211_0 := n2_
      have jZ := n3_
      have JA := n4_
      have Jn := n5_
      have Jg := n6_
      have Vm := n7_
      have Yd := n8_
      have HK := n9_
      have HB := n10_
      clear n0_ n1_ n2_ n3_ n4_ n5_ n6_ n7_ n8_ n9_ n10_
      (try clear hb)
      (try clear hb2)
      (try clear hk)
      (try clear hi)
      (try clear ho0)
      refine hK.out _ _ ⟨(zf0 Jn.1 0).trans rfl, HS1_⟩ (fun hHeld => ?_)
      clear hK K
      refine norm_ (a' := ?_) ?_ ?_
      rotate_left
      ·show Act.put _ (some 59) _ = _; simp only [Act.put, zA, zB, zC, i64_w, i32_w]; rfl
      refine one_ (i := 10) (N := some 61) (bf 14 2047) rfl rfl (one_of HT_.1 (by kernel_rfl)) (by decide) (fun K hK => ?_)
      refine Kd.R_lit_step (Kd.int .i64) _ 3 ?hg (N := 61) ?hd (xs := ([Vl] : List Int)) (inner := [.int .i64 Vl]) (ok := fun _ => True) (okp := fun _ => True) ?hr ?hp (fun _ hk => hk) trivial (Below.refl _ _) (Nat.le_refl _) (by simp) ?_; (case hd | hg => rfl); (case hr => go_simp); (case hp => exact (Reps.one (show Kd.M (Kd.int .i64) _ _ _ Vl [.int .i64 Vl] from rfl) (Reps.none _ _)))
      intro v216 w67 ho68 hb hg_ hnew_
      have HS1_ := (hb.cell (World.block_lt_of_cell? _ _ (hHeld.2))).trans (hHeld.2)
      clear hg_ hnew_
      (rw [← Ny215.1] at ho68)
      have n0_ := hqZ (Kd.N_elder' (J3.1) (Kd.R_base ho68) hb)
      have n1_ := hqZ (Kd.V_elder' (HL210_0.1) (Kd.R_base ho68) hb)
      have n2_ := hqZ (Kd.V_elder' (HL211_0.1) (Kd.R_base ho68) hb)
      have n3_ := hqZ (Kd.R_elder' (jZ.1) (Kd.R_base ho68) hb)
      have n4_ := hqZ (Kd.R_lower (Kd.R_new' (Kd.R_newM (M := fun k_ => (w.heap.size ≤ k_)) ho68 (zj0 (w := w) (g := g) (row := none) (HK.1)) (fun k_ h_ => h_)) (Kd.R_lt (jZ.1))) (zj0 (w := w) (g := g) (row := none) (HK.1)))
      have n5_ := hqZ (zd0 (g := JP) (o := .cells #[.slice none 0 0] 26 (0, 0)) (JA.1) hb)
      have n6_ := hqZ (zd0 (g := JF) (o := .cells #[.slice (some ad210) J1.length jO] 26 (0, 0)) (Jn.1) hb)
      have n7_ := hqZ (IsS46.below (Jg.1) hb)
      have n8_ := hqZ (Kd.C_below (by exact Vm.1) hb)
      have n9_ := hqZ (Kd.C_below (by exact Yd.1) hb)
      have n10_ := hqZ (zh0.trans (HK.1) (zh0.of_below hb g none) (.inl rfl))
      have n11_ := hqZ (za0 (HB.1) hb)
      clear J3 HL210_0 HL211_0 jZ JA Jn Jg Vm Yd HK HB
      have J3 := n0_
      have HL210_0 := n1_
      have HL211_0 := n2_
      have jZ := n3_
      have vt := n4_
      have JA := n5_
      have Jn := n6_
      have Jg := n7_
      have Vm := n8_
      have Yd := n9_
      have HK := n10_
      have HB := n11_
      clear n0_ n1_ n2_ n3_ n4_ n5_ n6_ n7_ n8_ n9_ n10_ n11_ hb ho68
      refine hK.out _ _ ⟨(zf0 Jn.1 0).trans rfl, HS1_⟩ (fun hHeld => ?_)
      clear hK K
      refine norm_ (a' := ?_) ?_ ?_
      rotate_left
      ·show Act.put _ (some 61) _ = _; simp only [Act.put, zA, zB, zC, i64_w, i32_w]; rfl
      exact norm_ (by simp only [putAll, Act.put, zA, zB, zC]) (hCont (v213, v216) _ ⟨hHeld, (Kd.V_mono HL210_0.1 (fun _ hk => ⟨hk.1.1.1.1, ⟨hk.1.2, ⟨hk.2, ⟨hk.1.1.2, ⟨hk.1.1.1.2.2.2, ⟨hk.1.1.1.2.1, hk.1.1.1.2.2.1⟩⟩⟩⟩⟩⟩)), (Kd.V_mono HL211_0.1 (fun _ hk => ⟨hk.1.1.1.1, ⟨hk.1.2, ⟨hk.2, ⟨hk.1.1.2, ⟨hk.1.1.1.2.2.2, ⟨hk.1.1.1.2.1, hk.1.1.1.2.2.1⟩⟩⟩⟩⟩⟩)), (Kd.R_mono jZ.1 (fun _ hk => ⟨hk.1.1, hk.2⟩)), (Kd.R_mono vt.1 (fun _ hk => ⟨hk.1.1, hk.2⟩)), (Kd.N_mono J3.1 (fun _ hk => ⟨hk.1.1.1, ⟨hk.1.2, ⟨hk.2, ⟨hk.1.1.2.2.2, ⟨hk.1.1.2.1, hk.1.1.2.2.1⟩⟩⟩⟩⟩)), (JA.1), (Jn.1), (Jg.1), (HK.1), (HB.1)⟩)
     ·skip
      refine Kd.R_lit_step (Kd.int .i64) _ 3 ?hg (N := 61) ?hd (xs := ([Vl] : List Int)) (inner := [.int .i64 Vl]) (ok := fun _ => True) (okp := fun _ => True) ?hr ?hp (fun _ hk => hk) trivial (Below.refl _ _) (Nat.le_refl _) (by simp) ?_; (case hd | hg => rfl); (case hr => go_simp); (case hp => exact (Reps.one (show Kd.M (Kd.int .i64) _ _ _ Vl [.int .i64 Vl] from rfl) (Reps.none _ _)))
      intro v216 w66 ho67 hb hg_ hnew_
      have HS1_ := (hb.cell (World.block_lt_of_cell? _ _ (hHeld.2))).trans (hHeld.2)
      clear hg_ hnew_
      (rw [← Ny215.1] at ho67)
      have n0_ := hqZ (Kd.N_elder' (J3.1) (Kd.R_base ho67) hb)
      have n1_ := hqZ (Kd.V_elder' (HL210_0.1) (Kd.R_base ho67) hb)
      have n2_ := hqZ (Kd.V_elder' (HL211_0.1) (Kd.R_base ho67) hb)
      have n3_ := hqZ (Kd.R_lower (Kd.R_newM (M := fun k_ => (w.heap.size ≤ k_)) ho67 (zj0 (w := w) (g := g) (row := none) (HK.1)) (fun k_ h_ => h_)) (zj0 (w := w) (g := g) (row := none) (HK.1)))
      have n4_ := hqZ (zd0 (g := JP) (o := .cells #[.slice none 0 0] 26 (0, 0)) (JA.1) hb)
      have n5_ := hqZ (zd0 (g := JF) (o := .cells #[.slice (some ad210) J1.length jO] 26 (0, 0)) (Jn.1) hb)
      have n6_ := hqZ (IsS46.below (Jg.1) hb)
      have n7_ := hqZ (Kd.C_below (by exact Vm.1) hb)
      have n8_ := hqZ (Kd.C_below (by exact Yd.1) hb)
      have n9_ := hqZ (zh0.trans (HK.1) (zh0.of_below hb g none) (.inl rfl))
      have n10_ := hqZ (za0 (HB.1) hb)
      clear J3 HL210_0 HL211_0 JA Jn Jg Vm Yd HK HB
      have J3 := n0_
      have HL210_0 := n1_
      have HL211_0 := n2_
      have vt := n3_
      have JA := n4_
      have Jn := n5_
      have Jg := n6_
      have Vm := n7_
      have Yd := n8_
      have HK := n9_
      have HB := n10_
      clear n0_ n1_ n2_ n3_ n4_ n5_ n6_ n7_ n8_ n9_ n10_ hb ho67
      refine hK.out _ _ ⟨(zf0 Jn.1 0).trans rfl, HS1_⟩ (fun hHeld => ?_)
      clear hK K
      refine norm_ (a' := ?_) ?_ ?_
      rotate_left
      ·show Act.put _ (some 61) _ = _; simp only [Act.put, zA, zB, zC, i64_w, i32_w]; rfl
      refine one_ (i := 8) (N := some 59) (bf 14 2047) rfl rfl (one_of HT_.1 (by kernel_rfl)) (by decide) (fun K hK => ?_)
      refine goes_ Try.func42 (by kernel_rfl) rfl #[.slice X5 (rd_L2 J1 J7).length X6] (by rfl) rfl rfl (by simp only [hqa, hqb, hqc]; rfl) ?_
      with_reducible refine (yr1.calls _ _ (rd_L2 J1 J7) un _ ?side1 ?side2 A58.1).mono ?_
      (case side1 => repeat (exact (by exact Yd.1)))
      (case side2 => exact HC211_0.1)
      rintro e w68 ⟨v213, rfl, ho0, hb⟩
      have HS1_ := (hb.cell (World.block_lt_of_cell? _ _ (hHeld.2))).trans (hHeld.2)
      refine ⟨_, rfl, ?_⟩
      have n0_ := hqZ (Kd.N_elder' (J3.1) (Kd.R_base ho0) hb)
      have n1_ := hqZ (Kd.V_elder' (HL210_0.1) (Kd.R_base ho0) hb)
      have n2_ := hqZ (Kd.V_elder' (HL211_0.1) (Kd.R_base ho0) hb)
      have n3_ := hqZ (Kd.R_elder' (vt.1) (Kd.R_base ho0) hb)
      have n4_ := hqZ (Kd.R_lower (Kd.R_new' (Kd.R_newM (M := fun k_ => (w.heap.size ≤ k_)) ho0 (zj0 (w := w) (g := g) (row := none) (HK.1)) (fun k_ h_ => h_)) (Kd.R_lt (vt.1))) (zj0 (w := w) (g := g) (row := none) (HK.1)))
      have n5_ := hqZ (zd0 (g := JP) (o := .cells #[.slice none 0 0] 26 (0, 0)) (JA.1) hb)
      have n6_ := hqZ (zd0 (g := JF) (o := .cells #[.slice (some ad210) J1.length jO] 26 (0, 0)) (Jn.1) hb)
      have n7_ := hqZ (IsS46.below (Jg.1) hb)
      have n8_ := hqZ (Kd.C_below (by exact Vm.1) hb)
      have n9_ := hqZ (Kd.C_below (by exact Yd.1) hb)
      have n10_ := hqZ (zh0.trans (HK.1) (zh0.of_below hb g none) (.inl rfl))
      have n11_ := hqZ (za0 (HB.1) hb)
      clear J3 HL210_0 HL211_0 vt JA Jn Jg Vm Yd HK HB
      have J3 := n0_
      have HL210_0 := n1_
      have HL211_0 := n2_
      have vt := n3_
      have jZ := n4_
      have JA := n5_
      have Jn := n6_
      have Jg := n7_
      have Vm := n8_
      have Yd := n9_
      have HK := n10_
      have HB := n11_
      clear n0_ n1_ n2_ n3_ n4_ n5_ n6_ n7_ n8_ n9_ n10_ n11_
      (try clear hb)
      (try clear hb2)
      (try clear hk)
      (try clear hi)
      (try clear ho0)
      refine hK.out _ _ ⟨(zf0 Jn.1 0).trans rfl, HS1_⟩ (fun hHeld => ?_)
      clear hK K
      refine norm_ (a' := ?_) ?_ ?_
      rotate_left
      ·show Act.put _ (some 59) _ = _; simp only [Act.put, zA, zB, zC, i64_w, i32_w]; rfl
      exact norm_ (by simp only [putAll, Act.put, zA, zB, zC]) (hCont (v213, v216) _ ⟨hHeld, (Kd.V_mono HL210_0.1 (fun _ hk => ⟨hk.1.1.1.1, ⟨hk.2, ⟨hk.1.2, ⟨hk.1.1.2, ⟨hk.1.1.1.2.2.2, ⟨hk.1.1.1.2.1, hk.1.1.1.2.2.1⟩⟩⟩⟩⟩⟩)), (Kd.V_mono HL211_0.1 (fun _ hk => ⟨hk.1.1.1.1, ⟨hk.2, ⟨hk.1.2, ⟨hk.1.1.2, ⟨hk.1.1.1.2.2.2, ⟨hk.1.1.1.2.1, hk.1.1.1.2.2.1⟩⟩⟩⟩⟩⟩)), (Kd.R_mono jZ.1 (fun _ hk => ⟨hk.1.1, hk.2⟩)), (Kd.R_mono vt.1 (fun _ hk => ⟨hk.1.1, hk.2⟩)), (Kd.N_mono J3.1 (fun _ hk => ⟨hk.1.1.1, ⟨hk.2, ⟨hk.1.2, ⟨hk.1.1.2.2.2, ⟨hk.1.1.2.1, hk.1.1.2.2.1⟩⟩⟩⟩⟩)), (JA.1), (Jn.1), (Jg.1), (HK.1), (HB.1)⟩)
    rintro ⟨v213, v216⟩ w69 ⟨hS_, h0_, h1_, h2_, h3_, h4_, h5_, h6_, h7_, h8_, h9_⟩
    have n0_ : zg0 (Kd.V (Kd.int .i64) 3 w69 w.heap.size (fun k_ => (w.heap.size ≤ k_) ∧ some k_ ≠ (v213 : Value).ownBlock ∧ some k_ ≠ (v216 : Value).ownBlock ∧ some k_ ≠ (.slice (some ad210) J1.length jO : Value).ownBlock ∧ k_ ≠ g ∧ k_ ≠ JP ∧ k_ ≠ JF) (.slice qx (rd_L2 J1 J7).length qy) (rd_L2 J1 J7)) := ⟨h0_⟩
    have n1_ : zg0 (Kd.V (Kd.int .i64) 3 w69 w.heap.size (fun k_ => (w.heap.size ≤ k_) ∧ some k_ ≠ (v213 : Value).ownBlock ∧ some k_ ≠ (v216 : Value).ownBlock ∧ some k_ ≠ (.slice (some ad210) J1.length jO : Value).ownBlock ∧ k_ ≠ g ∧ k_ ≠ JP ∧ k_ ≠ JF) (.slice X5 (rd_L2 J1 J7).length X6) (rd_L2 J1 J7)) := ⟨h1_⟩
    have n2_ : zg0 (Kd.R (Kd.int .i64) 3 w69 w.heap.size (fun k_ => (w.heap.size ≤ k_) ∧ some k_ ≠ (v216 : Value).ownBlock) v213 un) := ⟨h2_⟩
    have n3_ : zg0 (Kd.R (Kd.int .i64) 3 w69 w.heap.size (fun k_ => (w.heap.size ≤ k_) ∧ some k_ ≠ (v213 : Value).ownBlock) v216 jP) := ⟨h3_⟩
    have n4_ : zg0 (Kd.N (Kd.slice 3 (Kd.int .i64)) 27 w69 w.heap.size (fun k_ => (w.heap.size ≤ k_) ∧ some k_ ≠ (v213 : Value).ownBlock ∧ some k_ ≠ (v216 : Value).ownBlock ∧ k_ ≠ g ∧ k_ ≠ JP ∧ k_ ≠ JF) (.slice (some ad210) J1.length jO) J1) := ⟨h4_⟩
    have n5_ : zg0 (w69.heap[JP]? = some (.cells #[.slice none 0 0] 26 (0, 0))) := ⟨h5_⟩
    have n6_ : zg0 (w69.heap[JF]? = some (.cells #[.slice (some ad210) J1.length jO] 26 (0, 0))) := ⟨h6_⟩
    have n7_ : zg0 (IsS46 w0 w69 g J6 Vw Vx) := ⟨h7_⟩
    have n8_ : zg0 (zh0 w w69 g none) := ⟨h8_⟩
    have n9_ : zg0 (Below w0.heap.size w0 w69) := ⟨h9_⟩
    clear J3 HL210_0 JA Jn Vm Jg HK HB h0_ h1_ h2_ h3_ h4_ h5_ h6_ h7_ h8_ h9_
    have HL210_0 := n0_
    have HL211_0 := n1_
    have jZ := n2_
    have vt := n3_
    have J3 := n4_
    have JA := n5_
    have Jn := n6_
    have Jg := n7_
    have HK := n8_
    have HB := n9_
    clear n0_ n1_ n2_ n3_ n4_ n5_ n6_ n7_ n8_ n9_
    have hHeld : w69.cell? ⟨JF, 0, none⟩ = some (.slice (some ad210) J1.length jO) ∧ w69.cell? (ad210.add (J7).toNat) = some (.slice X5 (rd_L2 J1 J7).length X6) := hS_
    obtain ⟨UD, UE, eo71⟩ := Kd.R_slice vt.1
    (subst eo71)
    refine norm_ (a' := ?_) ?_ ?_
    rotate_left
    ·simp only [putAll, Act.put, zA, zB, zC]
     rfl
    refine one_ (i := 11) (N := some 62) (bf 14 4095) rfl rfl (one_of HT_.1 (by kernel_rfl)) (by decide) (fun K hK => ?_)
    refine Kd.R_append_rows_step (Kd.int .i64) w.heap.size (by rfl) (.tmp 59) (.tmp 61) 27 3 (.int .i64 0) 8 rfl Try.underlying27 info3 rfl (by decide) (by omega) v213 un jP _ _ _ (fun k_ => (w.heap.size ≤ k_) ∧ some k_ ≠ (.slice UD jP.length UE : Value).ownBlock) (fun _ => False) rfl rfl ?aO ?aR (fun _ _ h => h) (fun _ h => h.elim) ?aF (Below.refl _ _) ?aS ?aL ?_
    (case aR => exact (Kd.R_reads' vt.1).2.2)
    (case aF => exact (fun k_ hk => ⟨(Nat.le_trans (zj0 (w := w) (g := g) (row := none) (HK.1)) hk), Kd.fresh' (Kd.R_lt (vt.1)) k_ hk⟩))
    (case aO => exact (jZ.1))
    (case aS => exact (zj0 (w := w) (g := g) (row := none) (HK.1)))
    (case aL => have := LMc59.1; omega)
    intro v219 w70 ho hb hg hat
    have HS1_ := World.grownBy.cell hg (hHeld.2) (by (rw [add_block]; exact Kd.R_ne jZ.1 (Kd.N_typed J3.1 _ rfl).choose_spec (by decide)))
    rw [← Ny218.1] at ho
    have n0_ := hqZ (Kd.N_afterv (ok := (fun k_ => (w.heap.size ≤ k_) ∧ some k_ ≠ (.slice UD jP.length UE : Value).ownBlock ∧ k_ ≠ g ∧ k_ ≠ JP ∧ k_ ≠ JF)) (Kd.N_mono J3.1 (fun _ hk => ⟨⟨hk.1, ⟨hk.2.2.1, ⟨hk.2.2.2.1, ⟨hk.2.2.2.2.1, hk.2.2.2.2.2⟩⟩⟩⟩, hk.2.1⟩)) hg hat)
    have n1_ := hqZ (zl0 (g := JP) (o := .cells #[.slice none 0 0] 26 (0, 0)) (JA.1) hg (Kd.R_ne jZ.1 JA.1 (by decide)))
    have n2_ := hqZ (zl0 (g := JF) (o := .cells #[.slice (some ad210) J1.length jO] 26 (0, 0)) (Jn.1) hg (Kd.R_ne jZ.1 Jn.1 (by decide)))
    have n3_ := hqZ (IsS46.grown (Jg.1) hg (IsS46.own_ne Jg.1 jZ.1 (by decide)))
    have n4_ := hqZ (Kd.V_afterv (ok := (fun k_ => (w.heap.size ≤ k_) ∧ some k_ ≠ (.slice (some ad210) J1.length jO : Value).ownBlock ∧ some k_ ≠ (.slice UD jP.length UE : Value).ownBlock ∧ k_ ≠ g ∧ k_ ≠ JP ∧ k_ ≠ JF)) (Kd.V_mono HL210_0.1 (fun _ hk => ⟨⟨hk.1, ⟨hk.2.2.2.1, ⟨hk.2.2.1, ⟨hk.2.2.2.2.1, ⟨hk.2.2.2.2.2.1, hk.2.2.2.2.2.2⟩⟩⟩⟩⟩, hk.2.1⟩)) hg hat)
    have n5_ := hqZ (Kd.V_afterv (ok := (fun k_ => (w.heap.size ≤ k_) ∧ some k_ ≠ (.slice (some ad210) J1.length jO : Value).ownBlock ∧ some k_ ≠ (.slice UD jP.length UE : Value).ownBlock ∧ k_ ≠ g ∧ k_ ≠ JP ∧ k_ ≠ JF)) (Kd.V_mono HL211_0.1 (fun _ hk => ⟨⟨hk.1, ⟨hk.2.2.2.1, ⟨hk.2.2.1, ⟨hk.2.2.2.2.1, ⟨hk.2.2.2.2.2.1, hk.2.2.2.2.2.2⟩⟩⟩⟩⟩, hk.2.1⟩)) hg hat)
    have n6_ := hqZ (Kd.R_after (ok := (fun k_ => (w.heap.size ≤ k_))) (vt.1) hg hat)
    have n7_ := hqZ (below_weaken (HB.1) HL.1 hb)
    have n8_ := hqZ (zh0.trans (HK.1) (zh0.of_grown hg g) (Kd.R_base2 jZ.1))
    have n9_ := hqZ (ho)
    clear J3 JA Jn Jg HL210_0 HL211_0 vt HB HK jZ
    have J3 := n0_
    have JA := n1_
    have Jn := n2_
    have Jg := n3_
    have HL210_0 := n4_
    have HL211_0 := n5_
    have vt := n6_
    have HB := n7_
    have HK := n8_
    have Eh := n9_
    clear n0_ n1_ n2_ n3_ n4_ n5_ n6_ n7_ n8_ n9_ ho hb hg hat
    have p60 : 0 ≤ (J7 : Int) := oA
    have q60 : (J7 : Int) < ((J1.length : Int) : Int) := oA
    obtain ⟨dJ, Jp6, eo60, bz, gl60, cl60, HG60⟩ := Kd.N_form J3.1 (by omega)
    (cases eo60)
    have GB60 := hqZ bz
    have GG60 := hqZ HG60
    clear bz gl60 HG60
    (simp only [add_plain] at hx210_0)
    (simp only [add_plain] at hx211_0)
    obtain ⟨ce60, hcl60, hM60, hcc60, hfr60⟩ := Kd.N_elem J3.1 [] (J7 : Int) p60 q60
    obtain ⟨ua60_0, uc60_0, rfl, ul60_0, ge60_0⟩ := Kd.FK_slice_open hM60
    have hx60_0 := hcc60 0 _ rfl
    have hf60_0 := hfr60 0
    (try simp only [show ((Kd.slice 3 (Kd.int .i64))).sz = 1 from rfl, Nat.mul_one, Nat.add_zero] at hx60_0)
    (try simp only [show ((Kd.slice 3 (Kd.int .i64))).sz = 1 from rfl, Nat.mul_one, Nat.add_zero] at hf60_0)
    (try clear hcl60); (try clear hcc60); (try clear hfr60); (try clear hM60)
    replace p60 := eq_true p60
    replace q60 := eq_true q60
    obtain ⟨bA, bB, eo72⟩ := Kd.R_slice Eh.1
    (subst eo72)
    have HN0_go60 := hqZ (show g ≠ dJ from by have h_ := IsS46.own_neN Jg.1 J3.1 (by decide); intro e_; exact h_ (by rw [e_]; rfl))
    have HX73 := hqZ (show Kd.N (Kd.slice 3 (Kd.int .i64)) 27 _ w.heap.size (fun k_ => (w.heap.size ≤ k_) ∧ some k_ ≠ (.slice UD jP.length UE : Value).ownBlock ∧ some k_ ≠ (.slice bA Eg.length bB : Value).ownBlock ∧ k_ ≠ JP ∧ k_ ≠ JF ∧ k_ ≠ g) (.slice (some ⟨dJ, 0, none⟩) J1.length jO) J1 from (Kd.N_mono (J3.1) (fun k_ hk => ⟨hk.1.1, ⟨hk.1.2.1, ⟨hk.2, ⟨hk.1.2.2.2.1, ⟨hk.1.2.2.2.2, hk.1.2.2.1⟩⟩⟩⟩⟩)))
    replace HX73 := hqZ (show Kd.N (Kd.slice 3 (Kd.int .i64)) 27 _ w.heap.size (fun k_ => (w.heap.size ≤ k_) ∧ some k_ ≠ (.slice UD jP.length UE : Value).ownBlock ∧ k_ ≠ JP ∧ k_ ≠ JF ∧ k_ ≠ g) (.slice (some ⟨dJ, 0, none⟩) J1.length jO) J1 from Kd.N_mono HX73.1 (fun k_ hk => ⟨hk.1, ⟨hk.2.1, ⟨hk.2.2.2.1, ⟨hk.2.2.2.2.1, hk.2.2.2.2.2⟩⟩⟩⟩))
    obtain ⟨ce73, hcl73, hM73, hcc73, hfr73⟩ := Kd.N_elem HX73.1 [] (J7 : Int) (oA) (by have h_ : (J7 : Int) < ((J1.length : Int) : Int) := oA; exact h_)
    obtain ⟨ua73_0, uc73_0, rfl, ul73_0, ge73_0⟩ := Kd.FK_slice_open hM73
    have HP73 := (Kd.N_seg HX73.1 (J7 : Int) (oA) (by have h_ : (J7 : Int) < ((J1.length : Int) : Int) := oA; exact h_) (seg := [.slice bA Eg.length bB]) (j := 0) hcl73 hcc73 (show 1 ≤ 1 from by decide) (x' := Eg) (Kd.FK_slice_mk (Kd.R_reads' (Kd.R_mono (ok' := (fun k_ => ((fun k_ => (w.heap.size ≤ k_) ∧ some k_ ≠ (.slice UD jP.length UE : Value).ownBlock ∧ k_ ≠ JP ∧ k_ ≠ JF ∧ k_ ≠ g)) k_ ∧ k_ ≠ dJ)) (IsS46.apart Jg.1 (Kd.R_types (Kd.R_types (Kd.R_apart' (Eh.1) (Kd.N_typed J3.1) (by decide)) JA.1 (by decide)) Jn.1 (by decide)) (by decide)) (fun k_ hk => ⟨⟨hk.1.1.1.1.1, ⟨hk.1.1.1.1.2, ⟨hk.1.1.2, ⟨hk.1.2, hk.2⟩⟩⟩⟩, fun e_ => (hk.1.1.1.2) (by rw [e_]; rfl)⟩))).2.1 (Kd.R_F (Kd.R_mono (ok' := (fun k_ => ((fun k_ => (w.heap.size ≤ k_) ∧ some k_ ≠ (.slice UD jP.length UE : Value).ownBlock ∧ k_ ≠ JP ∧ k_ ≠ JF ∧ k_ ≠ g)) k_ ∧ k_ ≠ dJ)) (IsS46.apart Jg.1 (Kd.R_types (Kd.R_types (Kd.R_apart' (Eh.1) (Kd.N_typed J3.1) (by decide)) JA.1 (by decide)) Jn.1 (by decide)) (by decide)) (fun k_ hk => ⟨⟨hk.1.1.1.1.1, ⟨hk.1.1.1.1.2, ⟨hk.1.1.2, ⟨hk.1.2, hk.2⟩⟩⟩⟩, fun e_ => (hk.1.1.1.2) (by rw [e_]; rfl)⟩)))) (fun _ hk => hk)).1
    (try simp only [show ((Kd.slice 3 (Kd.int .i64))).sz = 1 from rfl, Nat.mul_one, Nat.add_zero] at HP73)
    rw [← Ny221.1] at HP73
    have Je5 := hqZ HP73
    (try clear hcl73); (try clear hcc73); (try clear hfr73); (try clear hM73); (try clear HP73)
    refine hK.out _ _ ⟨(zf0 Jn.1 0).trans rfl, HS1_⟩ (fun hHeld => ?_)
    clear hK K
    refine norm_ (a' := ?_) ?_ ?_
    rotate_left
    ·show Act.put _ (some 62) _ = _; simp only [Act.put, zA, zB, zC, i64_w, i32_w]; rfl
    refine pure_ (i := 12) (N := some 63) (v := ?_) (a' := ?_) (bf 14 8191) rfl rfl (zt0 HT_.1 (by kernel_rfl)) (fun _ _ _ h => h) (Or.inl ⟨by rfl, ?_⟩) ?_ ?_
    rotate_left
    ·intro w'; go_simp; with_reducible rfl
    rotate_left
    ·simp only [Act.put, zA, zB, zC, i64_w, i32_w]; rfl
    refine last_ (i := 13) (N := none) (bf 14 16383) rfl rfl (one_of HT_.1 (by kernel_rfl)) (by decide) (fun K hK => ?_)
    refine skip_ (w1 := ?_) (by rfl) rfl ?_ ?_
    rotate_left
    ·go_simp
     rfl
    refine hK.out _ _ ?_
    clear hK K
    refine done_ (done_of HT_.1 (by kernel_rfl)) ?_
    try go_wp2
    go_roundg kj13
    case measure => have := V8.1; have := Uk.1; omega
    case rel => exact ⟨(wrap64 (J7 + 1)), (Vw), (Vx), (bx), (.slice (some ⟨dJ, 0, none⟩) J1.length jO), (rfl), H', ⟨by have := V8.1; have := Uk.1; omega⟩, ⟨Kd.N_mono Je5.1 (fun _ hk => ⟨hk.1, ⟨hk.2.2.1, ⟨hk.2.2.2.1, hk.2.2.2.2⟩⟩⟩)⟩, ⟨by refine blk_far ?_ (by (have h_ := Kd.N_away J3.1 (fun _ hk => hk.1.2.2.2.1); intro e_; exact h_ (by rw [e_]; rfl))) _; exact JA.1⟩, ⟨by refine blk_far ?_ (by (have h_ := Kd.N_away J3.1 (fun _ hk => hk.1.2.2.2.2); intro e_; exact h_ (by rw [e_]; rfl))) _; exact Jn.1⟩, ⟨IsS46.far Jg.1 HN0_go60.1 _⟩, ⟨keep_far HK.1 GB60.1 _⟩, ⟨zm0 HB.1 (Nat.le_trans HL.1 GB60.1)⟩⟩
def yb2.f (J6 : List Int) (Jv : Int) (JQ : Int) (l1 : List Int) : Option (Int × Int × Int) := (yz0.f J6 Jv JQ (l1.length : Int)).bind fun ur => (if 0 ≤ ur.1 then (if ur.1 < (l1.length : Int) then (some (rd l1 ur.1, ur.2.1, ur.2.2)) else (none)) else (none))
theorem yb2.calls (g : Nat) (J6 : List Int) (Jv : Int) (JQ : Int) (A1 : Option Addr) (c1 : Nat) (l1 : List Int) (r1 : Int) (r2 : Int) (r3 : Int) (w0 w : World) (hI : IsS46 w0 w g J6 Jv JQ) (hB : Below w0.heap.size w0 w) (hr1 : Kd.C (Kd.int .i64) w A1 l1.length l1) (hc1 : l1.length ≤ c1) (hf1 : ∀ ad, A1 = some ad → 0 < l1.length → ad.block ≠ g) (h : yb2.f J6 Jv JQ l1 = some (r1, r2, r3)) :
  Calls Try.prog 56 #[.pointer (some ⟨g, 0, none⟩), .slice A1 l1.length c1] w fun e w' => e = .returned (.int .i64 r1) ∧ IsS46 w0 w' g J6 r2 r3 ∧ Below w0.heap.size w0 w' ∧ zh0 w w' g none := by
 have Ue := hqZ hr1
 have HC1 := hqZ hc1
 clear hr1 hc1
 have Jg := hqZ hI
 have HK := hqZ (zh0.refl w g none)
 have HL := hqZ hB.size
 clear hI
 have HW0 := hqZ hB.size
 have HB := hqZ hB
 clear hB
 have H : ((yz0.f J6 Jv JQ (l1.length : Int)).bind fun ur => (if 0 ≤ ur.1 then (if ur.1 < (l1.length : Int) then (some (rd l1 ur.1, ur.2.1, ur.2.2)) else (none)) else (none))) = some (r1, r2, r3) := h
 clear h
 replace H := Option.bind_eq_some_iff.mp H
 obtain ⟨⟨UF, Je6, Je7⟩, A30, H⟩ := H
 try dsimp only at H
 have A3 := hqZ A30
 clear A30
 by_cases c4 : 0 ≤ UF
 rotate_left
 ·rw [if_neg c4] at H
  exact absurd H (by simp)
 rw [if_pos c4] at H
 have c4b0 : decide (0 ≤ UF) = true := decide_eq_true c4
 clear c4
 by_cases c5 : UF < (l1.length : Int)
 rotate_left
 ·rw [if_neg c5] at H
  exact absurd H (by simp)
 rw [if_pos c5] at H
 have c5b0 : decide (UF < (l1.length : Int)) = true := decide_eq_true c5
 clear c5
 simp only [Option.some.injEq, Prod.mk.injEq] at H
 obtain ⟨rfl, rfl, rfl⟩ := H
 go_enter Try.func56, Try.ntmps56
 go_wp2_with (((with_reducible refine ze0 (f := 55) rfl ?_); refine zM (some 9) Try.func55 #[.pointer (some ⟨g, 0, none⟩), .int .i64 (l1.length : Int)] ?_; (with_reducible refine (yz0.calls g J6 Jv JQ (l1.length : Int) UF Je6 Je7 w0 _ ?side1 ?side2 A3.1).mono ?_); (case side1 => exact Jg.1); (case side2 => exact HB.1); rintro e w6 ⟨rfl, hi, hb, hk⟩; refine ⟨_, rfl, ?_⟩; replace HK := hqZ (zh0.trans (HK.1) hk (.inl rfl)); replace HB := hqZ (hb); replace Jg := hqZ (hi); clear hb hk hi; have p238 : 0 ≤ (UF : Int) := oA; have q238 : UF < (l1.length : Int) := oA; obtain ⟨ad238, e238, hx238_0⟩ := Kd.at_int Ue.1 UF p238 q238; cases e238; replace hx238_0 := keep_cell HK.1 hx238_0 (by (rw [add_block]; exact hf1 _ rfl (by omega))); replace p238 := eq_true p238; replace q238 := eq_true q238))
 go_ret
 exact ⟨rfl, Jg.1, HB.1, HK.1⟩
def yx0.j0 : Nat → Bool → List Int → Int → Int → List (List Int) → Option (Int × Int × Int)
 | 0, _, _, _, _, _ => none
 | k + 1, YZ, VD, VY, VZ, d3 => if YZ = true then ((yb2.f VD VY VZ (([(-1), 0, (d3.length : Int), 4611686018427387904] : List Int))).bind fun oL => (some (oL.1, oL.2.1, oL.2.2))) else ((yz0.f VD VY VZ (d3.length : Int)).bind fun Ei => (some (Ei.1, Ei.2.1, Ei.2.2)))
def yx0.f (k : Nat) (J6 : List Int) (Jv : Int) (JQ : Int) (YA : List (List Int)) : Option (Int × Int × Int) := if (YA.length : Int) = 0 then (yx0.j0 k true J6 Jv JQ YA) else ((ys0.f J6 Jv JQ 14).bind fun oM => (yx0.j0 k oM.1 J6 oM.2.1 oM.2.2 YA))
theorem yx0.mono_l : ∀ k, (∀ y0 y1 y2 y3 y4, LeO (yx0.j0 k y0 y1 y2 y3 y4) (yx0.j0 (k + 1) y0 y1 y2 y3 y4))
 | 0 => fun _ _ _ _ _ r h => by simp [yx0.j0] at h
 | k + 1 => by
  have ih0 := yx0.mono_l k
  ·intro y0 y1 y2 y3 y4
   unfold yx0.j0
   repeat' (with_reducible first | apply ih0 | apply LeO.refl | apply LeO.none | refine LeO.ite ?_ ?_ | refine LeO.bind ?_ (fun _ => ?_))
theorem yx0.mono : ∀ a0 a1 a2 a3 k, LeO (yx0.f k a0 a1 a2 a3) (yx0.f (k + 1) a0 a1 a2 a3) := by
 intro a0 a1 a2 a3 k
 have ih0 := yx0.mono_l k
 unfold yx0.f
 repeat' (with_reducible first | apply ih0 | apply LeO.refl | apply LeO.none | refine LeO.ite ?_ ?_ | refine LeO.bind ?_ (fun _ => ?_))
theorem yx0.calls (k : Nat) (g : Nat) (J6 : List Int) (Jv : Int) (JQ : Int) (UG : Option Addr) (UH : Nat) (YA : List (List Int)) (r1 : Int) (r2 : Int) (r3 : Int) (w0 w : World) (hI : IsS46 w0 w g J6 Jv JQ) (hB : Below w0.heap.size w0 w) (hr1_0 : ∀ W_, zh0 w W_ g none → Kd.C (Kd.slice 3 (Kd.int .i64)) W_ UG YA.length YA) (hc1_0 : YA.length ≤ UH) (h : yx0.f k J6 Jv JQ YA = some (r1, r2, r3)) :
  Calls Try.prog 35 #[.pointer (some ⟨g, 0, none⟩), .agg #[.slice UG YA.length UH]] w fun e w' => e = .returned (.int .i64 r1) ∧ IsS46 w0 w' g J6 r2 r3 ∧ Below w0.heap.size w0 w' ∧ zh0 w w' g none := by
 have hu26 := Try.underlying26
 have Jk2 := hqZ hr1_0
 have HC1_0 := hqZ hc1_0
 clear hr1_0 hc1_0
 have Jg := hqZ hI
 have HK := hqZ (zh0.refl w g none)
 have HL := hqZ hB.size
 clear hI
 have HW0 := hqZ hB.size
 have HB := hqZ hB
 clear hB
 have H : (if (YA.length : Int) = 0 then (yx0.j0 k true J6 Jv JQ YA) else ((ys0.f J6 Jv JQ 14).bind fun oM => (yx0.j0 k oM.1 J6 oM.2.1 oM.2.2 YA))) = some (r1, r2, r3) := h
 clear h
 have HC3 := hqZ H
 clear H
 go_enter Try.func35, Try.ntmps35
 go_upto_region 1 with (((with_reducible refine zi0 (N := 3) rfl ?_); refine zk0 ?hg (N := 3) ?hd (cs := #[.slice UG YA.length UH]) (t := 26) ?hr ?_; (case hd | hg => rfl); (case hr => go_simp); intro vu hg w4 hbox hb; replace HB := hqZ (za0 (HB.1) hb); have YQ := hqZ (hbox); have Jk3 := hqZ ((by rw [hg]; exact (zj0 (w := w) (g := g) (row := none) (HK.1)) : w.heap.size ≤ vu)); have Jk4 := hqZ ((Nat.le_trans HW0.1 (by rw [hg]; exact (zj0 (w := w) (g := g) (row := none) (HK.1)) : w.heap.size ≤ vu) : w0.heap.size ≤ vu)); replace HK := hqZ (zh0.trans (HK.1) (zh0.of_below hb g none) (.inl rfl)); have ol := hqZ ((by rw [hg]; exact Nat.ne_of_lt (IsS46.lt (show IsS46 w0 _ g J6 Jv JQ from Jg.1)) : g ≠ vu)); have vX := hqZ ((by rw [hg]; exact Nat.ne_of_gt (IsS46.lt (show IsS46 w0 _ g J6 Jv JQ from Jg.1)) : vu ≠ g)); replace Jg := hqZ (IsS46.below (Jg.1) hb); clear hb hbox hg))
 (try simp only [Act.put, zA, zB, zC])
 go_cut [12] (fun v12 wc => ∃ (kq : Nat) (d4 : Bool) (V0 : Int) (V1 : Int), v12 = .bool d4 ∧ zg0 (yx0.j0 kq d4 J6 V0 V1 YA = some (r1, r2, r3)) ∧ zg0 (kq ≤ k) ∧ zg0 (wc.heap[vu]? = some (.cells #[(.slice UG YA.length UH)] 26 (0, 0))) ∧ zg0 (IsS46 w0 wc g J6 V0 V1) ∧ zg0 (zh0 w wc g none) ∧ zg0 (Below w0.heap.size w0 wc))
 case first =>
  have H := HC3.1
  clear HC3
  by_cases c5 : (YA.length : Int) = 0
  ·rw [if_pos c5] at H
   have c5b0 : ((YA.length : Int) == 0) = true := beq_iff_eq.mpr c5
   have c5b1 : ((YA.length : Int) != 0) = false := bne_eq_false_iff_eq.mpr c5
   clear c5
   (skip)
   have H' := hqZ H
   clear H
   have hnb6 := vX.1
   have hnc6 := ol.1
   have jC : w4.cell? ⟨vu, 0, none⟩ = some (.slice UG YA.length UH) := (zf0 YQ.1 0).trans rfl
   have jD := zc0 YQ.1 0
   go_wp2
   go_meet
   case rel => exact ⟨_, (true), (Jv), (JQ), (rfl), H', ⟨by omega⟩, ⟨YQ.1⟩, ⟨Jg.1⟩, ⟨HK.1⟩, ⟨HB.1⟩⟩
  rw [if_neg c5] at H
  have c5b0 : ((YA.length : Int) == 0) = false := beq_eq_false_iff_ne.mpr c5
  have c5b1 : ((YA.length : Int) != 0) = true := bne_iff_ne.mpr c5
  have c5b2 : ¬ (YA = []) := fun h_ => c5 (by rw [h_]; rfl)
  (skip)
  replace H := Option.bind_eq_some_iff.mp H
  obtain ⟨⟨bC, bD, bE⟩, A80, H⟩ := H
  try dsimp only at H
  have A8 := hqZ A80
  clear A80
  have H' := hqZ H
  clear H
  have hnb9 := vX.1
  have hnc9 := ol.1
  have Y0 : w4.cell? ⟨vu, 0, none⟩ = some (.slice UG YA.length UH) := (zf0 YQ.1 0).trans rfl
  have Y1 := zc0 YQ.1 0
  go_wp2_with ((go_at_call 34; (with_reducible refine (ys0.calls g J6 Jv JQ 14 bC bD bE w0 _ ?side1 ?side2 A8.1).mono ?_); (case side1 => exact Jg.1); (case side2 => exact HB.1); rintro e w11 ⟨rfl, hi, hb, hk⟩; replace YQ := hqZ (zh0.blk hk (g' := vu) (YQ.1) vX.1 (by simp)); replace HK := hqZ (zh0.trans (HK.1) hk (.inl rfl)); replace HB := hqZ (hb); replace Jg := hqZ (hi); clear hb hk hi))
  go_meet
  case rel => exact ⟨_, (bC), (bD), (bE), (rfl), H', ⟨by omega⟩, ⟨YQ.1⟩, ⟨Jg.1⟩, ⟨HK.1⟩, ⟨HB.1⟩⟩
 case rest =>
  clear HC3
  try clear c1
  try clear p2
  try clear c3
  try clear c5
  try clear c5b0
  try clear c5b1
  try clear c5b2
  try clear c6
  try clear c9
  try clear Y0
  try clear jC
  try clear Y1
  try clear jD
  obtain ⟨kq, d4, V0, V1, rfl, HA, HJ2, YQ, Jg, HK, HB⟩ := hcut
  cases kq with
  | zero => exact absurd HA.1 (by simp [yx0.j0])
  | succ kj2 =>
   have H := HA.1
   clear HA
   simp only [yx0.j0] at H
   by_cases c12 : d4 = true
   rotate_left
   ·replace c12 := Bool.eq_false_iff.mpr c12
    subst c12
    rw [if_neg (show ¬ (false = true) by decide)] at H
    replace H := Option.bind_eq_some_iff.mp H
    obtain ⟨⟨Je8, Je9, Jf0⟩, A200, H⟩ := H
    try dsimp only at H
    have A20 := hqZ A200
    clear A200
    simp only [Option.some.injEq, Prod.mk.injEq] at H
    obtain ⟨rfl, rfl, rfl⟩ := H
    have hnb21 := vX.1
    have hnc21 := ol.1
    have Yp : wc.cell? ⟨vu, 0, none⟩ = some (.slice UG YA.length UH) := (zf0 YQ.1 0).trans rfl
    have Yq := zc0 YQ.1 0
    go_wp2_with (((with_reducible refine ze0 (f := 55) rfl ?_); refine zM (some 23) Try.func55 #[.pointer (some ⟨g, 0, none⟩), .int .i64 (YA.length : Int)] ?_; (with_reducible refine (yz0.calls g J6 V0 V1 (YA.length : Int) Je8 Je9 Jf0 w0 _ ?side1 ?side2 A20.1).mono ?_); (case side1 => exact Jg.1); (case side2 => exact HB.1); rintro e w23 ⟨rfl, hi, hb, hk⟩; refine ⟨_, rfl, ?_⟩; replace YQ := hqZ (zh0.blk hk (g' := vu) (YQ.1) vX.1 (by simp)); replace HK := hqZ (zh0.trans (HK.1) hk (.inl rfl)); replace HB := hqZ (hb); replace Jg := hqZ (hi); clear hb hk hi))
    go_ret
    exact ⟨rfl, Jg.1, HB.1, HK.1⟩
   subst c12
   rw [if_pos rfl] at H
   obtain ⟨DU, hy434⟩ : ∃ y_ : List Int, y_ = (([(-1), 0, (YA.length : Int), 4611686018427387904] : List Int)) := ⟨_, rfl⟩
   replace H : ((yb2.f J6 V0 V1 DU).bind fun oL => (some (oL.1, oL.2.1, oL.2.2))) = some (r1, r2, r3) := by (rw [hy434]; with_reducible exact H)
   have Ny434 := hqZ hy434
   clear hy434
   replace H := Option.bind_eq_some_iff.mp H
   obtain ⟨⟨Jf1, Jf2, Jf3⟩, A130, H⟩ := H
   try dsimp only at H
   have A13 := hqZ A130
   clear A130
   simp only [Option.some.injEq, Prod.mk.injEq] at H
   obtain ⟨rfl, rfl, rfl⟩ := H
   have hnb14 := vX.1
   have hnc14 := ol.1
   have jL : wc.cell? ⟨vu, 0, none⟩ = some (.slice UG YA.length UH) := (zf0 YQ.1 0).trans rfl
   have jM := zc0 YQ.1 0
   go_wp2_with (first | ((with_reducible refine zi0 (N := 17) rfl ?_); refine Kd.R_lit (Kd.int .i64) _ 3 ?hg (N := 17) ?hd (xs := ([(-1), 0, (YA.length : Int), 4611686018427387904] : List Int)) (inner := [.int .i64 (-1), .int .i64 0, .int .i64 (YA.length : Int), .int .i64 4611686018427387904]) (ok := fun _ => True) (okp := fun _ => True) ?hr ?hp (fun _ hk => hk) trivial (Below.refl _ _) (Nat.le_refl _) (by simp) ?_; (case hd | hg => rfl); (case hr => go_simp); (case hp => exact (Reps.one (show Kd.M (Kd.int .i64) _ _ _ (-1) [.int .i64 (-1)] from rfl) (Reps.one (show Kd.M (Kd.int .i64) _ _ _ 0 [.int .i64 0] from rfl) (Reps.one (show Kd.M (Kd.int .i64) _ _ _ (YA.length : Int) [.int .i64 (YA.length : Int)] from rfl) (Reps.one (show Kd.M (Kd.int .i64) _ _ _ 4611686018427387904 [.int .i64 4611686018427387904] from rfl) (Reps.none _ _)))))); intro v435 w16 ho17 hb hg_ hnew_; clear hg_ hnew_; (rw [← Ny434.1] at ho17); have Ub := hqZ (Kd.R_lower ho17 (zj0 (w := w) (g := g) (row := none) (HK.1))); replace YQ := hqZ (zd0 (g := vu) (YQ.1) hb); replace HK := hqZ (zh0.trans (HK.1) (zh0.of_below hb g none) (.inl rfl)); replace HB := hqZ (za0 (HB.1) hb); replace Jg := hqZ (IsS46.below (Jg.1) hb); clear hb ho17; obtain ⟨qn, Uy, eo18⟩ := Kd.R_slice Ub.1; subst eo18) | ((with_reducible refine ze0 (f := 56) rfl ?_); refine zM (some 18) Try.func56 #[.pointer (some ⟨g, 0, none⟩), .slice qn DU.length Uy] ?_; (with_reducible refine (yb2.calls g J6 V0 V1 _ _ DU Jf1 Jf2 Jf3 w0 _ ?side1 ?side2 ?side3 ?side4 ?side5 A13.1).mono ?_); (case side1 => exact Jg.1); (case side2 => exact HB.1); (case side3 => exact (Kd.R_reads' Ub.1).2.2); (case side4 => exact (Kd.R_reads' Ub.1).2.1); (case side5 => exact far_slice (IsS46.own_ne Jg.1 Ub.1 (by decide))); rintro e w19 ⟨rfl, hi, hb, hk⟩; refine ⟨_, rfl, ?_⟩; replace YQ := hqZ (zh0.blk hk (g' := vu) (YQ.1) vX.1 (by simp)); replace Ub := hqZ (Kd.R_mono (Kd.R_keep (IsS46.apart (show IsS46 w0 _ g J6 V0 V1 from Jg.1) (Ub.1) (by decide)) hk (fun _ h => h.2)) (fun _ h => h.1)); replace HK := hqZ (zh0.trans (HK.1) hk (.inl rfl)); replace HB := hqZ (hb); replace Jg := hqZ (hi); clear hb hk hi))
   go_ret
   exact ⟨rfl, Jg.1, HB.1, HK.1⟩
def yc2.f (k : Nat) (J6 : List Int) (Jv : Int) (JQ : Int) : Option ((List (List Int)) × Int × Int × Int) := (yc0.f k J6 Jv JQ).bind fun vH => ((ys0.f J6 vH.2.2.1 vH.2.2.2 10).bind fun jn => (if jn.1 = true then ((yx0.f k J6 jn.2.1 jn.2.2 vH.1).bind fun YR => (some (vH.1, YR.1, YR.2.1, YR.2.2))) else (some (vH.1, vH.2.1, jn.2.1, jn.2.2))))
theorem yc2.mono : ∀ a0 a1 a2 k, LeO (yc2.f k a0 a1 a2) (yc2.f (k + 1) a0 a1 a2) := by
 intro a0 a1 a2 k
 unfold yc2.f
 repeat' (with_reducible first | apply yx0.mono | apply yc0.mono | apply LeO.refl | apply LeO.none | refine LeO.ite ?_ ?_ | refine LeO.bind ?_ (fun _ => ?_))
theorem yc2.calls (k : Nat) (A0 : Option Addr) (c0 : Nat) (J6 : List Int) (r1 : List (List Int)) (r2 : Int) (r3 : Int) (r4 : Int) (w : World) (hr0 : Kd.C (Kd.int .u8) w A0 J6.length J6) (hc0 : J6.length ≤ c0) (h : yc2.f k J6 0 0 = some (r1, r2, r3, r4)) :
  Calls Try.prog 45 #[.slice A0 J6.length c0] w fun e w' => ∃ v0_ : Value, e = .returned (.tuple #[.agg #[v0_], .int .i64 r2]) ∧ Kd.N (Kd.slice 3 (Kd.int .i64)) 27 w' w.heap.size (fun k_ => (w.heap.size ≤ k_)) v0_ r1 ∧ Below w.heap.size w w' := by
 have hu26 := Try.underlying26
 have hu46 := Try.underlying46
 have uU := hqZ hr0
 clear hr0
 have HW0 := hqZ (Nat.le_refl w.heap.size)
 have HL := hqZ (Nat.le_refl w.heap.size)
 have HB := hqZ (Below.refl w.heap.size w)
 have H : ((yc0.f k J6 0 0).bind fun vH => ((ys0.f J6 vH.2.2.1 vH.2.2.2 10).bind fun jn => (if jn.1 = true then ((yx0.f k J6 jn.2.1 jn.2.2 vH.1).bind fun YR => (some (vH.1, YR.1, YR.2.1, YR.2.2))) else (some (vH.1, vH.2.1, jn.2.1, jn.2.2))))) = some (r1, r2, r3, r4) := h
 clear h
 replace H := Option.bind_eq_some_iff.mp H
 obtain ⟨⟨jE, Ej, X7, X8⟩, A20, H⟩ := H
 replace H : ((ys0.f J6 X7 X8 10).bind fun jn => (if jn.1 = true then ((yx0.f k J6 jn.2.1 jn.2.2 jE).bind fun YR => (some (jE, YR.1, YR.2.1, YR.2.2))) else (some (jE, Ej, jn.2.1, jn.2.2)))) = some (r1, r2, r3, r4) := H
 have A2 := hqZ A20
 clear A20
 replace H := Option.bind_eq_some_iff.mp H
 obtain ⟨⟨UI, XI, qz⟩, A30, H⟩ := H
 replace H : (if UI = true then ((yx0.f k J6 XI qz jE).bind fun YR => (some (jE, YR.1, YR.2.1, YR.2.2))) else (some (jE, Ej, XI, qz))) = some (r1, r2, r3, r4) := H
 have A3 := hqZ A30
 clear A30
 by_cases c4 : UI = true
 rotate_left
 ·replace c4 := Bool.eq_false_iff.mpr c4
  subst c4
  have H1 : (some (jE, Ej, XI, qz)) = some (r1, r2, r3, r4) := by rw [if_neg (show ¬ (false = true) by decide)] at H; exact H
  clear H
  have H := H1
  clear H1
  simp only [Option.some.injEq, Prod.mk.injEq] at H
  obtain ⟨rfl, rfl, rfl, rfl⟩ := H
  go_enter Try.func45, Try.ntmps45
  go_wp2_with (first | ((with_reducible refine zi0 (N := 2) rfl ?_); refine zk0 ?hg (N := 2) ?hd (cs := #[.slice none 0 0]) (t := 26) ?hr ?_; (case hd | hg => rfl); (case hr => go_simp); intro Ve hg wA hbox hb; have n2_ := hqZ (za0 (HB.1) hb); have n3_ := hqZ hbox; have n4_ := hqZ ((by rw [hg]; exact (show Below w.heap.size w _ from HB.1).size) : w.heap.size ≤ Ve); clear HB; have HB := n2_; have Vr := n3_; have bF := n4_; have Ek := n4_; clear n2_ n3_ n4_; clear hb hbox hg) | ((with_reducible refine zi0 (N := 9) rfl ?_); refine zk0 ?hg (N := 9) ?hd (cs := #[.slice A0 J6.length c0, .int .i64 0, .int .u64 0]) (t := 46) ?hr ?_; (case hd | hg => rfl); (case hr => go_simp); intro g hg wB hbox hb; have Jg := hqZ (⟨A0, c0, hbox, (by rw [hg]; exact (show Below w.heap.size w _ from HB.1).size), uU.1⟩ : IsS46 w wB g J6 0 0); have HK := hqZ (zh0.of_below (za0 (HB.1) hb) g none); replace HB := hqZ (za0 (HB.1) hb); have d5 := hqZ (by rw [hg]; exact Nat.ne_of_gt (blk_lt (g := Ve) (o := .cells #[.slice none 0 0] 26 (0, 0)) (Vr.1)) : g ≠ Ve); have vY := hqZ (by rw [hg]; exact Nat.ne_of_lt (blk_lt (g := Ve) (o := .cells #[.slice none 0 0] 26 (0, 0)) (Vr.1)) : Ve ≠ g); replace Vr := hqZ (zd0 (g := Ve) (o := .cells #[.slice none 0 0] 26 (0, 0)) (Vr.1) hb); clear hb hbox hg) | ((with_reducible refine ze0 (f := 54) rfl ?_); refine zM (some 12) Try.func54 #[.pointer (some ⟨g, 0, none⟩)] ?_; (with_reducible refine (yc0.calls k g J6 0 0 jE Ej X7 X8 w _ ?side1 ?side2 A2.1).mono ?_); (case side1 => repeat (exact Jg.1)); (case side2 => exact HB.1); rintro e w18 ⟨v365, rfl, ho0, hi, hb, hk⟩; refine ⟨_, rfl, ?_⟩; have Yw := hqZ (Kd.N_lower (Kd.N_mono (ok' := fun k_ => (w.heap.size ≤ k_) ∧ k_ ≠ Ve ∧ k_ ≠ g) ho0 (fun k_ hk_ => ⟨(Nat.le_trans (zj0 (w := w) (g := g) (row := none) (HK.1)) hk_), (Kd.freshB (g := Ve) (o := .cells #[.slice none 0 0] 26 (0, 0)) (Vr.1) k_ hk_), (IsS46.fresh (Jg.1) k_ hk_)⟩)) (zj0 (w := w) (g := g) (row := none) (HK.1))); replace Vr := hqZ (zh0.blk hk (g' := Ve) (o := .cells #[.slice none 0 0] 26 (0, 0)) (Vr.1) vY.1 (by simp)); replace HK := hqZ (zh0.trans (HK.1) hk (.inl rfl)); replace HB := hqZ (hb); replace Jg := hqZ (hi); clear hb hk hi ho0) | ((with_reducible refine zi0 (N := 5) rfl ?_); refine zk0 ?hg (N := 5) ?hd (cs := #[.slice none 0 0]) (t := 26) ?hr ?_; (case hd | hg => rfl); (case hr => go_simp); intro JV hg w19 hbox hb; replace Yw := hqZ (Kd.N_below (Kd.N_elderB (Yw.1) JV (Nat.le_of_eq hg.symm)) hb); replace HB := hqZ (za0 (HB.1) hb); have Vc := hqZ (hbox); have oN := hqZ ((by rw [hg]; exact (zj0 (w := w) (g := g) (row := none) (HK.1)) : w.heap.size ≤ JV)); have oO := hqZ ((Nat.le_trans HW0.1 (by rw [hg]; exact (zj0 (w := w) (g := g) (row := none) (HK.1)) : w.heap.size ≤ JV) : w.heap.size ≤ JV)); replace HK := hqZ (zh0.trans (HK.1) (zh0.of_below hb g none) (.inl rfl)); have jU := hqZ ((by rw [hg]; exact Nat.ne_of_lt (blk_lt (g := Ve) (o := .cells #[.slice none 0 0] 26 (0, 0)) (Vr.1)) : Ve ≠ JV)); have vI := hqZ ((by rw [hg]; exact Nat.ne_of_gt (blk_lt (g := Ve) (o := .cells #[.slice none 0 0] 26 (0, 0)) (Vr.1)) : JV ≠ Ve)); replace Vr := hqZ (zd0 (g := Ve) (o := .cells #[.slice none 0 0] 26 (0, 0)) (Vr.1) hb); have Xl := hqZ ((by rw [hg]; exact Nat.ne_of_lt (IsS46.lt (show IsS46 w _ g J6 X7 X8 from Jg.1)) : g ≠ JV)); have uN := hqZ ((by rw [hg]; exact Nat.ne_of_gt (IsS46.lt (show IsS46 w _ g J6 X7 X8 from Jg.1)) : JV ≠ g)); replace Jg := hqZ (IsS46.below (Jg.1) hb); clear hb hbox hg; obtain ⟨oZ, U0, eo20⟩ := Kd.N_slice Yw.1; subst eo20; have hnb21 := vI.1; have hnc21 := jU.1; have hnb22 := uN.1; have hnc22 := Xl.1; have Ul : w19.cell? ⟨JV, 0, none⟩ = some (.slice none 0 0) := (zf0 Vc.1 0).trans rfl; have Um := zc0 Vc.1 0) | ((with_reducible refine ze0 (f := 34) rfl ?_); refine zM (some 16) Try.func34 #[.pointer (some ⟨g, 0, none⟩), .int .i64 10] ?_; (with_reducible refine (ys0.calls g J6 X7 X8 10 false XI qz w _ ?side1 ?side2 A3.1).mono ?_); (case side1 => repeat ((with_reducible first | exact Jg.1 | refine IsS46.far ?_ Xl.1 _))); (case side2 => repeat ((with_reducible first | exact HB.1 | refine zm0 ?_ oO.1))); rintro e w24 ⟨rfl, hi, hb, hk⟩; refine ⟨_, rfl, ?_⟩; replace Vr := hqZ (zh0.blk hk (g' := Ve) (o := .cells #[.slice none 0 0] 26 (0, 0)) (by refine blk_far ?_ jU.1 _; exact Vr.1) vY.1 (by simp)); replace Yw := hqZ (Kd.N_mono (Kd.N_keep (Kd.N_mono (ok := fun k_ => ((((w.heap.size ≤ k_)) ∧ (k_ ≠ Ve ∧ k_ ≠ g)) ∧ k_ ≠ JV)) ((Kd.N_mono (Kd.N_far (p := ⟨JV, 0, none⟩) (Kd.N_mono Yw.1 (fun k_ hk => (⟨hk, hk.2⟩ : _ ∧ k_ ≠ JV))) (fun _ hk => hk.2) (.slice oZ jE.length U0)) (fun _ h_ => h_.1))) (fun k_ hk_ => (⟨hk_, hk_.1.2.2⟩ : _ ∧ k_ ≠ g))) hk (fun _ h => h.2)) (fun _ h => h.1)); replace Vc := hqZ (zh0.blk hk (g' := JV) (o := .cells #[.slice oZ jE.length U0] 26 (0, 0)) (by refine blk_put (cs := #[.slice none 0 0]) ?_ 0 _ rfl; exact Vc.1) uN.1 (by simp)); replace HK := hqZ (zh0.trans (keep_far HK.1 oN.1 _) hk (.inl rfl)); replace HB := hqZ (hb); replace Jg := hqZ (hi); clear hb hk hi; have Zg : w24.cell? ⟨JV, 0, none⟩ = some (.slice oZ jE.length U0) := (zf0 Vc.1 0).trans rfl; have Zh := zc0 Vc.1 0; have hnb26 := vY.1; have hnc26 := d5.1; have NI : w24.cell? ⟨Ve, 0, none⟩ = some (.slice none 0 0) := (zf0 Vr.1 0).trans rfl; have NJ := zc0 Vr.1 0))
  refine bodyPost_ret (results_ct rfl _ _ Ve 26 #[.slice oZ jE.length U0] (0, 0) _ rfl (by refine blk_put (cs := #[.slice none 0 0]) ?_ 0 _ rfl; exact Vr.1) Try.underlying26 rfl (by kernel_rfl)) rfl ?_
  exact ⟨_, rfl, Kd.N_mono (Kd.N_far (p := ⟨Ve, 0, none⟩) (Kd.N_mono Yw.1 (fun k_ hk => (⟨hk, hk.1.2.1⟩ : _ ∧ k_ ≠ Ve))) (fun _ hk => hk.2) (.slice oZ jE.length U0)) (fun _ hk => hk.1.1.1), zm0 HB.1 Ek.1⟩
 subst c4
 have H1 : ((yx0.f k J6 XI qz jE).bind fun YR => (some (jE, YR.1, YR.2.1, YR.2.2))) = some (r1, r2, r3, r4) := by rw [if_pos rfl] at H; exact H
 clear H
 have H := H1
 clear H1
 replace H := Option.bind_eq_some_iff.mp H
 obtain ⟨⟨bG, bH, bI⟩, A50, H⟩ := H
 replace H : (some (jE, bG, bH, bI)) = some (r1, r2, r3, r4) := H
 have A5 := hqZ A50
 clear A50
 simp only [Option.some.injEq, Prod.mk.injEq] at H
 obtain ⟨rfl, rfl, rfl, rfl⟩ := H
 go_enter Try.func45, Try.ntmps45
 try go_wp2_with (first | ((with_reducible refine zi0 (N := 2) rfl ?_); refine zk0 ?hg (N := 2) ?hd (cs := #[.slice none 0 0]) (t := 26) ?hr ?_; (case hd | hg => rfl); (case hr => go_simp); intro Ve hg wA hbox hb; have n2_ := hqZ (za0 (HB.1) hb); have n3_ := hqZ hbox; have n4_ := hqZ ((by rw [hg]; exact (show Below w.heap.size w _ from HB.1).size) : w.heap.size ≤ Ve); clear HB; have HB := n2_; have Vr := n3_; have bF := n4_; have Ek := n4_; clear n2_ n3_ n4_; clear hb hbox hg) | ((with_reducible refine zi0 (N := 9) rfl ?_); refine zk0 ?hg (N := 9) ?hd (cs := #[.slice A0 J6.length c0, .int .i64 0, .int .u64 0]) (t := 46) ?hr ?_; (case hd | hg => rfl); (case hr => go_simp); intro g hg wB hbox hb; have Jg := hqZ (⟨A0, c0, hbox, (by rw [hg]; exact (show Below w.heap.size w _ from HB.1).size), uU.1⟩ : IsS46 w wB g J6 0 0); have HK := hqZ (zh0.of_below (za0 (HB.1) hb) g none); replace HB := hqZ (za0 (HB.1) hb); have d5 := hqZ (by rw [hg]; exact Nat.ne_of_gt (blk_lt (g := Ve) (o := .cells #[.slice none 0 0] 26 (0, 0)) (Vr.1)) : g ≠ Ve); have vY := hqZ (by rw [hg]; exact Nat.ne_of_lt (blk_lt (g := Ve) (o := .cells #[.slice none 0 0] 26 (0, 0)) (Vr.1)) : Ve ≠ g); replace Vr := hqZ (zd0 (g := Ve) (o := .cells #[.slice none 0 0] 26 (0, 0)) (Vr.1) hb); clear hb hbox hg) | ((with_reducible refine ze0 (f := 54) rfl ?_); refine zM (some 12) Try.func54 #[.pointer (some ⟨g, 0, none⟩)] ?_; (with_reducible refine (yc0.calls k g J6 0 0 jE Ej X7 X8 w _ ?side1 ?side2 A2.1).mono ?_); (case side1 => repeat (exact Jg.1)); (case side2 => exact HB.1); rintro e w7 ⟨v365, rfl, ho0, hi, hb, hk⟩; refine ⟨_, rfl, ?_⟩; have Yw := hqZ (Kd.N_lower (Kd.N_mono (ok' := fun k_ => (w.heap.size ≤ k_) ∧ k_ ≠ Ve ∧ k_ ≠ g) ho0 (fun k_ hk_ => ⟨(Nat.le_trans (zj0 (w := w) (g := g) (row := none) (HK.1)) hk_), (Kd.freshB (g := Ve) (o := .cells #[.slice none 0 0] 26 (0, 0)) (Vr.1) k_ hk_), (IsS46.fresh (Jg.1) k_ hk_)⟩)) (zj0 (w := w) (g := g) (row := none) (HK.1))); replace Vr := hqZ (zh0.blk hk (g' := Ve) (o := .cells #[.slice none 0 0] 26 (0, 0)) (Vr.1) vY.1 (by simp)); replace HK := hqZ (zh0.trans (HK.1) hk (.inl rfl)); replace HB := hqZ (hb); replace Jg := hqZ (hi); clear hb hk hi ho0) | ((with_reducible refine zi0 (N := 5) rfl ?_); refine zk0 ?hg (N := 5) ?hd (cs := #[.slice none 0 0]) (t := 26) ?hr ?_; (case hd | hg => rfl); (case hr => go_simp); intro JV hg w8 hbox hb; replace Yw := hqZ (Kd.N_below (Kd.N_elderB (Yw.1) JV (Nat.le_of_eq hg.symm)) hb); replace HB := hqZ (za0 (HB.1) hb); have Vc := hqZ (hbox); have oN := hqZ ((by rw [hg]; exact (zj0 (w := w) (g := g) (row := none) (HK.1)) : w.heap.size ≤ JV)); have oO := hqZ ((Nat.le_trans HW0.1 (by rw [hg]; exact (zj0 (w := w) (g := g) (row := none) (HK.1)) : w.heap.size ≤ JV) : w.heap.size ≤ JV)); replace HK := hqZ (zh0.trans (HK.1) (zh0.of_below hb g none) (.inl rfl)); have jU := hqZ ((by rw [hg]; exact Nat.ne_of_lt (blk_lt (g := Ve) (o := .cells #[.slice none 0 0] 26 (0, 0)) (Vr.1)) : Ve ≠ JV)); have vI := hqZ ((by rw [hg]; exact Nat.ne_of_gt (blk_lt (g := Ve) (o := .cells #[.slice none 0 0] 26 (0, 0)) (Vr.1)) : JV ≠ Ve)); replace Vr := hqZ (zd0 (g := Ve) (o := .cells #[.slice none 0 0] 26 (0, 0)) (Vr.1) hb); have Xl := hqZ ((by rw [hg]; exact Nat.ne_of_lt (IsS46.lt (show IsS46 w _ g J6 X7 X8 from Jg.1)) : g ≠ JV)); have uN := hqZ ((by rw [hg]; exact Nat.ne_of_gt (IsS46.lt (show IsS46 w _ g J6 X7 X8 from Jg.1)) : JV ≠ g)); replace Jg := hqZ (IsS46.below (Jg.1) hb); clear hb hbox hg; obtain ⟨E8, uV, eo9⟩ := Kd.N_slice Yw.1; subst eo9; have hnb10 := vI.1; have hnc10 := jU.1; have hnb11 := uN.1; have hnc11 := Xl.1; have jj : w8.cell? ⟨JV, 0, none⟩ = some (.slice none 0 0) := (zf0 Vc.1 0).trans rfl; have jk := zc0 Vc.1 0) | ((with_reducible refine ze0 (f := 34) rfl ?_); refine zM (some 16) Try.func34 #[.pointer (some ⟨g, 0, none⟩), .int .i64 10] ?_; (with_reducible refine (ys0.calls g J6 X7 X8 10 true XI qz w _ ?side1 ?side2 A3.1).mono ?_); (case side1 => repeat ((with_reducible first | exact Jg.1 | refine IsS46.far ?_ Xl.1 _))); (case side2 => repeat ((with_reducible first | exact HB.1 | refine zm0 ?_ oO.1))); rintro e w13 ⟨rfl, hi, hb, hk⟩; refine ⟨_, rfl, ?_⟩; replace Vr := hqZ (zh0.blk hk (g' := Ve) (o := .cells #[.slice none 0 0] 26 (0, 0)) (by refine blk_far ?_ jU.1 _; exact Vr.1) vY.1 (by simp)); replace Yw := hqZ (Kd.N_mono (Kd.N_keep (Kd.N_mono (ok := fun k_ => ((((w.heap.size ≤ k_)) ∧ (k_ ≠ Ve ∧ k_ ≠ g)) ∧ k_ ≠ JV)) ((Kd.N_mono (Kd.N_far (p := ⟨JV, 0, none⟩) (Kd.N_mono Yw.1 (fun k_ hk => (⟨hk, hk.2⟩ : _ ∧ k_ ≠ JV))) (fun _ hk => hk.2) (.slice E8 jE.length uV)) (fun _ h_ => h_.1))) (fun k_ hk_ => (⟨hk_, hk_.1.2.2⟩ : _ ∧ k_ ≠ g))) hk (fun _ h => h.2)) (fun _ h => h.1)); replace Vc := hqZ (zh0.blk hk (g' := JV) (o := .cells #[.slice E8 jE.length uV] 26 (0, 0)) (by refine blk_put (cs := #[.slice none 0 0]) ?_ 0 _ rfl; exact Vc.1) uN.1 (by simp)); replace HK := hqZ (zh0.trans (keep_far HK.1 oN.1 _) hk (.inl rfl)); replace HB := hqZ (hb); replace Jg := hqZ (hi); clear hb hk hi))
 have n0_ := hqZ (Kd.N_drew Yw.1)
 have n1_ := hqZ (blk_drew Vr.1)
 have n2_ := hqZ (blk_drew Vc.1)
 have n3_ := hqZ (IsS46.drew Jg.1)
 have n4_ := hqZ (keep_drew HK.1)
 have n5_ := hqZ (below_drew1 HB.1)
 clear Yw Vr Vc Jg HK HB
 have Yw := n0_
 have Vr := n1_
 have Vc := n2_
 have Jg := n3_
 have HK := n4_
 have HB := n5_
 clear n0_ n1_ n2_ n3_ n4_ n5_
 refine start_ (n := 6) (S := fun w' => w'.cell? ⟨JV, 0, none⟩ = some (.slice E8 jE.length uV)) (ds := []) #[false, false, false, false, false, false] (by kernel_rfl) rfl rfl ((zf0 Vc.1 0).trans rfl) (fun hHeld => ?_)
 generalize w13.drew = w14 at Yw Vr Vc Jg HK HB hHeld ⊢
 refine pu 1 (some 18) (v := ?_) (a' := ?_) (bf 6 2) ?_ ?_ ?_
 rotate_left
 ·intro w'; go_simp; with_reducible rfl
 rotate_left
 ·simp only [Act.put, zA, zB, zC, i64_w, i32_w]; rfl
 refine take_ (i := 0) (N := some 17) (v := ?_) (a' := ?_) (bf 6 3) rfl rfl (by kernel_rfl) (fun _ _ _ h => h) (Or.inl ⟨by rfl, ?_⟩) hHeld ?_ ?_
 rotate_left
 ·intro w' s0
  go_simp
  with_reducible rfl
 rotate_left
 ·simp only [Act.put, zA, zB, zC, i64_w, i32_w]; rfl
 refine take_ (i := 2) (N := some 19) (v := ?_) (a' := ?_) (bf 6 7) rfl rfl (by kernel_rfl) (fun _ _ _ h => h) (Or.inl ⟨by rfl, ?_⟩) hHeld ?_ ?_
 rotate_left
 ·intro w' s0
  go_simp
  with_reducible rfl
 rotate_left
 ·simp only [Act.put, zA, zB, zC, i64_w, i32_w]; rfl
 refine one_ (i := 3) (N := some 20) (bf 6 15) rfl rfl (by kernel_rfl) (by decide) (fun K hK => ?_)
 refine goes_ Try.func35 (by kernel_rfl) rfl #[.pointer (some ⟨g, 0, none⟩), .agg #[.slice E8 jE.length uV]] (by rfl) rfl rfl (by simp only [hqa, hqb, hqc]; rfl) ?_
 with_reducible refine (yx0.calls k g J6 XI qz _ _ jE bG bH bI w _ ?side1 ?side2 ?side3 ?side4 A5.1).mono ?_
 (case side1 => exact Jg.1)
 (case side2 => exact HB.1)
 (case side3 => exact Kd.C_foot_ownV (base := 0) (Kd.N_V (Kd.N_mono (ok := fun k_ => ((((w.heap.size ≤ k_)) ∧ (k_ ≠ Ve ∧ k_ ≠ g)) ∧ k_ ≠ JV)) (Yw.1) (fun k_ hk_ => (⟨hk_, hk_.1.2.2⟩ : _ ∧ k_ ≠ g)))) (fun _ h_ => h_.2))
 (case side4 => exact (Kd.N_reads' Yw.1).2.1)
 rintro e w15 ⟨rfl, hi, hb, hk⟩
 refine ⟨_, rfl, ?_⟩
 have n0_ := hqZ (zh0.blk hk (g' := Ve) (o := .cells #[.slice none 0 0] 26 (0, 0)) (Vr.1) vY.1 (by simp))
 have n1_ := hqZ (Kd.N_mono (Kd.N_keep (Kd.N_mono (ok := fun k_ => ((((w.heap.size ≤ k_)) ∧ (k_ ≠ Ve ∧ k_ ≠ g)) ∧ k_ ≠ JV)) (Yw.1) (fun k_ hk_ => (⟨hk_, hk_.1.2.2⟩ : _ ∧ k_ ≠ g))) hk (fun _ h => h.2)) (fun _ h => h.1))
 have n2_ := hqZ (zh0.blk hk (g' := JV) (o := .cells #[.slice E8 jE.length uV] 26 (0, 0)) (Vc.1) uN.1 (by simp))
 have n3_ := hqZ (zh0.trans (HK.1) hk (.inl rfl))
 have n4_ := hqZ (hb)
 have n5_ := hqZ (hi)
 clear Vr Yw Vc HK HB Jg
 have Vr := n0_
 have Yw := n1_
 have Vc := n2_
 have HK := n3_
 have HB := n4_
 have Jg := n5_
 clear n0_ n1_ n2_ n3_ n4_ n5_
 (try clear hb)
 (try clear hb2)
 (try clear hk)
 (try clear hi)
 refine hK.out _ _ ((zf0 Vc.1 0).trans rfl) (fun hHeld => ?_)
 clear hK K
 refine norm_ (a' := ?_) ?_ ?_
 rotate_left
 ·show Act.put _ (some 20) _ = _; simp only [Act.put, zA, zB, zC, i64_w, i32_w]; rfl
 refine one_ (i := 4) (N := none) (bf 6 31) rfl rfl (by kernel_rfl) (by decide) (fun K hK => ?_)
 have hs16 : w15.cell? ⟨Ve, 0, none⟩ = some (.slice none 0 0) := (zf0 Vr.1 0).trans rfl
 have hfs16 := zc0 Vr.1 0
 have hns16_1 := vI.1
 have hms16_1 := jU.1
 refine skip_ (w1 := ?_) (by rfl) rfl ?_ ?_
 rotate_left
 ·go_simp
  rfl
 refine hK.out _ _ (((cell_far (p := ⟨Ve, _, none⟩) vI.1 _).trans (hHeld))) (fun hHeld => ?_)
 clear hK K
 refine pu 5 (some 3) (v := ?_) (a' := ?_) (bf 6 63) ?_ ?_ ?_
 rotate_left
 ·intro w'; go_simp; with_reducible rfl
 rotate_left
 ·simp only [Act.put, zA, zB, zC, i64_w, i32_w]; rfl
 refine done_ (by kernel_rfl) ?_
 try go_wp2
 refine bodyPost_ret (results_ct rfl _ _ Ve 26 #[.slice E8 jE.length uV] (0, 0) _ rfl (by refine blk_put (cs := #[.slice none 0 0]) ?_ 0 _ rfl; exact Vr.1) Try.underlying26 rfl (by kernel_rfl)) rfl ?_
 exact ⟨_, rfl, Kd.N_mono (Kd.N_far (p := ⟨Ve, 0, none⟩) (Kd.N_mono Yw.1 (fun k_ hk => (⟨hk, hk.1.2.1⟩ : _ ∧ k_ ≠ Ve))) (fun _ hk => hk.2) (.slice E8 jE.length uV)) (fun _ hk => hk.1.1.1), zm0 HB.1 Ek.1⟩
def yz1.f (k : Nat) (l0 : List Int) : Option ((List (List Int)) × Int) := (yc2.f k l0 0 0).bind fun t => some (t.1, t.2.1)
theorem yz1.mono : ∀ a0 k, LeO (yz1.f k a0) (yz1.f (k + 1) a0) := fun a0 k => LeO.bind (yc2.mono _ _ _ _) (fun _ => LeO.refl _)
theorem yz1.calls (k : Nat) (A0 : Option Addr) (c0 : Nat) (l0 : List Int) (r1 : List (List Int)) (r2 : Int) (w : World) (hr0 : Kd.C (Kd.int .u8) w A0 l0.length l0) (hc0 : l0.length ≤ c0) (h : yz1.f k l0 = some (r1, r2)) :
  Calls Try.prog 45 #[.slice A0 l0.length c0] w fun e w' => ∃ v0_ : Value, e = .returned (.tuple #[.agg #[v0_], .int .i64 r2]) ∧ Kd.N (Kd.slice 3 (Kd.int .i64)) 27 w' w.heap.size (fun k_ => (w.heap.size ≤ k_)) v0_ r1 ∧ Below w.heap.size w w' := by
 unfold yz1.f at h
 obtain ⟨t, ht, h⟩ := Option.bind_eq_some_iff.mp h
 obtain ⟨z1, z2, z3, z4⟩ := t
 simp only [Option.some.injEq, Prod.mk.injEq] at h
 obtain ⟨rfl, rfl⟩ := h
 exact yc2.calls k A0 c0 l0 z1 z2 z3 z4 w hr0 hc0 ht
def yn1.f (k : Nat) (l0 : List Int) : Option ((List (List Int)) × Int) := (yz1.f k l0).bind fun UJ => (some (UJ.1, UJ.2))
theorem yn1.mono : ∀ a0 k, LeO (yn1.f k a0) (yn1.f (k + 1) a0) := by
 intro a0 k
 unfold yn1.f
 repeat' (with_reducible first | apply yz1.mono | apply LeO.refl | apply LeO.none | refine LeO.ite ?_ ?_ | refine LeO.bind ?_ (fun _ => ?_))
theorem yn1.calls (k : Nat) (A0 : Option Addr) (c0 : Nat) (l0 : List Int) (r1 : List (List Int)) (r2 : Int) (w : World) (hr0 : Kd.C (Kd.int .u8) w A0 l0.length l0) (hc0 : l0.length ≤ c0) (h : yn1.f k l0 = some (r1, r2)) :
  Calls Try.prog 18 #[.slice A0 l0.length c0] w fun e w' => ∃ v0_ : Value, e = .returned (.tuple #[.agg #[v0_], .int .i64 r2]) ∧ Kd.N (Kd.slice 3 (Kd.int .i64)) 27 w' w.heap.size (fun k_ => (w.heap.size ≤ k_)) v0_ r1 ∧ Below w.heap.size w w' := by
 have hu26 := Try.underlying26
 have uU := hqZ hr0
 have HC0 := hqZ hc0
 clear hr0 hc0
 have HB := hqZ (Below.refl w.heap.size w)
 have H : ((yz1.f k l0).bind fun UJ => (some (UJ.1, UJ.2))) = some (r1, r2) := h
 clear h
 replace H := Option.bind_eq_some_iff.mp H
 obtain ⟨⟨DV, Jf4⟩, A20, H⟩ := H
 try dsimp only at H
 have A2 := hqZ A20
 clear A20
 simp only [Option.some.injEq, Prod.mk.injEq] at H
 obtain ⟨rfl, rfl⟩ := H
 go_enter Try.func18, Try.ntmps18
 go_wp2_with (first | ((with_reducible refine zi0 (N := 2) rfl ?_); refine zk0 ?hg (N := 2) ?hd (cs := #[.slice none 0 0]) (t := 26) ?hr ?_; (case hd | hg => rfl); (case hr => go_simp); intro Xm hg w3 hbox hb; have Uc := hqZ (hbox); have Jk5 := hqZ ((by rw [hg]; exact (zb0 (HB.1)) : w.heap.size ≤ Xm)); have bJ := hqZ ((by rw [hg]; exact (zb0 (HB.1)) : w.heap.size ≤ Xm)); replace HB := hqZ (za0 (HB.1) hb); clear hb hbox hg) | ((with_reducible refine ze0 (f := 45) rfl ?_); refine zM (some 5) Try.func45 #[.slice A0 l0.length c0] ?_; (with_reducible refine (yz1.calls k _ _ l0 DV Jf4 _ ?side1 ?side2 A2.1).mono ?_); (case side1 => exact (Kd.C_below uU.1 HB.1)); (case side2 => exact HC0.1); rintro e w4 ⟨v571, rfl, ho0, hb⟩; refine ⟨_, rfl, ?_⟩; have Dc := hqZ (Kd.N_lower (Kd.N_mono (ok' := fun k_ => (w.heap.size ≤ k_) ∧ k_ ≠ Xm) ho0 (fun k_ hk_ => ⟨(Nat.le_trans (zb0 (HB.1)) hk_), (Kd.freshB (g := Xm) (Uc.1) k_ hk_)⟩)) (zb0 (HB.1))); replace Uc := hqZ (zd0 (g := Xm) (Uc.1) hb); replace HB := hqZ (za0 (HB.1) hb); clear hb ho0; obtain ⟨Ao5, co5, eo5⟩ := Kd.N_slice Dc.1; subst eo5; have Yk : w4.cell? ⟨Xm, 0, none⟩ = some (.slice none 0 0) := (zf0 Uc.1 0).trans rfl; have Yz := zc0 Uc.1 0))
 refine bodyPost_ret (results_ct rfl _ _ Xm 26 #[.slice Ao5 DV.length co5] (0, 0) _ rfl (by refine blk_put (cs := #[.slice none 0 0]) ?_ 0 _ rfl; exact Uc.1) Try.underlying26 rfl (by kernel_rfl)) rfl ?_
 exact ⟨_, rfl, Kd.N_mono (Kd.N_far (p := ⟨Xm, 0, none⟩) (Kd.N_mono Dc.1 (fun k_ hk => (⟨hk, hk.2⟩ : _ ∧ k_ ≠ Xm))) (fun _ hk => hk.2) (.slice Ao5 DV.length co5)) (fun _ hk => hk.1.1), zm0 HB.1 bJ.1⟩
def yo1.f (a0 : Int) (a1 : Int) (a2 : Int) : Option (Bool) := if a1 ≤ a0 then (some (decide (a0 ≤ a2))) else (some false)
theorem yo1.calls (a0 : Int) (a1 : Int) (a2 : Int) (r : Bool) (w : World) (h : yo1.f a0 a1 a2 = some r) :
  Calls Try.prog 60 #[.int .i64 a0, .int .i64 a1, .int .i64 a2] w fun e w' => e = .returned (.bool r) ∧ Drawn0 w w' := by
 have H : (if a1 ≤ a0 then (some (decide (a0 ≤ a2))) else (some false)) = some r := h
 clear h
 by_cases c4 : a1 ≤ a0
 ·rw [if_pos c4] at H
  have c4b0 : decide (a1 ≤ a0) = true := decide_eq_true c4
  clear c4
  obtain rfl := Option.some.inj H
  go_enter Try.func60, Try.ntmps60
  go_wp2
  go_ret
  exact ⟨rfl, by repeat (exact Drawn0.refl _)⟩
 rw [if_neg c4] at H
 have c4b0 : decide (a1 ≤ a0) = false := decide_eq_false c4
 clear c4
 obtain rfl := Option.some.inj H
 go_enter Try.func60, Try.ntmps60
 go_wp2
 go_ret
 exact ⟨rfl, by repeat (exact Drawn0.refl _)⟩
def PredK (g : Nat) (lb : Array Value) (p : Int → Bool) (w : World) : Prop :=
 ∀ (W : World) (x : Int), Below w.heap.size w W → Calls Try.prog g (#[.int .i64 x] ++ lb) W fun e w' => e = .returned (.bool (p x)) ∧ Below W.heap.size W w'
def idxF (p : Int → Bool) : List Int → Int → Int
 | [], _ => -1
 | x :: l, i => if p x then i else idxF p l (i + 1)
theorem idxF_any (p : Int → Bool) (l : List Int) : ∀ i : Int, 0 ≤ i → decide (0 ≤ idxF p l i) = l.any p := by
 induction l with
 | nil => intro i h; simp [idxF]
 | cons x l ih =>
  intro i h
  simp only [idxF, List.any_cons]
  by_cases hp : p x = true
  ·simp [hp, h]
  simp [hp, ih (i + 1) (by omega)]
theorem yr2.calls (p : Int → Bool) (g : Nat) (lb : Array Value) (eg : ∀ args w, (callFunc g args).run Try.prog w = .ok (.enter g args) w) (A0 : Option Addr) (c0 : Nat) (l0 : List Int) (w : World) (hr0 : Kd.C (Kd.int .i64) w A0 l0.length l0) (hc0 : l0.length ≤ c0) (hb : l0.length ≤ 9223372036854775807) (hp : PredK g lb p w) :
  Calls Try.prog 74 #[.slice A0 l0.length c0, .func (.func g) #[] lb] w fun e w' => e = .returned (.int .i64 (idxF p l0 0)) ∧ Below w.heap.size w w' := by
 have uU := hqZ hr0
 have HC0 := hqZ hc0
 clear hr0 hc0
 have HB := hqZ (Below.refl w.heap.size w)
 have HP := hqZ hp
 clear hp
 go_enter Try.func74, Try.ntmps74
 go_wp2
 go_loopg [5, 8] l0.length (fun kq _ v8 w' => ∃ j : Nat, v8 = .int .i64 j ∧ j ≤ l0.length ∧ l0.length - j ≤ kq ∧ zg0 (idxF p l0 0 = idxF p (l0.drop j) j) ∧ zg0 (Below w.heap.size w w'))
 case atStart => exact ⟨0, rfl, Nat.zero_le _, by omega, ⟨rfl⟩, ⟨HB.1⟩⟩
 case round =>
  obtain ⟨j, rfl, hj, hg, HA, HB⟩ := hrel
  by_cases hlt : j < l0.length
  rotate_left
  ·have hltz : ¬ (j : Int) < (l0.length : Int) := by omega
   have : j = l0.length := by omega
   subst this
   go_wp2
   go_ret
   refine ⟨?_, HB.1⟩
   rw [HA.1, List.drop_length]; rfl
  have hltz : (j : Int) < (l0.length : Int) := by omega
  have c0b := decide_eq_true hltz
  obtain ⟨ad101, e101, hx101_0⟩ := Kd.at_int uU.1 (j : Int) (by omega) hltz
  cases e101
  replace hx101_0 := (HB.1.cell (World.block_lt_of_cell? w _ hx101_0)).trans hx101_0
  rw [Int.toNat_natCast] at hx101_0
  have hcall := HP.1 wr (rd l0 j) HB.1
  have hd : l0.drop j = rd l0 j :: l0.drop (j + 1) := by
   rw [List.drop_eq_getElem_cons hlt]; congr 1; simp [rd, hlt]
  have HD := hqZ hd
  clear hd
  cases hq : p (rd l0 j) with
  | true =>
   rw [hq] at hcall
   have HQ := hqZ hq
   clear hq
   go_wp2_with (fail)
   refine hcall.mono ?_
   rintro e w' ⟨rfl, hb'⟩
   go_wp2
   go_ret
   refine ⟨?_, HB.1.trans (hb'.mono HB.1.size)⟩
   rw [HA.1, HD.1]; simp only [idxF, HQ.1, if_true]; rfl
  | false =>
   rw [hq] at hcall
   have HQ := hqZ hq
   clear hq
   go_wp2_with (fail)
   refine hcall.mono ?_
   rintro e w' ⟨rfl, hb'⟩
   go_wp2
   go_roundg (l0.length - (j + 1))
   case measure => omega
   case rel =>
    refine ⟨j + 1, by go_num, by omega, by omega, ⟨?_⟩, ⟨HB.1.trans (hb'.mono HB.1.size)⟩⟩
    rw [HA.1, HD.1]; simp only [idxF, HQ.1]; simp
theorem ym2.calls (p : Int → Bool) (g : Nat) (lb : Array Value) (eg : ∀ args w, (callFunc g args).run Try.prog w = .ok (.enter g args) w) (A0 : Option Addr) (c0 : Nat) (l0 : List Int) (w : World) (hr0 : Kd.C (Kd.int .i64) w A0 l0.length l0) (hc0 : l0.length ≤ c0) (hb : l0.length ≤ 9223372036854775807) (hp : PredK g lb p w) :
  Calls Try.prog 58 #[.slice A0 l0.length c0, .func (.func g) #[] lb] w fun e w' => e = .returned (.bool (l0.any p)) ∧ Below w.heap.size w w' := by
 rw [← idxF_any p l0 0 (by omega)]
 go_enter Try.func58, Try.ntmps58
 go_wp2_with (go_at_call 74; refine (yr2.calls p g lb eg A0 c0 l0 _ hr0 hc0 hb hp).mono ?_; rintro e w' ⟨rfl, hb'⟩)
 go_ret
 exact ⟨rfl, hb'⟩
theorem areChips_1.calls (q : Int) (w : World) :
  Calls Try.prog 61 #[.int .i64 q] w fun e w' => e = .returned (.bool (!decide (0 ≤ q) || !decide (q ≤ 20))) ∧ Below w.heap.size w w' := by
 have hi : yo1.f q 0 20 = some (decide (0 ≤ q) && decide (q ≤ 20)) := by
  unfold yo1.f; split
  ·simp [*]
  ·simp [*]
 have HI := hqZ hi
 clear hi
 go_enter Try.func61, Try.ntmps61
 go_wp2_with (go_at_call 60; refine (yo1.calls _ _ _ _ _ HI.1).mono ?_; rintro e w' ⟨rfl, ⟨nd, rfl⟩⟩)
 go_ret
 exact ⟨by rfl, by repeat (first | exact Below.refl _ _ | apply pw_below_drewN)⟩
def yg2.f (J0 : List (List Int)) (l1 : List Int) : Option Bool := some (decide (l1.length = J0.length) && l1.all (fun q => decide (0 ≤ q) && decide (q ≤ 20)))
theorem areChips_any (l : List Int) : (l.all fun q => decide (0 ≤ q) && decide (q ≤ 20)) = !l.any (fun q => !decide (0 ≤ q) || !decide (q ≤ 20)) := by
 rw [List.all_eq_not_any_not]; simp only [Bool.not_and]
theorem yg2.calls (J4 : Option Addr) (J2 : Nat) (J0 : List (List Int)) (A1 : Option Addr) (c1 : Nat) (l1 : List Int) (r : Bool) (w : World) (hr0_0 : Kd.C (Kd.slice 3 (Kd.int .i64)) w J4 J0.length J0) (hc0_0 : J0.length ≤ J2) (hr1 : Kd.C (Kd.int .i64) w A1 l1.length l1) (hc1 : l1.length ≤ c1) (h : yg2.f J0 l1 = some r) :
  Calls Try.prog 40 #[.agg #[.slice J4 J0.length J2], .slice A1 l1.length c1] w fun e w' => e = .returned (.bool r) ∧ Below w.heap.size w w' := by
 have hu25 := Try.underlying26
 obtain rfl := Option.some.inj h
 clear h
 have hbig : l1.length ≤ 9223372036854775807 := hr1.2.1
 have HBIG := hqZ hbig
 clear hbig
 have Ue := hqZ hr1
 have HC1 := hqZ hc1
 clear hr0_0 hc0_0 hr1 hc1
 have HANY := hqZ (areChips_any l1)
 by_cases hlen : l1.length = J0.length
 rotate_left
 ·have hb1 : decide ((l1.length : Int) = (J0.length : Int)) = false := decide_eq_false (by omega)
  have hb2 := hqZ (show decide (l1.length = J0.length) = false from decide_eq_false hlen)
  clear hlen
  go_enter Try.func40, Try.ntmps40
  go_wp2_with (fail)
  ·exact absurd (by assumption) (of_decide_eq_false hb1)
  go_ret
  refine ⟨?_, ?_⟩
  ·rw [hb2.out]; rfl
  ·exact below_alloc (Below.refl _ _) _
 have hb1 : decide ((l1.length : Int) = (J0.length : Int)) = true := decide_eq_true (by omega)
 have hb2 := hqZ (show decide (l1.length = J0.length) = true from decide_eq_true hlen)
 clear hlen
 go_enter Try.func40, Try.ntmps40
 go_wp2_with (fail)
 rotate_left
 ·exact absurd (of_decide_eq_true hb1) (by assumption)
 refine (ym2.calls (fun q => !decide (0 ≤ q) || !decide (q ≤ 20)) 61 _ (fun args w => rfl) A1 c1 l1 _ (Kd.C_alloc Ue.1 _) HC1.1 HBIG.1 ?hp).mono ?_
 case hp =>
  intro V q hV
  exact areChips_1.calls q V
 rintro e w2 ⟨rfl, hb2_⟩
 have HB2 := hqZ hb2_
 clear hb2_
 go_wp2
 go_ret
 refine ⟨?_, ?_⟩
 ·rw [HANY.1, hb2.out]; rfl
 ·exact (below_alloc (Below.refl _ _) _).trans (HB2.1.mono (by simp))
theorem isGraph_1.calls (a : Addr) (n q : Int) (w : World) (hc : w.cell? a = some (.int .i64 n)) :
  Calls Try.prog 73 #[.int .i64 q, .pointer (some a)] w fun e w' => e = .returned (.bool (!decide (0 ≤ q) || !decide (q ≤ wrap64 (n - 1)))) ∧ Below w.heap.size w w' := by
 have hi : yo1.f q 0 (wrap64 (n - 1)) = some (decide (0 ≤ q) && decide (q ≤ wrap64 (n - 1))) := by
  unfold yo1.f; split
  ·simp [*]
  ·simp [*]
 have HI := hqZ hi
 clear hi
 go_enter Try.func73, Try.ntmps73
 go_wp2_with (go_at_call 60; refine (yo1.calls _ _ _ _ _ HI.1).mono ?_; rintro e w' ⟨rfl, ⟨nd, rfl⟩⟩)
 go_ret
 exact ⟨rfl, by repeat (first | exact Below.refl _ _ | apply pw_below_drewN)⟩
def goodRow (n : Int) (row : List Int) : Bool := decide (row.length ≤ 5) && row.all (fun q => decide (0 ≤ q) && decide (q ≤ n - 1))
theorem goodRow_any (n : Int) (row : List Int) : goodRow n row = (decide (row.length ≤ 5) && !row.any (fun q => !decide (0 ≤ q) || !decide (q ≤ n - 1))) := by
 unfold goodRow; congr 1; rw [List.all_eq_not_any_not]; simp only [Bool.not_and]
def goodG (l : List (List Int)) : Bool := decide (1 ≤ l.length) && (decide (l.length ≤ 8) && l.all (goodRow l.length))
def yf2.f (J0 : List (List Int)) : Option Bool := some (goodG J0)
theorem yf2.calls (J4 : Option Addr) (J2 : Nat) (J0 : List (List Int)) (r : Bool) (w : World) (hr0_0 : Kd.C (Kd.slice 3 (Kd.int .i64)) w J4 J0.length J0) (hc0_0 : J0.length ≤ J2) (h : yf2.f J0 = some r) :
  Calls Try.prog 57 #[.agg #[.slice J4 J0.length J2]] w fun e w' => e = .returned (.bool r) ∧ Below w.heap.size w w' := by
 have hu26 := Try.underlying26
 have Ja := hqZ hr0_0
 have HC0_0 := hqZ hc0_0
 clear hr0_0 hc0_0
 obtain rfl := Option.some.inj h
 by_cases h1 : J0.length ≤ 8
 rotate_left
 ·have c1 : yo1.f (J0.length : Int) 1 8 = some false := by
   unfold yo1.f; split <;> simp [*] <;> omega
  have C1 := hqZ c1
  clear c1
  go_enter Try.func57, Try.ntmps57
  go_wp2_with (go_at_call 60; refine (yo1.calls _ _ _ _ _ C1.1).mono ?_; rintro e w' ⟨rfl, ⟨nd, rfl⟩⟩)
  go_ret
  refine ⟨?_, by repeat (first | exact Below.refl _ _ | apply below_alloc | apply pw_below_drewN)⟩
  simp [goodG, h1]
 have c1 : yo1.f (J0.length : Int) 1 8 = some (decide (1 ≤ (J0.length : Int))) := by
  unfold yo1.f; split <;> simp [*] <;> omega
 have C1 := hqZ c1
 clear c1
 by_cases h2 : 1 ≤ (J0.length : Int)
 rotate_left
 ·have h2b := decide_eq_false h2
  go_enter Try.func57, Try.ntmps57
  go_wp2_with (go_at_call 60; refine (yo1.calls _ _ _ _ _ C1.1).mono ?_; rintro e w' ⟨rfl, ⟨nd, rfl⟩⟩)
  go_ret
  refine ⟨?_, by repeat (first | exact Below.refl _ _ | apply below_alloc | apply pw_below_drewN)⟩
  have : ¬ 1 ≤ J0.length := by omega
  simp [goodG, this]
 have h2b := decide_eq_true h2
 go_enter Try.func57, Try.ntmps57
 go_wp2_with (go_at_call 60; refine (yo1.calls _ _ _ _ _ C1.1).mono ?_; rintro e w' ⟨rfl, ⟨nd, rfl⟩⟩)
 go_loopg [2, 15] J0.length (fun kq v2 v15 w' => ∃ j : Nat, v2 = .bool false ∧ v15 = .int .i64 j ∧ j ≤ J0.length ∧ J0.length - j ≤ kq ∧ zg0 (goodG J0 = (J0.drop j).all (goodRow J0.length)) ∧ zg0 (Below w.heap.size w w') ∧ w'.cell? ⟨w.heap.size + 1, 0, none⟩ = some (.int .i64 J0.length))
 case atStart => exact ⟨0, rfl, rfl, Nat.zero_le _, by omega, ⟨by simp [goodG, h1]; omega⟩, ⟨by repeat (first | exact Below.refl _ _ | apply below_alloc | apply pw_below_drewN)⟩, by simp⟩
 case round =>
  obtain ⟨j, rfl, rfl, hj, hg, HA, HB, hcn⟩ := hrel
  clear C1
  by_cases hlt : j < J0.length
  rotate_left
  ·have hltz : ¬ (j : Int) < (J0.length : Int) := by omega
   have : j = J0.length := by omega
   subst this
   go_wp2
   go_ret
   refine ⟨?_, HB.1⟩
   rw [HA.1, List.drop_length]; rfl
  have hltz : (j : Int) < (J0.length : Int) := by omega
  have c0b := decide_eq_true hltz
  obtain ⟨ad101, A1, c1, e101, hx101_0, hl1, hi1⟩ := at_L2 Ja.1 (j : Int) (by omega) hltz
  cases e101
  replace hx101_0 := (HB.1.cell (World.block_lt_of_cell? w _ hx101_0)).trans hx101_0
  rw [Int.toNat_natCast] at hx101_0
  have hd : J0.drop j = rd_L2 J0 j :: J0.drop (j + 1) := by
   rw [List.drop_eq_getElem_cons hlt]; congr 1; simp [rd_L2, hlt]
  have HD := hqZ hd
  have HI1 := hqZ hi1
  have HL1 := hqZ hl1
  clear hd hi1 hl1
  generalize hrow : rd_L2 J0 j = row at hx101_0 HD HI1 HL1
  clear hrow
  by_cases h5 : row.length ≤ 5
  rotate_left
  ·have c9b0 : decide (5 < (row.length : Int)) = true := decide_eq_true (by omega)
   have c9b1 : decide (5 < row.length) = true := decide_eq_true (by omega)
   go_wp2
   go_ret
   refine ⟨?_, HB.1⟩
   rw [HA.1, HD.1]; simp [goodRow, h5]
  have c9b0 : decide (5 < (row.length : Int)) = false := decide_eq_false (by omega)
  have c9b1 : decide (5 < row.length) = false := decide_eq_false (by omega)
  have hpred : ∀ W : World, Below wr.heap.size wr W → PredK 73 #[.pointer (some ⟨w.heap.size + 1, 0, none⟩)] (fun q => !decide (0 ≤ q) || !decide (q ≤ (J0.length : Int) - 1)) W := by
   intro W hW V q hV
   have hw1 : wrap64 ((J0.length : Int) - 1) = (J0.length : Int) - 1 := by unfold wrap64; omega
   have := isGraph_1.calls ⟨w.heap.size + 1, 0, none⟩ J0.length q V ?_
   ·rw [hw1] at this; exact this
   have hlt := World.block_lt_of_cell? wr _ hcn
   exact (hV.cell (p := ⟨w.heap.size + 1, 0, none⟩) (Nat.lt_of_lt_of_le hlt hW.size)).trans ((hW.cell hlt).trans hcn)
  have HPR := hqZ hpred
  clear hpred
  cases hq : row.any (fun q => !decide (0 ≤ q) || !decide (q ≤ (J0.length : Int) - 1)) with
  | true =>
   have HQ := hqZ hq
   clear hq
   go_wp2_with (go_at_call 58; refine (ym2.calls _ 73 _ (fun args w => rfl) A1 c1 row _ (Kd.C_below HI1.1 HB.1) HL1.1 (by omega) (HPR.1 _ (Below.refl _ _))).mono ?_; rw [HQ.1]; rintro e w' ⟨rfl, hb'⟩)
   go_ret
   refine ⟨?_, HB.1.trans (hb'.mono HB.1.size)⟩
   rw [HA.1, HD.1, List.all_cons, goodRow_any, HQ.1]
   simp
  | false =>
   have HQ := hqZ hq
   clear hq
   go_wp2_with (go_at_call 58; refine (ym2.calls _ 73 _ (fun args w => rfl) A1 c1 row _ (Kd.C_below HI1.1 HB.1) HL1.1 (by omega) (HPR.1 _ (Below.refl _ _))).mono ?_; rw [HQ.1]; rintro e w' ⟨rfl, hb'⟩)
   go_roundg (J0.length - (j + 1))
   case measure => omega
   case rel =>
    have hlt := World.block_lt_of_cell? wr _ hcn
    refine ⟨j + 1, rfl, by go_num, by omega, by omega, ⟨?_⟩, ⟨HB.1.trans (hb'.mono HB.1.size)⟩, (hb'.cell hlt).trans hcn⟩
    rw [HA.1, HD.1, List.all_cons, goodRow_any, HQ.1]
    simp [h5]
theorem has_1.calls (b : Nat) (A : Option Addr) (n c : Nat) (q : Int) (w : World) (hc : w.cell? ⟨b, 0, none⟩ = some (.slice A n c)) :
  Calls Try.prog 59 #[.int .i64 q, .pointer (some ⟨b, 0, none⟩)] w fun e w' => e = .returned (.bool (!decide (0 ≤ q) || !decide (q ≤ wrap64 ((n : Int) - 1)))) ∧ Below w.heap.size w w' := by
 have hu := Try.underlying26
 have hi : yo1.f q 0 (wrap64 ((n : Int) - 1)) = some (decide (0 ≤ q) && decide (q ≤ wrap64 ((n : Int) - 1))) := by
  unfold yo1.f; split
  ·simp [*]
  ·simp [*]
 have HI := hqZ hi
 clear hi
 go_enter Try.func59, Try.ntmps59
 go_wp2_with (go_at_call 60; refine (yo1.calls _ _ _ _ _ HI.1).mono ?_; rintro e w' ⟨rfl, ⟨nd, rfl⟩⟩)
 go_ret
 exact ⟨rfl, by repeat (first | exact Below.refl _ _ | apply pw_below_drewN)⟩
def ys1.f (J0 : List (List Int)) (l1 : List Int) : Option Bool := some (goodG J0 && l1.all (fun q => decide (0 ≤ q) && decide (q ≤ (J0.length : Int) - 1)))
theorem has_any (n : Int) (l : List Int) : (l.all fun q => decide (0 ≤ q) && decide (q ≤ n - 1)) = !l.any (fun q => !decide (0 ≤ q) || !decide (q ≤ n - 1)) := by
 rw [List.all_eq_not_any_not]; simp only [Bool.not_and]
theorem ys1.calls (J4 : Option Addr) (J2 : Nat) (J0 : List (List Int)) (A1 : Option Addr) (c1 : Nat) (l1 : List Int) (r : Bool) (w : World) (hr0_0 : Kd.C (Kd.slice 3 (Kd.int .i64)) w J4 J0.length J0) (hc0_0 : J0.length ≤ J2) (hr1 : Kd.C (Kd.int .i64) w A1 l1.length l1) (hc1 : l1.length ≤ c1) (h : ys1.f J0 l1 = some r) :
  Calls Try.prog 36 #[.agg #[.slice J4 J0.length J2], .slice A1 l1.length c1] w fun e w' => e = .returned (.bool r) ∧ Below w.heap.size w w' := by
 have hu25 := Try.underlying26
 obtain rfl := Option.some.inj h
 clear h
 have hbig : l1.length ≤ 9223372036854775807 := hr1.2.1
 have HBIG := hqZ hbig
 clear hbig
 have Ja := hqZ hr0_0
 have HC0_0 := hqZ hc0_0
 have Ue := hqZ hr1
 have HC1 := hqZ hc1
 clear hr0_0 hc0_0 hr1 hc1
 by_cases hg : goodG J0 = true
 rotate_left
 ·have hg' : goodG J0 = false := Bool.eq_false_iff.mpr hg
  have HG := hqZ hg'
  clear hg hg'
  have hgr : yf2.f J0 = some false := by unfold yf2.f; rw [HG.1]
  have HGR := hqZ hgr
  clear hgr
  go_enter Try.func36, Try.ntmps36
  go_wp2_with (fail)
  refine (yf2.calls J4 J2 J0 false _ (Kd.C_alloc Ja.1 _) HC0_0.1 HGR.1).mono ?_
  rintro e w1 ⟨rfl, hb1⟩
  have HB1 := hqZ hb1
  clear hb1
  go_wp2
  go_ret
  refine ⟨?_, ?_⟩
  ·rw [HG.1]; rfl
  ·exact (below_alloc (Below.refl _ _) _).trans (HB1.1.mono (by simp))
 have HG := hqZ hg
 have hlen : 1 ≤ J0.length ∧ J0.length ≤ 8 := by
  simp only [goodG, Bool.and_eq_true, decide_eq_true_eq] at hg; exact ⟨hg.1, hg.2.1⟩
 have HW := hqZ (show wrap64 ((J0.length : Int) - 1) = (J0.length : Int) - 1 by unfold wrap64; omega)
 clear hg hlen
 have HA : zg0 (goodG J0 && l1.all (fun q => decide (0 ≤ q) && decide (q ≤ (J0.length : Int) - 1))) = zg0 (!l1.any (fun q => !decide (0 ≤ q) || !decide (q ≤ (J0.length : Int) - 1))) := by
  rw [HG.1, Bool.true_and, has_any]
 have hres : (goodG J0 && l1.all (fun q => decide (0 ≤ q) && decide (q ≤ (J0.length : Int) - 1))) = !l1.any (fun q => !decide (0 ≤ q) || !decide (q ≤ (J0.length : Int) - 1)) := by
  rw [HG.1, Bool.true_and, has_any]
 clear HA
 have HRES := hqZ hres
 clear hres
 have hgr : yf2.f J0 = some true := by unfold yf2.f; rw [HG.1]
 have HGR := hqZ hgr
 clear hgr
 go_enter Try.func36, Try.ntmps36
 go_wp2_with (fail)
 refine (yf2.calls J4 J2 J0 true _ (Kd.C_alloc Ja.1 _) HC0_0.1 HGR.1).mono ?_
 rintro e w1 ⟨rfl, hb1⟩
 have HB1 := hqZ hb1
 clear hb1
 go_wp2_with (fail)
 refine (ym2.calls (fun q => !decide (0 ≤ q) || !decide (q ≤ (J0.length : Int) - 1)) 59 _ (fun args w => rfl) A1 c1 l1 _ (Kd.C_below (Kd.C_alloc Ue.1 _) HB1.1) HC1.1 HBIG.1 ?hp).mono ?_
 case hp =>
  intro V q hV
  have h0 := has_1.calls w.heap.size J4 J0.length J2 q V ((hV.cell (p := ⟨w.heap.size, 0, none⟩) (by have := HB1.1.size; simp at this; simp; omega)).trans ((HB1.1.cell (p := ⟨w.heap.size, 0, none⟩) (by simp)).trans (by simp)))
  rw [HW.1] at h0; exact h0
 rintro e w2 ⟨rfl, hb2⟩
 have HB2 := hqZ hb2
 clear hb2
 go_wp2
 go_ret
 refine ⟨?_, ?_⟩
 ·rw [HRES.1]; rfl
 ·exact (below_alloc (Below.refl _ _) _).trans ((HB1.1.trans (HB2.1.mono HB1.1.size)).mono (by simp))
def yl2.f (a0 : Int) (a1 : Int) : Option (Int × Int) := some (IntKind.u64.wrap ((IntKind.u64.wrap ((IntKind.u64.wrap ((a0 / 4294967296) * (a1 / 4294967296))) + ((IntKind.u64.wrap ((IntKind.u64.wrap ((a0 / 4294967296) * (Go.bits .and .u64 a1 4294967295))) + ((IntKind.u64.wrap ((Go.bits .and .u64 a0 4294967295) * (Go.bits .and .u64 a1 4294967295))) / 4294967296))) / 4294967296))) + ((IntKind.u64.wrap ((Go.bits .and .u64 (IntKind.u64.wrap ((IntKind.u64.wrap ((a0 / 4294967296) * (Go.bits .and .u64 a1 4294967295))) + ((IntKind.u64.wrap ((Go.bits .and .u64 a0 4294967295) * (Go.bits .and .u64 a1 4294967295))) / 4294967296))) 4294967295) + (IntKind.u64.wrap ((Go.bits .and .u64 a0 4294967295) * (a1 / 4294967296))))) / 4294967296)), IntKind.u64.wrap (a0 * a1))
theorem yl2.calls (a0 : Int) (a1 : Int) (r1 : Int) (r2 : Int) (w : World) (h : yl2.f a0 a1 = some (r1, r2)) :
  Calls Try.prog 80 #[.int .u64 a0, .int .u64 a1] w fun e w' => e = .returned (.tuple #[.int .u64 r1, .int .u64 r2]) ∧ Drawn0 w w' := by
 have H : (some (IntKind.u64.wrap ((IntKind.u64.wrap ((IntKind.u64.wrap ((a0 / 4294967296) * (a1 / 4294967296))) + ((IntKind.u64.wrap ((IntKind.u64.wrap ((a0 / 4294967296) * (Go.bits .and .u64 a1 4294967295))) + ((IntKind.u64.wrap ((Go.bits .and .u64 a0 4294967295) * (Go.bits .and .u64 a1 4294967295))) / 4294967296))) / 4294967296))) + ((IntKind.u64.wrap ((Go.bits .and .u64 (IntKind.u64.wrap ((IntKind.u64.wrap ((a0 / 4294967296) * (Go.bits .and .u64 a1 4294967295))) + ((IntKind.u64.wrap ((Go.bits .and .u64 a0 4294967295) * (Go.bits .and .u64 a1 4294967295))) / 4294967296))) 4294967295) + (IntKind.u64.wrap ((Go.bits .and .u64 a0 4294967295) * (a1 / 4294967296))))) / 4294967296)), IntKind.u64.wrap (a0 * a1))) = some (r1, r2) := h
 clear h
 simp only [Option.some.injEq, Prod.mk.injEq] at H
 obtain ⟨rfl, rfl⟩ := H
 go_enter Try.func80, Try.ntmps80
 go_wp2
 go_ret2
 exact ⟨rfl, by repeat (exact Drawn0.refl _)⟩
def yn2.f (a0 : Int) (a1 : Int) : Option (Int × Int) := (yl2.f a0 a1).bind fun UK => (some (UK.1, UK.2))
theorem yn2.calls (a0 : Int) (a1 : Int) (r1 : Int) (r2 : Int) (w : World) (h : yn2.f a0 a1 = some (r1, r2)) :
  Calls Try.prog 78 #[.int .u64 a0, .int .u64 a1] w fun e w' => e = .returned (.tuple #[.int .u64 r1, .int .u64 r2]) ∧ Drawn0 w w' := by
 have H : ((yl2.f a0 a1).bind fun UK => (some (UK.1, UK.2))) = some (r1, r2) := h
 clear h
 replace H := Option.bind_eq_some_iff.mp H
 obtain ⟨⟨Jf6, Jf7⟩, A30, H⟩ := H
 try dsimp only at H
 have A3 := hqZ A30
 clear A30
 simp only [Option.some.injEq, Prod.mk.injEq] at H
 obtain ⟨rfl, rfl⟩ := H
 go_enter Try.func78, Try.ntmps78
 go_wp2_with (((with_reducible refine ze0 (f := 80) rfl ?_); refine zM (some 25) Try.func80 #[.int .u64 a0, .int .u64 a1] ?_; (with_reducible refine (yl2.calls a0 a1 Jf6 Jf7 _ A3.1).mono ?_); rintro e w' ⟨rfl, ⟨nd, rfl⟩⟩; refine ⟨_, rfl, ?_⟩))
 go_ret2
 exact ⟨rfl, by repeat (first | exact Drawn0.refl _ | apply Drawn0.step)⟩
def ya2.f (l0 : List Int) (a1 : Int) : Option (List Int) := if l0.length = 1 ∧ 1 ≤ a1 ∧ a1 ≤ 8 then some (List.replicate a1.toNat (l0.getD 0 0)) else none
theorem own_row {w : World} {b : Nat} {v : Value} {l : List Int} (h : Kd.R (Kd.int .i64) 3 w b (fun _ => True) v l) (hl : 0 < l.length) : ∃ (g cap : Nat) (cur : List Value), v = .slice (some ⟨g, 0, none⟩) l.length cap ∧ b ≤ g ∧ zg0 (w.heap[g]? = some (.cells cur.toArray 3 (0, 0))) ∧ l.length ≤ cap ∧ cap ≤ maxLen ∧ cur.length = cap ∧ zg0 (cur.take l.length = l.map (Value.int .i64)) := by
 obtain ⟨h1, h2⟩ := Kd.own_of_R h
 rcases h2 with ⟨_, h2⟩ | ⟨g, cap, cur, rfl, hg, hh, hn, hc, hs, ht⟩
 ·omega
 ·exact ⟨g, cap, cur.toList, rfl, hg, ⟨by simpa using hh⟩, hn, hc, by simpa using hs, ⟨by simpa [encs] using ht⟩⟩
theorem rep_at {f : Int → Value} {cu : List Value} {c n : Nat} {x z : Int} (h : cu.take n = (List.replicate c x ++ List.replicate (n - c) z).map f) {i : Nat} (hi : i < n) (hc : c ≤ n) : cu[i]? = some (f (if i < c then x else z)) := by
 have h1 : (cu.take n)[i]? = cu[i]? := by rw [List.getElem?_take, if_pos hi]
 rw [← h1, h, List.getElem?_map, List.getElem?_append, List.length_replicate]
 by_cases hic : i < c
 ·rw [if_pos hic, if_pos hic, List.getElem?_replicate, if_pos hic]; rfl
 rw [if_neg hic, if_neg hic, List.getElem?_replicate, if_pos (by omega)]; rfl
theorem splice_rep {f : Int → Value} (cu : List Value) (c m n : Nat) (x z : Int) (h : cu.take n = (List.replicate c x ++ List.replicate (n - c) z).map f) (hn : n ≤ cu.length) (h1 : m ≤ c) (h2 : c + m ≤ n) : (splice cu c (cu.take m)).take n = (List.replicate (c + m) x ++ List.replicate (n - (c + m)) z).map f := by
 have hl : (cu.take m).length = m := by rw [List.length_take]; omega
 apply List.ext_getElem?
 intro i
 by_cases hi : i < n
 rotate_left
 ·rw [List.getElem?_eq_none (by rw [List.length_take]; omega), List.getElem?_eq_none (by simp; omega)]
 rw [List.getElem?_take, if_pos hi, List.getElem?_map, List.getElem?_append (l₁ := List.replicate (c + m) x), List.length_replicate]
 unfold splice
 rw [hl, List.getElem?_append, List.length_take, Nat.min_eq_left (by omega)]
 by_cases a : i < c
 ·rw [if_pos a, List.getElem?_take, if_pos a, rep_at h hi (by omega), if_pos a, if_pos (by omega), List.getElem?_replicate, if_pos (by omega)]; rfl
 rw [if_neg a, List.getElem?_append, hl]
 by_cases b : i - c < m
 ·rw [if_pos b, List.getElem?_take, if_pos b, rep_at h (by omega) (by omega), if_pos (by omega), if_pos (by omega), List.getElem?_replicate, if_pos (by omega)]; rfl
 rw [if_neg b, List.getElem?_drop, show c + m + (i - c - m) = i by omega, rep_at h hi (by omega), if_neg a, if_neg (by omega), List.getElem?_replicate, if_pos (by omega)]; rfl
theorem copy_cell {w : World} {g t m : Nat} {cu : List Value} (h : w.heap[g]? = some (.cells cu.toArray t (0, 0))) {j : Nat} {v : Value} (hj : (cu.take m)[j]? = some v) : w.cell? (Addr.add ⟨g, 0, none⟩ j) = some v := by
 rw [List.getElem?_take] at hj
 split at hj
 ·rw [Addr.add_lit, Nat.zero_add, zf0 h j]; simpa using hj
 ·cases hj
theorem one_of_rep {cu : List Value} {c n m : Nat} {x z : Int} (h : cu.take n = (List.replicate c x ++ List.replicate (n - c) z).map (Value.int .i64)) (h1 : m ≤ c) (h2 : c ≤ n) {v : Value} (hv : v ∈ cu.take m) : v.oneCell' = true := by
 have h3 : v ∈ cu.take n := by
  have : cu.take m = (cu.take n).take m := by rw [List.take_take, Nat.min_eq_left (by omega)]
  rw [this] at hv
  exact List.mem_of_mem_take hv
 rw [h, List.mem_map] at h3
 obtain ⟨y, _, rfl⟩ := h3
 rfl
theorem mul_one_small (n : Int) (h : 1 ≤ n ∧ n ≤ 8) : yn2.f 1 n = some (0, n) := by
 have : n = 1 ∨ n = 2 ∨ n = 3 ∨ n = 4 ∨ n = 5 ∨ n = 6 ∨ n = 7 ∨ n = 8 := by omega
 rcases this with rfl | rfl | rfl | rfl | rfl | rfl | rfl | rfl <;> rfl
theorem ya2.calls (A0 : Option Addr) (c0 : Nat) (l0 : List Int) (a1 : Int) (r : List Int) (w : World) (hr0 : Kd.C (Kd.int .i64) w A0 l0.length l0) (hc0 : l0.length ≤ c0) (h : ya2.f l0 a1 = some r) :
  Calls Try.prog 77 #[.slice A0 l0.length c0, .int .i64 a1] w fun e w' => ∃ v0_ : Value, e = .returned (v0_) ∧ Kd.R (Kd.int .i64) 3 w' w.heap.size (fun _ => True) v0_ r ∧ Below w.heap.size w w' := by
 unfold ya2.f at h
 by_cases hc : l0.length = 1 ∧ 1 ≤ a1 ∧ a1 ≤ 8
 rotate_left
 ·rw [if_neg hc] at h
  cases h
 rw [if_pos hc] at h
 obtain rfl := Option.some.inj h
 clear h
 obtain ⟨h1, h2, h3⟩ := hc
 obtain ⟨x, rfl⟩ : ∃ x, l0 = [x] := by
  match l0, h1 with
  | [x], _ => exact ⟨x, rfl⟩
 have HM := hqZ (mul_one_small a1 ⟨h2, h3⟩)
 obtain ⟨n, rfl⟩ : ∃ n : Nat, a1 = n := ⟨a1.toNat, by omega⟩
 have hneg : decide ((n : Int) < 0) = false := decide_eq_false (by omega)
 have uU := hqZ hr0
 have HC0 := hqZ hc0
 clear hr0 hc0 h1
 have HB := hqZ (Below.refl w.heap.size w)
 go_enter Try.func77, Try.ntmps77
 obtain ⟨ad, eA, hx⟩ := Kd.at_int uU.1 0 (by omega) (by simp)
 cases eA
 have HX := hqZ (show w.cell? (ad.add 0) = some (.int .i64 x) from hx)
 clear hx
 go_wp2_with (fail)
 refine (yn2.calls 1 n 0 n _ HM.1).mono ?_
 rintro e w' ⟨rfl, ⟨nd, rfl⟩⟩
 have hgt : decide ((n : Int) > 9223372036854775807) = false := decide_eq_false (by omega)
 have hw1 : wrap64 (n : Int) = n := by unfold wrap64; omega
 have HW1 := hqZ hw1
 clear hw1
 go_wp2_with (first | ((with_reducible refine zi0 (N := 30) rfl ?_); refine Kd.R_make (Kd.int .i64) _ 3 rfl (N := 30) rfl 27 _ _ rfl (n : Int) rfl rfl Try.underlying27 (.int .i64 0) 8 info3 rfl (by decide) (by omega) 0 (ok := fun _ => True) (okp := fun _ => True) rfl (fun _ hk => hk) trivial (by omega) (by omega) (Below.refl _ _) (Nat.le_refl _) ?_; intro v122 w4 ho5 hb hg_ hnew_; clear hg_ hnew_; obtain ⟨g, cap, cur, rfl, hbg, HCUR, hnc, hcm, hcs, hct⟩ := own_row ho5 (by simp; omega); have HB4 := hqZ (show Below w.heap.size w w4 from (pw_below_drewN (Below.refl _ _) nd).trans (hb.mono (by simp))); have HG4 := hqZ (show w.heap.size ≤ g from hbg); clear ho5 hb hbg; simp only [List.length_replicate, Int.toNat_natCast] at hnc hct ⊢) | ((with_reducible refine wpList_copy_splice rfl (.tmp 31) (.tmp 32) 27 27 rfl 3 Try.underlying27 ?isz (some ⟨g, 0, none⟩) (some ad) n cap 1 c0 rfl rfl g 0 cur 3 HCUR.1 [.int .i64 x] ?hn ?hpos ?hfit ?h1 w.heap.size w HB4.1 HG4.1 ?_); (case isz => rfl); (case hn => exact (Nat.min_eq_left (by omega : 1 ≤ n)).symm); (case hpos => (intro _; exact ⟨rfl, ad, rfl, fun j v hj => by (have hj0 : j = 0 := by (cases j with | zero => rfl | succ j => simp at hj)); subst hj0; obtain rfl := Option.some.inj hj; exact (HB4.1.cell (World.block_lt_of_cell? w _ HX.1)).trans HX.1⟩)); (case hfit => show 0 + 1 ≤ cur.length; omega); (case h1 => (intro v hv; obtain rfl := List.mem_singleton.1 hv; rfl)); intro w5 hc5 hb5; have HC5 := hqZ hc5.out; have HB5 := hqZ hb5; clear hc5 hb5 HCUR))
 obtain ⟨i0q, hi0q, _, hszq, _⟩ := info_parts info3
 have HI := hqZ hi0q
 have HSZ := hqZ hszq
 clear hi0q hszq
 have HISZ := hqZ (show (Try.prog.info? 3).map (·.size) = some 1 by rw [HI.1]; simp [HSZ.1])
 have HST := hqZ (show (splice cur 0 [Value.int .i64 x]).take n = (List.replicate 1 x ++ List.replicate (n - 1) 0).map (Value.int .i64) by
  have h0 := hct.out
  cases hcur : cur with
  | nil => rw [hcur] at hcs; simp at hcs; omega
  | cons y ys =>
   rw [hcur] at h0
   obtain ⟨m, rfl⟩ : ∃ m, n = m + 1 := ⟨n - 1, by omega⟩
   simp only [List.take_succ_cons, List.replicate_succ, List.map_cons] at h0
   injection h0 with h01 h02
   simp [splice, h02])
 have HLS := hqZ (show (splice cur 0 [Value.int .i64 x]).length = cap by rw [length_splice _ _ _ (by show 0 + 1 ≤ cur.length; omega)]; exact hcs)
 go_loopg [8] n (fun kq v8 w' => ∃ (c : Nat) (cu : List Value), v8 = .int .i64 c ∧ 1 ≤ c ∧ c ≤ n ∧ n - c ≤ kq ∧ zg0 (w'.heap[g]? = some (.cells cu.toArray 3 (0, 0))) ∧ zg0 (cu.length = cap) ∧ zg0 (cu.take n = (List.replicate c x ++ List.replicate (n - c) 0).map (Value.int .i64)) ∧ zg0 (Below w.heap.size w w'))
 case atStart => exact ⟨1, _, rfl, Nat.le_refl _, by omega, by omega, ⟨HC5.1⟩, ⟨HLS.1⟩, ⟨HST.1⟩, ⟨HB5.1⟩⟩
 case round =>
  clear HC5 HLS HST HB5 hct HB4 HB
  obtain ⟨c, cu, rfl, hc1, hcn, hg, HC, HL, HT, HB⟩ := hrel
  by_cases hlt : c < n
  rotate_left
  ·have hcn' : c = n := by omega
   subst hcn'
   have hltz : ¬ (c : Int) < (c : Int) := by omega
   have hltb := decide_eq_false hltz
   go_wp2
   go_ret
   refine ⟨_, rfl, ?_, HB.1⟩
   refine Kd.R_of_own ⟨?_, .inr ⟨g, cap, cu.toArray, ?_, HG4.1, HC.1, ?_, ?_, ?_, ?_⟩⟩ (fun _ _ => trivial)
   ·simp [encs]
   ·simp
   ·exact by simpa using hnc
   ·exact hcm
   ·simpa using HL.1
   ·have := HT.1
    simpa [encs] using this
  have hltz : (c : Int) < (n : Int) := by omega
  have hltb := decide_eq_true hltz
  have hcutA := cut_from (P := Try.prog) 27 3 .i64 Try.underlying27 HI.1 1 HSZ.1 (some ⟨g, 0, none⟩) n cap (c : Int) (by omega) (by omega)
  have hcutB := cut_to (P := Try.prog) 27 3 .i64 Try.underlying27 HI.1 (some ⟨g, 0, none⟩) n cap (c : Int) (by omega) (by omega) hnc
  rw [if_neg (by simp; omega)] at hcutA
  simp only [Option.map_some, Int.toNat_natCast, Nat.mul_one, Addr.add_lit, Nat.zero_add] at hcutA hcutB
  obtain ⟨m, hm⟩ : ∃ m, m = min c (n - c) := ⟨_, rfl⟩
  have hm1 : 1 ≤ m := by omega
  have hm2 : m ≤ c := by omega
  have hm3 : c + m ≤ n := by omega
  have HMN := hqZ (show (cu.take m).length = Nat.min c (n - c) by show _ = min c (n - c); rw [List.length_take, HL.1]; omega)
  have hmlen : (cu.take m).length = m := by rw [List.length_take, HL.1]; omega
  have HML := hqZ hmlen
  have HWR := hqZ (show IntKind.i64.wrap ((c : Int) + (m : Int)) = ((c + m : Nat) : Int) from (IntWalk.i64_in _ (by omega)).trans (by omega))
  clear hm hmlen
  have HT2 := hqZ (splice_rep (f := Value.int .i64) cu c m n x 0 HT.1 (by rw [HL.1]; exact hnc) hm2 hm3)
  have HL2 := hqZ (show (splice cu c (cu.take m)).length = cap by rw [length_splice _ _ _ (by rw [HML.1, HL.1]; omega)]; exact HL.1)
  go_wp2
  go_region_law (refine step_copy_splice rfl (.tmp 41) (.tmp 44) 27 27 rfl 3 Try.underlying27 HISZ.1 (some ⟨g, c, none⟩) (some ⟨g, 0, none⟩) (n - c) (cap - c) c cap (by go_simp) (by go_simp) g c cu 3 HC.1 (cu.take m) HMN.1 (fun _ => ⟨rfl, ⟨g, 0, none⟩, rfl, fun j v hj => copy_cell HC.1 hj⟩) (by rw [HML.1, HL.1]; omega) (fun v hv => one_of_rep HT.1 hm2 hcn hv) w.heap.size w (by repeat (first | exact HB.1 | apply below_drew1)) HG4.1 ?_; intro w6 hc6 hb6; have HC6 := hqZ hc6.out; have HB6 := hqZ hb6; clear hc6 hb6; rw [HML.1])
  go_wp2
  go_roundg (n - (c + m))
  case measure => omega
  case rel => exact ⟨c + m, _, by rw [HWR.1], by omega, hm3, by omega, ⟨HC6.1⟩, ⟨HL2.1⟩, ⟨HT2.1⟩, ⟨HB6.1⟩⟩
mutual
def yl0.l0 : Nat → List Int → List Int → List (List Int) → Option (List Int)
 | 0, _, _, _ => none
 | k + 1, x5, x6, vv => if (x6.length : Int) > 0 then (if 0 < (x6.length : Int) then (if 0 ≤ (rd x6 0) then (if (rd x6 0) < (vv.length : Int) then (yl0.l1 k x5 x6 (rd_L2 vv (rd x6 0)) ((rd_L2 vv (rd x6 0)).length : Int) 0 vv) else (none)) else (none)) else (none)) else (some x5)
def yl0.l1 : Nat → List Int → List Int → List Int → Int → Int → List (List Int) → Option (List Int)
 | 0, _, _, _, _, _, _ => none
 | k + 1, x5, x6, Dd, x31, UL, vv => if UL < x31 then (if 0 ≤ UL then (if UL < (Dd.length : Int) then (if 0 ≤ (rd Dd UL) then (if (rd Dd UL) < (x5.length : Int) then (if (rd x5 (rd Dd UL)) < 0 then (if 0 < (x6.length : Int) then (if 0 ≤ (rd x6 0) then (if (rd x6 0) < (x5.length : Int) then (if x6.length < 17592186044416 then (yl0.l1 k (x5.set ((rd Dd UL) : Int).toNat (wrap64 ((rd x5 (rd x6 0)) + 1))) (x6 ++ [rd Dd UL]) Dd x31 (wrap64 (UL + 1)) vv) else (none)) else (none)) else (none)) else (none)) else (yl0.l1 k x5 x6 Dd x31 (wrap64 (UL + 1)) vv)) else (none)) else (none)) else (none)) else (none)) else (if 1 ≤ (x6.length : Int) then (yl0.l0 k x5 (x6.drop (1 : Int).toNat) vv) else (none))
end
def yl0.f (k : Nat) (J0 : List (List Int)) (a1 : Int) : Option (List Int) := (ya2.f (([(-1)] : List Int)) (J0.length : Int)).bind fun YS => (if 0 ≤ a1 then (if a1 < (YS.length : Int) then (yl0.l0 k (YS.set (a1 : Int).toNat 0) (([a1] : List Int)) J0) else (none)) else (none))
theorem yl0.mono_l : ∀ k, (∀ y0 y1 y2, LeO (yl0.l0 k y0 y1 y2) (yl0.l0 (k + 1) y0 y1 y2)) ∧ (∀ y0 y1 y2 y3 y4 y5, LeO (yl0.l1 k y0 y1 y2 y3 y4 y5) (yl0.l1 (k + 1) y0 y1 y2 y3 y4 y5))
 | 0 => ⟨fun _ _ _ r h => by simp [yl0.l0] at h, fun _ _ _ _ _ _ r h => by simp [yl0.l1] at h⟩
 | k + 1 => by
  obtain ⟨ih0, ih1⟩ := yl0.mono_l k
  refine ⟨?_, ?_⟩
  ·intro y0 y1 y2
   unfold yl0.l0
   repeat' (with_reducible first | apply ih0 | apply ih1 | apply LeO.refl | apply LeO.none | refine LeO.ite ?_ ?_ | refine LeO.bind ?_ (fun _ => ?_))
  ·intro y0 y1 y2 y3 y4 y5
   unfold yl0.l1
   repeat' (with_reducible first | apply ih0 | apply ih1 | apply LeO.refl | apply LeO.none | refine LeO.ite ?_ ?_ | refine LeO.bind ?_ (fun _ => ?_))
theorem yl0.mono : ∀ a0 a1 k, LeO (yl0.f k a0 a1) (yl0.f (k + 1) a0 a1) := by
 intro a0 a1 k
 obtain ⟨ih0, ih1⟩ := yl0.mono_l k
 unfold yl0.f
 repeat' (with_reducible first | apply ih0 | apply ih1 | apply LeO.refl | apply LeO.none | refine LeO.ite ?_ ?_ | refine LeO.bind ?_ (fun _ => ?_))
theorem yl0.calls (k : Nat) (J4 : Option Addr) (J2 : Nat) (J0 : List (List Int)) (a1 : Int) (r : List Int) (w : World) (hr0_0 : Kd.C (Kd.slice 3 (Kd.int .i64)) w J4 J0.length J0) (hc0_0 : J0.length ≤ J2) (h : yl0.f k J0 a1 = some r) :
  Calls Try.prog 75 #[.agg #[.slice J4 J0.length J2], .int .i64 a1] w fun e w' => ∃ v0_ : Value, e = .returned (v0_) ∧ Kd.R (Kd.int .i64) 3 w' w.heap.size (fun _ => True) v0_ r ∧ Below w.heap.size w w' := by
 have hu26 := Try.underlying26
 have Ja := hqZ hr0_0
 have HC0_0 := hqZ hc0_0
 clear hr0_0 hc0_0
 have HB := hqZ (Below.refl w.heap.size w)
 have H : ((ya2.f (([(-1)] : List Int)) (J0.length : Int)).bind fun YS => (if 0 ≤ a1 then (if a1 < (YS.length : Int) then (yl0.l0 k (YS.set (a1 : Int).toNat 0) (([a1] : List Int)) J0) else (none)) else (none))) = some r := h
 clear h
 obtain ⟨XJ, hy284⟩ : ∃ y_ : List Int, y_ = (([(-1)] : List Int)) := ⟨_, rfl⟩
 replace H : ((ya2.f XJ (J0.length : Int)).bind fun YS => (if 0 ≤ a1 then (if a1 < (YS.length : Int) then (yl0.l0 k (YS.set (a1 : Int).toNat 0) (([a1] : List Int)) J0) else (none)) else (none))) = some r := by (rw [hy284]; with_reducible exact H)
 have Ny284 := hqZ hy284
 clear hy284
 replace H := Option.bind_eq_some_iff.mp H
 obtain ⟨YS, A30, H⟩ := H
 try dsimp only at H
 have A3 := hqZ A30
 clear A30
 by_cases c4 : 0 ≤ a1
 rotate_left
 ·rw [if_neg c4] at H
  exact absurd H (by simp)
 rw [if_pos c4] at H
 have c4b0 : decide (0 ≤ a1) = true := decide_eq_true c4
 clear c4
 by_cases c5 : a1 < (YS.length : Int)
 rotate_left
 ·rw [if_neg c5] at H
  exact absurd H (by simp)
 rw [if_pos c5] at H
 have c5b0 : decide (a1 < (YS.length : Int)) = true := decide_eq_true c5
 clear c5
 obtain ⟨dK, hy290⟩ : ∃ y_ : List Int, y_ = (YS.set (a1 : Int).toNat 0) := ⟨_, rfl⟩
 replace H : (yl0.l0 k dK (([a1] : List Int)) J0) = some r := by (rw [hy290]; with_reducible exact H)
 have Ny290 := hqZ hy290
 clear hy290
 obtain ⟨bK, hy291⟩ : ∃ y_ : List Int, y_ = (([a1] : List Int)) := ⟨_, rfl⟩
 replace H : (yl0.l0 k dK bK J0) = some r := by (rw [hy291]; with_reducible exact H)
 have Ny291 := hqZ hy291
 clear hy291
 have H' := hqZ H
 clear H
 go_enter Try.func75, Try.ntmps75
 go_wp2_with (first | ((with_reducible refine zi0 (N := 2) rfl ?_); refine zk0 ?hg (N := 2) ?hd (cs := #[.slice J4 J0.length J2]) (t := 26) ?hr ?_; (case hd | hg => rfl); (case hr => go_simp); intro VT hg w7 hbox hb; have Js := hqZ (hbox); have De := hqZ ((by rw [hg]; exact (zb0 (HB.1)) : w.heap.size ≤ VT)); have Df := hqZ ((by rw [hg]; exact (zb0 (HB.1)) : w.heap.size ≤ VT)); replace HB := hqZ (za0 (HB.1) hb); clear hb hbox hg) | ((with_reducible refine zi0 (N := 9) rfl ?_); refine Kd.R_lit (Kd.int .i64) _ 3 ?hg (N := 9) ?hd (xs := ([(-1)] : List Int)) (inner := [.int .i64 (-1)]) (ok := fun _ => True) (okp := fun _ => True) ?hr ?hp (fun _ hk => hk) trivial (Below.refl _ _) (Nat.le_refl _) (by simp) ?_; (case hd | hg => rfl); (case hr => go_simp); (case hp => exact (Reps.one (show Kd.M (Kd.int .i64) _ _ _ (-1) [.int .i64 (-1)] from rfl) (Reps.none _ _))); intro v285 w8 ho9 hb hg_ hnew_; clear hg_ hnew_; (rw [← Ny284.1] at ho9); have Vh := hqZ (Kd.R_lower ho9 (zb0 (HB.1))); replace Js := hqZ (zd0 (g := VT) (Js.1) hb); replace HB := hqZ (za0 (HB.1) hb); clear hb ho9; have Y0 : w8.cell? ⟨VT, 0, none⟩ = some (.slice J4 J0.length J2) := (zf0 Js.1 0).trans rfl; have Y1 := zc0 Js.1 0; obtain ⟨j5, Yt, eo11⟩ := Kd.R_slice Vh.1; subst eo11) | (go_at_call 77; (with_reducible refine (ya2.calls _ _ XJ (J0.length : Int) YS _ ?side1 ?side2 A3.1).mono ?_); (case side1 => exact (Kd.R_reads' Vh.1).2.2); (case side2 => exact (Kd.R_reads' Vh.1).2.1); rintro e w12 ⟨v288, rfl, ho0, hb⟩; have JL := hqZ (Kd.R_lower (Kd.R_new' ho0 (Kd.R_lt (Vh.1))) (zb0 (HB.1))); replace Vh := hqZ (Kd.R_elder' (Vh.1) (Kd.R_base ho0) hb); replace Js := hqZ (zd0 (g := VT) (Js.1) hb); replace HB := hqZ (za0 (HB.1) hb); clear hb ho0; have p6 : 0 ≤ (a1 : Int) := oA; have q6 : (a1 : Int) < ((YS.length : Int) : Int) := oA; obtain ⟨vF, XD, eo6, Dg, gl6, cl6, HG6⟩ := Kd.R_form JL.1 (by omega); (cases eo6); have GB6 := hqZ Dg; have GG6 := hqZ HG6; clear Dg gl6 HG6; obtain ⟨hx6_0, hf6_0⟩ := Kd.R_celln 0 JL.1 (a1 : Int) p6 q6; replace p6 := eq_true p6; replace q6 := eq_true q6; have n_ := hqZ (Kd.R_mono (ok' := (fun k_ => some k_ ≠ (.slice j5 XJ.length Yt : Value).ownBlock)) JL.1 (fun k_ hk => hk.2)); clear JL; have JL := n_; clear n_; obtain ⟨hy13_, hz13_⟩ := Kd.R_celln 0 JL.1 (a1 : Int) (oA) (oA); have HP13 := Kd.R_putg JL.1 (a1 : Int) 0) | ((with_reducible refine gate_store (t := 3) (p := 16) rfl ?_); (try (rw [drewN_self w12]; generalize hq_ : World.drewN w12 _ = w12; have n0_ := hqZ (Kd.R_at hq_ Vh.1); have n1_ := hqZ (Kd.R_at hq_ JL.1); have n2_ := hqZ (blk_at hq_ Js.1); have n3_ := hqZ (below_at hq_ HB.1); clear hq_ Vh JL Js HB; have Vh := n0_; have JL := n1_; have Js := n2_; have HB := n3_; clear n0_ n1_ n2_ n3_; (try (have n_ := hqZ (Kd.R_mono (ok' := (fun k_ => some k_ ≠ (.slice j5 XJ.length Yt : Value).ownBlock)) JL.1 (fun k_ hk => hk.2)); clear JL; have JL := n_; clear n_)); (try (obtain ⟨hy13_, hz13_⟩ := Kd.R_celln 0 JL.1 (a1 : Int) (of_decide_eq_true (by assumption)) (of_decide_eq_true (by assumption)))); (try (have HP13 := Kd.R_putg JL.1 (a1 : Int) 0)))); refine store_event (t := 3) (p := 16) (v := ?vo_w14) (w1 := (w12.setCell ⟨vF, (a1 : Int).toNat, none⟩ (.int .i64 0))) ?hg ?ho ?hn ?hr ?_; (case ho => rfl); (case hg => rfl); (case hn => rfl); (case hr => go_simp); intro w14 hw; have hg : w12.grownBy w14 (some vF) := (by rw [hw]; exact HP13.2); have hp_ : Kd.R (Kd.int .i64) 3 w14 w.heap.size (fun k_ => some k_ ≠ (.slice j5 XJ.length Yt : Value).ownBlock) (.slice (some ⟨vF, 0, none⟩) YS.length XD) dK := (by rw [hw, Ny290.1]; exact HP13.1); clear HP13; replace Js := hqZ (zl0 (g := VT) (Js.1) hg (Kd.R_ne JL.1 Js.1 (by decide))); replace Vh := hqZ (Kd.R_after (v := (.slice (some ⟨vF, 0, none⟩) YS.length XD)) (v1 := (.slice (some ⟨vF, 0, none⟩) YS.length XD)) (ok := (fun _ => True)) (Vh.1) hg (.inl rfl)); replace JL := hqZ (hp_); replace HB := hqZ ((by rw [hw]; exact zm0 (HB.1) GB6.1 : Below w.heap.size w w14)); clear hg hw hp_) | ((with_reducible refine zi0 (N := 18) rfl ?_); refine Kd.R_lit (Kd.int .i64) _ 3 ?hg (N := 18) ?hd (xs := ([a1] : List Int)) (inner := [.int .i64 a1]) (ok := fun _ => True) (okp := fun _ => True) ?hr ?hp (fun _ hk => hk) trivial (Below.refl _ _) (Nat.le_refl _) (by simp) ?_; (case hd | hg => rfl); (case hr => go_simp); (case hp => exact (Reps.one (show Kd.M (Kd.int .i64) _ _ _ a1 [.int .i64 a1] from rfl) (Reps.none _ _))); intro v292 w15 ho16 hb hg_ hnew_; clear hg_ hnew_; (rw [← Ny291.1] at ho16); have El := hqZ (Kd.R_lower (Kd.R_new' (Kd.R_new' ho16 (Kd.R_lt (Vh.1))) (Kd.R_lt (JL.1))) (zb0 (HB.1))); replace Vh := hqZ (Kd.R_elder' (Vh.1) (Kd.R_base ho16) hb); replace JL := hqZ (Kd.R_elder' (JL.1) (Kd.R_base ho16) hb); replace Js := hqZ (zd0 (g := VT) (Js.1) hb); replace HB := hqZ (za0 (HB.1) hb); clear hb ho16))
 repeat (go_quiet (first | ((with_reducible refine zi0 (N := 2) rfl ?_); refine zk0 ?hg (N := 2) ?hd (cs := #[.slice J4 J0.length J2]) (t := 26) ?hr ?_; (case hd | hg => rfl); (case hr => go_simp <;> rfl); intro VT hg w7 hbox hb; have Js := hqZ (hbox); have De := hqZ ((by rw [hg]; exact (zb0 (HB.1)) : w.heap.size ≤ VT)); have Df := hqZ ((by rw [hg]; exact (zb0 (HB.1)) : w.heap.size ≤ VT)); replace HB := hqZ (za0 (HB.1) hb); clear hb hbox hg) | ((with_reducible refine zi0 (N := 9) rfl ?_); refine Kd.R_lit (Kd.int .i64) _ 3 ?hg (N := 9) ?hd (xs := ([(-1)] : List Int)) (inner := [.int .i64 (-1)]) (ok := fun _ => True) (okp := fun _ => True) ?hr ?hp (fun _ hk => hk) trivial (Below.refl _ _) (Nat.le_refl _) (by simp) ?_; (case hd | hg => rfl); (case hr => go_simp <;> rfl); (case hp => exact (Reps.one (show Kd.M (Kd.int .i64) _ _ _ (-1) [.int .i64 (-1)] from rfl) (Reps.none _ _))); intro v285 w8 ho9 hb hg_ hnew_; clear hg_ hnew_; (first | rw [← Ny284.1] at ho9 | (simp only [Int.reduceToNat] at ho9; rw [← Ny284.1] at ho9)); have Vh := hqZ (Kd.R_lower ho9 (zb0 (HB.1))); replace Js := hqZ (zd0 (g := VT) (Js.1) hb); replace HB := hqZ (za0 (HB.1) hb); clear hb ho9; have Y0 : w8.cell? ⟨VT, 0, none⟩ = some (.slice J4 J0.length J2) := (zf0 Js.1 0).trans rfl; have Y1 := zc0 Js.1 0; obtain ⟨j5, Yt, eo11⟩ := Kd.R_slice Vh.1; subst eo11) | (go_at_call 77; (with_reducible refine (ya2.calls _ _ XJ (J0.length : Int) YS _ ?side1 ?side2 A3.1).mono ?_); (case side1 => exact (Kd.R_reads' Vh.1).2.2); (case side2 => exact (Kd.R_reads' Vh.1).2.1); rintro e w12 ⟨v288, rfl, ho0, hb⟩; have JL := hqZ (Kd.R_lower (Kd.R_new' ho0 (Kd.R_lt (Vh.1))) (zb0 (HB.1))); replace Vh := hqZ (Kd.R_elder' (Vh.1) (Kd.R_base ho0) hb); replace Js := hqZ (zd0 (g := VT) (Js.1) hb); replace HB := hqZ (za0 (HB.1) hb); clear hb ho0; have p6 : 0 ≤ (a1 : Int) := of_decide_eq_true (by assumption); have q6 : (a1 : Int) < ((YS.length : Int) : Int) := of_decide_eq_true (by assumption); obtain ⟨vF, XD, eo6, Dg, gl6, cl6, HG6⟩ := Kd.R_form JL.1 (by omega); (first | cases eo6 | (injection eo6 with ea_ en_ ec_; (first | subst ea_ | (injection ea_ with ea_; subst ea_)); subst ec_; clear en_)); have GB6 := hqZ Dg; have GG6 := hqZ HG6; clear Dg gl6 HG6; obtain ⟨hx6_0, hf6_0⟩ := Kd.R_celln 0 JL.1 (a1 : Int) p6 q6; replace p6 := eq_true p6; replace q6 := eq_true q6; have n_ := hqZ (Kd.R_mono (ok' := (fun k_ => some k_ ≠ (.slice j5 XJ.length Yt : Value).ownBlock)) JL.1 (fun k_ hk => hk.2)); clear JL; have JL := n_; clear n_; obtain ⟨hy13_, hz13_⟩ := Kd.R_celln 0 JL.1 (a1 : Int) (of_decide_eq_true (by assumption)) (of_decide_eq_true (by assumption)); have HP13 := Kd.R_putg JL.1 (a1 : Int) 0) | ((with_reducible refine gate_store (t := 3) (p := 16) rfl ?_); (try (rw [drewN_self w12]; generalize hq_ : World.drewN w12 _ = w12; have n0_ := hqZ (Kd.R_at hq_ Vh.1); have n1_ := hqZ (Kd.R_at hq_ JL.1); have n2_ := hqZ (blk_at hq_ Js.1); have n3_ := hqZ (below_at hq_ HB.1); clear hq_ Vh JL Js HB; have Vh := n0_; have JL := n1_; have Js := n2_; have HB := n3_; clear n0_ n1_ n2_ n3_; (try (have n_ := hqZ (Kd.R_mono (ok' := (fun k_ => some k_ ≠ (.slice j5 XJ.length Yt : Value).ownBlock)) JL.1 (fun k_ hk => hk.2)); clear JL; have JL := n_; clear n_)); (try (obtain ⟨hy13_, hz13_⟩ := Kd.R_celln 0 JL.1 (a1 : Int) (of_decide_eq_true (by assumption)) (of_decide_eq_true (by assumption)))); (try (have HP13 := Kd.R_putg JL.1 (a1 : Int) 0)))); refine store_event (t := 3) (p := 16) (v := ?vo_w14) (w1 := (w12.setCell ⟨vF, (a1 : Int).toNat, none⟩ (.int .i64 0))) ?hg ?ho ?hn ?hr ?_; (case ho => rfl); (case hg => rfl); (case hn => rfl); (case hr => go_simp <;> rfl); intro w14 hw; have hg : w12.grownBy w14 (some vF) := (by rw [hw]; exact HP13.2); have hp_ : Kd.R (Kd.int .i64) 3 w14 w.heap.size (fun k_ => some k_ ≠ (.slice j5 XJ.length Yt : Value).ownBlock) (.slice (some ⟨vF, 0, none⟩) YS.length XD) dK := (by rw [hw, Ny290.1]; exact HP13.1); clear HP13; replace Js := hqZ (zl0 (g := VT) (Js.1) hg (Kd.R_ne JL.1 Js.1 (by decide))); replace Vh := hqZ (Kd.R_after (v := (.slice (some ⟨vF, 0, none⟩) YS.length XD)) (v1 := (.slice (some ⟨vF, 0, none⟩) YS.length XD)) (ok := (fun _ => True)) (Vh.1) hg (.inl rfl)); replace JL := hqZ (hp_); replace HB := hqZ ((by rw [hw]; exact zm0 (HB.1) GB6.1 : Below w.heap.size w w14)); clear hg hw hp_) | ((with_reducible refine zi0 (N := 18) rfl ?_); refine Kd.R_lit (Kd.int .i64) _ 3 ?hg (N := 18) ?hd (xs := ([a1] : List Int)) (inner := [.int .i64 a1]) (ok := fun _ => True) (okp := fun _ => True) ?hr ?hp (fun _ hk => hk) trivial (Below.refl _ _) (Nat.le_refl _) (by simp) ?_; (case hd | hg => rfl); (case hr => go_simp <;> rfl); (case hp => exact (Reps.one (show Kd.M (Kd.int .i64) _ _ _ a1 [.int .i64 a1] from rfl) (Reps.none _ _))); intro v292 w15 ho16 hb hg_ hnew_; clear hg_ hnew_; (first | rw [← Ny291.1] at ho16 | (simp only [Int.reduceToNat] at ho16; rw [← Ny291.1] at ho16)); have El := hqZ (Kd.R_lower (Kd.R_new' (Kd.R_new' ho16 (Kd.R_lt (Vh.1))) (Kd.R_lt (JL.1))) (zb0 (HB.1))); replace Vh := hqZ (Kd.R_elder' (Vh.1) (Kd.R_base ho16) hb); replace JL := hqZ (Kd.R_elder' (JL.1) (Kd.R_base ho16) hb); replace Js := hqZ (zd0 (g := VT) (Js.1) hb); replace HB := hqZ (za0 (HB.1) hb); clear hb ho16)); try go_wp2_with (first | ((with_reducible refine zi0 (N := 2) rfl ?_); refine zk0 ?hg (N := 2) ?hd (cs := #[.slice J4 J0.length J2]) (t := 26) ?hr ?_; (case hd | hg => rfl); (case hr => go_simp <;> rfl); intro VT hg w7 hbox hb; have Js := hqZ (hbox); have De := hqZ ((by rw [hg]; exact (zb0 (HB.1)) : w.heap.size ≤ VT)); have Df := hqZ ((by rw [hg]; exact (zb0 (HB.1)) : w.heap.size ≤ VT)); replace HB := hqZ (za0 (HB.1) hb); clear hb hbox hg) | ((with_reducible refine zi0 (N := 9) rfl ?_); refine Kd.R_lit (Kd.int .i64) _ 3 ?hg (N := 9) ?hd (xs := ([(-1)] : List Int)) (inner := [.int .i64 (-1)]) (ok := fun _ => True) (okp := fun _ => True) ?hr ?hp (fun _ hk => hk) trivial (Below.refl _ _) (Nat.le_refl _) (by simp) ?_; (case hd | hg => rfl); (case hr => go_simp <;> rfl); (case hp => exact (Reps.one (show Kd.M (Kd.int .i64) _ _ _ (-1) [.int .i64 (-1)] from rfl) (Reps.none _ _))); intro v285 w8 ho9 hb hg_ hnew_; clear hg_ hnew_; (first | rw [← Ny284.1] at ho9 | (simp only [Int.reduceToNat] at ho9; rw [← Ny284.1] at ho9)); have Vh := hqZ (Kd.R_lower ho9 (zb0 (HB.1))); replace Js := hqZ (zd0 (g := VT) (Js.1) hb); replace HB := hqZ (za0 (HB.1) hb); clear hb ho9; have Y0 : w8.cell? ⟨VT, 0, none⟩ = some (.slice J4 J0.length J2) := (zf0 Js.1 0).trans rfl; have Y1 := zc0 Js.1 0; obtain ⟨j5, Yt, eo11⟩ := Kd.R_slice Vh.1; subst eo11) | (go_at_call 77; (with_reducible refine (ya2.calls _ _ XJ (J0.length : Int) YS _ ?side1 ?side2 A3.1).mono ?_); (case side1 => exact (Kd.R_reads' Vh.1).2.2); (case side2 => exact (Kd.R_reads' Vh.1).2.1); rintro e w12 ⟨v288, rfl, ho0, hb⟩; have JL := hqZ (Kd.R_lower (Kd.R_new' ho0 (Kd.R_lt (Vh.1))) (zb0 (HB.1))); replace Vh := hqZ (Kd.R_elder' (Vh.1) (Kd.R_base ho0) hb); replace Js := hqZ (zd0 (g := VT) (Js.1) hb); replace HB := hqZ (za0 (HB.1) hb); clear hb ho0; have p6 : 0 ≤ (a1 : Int) := of_decide_eq_true (by assumption); have q6 : (a1 : Int) < ((YS.length : Int) : Int) := of_decide_eq_true (by assumption); obtain ⟨vF, XD, eo6, Dg, gl6, cl6, HG6⟩ := Kd.R_form JL.1 (by omega); (first | cases eo6 | (injection eo6 with ea_ en_ ec_; (first | subst ea_ | (injection ea_ with ea_; subst ea_)); subst ec_; clear en_)); have GB6 := hqZ Dg; have GG6 := hqZ HG6; clear Dg gl6 HG6; obtain ⟨hx6_0, hf6_0⟩ := Kd.R_celln 0 JL.1 (a1 : Int) p6 q6; replace p6 := eq_true p6; replace q6 := eq_true q6; have n_ := hqZ (Kd.R_mono (ok' := (fun k_ => some k_ ≠ (.slice j5 XJ.length Yt : Value).ownBlock)) JL.1 (fun k_ hk => hk.2)); clear JL; have JL := n_; clear n_; obtain ⟨hy13_, hz13_⟩ := Kd.R_celln 0 JL.1 (a1 : Int) (of_decide_eq_true (by assumption)) (of_decide_eq_true (by assumption)); have HP13 := Kd.R_putg JL.1 (a1 : Int) 0) | ((with_reducible refine gate_store (t := 3) (p := 16) rfl ?_); (try (rw [drewN_self w12]; generalize hq_ : World.drewN w12 _ = w12; have n0_ := hqZ (Kd.R_at hq_ Vh.1); have n1_ := hqZ (Kd.R_at hq_ JL.1); have n2_ := hqZ (blk_at hq_ Js.1); have n3_ := hqZ (below_at hq_ HB.1); clear hq_ Vh JL Js HB; have Vh := n0_; have JL := n1_; have Js := n2_; have HB := n3_; clear n0_ n1_ n2_ n3_; (try (have n_ := hqZ (Kd.R_mono (ok' := (fun k_ => some k_ ≠ (.slice j5 XJ.length Yt : Value).ownBlock)) JL.1 (fun k_ hk => hk.2)); clear JL; have JL := n_; clear n_)); (try (obtain ⟨hy13_, hz13_⟩ := Kd.R_celln 0 JL.1 (a1 : Int) (of_decide_eq_true (by assumption)) (of_decide_eq_true (by assumption)))); (try (have HP13 := Kd.R_putg JL.1 (a1 : Int) 0)))); refine store_event (t := 3) (p := 16) (v := ?vo_w14) (w1 := (w12.setCell ⟨vF, (a1 : Int).toNat, none⟩ (.int .i64 0))) ?hg ?ho ?hn ?hr ?_; (case ho => rfl); (case hg => rfl); (case hn => rfl); (case hr => go_simp <;> rfl); intro w14 hw; have hg : w12.grownBy w14 (some vF) := (by rw [hw]; exact HP13.2); have hp_ : Kd.R (Kd.int .i64) 3 w14 w.heap.size (fun k_ => some k_ ≠ (.slice j5 XJ.length Yt : Value).ownBlock) (.slice (some ⟨vF, 0, none⟩) YS.length XD) dK := (by rw [hw, Ny290.1]; exact HP13.1); clear HP13; replace Js := hqZ (zl0 (g := VT) (Js.1) hg (Kd.R_ne JL.1 Js.1 (by decide))); replace Vh := hqZ (Kd.R_after (v := (.slice (some ⟨vF, 0, none⟩) YS.length XD)) (v1 := (.slice (some ⟨vF, 0, none⟩) YS.length XD)) (ok := (fun _ => True)) (Vh.1) hg (.inl rfl)); replace JL := hqZ (hp_); replace HB := hqZ ((by rw [hw]; exact zm0 (HB.1) GB6.1 : Below w.heap.size w w14)); clear hg hw hp_) | ((with_reducible refine zi0 (N := 18) rfl ?_); refine Kd.R_lit (Kd.int .i64) _ 3 ?hg (N := 18) ?hd (xs := ([a1] : List Int)) (inner := [.int .i64 a1]) (ok := fun _ => True) (okp := fun _ => True) ?hr ?hp (fun _ hk => hk) trivial (Below.refl _ _) (Nat.le_refl _) (by simp) ?_; (case hd | hg => rfl); (case hr => go_simp <;> rfl); (case hp => exact (Reps.one (show Kd.M (Kd.int .i64) _ _ _ a1 [.int .i64 a1] from rfl) (Reps.none _ _))); intro v292 w15 ho16 hb hg_ hnew_; clear hg_ hnew_; (first | rw [← Ny291.1] at ho16 | (simp only [Int.reduceToNat] at ho16; rw [← Ny291.1] at ho16)); have El := hqZ (Kd.R_lower (Kd.R_new' (Kd.R_new' ho16 (Kd.R_lt (Vh.1))) (Kd.R_lt (JL.1))) (zb0 (HB.1))); replace Vh := hqZ (Kd.R_elder' (Vh.1) (Kd.R_base ho16) hb); replace JL := hqZ (Kd.R_elder' (JL.1) (Kd.R_base ho16) hb); replace Js := hqZ (zd0 (g := VT) (Js.1) hb); replace HB := hqZ (za0 (HB.1) hb); clear hb ho16)))
 go_loopg [6] k (fun kq v6 w' => ∃ (Vv : List Int) (JB : List Int), zg0 (yl0.l0 kq Vv JB J0 = some r) ∧ zg0 (kq ≤ k) ∧ zg0 (Kd.R (Kd.int .i64) 3 w' w.heap.size (fun k_ => some k_ ≠ (v6 : Value).ownBlock) (.slice (some ⟨vF, 0, none⟩) YS.length XD) Vv) ∧ zg0 (Kd.Q (Kd.int .i64) 3 w' w.heap.size (fun k_ => some k_ ≠ ((.slice (some ⟨vF, 0, none⟩) YS.length XD) : Value).ownBlock) v6 JB) ∧ zg0 (w'.heap[VT]? = some (.cells #[(.slice J4 J0.length J2)] 26 (0, 0))) ∧ zg0 (Below w.heap.size w w'))
 case atStart => exact ⟨(dK), (bK), H', ⟨Nat.le_refl _⟩, ⟨Kd.R_mono JL.1 (fun _ hk => hk.2)⟩, ⟨Kd.Q_of_R (Kd.R_mono El.1 (fun _ hk => hk.2))⟩, ⟨Js.1⟩, ⟨HB.1⟩⟩
 case round =>
  clear H'
  try clear p2
  try clear c4
  try clear c4b0
  try clear c5
  try clear c5b0
  try clear p6
  try clear q6
  try clear hx6
  try clear hf6
  try clear c7
  try clear Y0
  try clear Y1
  try clear hx6_0
  try clear p6
  try clear q6
  obtain ⟨Vv, JB, HA, V8, Jc, Jy, Js, HB⟩ := hrel
  have hl5_1 := (Kd.R_reads' Jc.1).1
  rw [hl5_1] at Jc
  (try simp only [hl5_1])
  (try simp only [hl5_1] at Js)
  (try simp only [hl5_1] at Jy)
  obtain _ | k1 := gk
  ·exact absurd HA.1 (by simp [yl0.l0])
  have H := HA.1
  clear HA
  simp only [yl0.l0] at H
  by_cases c17 : (JB.length : Int) > 0
  rotate_left
  ·rw [if_neg c17] at H
   have c17b0 : decide (0 < (JB.length : Int)) = false := decide_eq_false c17
   (try (have c17b0h := c17b0; simp only [hl5_1] at c17b0h))
   have c17b1 : decide (0 < JB.length) = false := decide_eq_false (by omega)
   (try (have c17b1h := c17b1; simp only [hl5_1] at c17b1h))
   clear c17
   obtain rfl := Option.some.inj H
   obtain ⟨Je2, qu, eo41, _⟩ := Kd.Q_slice Jy.1
   subst eo41
   go_wp2
   repeat (go_quiet (fail); try go_wp2)
   go_ret
   exact ⟨_, rfl, Kd.R_mono Jc.1 (fun _ hk => trivial), HB.1⟩
  rw [if_pos c17] at H
  have c17b0 : decide (0 < (JB.length : Int)) = true := decide_eq_true c17
  (try (have c17b0h := c17b0; simp only [hl5_1] at c17b0h))
  have c17b1 : decide (0 < JB.length) = true := decide_eq_true (by omega)
  (try (have c17b1h := c17b1; simp only [hl5_1] at c17b1h))
  clear c17
  by_cases c18 : 0 < (JB.length : Int)
  rotate_left
  ·rw [if_neg c18] at H
   exact absurd H (by simp)
  rw [if_pos c18] at H
  have c18b0 : decide (0 < (JB.length : Int)) = true := decide_eq_true c18
  (try (have c18b0h := c18b0; simp only [hl5_1] at c18b0h))
  have c18b1 : decide (0 < JB.length) = true := decide_eq_true (by omega)
  (try (have c18b1h := c18b1; simp only [hl5_1] at c18b1h))
  clear c18
  by_cases c19 : 0 ≤ (rd JB 0)
  rotate_left
  ·rw [if_neg c19] at H
   exact absurd H (by simp)
  rw [if_pos c19] at H
  have c19b0 : decide (0 ≤ (rd JB 0)) = true := decide_eq_true c19
  (try (have c19b0h := c19b0; simp only [hl5_1] at c19b0h))
  clear c19
  by_cases c20 : (rd JB 0) < (J0.length : Int)
  rotate_left
  ·rw [if_neg c20] at H
   exact absurd H (by simp)
  rw [if_pos c20] at H
  have c20b0 : decide ((rd JB 0) < (J0.length : Int)) = true := decide_eq_true c20
  (try (have c20b0h := c20b0; simp only [hl5_1] at c20b0h))
  clear c20
  have H' := hqZ H
  clear H
  obtain ⟨qv, qw, eo21, _⟩ := Kd.Q_slice Jy.1
  subst eo21
  have Yp : wr.cell? ⟨VT, 0, none⟩ = some (.slice J4 J0.length J2) := (zf0 Js.1 0).trans rfl
  have Yq := zc0 Js.1 0
  have p294 : 0 ≤ (0 : Int) := (by omega)
  have q294 : 0 < (JB.length : Int) := oA
  obtain ⟨ad294, e294, hx294_0⟩ := Kd.at_int (Kd.Q_reads' Jy.1).2.2 0 p294 q294
  cases e294
  have qi294 : (0 < JB.length) = True := eq_true (by omega)
  (try rw [show ((0 : Int)).toNat = 0 from rfl] at hx294_0)
  (try rw [Addr.add_zero'] at hx294_0)
  replace p294 := eq_true p294
  replace q294 := eq_true q294
  have p295 : 0 ≤ ((rd JB 0) : Int) := oA
  have q295 : (rd JB 0) < (J0.length : Int) := oA
  obtain ⟨ad295, Jf9, Jg0, e295, hx295_0, hl295_0, hi295_0⟩ := at_L2 Ja.1 (rd JB 0) p295 q295
  cases e295
  replace hx295_0 := (HB.1.cell (World.block_lt_of_cell? w _ hx295_0)).trans hx295_0
  have d6 := hqZ hi295_0
  have HC295_0 := hqZ hl295_0
  clear hi295_0 hl295_0
  replace p295 := eq_true p295
  replace q295 := eq_true q295
  go_wp2
  repeat (go_quiet (fail); try go_wp2)
  go_loopg [6, 32] k1 (fun kq v6 v32 w' => ∃ (Vp : List Int) (V9 : List Int) (V3 : Int), v32 = .int .i64 V3 ∧ zg0 (yl0.l1 kq Vp V9 (rd_L2 J0 (rd JB 0)) ((rd_L2 J0 (rd JB 0)).length : Int) V3 J0 = some r) ∧ zg0 (kq ≤ k1) ∧ zg0 (Kd.R (Kd.int .i64) 3 w' w.heap.size (fun k_ => some k_ ≠ (v6 : Value).ownBlock) (.slice (some ⟨vF, 0, none⟩) Vv.length XD) Vp) ∧ zg0 (Kd.Q (Kd.int .i64) 3 w' w.heap.size (fun k_ => some k_ ≠ ((.slice (some ⟨vF, 0, none⟩) Vv.length XD) : Value).ownBlock) v6 V9) ∧ zg0 (w'.heap[VT]? = some (.cells #[(.slice (some ad295) J0.length J2)] 26 (0, 0))) ∧ zg0 (Below w.heap.size w w'))
  case atStart => exact ⟨(Vv), (JB), (0), (rfl), H', ⟨Nat.le_refl _⟩, ⟨by (try simp only [hl5_1]); exact Jc.1⟩, ⟨by (try simp only [hl5_1]); exact Jy.1⟩, ⟨by (try simp only [hl5_1]); exact Js.1⟩, ⟨hqB HB.1⟩⟩
  case round =>
   clear H'
   try clear c1
   try clear c2
   try clear p2
   try clear q2
   try clear hx2
   try clear qi2
   try clear c4
   try clear c4b0
   try clear c5
   try clear c5b0
   try clear p6
   try clear q6
   try clear hx6
   try clear hf6
   try clear c7
   try clear c17
   try clear c17b0
   try clear c17b1
   try clear c18
   try clear c18b0
   try clear c18b1
   try clear c19
   try clear c19b0
   try clear c20
   try clear c20b0
   try clear Y0
   try clear Yp
   try clear Y1
   try clear Yq
   try clear hx294_0
   try clear hx295_0
   try clear hx6_0
   try clear p2
   try clear p294
   try clear p295
   try clear p6
   try clear q294
   try clear q295
   try clear q6
   obtain ⟨Vp, V9, V3, rfl, HA, YO, Jc, Jy, Js, HB⟩ := hrel
   have hl5_2 := (Kd.R_reads' Jc.1).1
   rw [hl5_2] at Jc
   (try simp only [hl5_2])
   (try simp only [hl5_2] at Js)
   (try simp only [hl5_2] at Jy)
   obtain _ | k2 := gk
   ·exact absurd HA.1 (by simp [yl0.l1])
   have H := HA.1
   clear HA
   simp only [yl0.l1] at H
   by_cases c23 : V3 < ((rd_L2 J0 (rd JB 0)).length : Int)
   rotate_left
   ·rw [if_neg c23] at H
    have c23b0 : decide (V3 < ((rd_L2 J0 (rd JB 0)).length : Int)) = false := decide_eq_false c23
    (try (have c23b0h := c23b0; simp only [hl5_1, hl5_2] at c23b0h))
    clear c23
    by_cases c38 : 1 ≤ (V9.length : Int)
    rotate_left
    ·rw [if_neg c38] at H
     exact absurd H (by simp)
    rw [if_pos c38] at H
    have c38b0 := eq_true c38
    have c38b1 : decide (1 ≤ (V9.length : Int)) = true := decide_eq_true c38
    clear c38
    obtain ⟨qA, hy304⟩ : ∃ y_ : List Int, y_ = (V9.drop (1 : Int).toNat) := ⟨_, rfl⟩
    replace H : (yl0.l0 k2 Vp qA J0) = some r := by (rw [hy304]; with_reducible exact H)
    have Ny304 := hqZ hy304
    clear hy304
    have H' := hqZ H
    clear H
    obtain ⟨X3, Xg, eo39, _⟩ := Kd.Q_slice Jy.1
    subst eo39
    have q40 : (1 : Int) ≤ ((V9.length : Int) : Int) := oA
    obtain ⟨i040, hi040, _, hsz40, _⟩ := info_parts info3
    have hcut40 := cut_from (P := Try.prog) 27 3 .i64 Try.underlying27 hi040 1 hsz40 X3 V9.length Xg 1 (by omega) q40
    have hr40 := Kd.Q_drop (k := (1 : Int).toNat) Jy.1 (by omega)
    obtain ⟨A40, hA40⟩ : ∃ A1, A1 = (if Xg = (1 : Int).toNat then X3 else (X3 : Option Addr).map (·.add ((1 : Int).toNat * 1))) := ⟨_, rfl⟩
    obtain ⟨c40, hc40⟩ : ∃ c1, c1 = Xg - (1 : Int).toNat := ⟨_, rfl⟩
    have hy40 : qA.length = V9.length - (1 : Int).toNat := (by rw [Ny304.1, List.length_drop])
    rw [← Ny304.1] at hr40
    rw [← hy40, ← hA40, ← hc40] at hcut40
    replace hr40 : Kd.Q (Kd.int .i64) 3 wr w.heap.size (fun k_ => some k_ ≠ (.slice (some ⟨vF, 0, none⟩) Vp.length XD : Value).ownBlock) (.slice A40 qA.length c40) qA := (by rw [hA40, hc40, hy40]; exact hr40)
    have HE40 : zg0 ((Value.slice A40 qA.length c40).ownBlock = (.slice X3 V9.length Xg : Value).ownBlock) := ⟨by rw [hA40]; split <;> (cases (X3 : Option Addr) <;> rfl)⟩
    clear hy40 hi040 hsz40 Jy hA40 hc40
    have bL := hqZ hr40
    clear hr40
    replace q40 := eq_true q40
    have n_ := hqZ (Kd.R_mono (ok' := fun k_ => some k_ ≠ (.slice A40 qA.length c40 : Value).ownBlock) Jc.1 (fun k_ hk => (by rw [HE40.1]; exact hk)))
    clear Jc
    have Jc := n_
    clear n_
    go_wp2
    repeat (go_quiet (fail); try go_wp2)
    (try simp only [← hl5_1, ← hl5_2])
    go_roundg k2
    case measure => have := V8.1; have := YO.1; omega
    case rel => exact ⟨(Vp), (qA), H', ⟨by have := V8.1; have := YO.1; omega⟩, ⟨by (try simp only [hl5_1]); (try simp only [hl5_2]); exact Jc.1⟩, ⟨by (try simp only [hl5_1]); (try simp only [hl5_2]); exact bL.1⟩, ⟨by (try simp only [hl5_1]); (try simp only [hl5_2]); exact Js.1⟩, ⟨HB.1⟩⟩
   rw [if_pos c23] at H
   have c23b0 : decide (V3 < ((rd_L2 J0 (rd JB 0)).length : Int)) = true := decide_eq_true c23
   (try (have c23b0h := c23b0; simp only [hl5_1, hl5_2] at c23b0h))
   clear c23
   by_cases c24 : 0 ≤ V3
   rotate_left
   ·rw [if_neg c24] at H
    exact absurd H (by simp)
   rw [if_pos c24] at H
   have c24b0 : decide (0 ≤ V3) = true := decide_eq_true c24
   (try (have c24b0h := c24b0; simp only [hl5_1, hl5_2] at c24b0h))
   clear c24
   by_cases c25 : V3 < ((rd_L2 J0 (rd JB 0)).length : Int)
   rotate_left
   ·rw [if_neg c25] at H
    exact absurd H (by simp)
   rw [if_pos c25] at H
   have c25b0 : decide (V3 < ((rd_L2 J0 (rd JB 0)).length : Int)) = true := decide_eq_true c25
   (try (have c25b0h := c25b0; simp only [hl5_1, hl5_2] at c25b0h))
   clear c25
   by_cases c26 : 0 ≤ (rd (rd_L2 J0 (rd JB 0)) V3)
   rotate_left
   ·rw [if_neg c26] at H
    exact absurd H (by simp)
   rw [if_pos c26] at H
   have c26b0 : decide (0 ≤ (rd (rd_L2 J0 (rd JB 0)) V3)) = true := decide_eq_true c26
   (try (have c26b0h := c26b0; simp only [hl5_1, hl5_2] at c26b0h))
   clear c26
   by_cases c27 : (rd (rd_L2 J0 (rd JB 0)) V3) < (Vp.length : Int)
   rotate_left
   ·rw [if_neg c27] at H
    exact absurd H (by simp)
   rw [if_pos c27] at H
   have c27b0 : decide ((rd (rd_L2 J0 (rd JB 0)) V3) < (Vp.length : Int)) = true := decide_eq_true c27
   (try (have c27b0h := c27b0; simp only [hl5_1, hl5_2] at c27b0h))
   clear c27
   by_cases c28 : (rd Vp (rd (rd_L2 J0 (rd JB 0)) V3)) < 0
   rotate_left
   ·rw [if_neg c28] at H
    have c28b0 : decide ((rd Vp (rd (rd_L2 J0 (rd JB 0)) V3)) < 0) = false := decide_eq_false c28
    (try (have c28b0h := c28b0; simp only [hl5_1, hl5_2] at c28b0h))
    clear c28
    have H' := hqZ H
    clear H
    have p296 : 0 ≤ (V3 : Int) := oA
    have q296 : V3 < ((rd_L2 J0 (rd JB 0)).length : Int) := oA
    obtain ⟨ad296, e296, hx296_0⟩ := Kd.at_int d6.1 V3 p296 q296
    cases e296
    replace hx296_0 := (HB.1.cell (World.block_lt_of_cell? w _ hx296_0)).trans hx296_0
    replace p296 := eq_true p296
    replace q296 := eq_true q296
    have p297 : 0 ≤ ((rd (rd_L2 J0 (rd JB 0)) V3) : Int) := oA
    have q297 : (rd (rd_L2 J0 (rd JB 0)) V3) < (Vp.length : Int) := oA
    obtain ⟨ad297, e297, hx297_0⟩ := Kd.at_int (Kd.R_reads' Jc.1).2.2 (rd (rd_L2 J0 (rd JB 0)) V3) p297 q297
    obtain rfl : (⟨vF, 0, none⟩ : Addr) = ad297 := (by injection e297)
    (simp only [add_plain] at hx297_0)
    replace p297 := eq_true p297
    replace q297 := eq_true q297
    go_wp2
    repeat (go_quiet (fail); try go_wp2)
    (try simp only [← hl5_2])
    go_roundg k2
    case measure => have := V8.1; have := YO.1; omega
    case rel => exact ⟨(Vp), (V9), (wrap64 (V3 + 1)), (rfl), H', ⟨by have := V8.1; have := YO.1; omega⟩, ⟨by (try simp only [hl5_1]); (try simp only [hl5_2]); exact Jc.1⟩, ⟨by (try simp only [hl5_1]); (try simp only [hl5_2]); exact Jy.1⟩, ⟨by (try simp only [hl5_1]); (try simp only [hl5_2]); exact Js.1⟩, ⟨HB.1⟩⟩
   rw [if_pos c28] at H
   have c28b0 : decide ((rd Vp (rd (rd_L2 J0 (rd JB 0)) V3)) < 0) = true := decide_eq_true c28
   (try (have c28b0h := c28b0; simp only [hl5_1, hl5_2] at c28b0h))
   clear c28
   by_cases c29 : 0 < (V9.length : Int)
   rotate_left
   ·rw [if_neg c29] at H
    exact absurd H (by simp)
   rw [if_pos c29] at H
   have c29b0 : decide (0 < (V9.length : Int)) = true := decide_eq_true c29
   (try (have c29b0h := c29b0; simp only [hl5_1, hl5_2] at c29b0h))
   have c29b1 : decide (0 < V9.length) = true := decide_eq_true (by omega)
   (try (have c29b1h := c29b1; simp only [hl5_1, hl5_2] at c29b1h))
   clear c29
   by_cases c30 : 0 ≤ (rd V9 0)
   rotate_left
   ·rw [if_neg c30] at H
    exact absurd H (by simp)
   rw [if_pos c30] at H
   have c30b0 : decide (0 ≤ (rd V9 0)) = true := decide_eq_true c30
   (try (have c30b0h := c30b0; simp only [hl5_1, hl5_2] at c30b0h))
   clear c30
   by_cases c31 : (rd V9 0) < (Vp.length : Int)
   rotate_left
   ·rw [if_neg c31] at H
    exact absurd H (by simp)
   rw [if_pos c31] at H
   have c31b0 : decide ((rd V9 0) < (Vp.length : Int)) = true := decide_eq_true c31
   (try (have c31b0h := c31b0; simp only [hl5_1, hl5_2] at c31b0h))
   clear c31
   obtain ⟨dL, hy300⟩ : ∃ y_ : List Int, y_ = (Vp.set ((rd (rd_L2 J0 (rd JB 0)) V3) : Int).toNat (wrap64 ((rd Vp (rd V9 0)) + 1))) := ⟨_, rfl⟩
   replace H : (if V9.length < 17592186044416 then (yl0.l1 k2 dL (V9 ++ [rd (rd_L2 J0 (rd JB 0)) V3]) (rd_L2 J0 (rd JB 0)) ((rd_L2 J0 (rd JB 0)).length : Int) (wrap64 (V3 + 1)) J0) else (none)) = some r := by (rw [hy300]; with_reducible exact H)
   have Ny300 := hqZ hy300
   clear hy300
   by_cases c33 : V9.length < 17592186044416
   rotate_left
   ·rw [if_neg c33] at H
    exact absurd H (by simp)
   rw [if_pos c33] at H
   have LMc33 := hqZ c33
   clear c33
   obtain ⟨bM, hy301⟩ : ∃ y_ : List Int, y_ = (V9 ++ [rd (rd_L2 J0 (rd JB 0)) V3]) := ⟨_, rfl⟩
   replace H : (yl0.l1 k2 dL bM (rd_L2 J0 (rd JB 0)) ((rd_L2 J0 (rd JB 0)).length : Int) (wrap64 (V3 + 1)) J0) = some r := by (rw [hy301]; with_reducible exact H)
   have Ny301 := hqZ hy301
   clear hy301
   have H' := hqZ H
   clear H
   have p296 : 0 ≤ (V3 : Int) := oA
   have q296 : V3 < ((rd_L2 J0 (rd JB 0)).length : Int) := oA
   obtain ⟨ad296, e296, hx296_0⟩ := Kd.at_int d6.1 V3 p296 q296
   cases e296
   replace hx296_0 := (HB.1.cell (World.block_lt_of_cell? w _ hx296_0)).trans hx296_0
   replace p296 := eq_true p296
   replace q296 := eq_true q296
   have p297 : 0 ≤ ((rd (rd_L2 J0 (rd JB 0)) V3) : Int) := oA
   have q297 : (rd (rd_L2 J0 (rd JB 0)) V3) < (Vp.length : Int) := oA
   obtain ⟨ad297, e297, hx297_0⟩ := Kd.at_int (Kd.R_reads' Jc.1).2.2 (rd (rd_L2 J0 (rd JB 0)) V3) p297 q297
   obtain rfl : (⟨vF, 0, none⟩ : Addr) = ad297 := (by injection e297)
   (simp only [add_plain] at hx297_0)
   replace p297 := eq_true p297
   replace q297 := eq_true q297
   obtain ⟨bs, UC, eo34, _⟩ := Kd.Q_slice Jy.1
   subst eo34
   have p298 : 0 ≤ (0 : Int) := (by omega)
   have q298 : 0 < (V9.length : Int) := oA
   obtain ⟨ad298, e298, hx298_0⟩ := Kd.at_int (Kd.Q_reads' Jy.1).2.2 0 p298 q298
   cases e298
   have qi298 : (0 < V9.length) = True := eq_true (by omega)
   (try rw [show ((0 : Int)).toNat = 0 from rfl] at hx298_0)
   (try rw [Addr.add_zero'] at hx298_0)
   replace p298 := eq_true p298
   replace q298 := eq_true q298
   have p299 : 0 ≤ ((rd V9 0) : Int) := oA
   have q299 : (rd V9 0) < (Vp.length : Int) := oA
   obtain ⟨ad299, e299, hx299_0⟩ := Kd.at_int (Kd.R_reads' Jc.1).2.2 (rd V9 0) p299 q299
   obtain rfl : (⟨vF, 0, none⟩ : Addr) = ad299 := (by injection e299)
   (simp only [add_plain] at hx299_0)
   replace p299 := eq_true p299
   replace q299 := eq_true q299
   have p32 : 0 ≤ ((rd (rd_L2 J0 (rd JB 0)) V3) : Int) := oA
   have q32 : ((rd (rd_L2 J0 (rd JB 0)) V3) : Int) < ((Vp.length : Int) : Int) := oA
   obtain ⟨hx32_0, hf32_0⟩ := Kd.R_celln 0 Jc.1 ((rd (rd_L2 J0 (rd JB 0)) V3) : Int) p32 q32
   replace p32 := eq_true p32
   replace q32 := eq_true q32
   have HP35 := Kd.R_putg Jc.1 ((rd (rd_L2 J0 (rd JB 0)) V3) : Int) (wrap64 ((rd Vp (rd V9 0)) + 1))
   go_wp2_with (first | ((with_reducible refine gate_store (t := 3) (p := 50) rfl ?_); (try (rw [drewN_self wr]; generalize hq_ : World.drewN wr _ = wr; have n0_ := hqZ (Kd.R_at hq_ Jc.1); have n1_ := hqZ (Kd.Q_at hq_ Jy.1); have n2_ := hqZ (blk_at hq_ Js.1); have n3_ := hqZ (below_at hq_ HB.1); clear hq_ Jc Jy Js HB; have Jc := n0_; have Jy := n1_; have Js := n2_; have HB := n3_; clear n0_ n1_ n2_ n3_; (try (have HP35 := Kd.R_putg Jc.1 ((rd (rd_L2 J0 (rd JB 0)) V3) : Int) (wrap64 ((rd Vp (rd V9 0)) + 1)))))); refine store_event (t := 3) (p := 50) (v := ?vo_w36) (w1 := (wr.setCell ⟨vF, ((rd (rd_L2 J0 (rd JB 0)) V3) : Int).toNat, none⟩ (.int .i64 (wrap64 ((rd Vp (rd V9 0)) + 1))))) ?hg ?ho ?hn ?hr ?_; (case ho => rfl); (case hg => rfl); (case hn => rfl); (case hr => go_simp); intro w36 hw; have hg : wr.grownBy w36 (some vF) := (by rw [hw]; exact HP35.2); have hp_ : Kd.R (Kd.int .i64) 3 w36 w.heap.size (fun k_ => some k_ ≠ (.slice (some ad298) V9.length UC : Value).ownBlock) (.slice (some ⟨vF, 0, none⟩) Vp.length XD) dL := (by rw [hw, Ny300.1]; exact HP35.1); clear HP35; replace Jy := hqZ (Kd.Q_after (v := (.slice (some ⟨vF, 0, none⟩) Vp.length XD)) (v1 := (.slice (some ⟨vF, 0, none⟩) Vp.length XD)) (ok := (fun _ => True)) (Kd.Q_mono Jy.1 (fun _ hk => ⟨trivial, hk⟩)) hg (.inl rfl)); replace Js := hqZ (zl0 (g := VT) (Js.1) hg (Kd.R_ne Jc.1 Js.1 (by decide))); replace Jc := hqZ (hp_); replace HB := hqZ ((by rw [hw]; exact zm0 (HB.1) GB6.1 : Below w.heap.size w w36)); clear hg hw hp_) | ((with_reducible refine zu0 (b := .append) (xs := #[.tmp 51, .tmp 53]) rfl ?_); at_builtin; refine Kd.Q_append (Kd.int .i64) (w0 := w) w.heap.size rfl (.tmp 51) (.tmp 53) 27 3 (.int .i64 0) 8 rfl Try.underlying27 info3 rfl (by decide) (by omega) (.slice (some ad298) V9.length UC) V9 (rd (rd_L2 J0 (rd JB 0)) V3) [.int .i64 (rd (rd_L2 J0 (rd JB 0)) V3)] (fun k_ => some k_ ≠ (.slice (some ⟨vF, 0, none⟩) Vp.length XD : Value).ownBlock) (fun _ => False) rfl rfl ?aP (fun _ hk => hk.elim) ?aF ?aO ?aB ?aS ?aL ?_; (case aP => exact rfl); (case aB => exact (HB.1)); (case aF => exact (fun k_ hk => Kd.fresh' (Kd.R_lt (Jc.1)) k_ hk)); (case aO => exact (Kd.Q_mono Jy.1 (fun _ hk => hk.2))); (case aS => exact (zb0 (HB.1))); (case aL => have := LMc33.1; omega); intro v302 w37 ho hb hg hat; rw [← Ny301.1] at ho; have n0_ := hqZ (Kd.R_after (ok := (fun _ => True)) (Kd.R_mono Jc.1 (fun _ hk => ⟨trivial, hk⟩)) hg hat); have n1_ := hqZ (zl0 (g := VT) (Js.1) hg (Kd.Q_ne Jy.1 Js.1 (by decide))); have n2_ := hqZ (hb); have n3_ := hqZ (ho); clear Jc; clear Js; clear HB; clear Jy; have Jc := n0_; have Js := n1_; have HB := n2_; have Em := n3_; clear n0_ n1_ n2_ n3_; clear ho hb hg hat))
   repeat (go_quiet (first | ((with_reducible refine gate_store (t := 3) (p := 50) rfl ?_); (try (rw [drewN_self wr]; generalize hq_ : World.drewN wr _ = wr; have n0_ := hqZ (Kd.R_at hq_ Jc.1); have n1_ := hqZ (Kd.Q_at hq_ Jy.1); have n2_ := hqZ (blk_at hq_ Js.1); have n3_ := hqZ (below_at hq_ HB.1); clear hq_ Jc Jy Js HB; have Jc := n0_; have Jy := n1_; have Js := n2_; have HB := n3_; clear n0_ n1_ n2_ n3_; (try (have HP35 := Kd.R_putg Jc.1 ((rd (rd_L2 J0 (rd JB 0)) V3) : Int) (wrap64 ((rd Vp (rd V9 0)) + 1)))))); refine store_event (t := 3) (p := 50) (v := ?vo_w36) (w1 := (wr.setCell ⟨vF, ((rd (rd_L2 J0 (rd JB 0)) V3) : Int).toNat, none⟩ (.int .i64 (wrap64 ((rd Vp (rd V9 0)) + 1))))) ?hg ?ho ?hn ?hr ?_; (case ho => rfl); (case hg => rfl); (case hn => rfl); (case hr => go_simp <;> rfl); intro w36 hw; have hg : wr.grownBy w36 (some vF) := (by rw [hw]; exact HP35.2); have hp_ : Kd.R (Kd.int .i64) 3 w36 w.heap.size (fun k_ => some k_ ≠ (.slice (some ad298) V9.length UC : Value).ownBlock) (.slice (some ⟨vF, 0, none⟩) Vp.length XD) dL := (by rw [hw, Ny300.1]; exact HP35.1); clear HP35; replace Jy := hqZ (Kd.Q_after (v := (.slice (some ⟨vF, 0, none⟩) Vp.length XD)) (v1 := (.slice (some ⟨vF, 0, none⟩) Vp.length XD)) (ok := (fun _ => True)) (Kd.Q_mono Jy.1 (fun _ hk => ⟨trivial, hk⟩)) hg (.inl rfl)); replace Js := hqZ (zl0 (g := VT) (Js.1) hg (Kd.R_ne Jc.1 Js.1 (by decide))); replace Jc := hqZ (hp_); replace HB := hqZ ((by rw [hw]; exact zm0 (HB.1) GB6.1 : Below w.heap.size w w36)); clear hg hw hp_) | ((with_reducible refine zu0 (b := .append) (xs := #[.tmp 51, .tmp 53]) rfl ?_); at_builtin; refine Kd.Q_append (Kd.int .i64) (w0 := w) w.heap.size rfl (.tmp 51) (.tmp 53) 27 3 (.int .i64 0) 8 rfl Try.underlying27 info3 rfl (by decide) (by omega) (.slice (some ad298) V9.length UC) V9 (rd (rd_L2 J0 (rd JB 0)) V3) [.int .i64 (rd (rd_L2 J0 (rd JB 0)) V3)] (fun k_ => some k_ ≠ (.slice (some ⟨vF, 0, none⟩) Vp.length XD : Value).ownBlock) (fun _ => False) rfl rfl ?aP (fun _ hk => hk.elim) ?aF ?aO ?aB ?aS ?aL ?_; (case aP => exact rfl); (case aB => exact (HB.1)); (case aF => exact (fun k_ hk => Kd.fresh' (Kd.R_lt (Jc.1)) k_ hk)); (case aO => exact (Kd.Q_mono Jy.1 (fun _ hk => hk.2))); (case aS => exact (zb0 (HB.1))); (case aL => have := LMc33.1; omega); intro v302 w37 ho hb hg hat; rw [← Ny301.1] at ho; have n0_ := hqZ (Kd.R_after (ok := (fun _ => True)) (Kd.R_mono Jc.1 (fun _ hk => ⟨trivial, hk⟩)) hg hat); have n1_ := hqZ (zl0 (g := VT) (Js.1) hg (Kd.Q_ne Jy.1 Js.1 (by decide))); have n2_ := hqZ (hb); have n3_ := hqZ (ho); clear Jc; clear Js; clear HB; clear Jy; have Jc := n0_; have Js := n1_; have HB := n2_; have Em := n3_; clear n0_ n1_ n2_ n3_; clear ho hb hg hat)); try go_wp2_with (first | ((with_reducible refine gate_store (t := 3) (p := 50) rfl ?_); (try (rw [drewN_self wr]; generalize hq_ : World.drewN wr _ = wr; have n0_ := hqZ (Kd.R_at hq_ Jc.1); have n1_ := hqZ (Kd.Q_at hq_ Jy.1); have n2_ := hqZ (blk_at hq_ Js.1); have n3_ := hqZ (below_at hq_ HB.1); clear hq_ Jc Jy Js HB; have Jc := n0_; have Jy := n1_; have Js := n2_; have HB := n3_; clear n0_ n1_ n2_ n3_; (try (have HP35 := Kd.R_putg Jc.1 ((rd (rd_L2 J0 (rd JB 0)) V3) : Int) (wrap64 ((rd Vp (rd V9 0)) + 1)))))); refine store_event (t := 3) (p := 50) (v := ?vo_w36) (w1 := (wr.setCell ⟨vF, ((rd (rd_L2 J0 (rd JB 0)) V3) : Int).toNat, none⟩ (.int .i64 (wrap64 ((rd Vp (rd V9 0)) + 1))))) ?hg ?ho ?hn ?hr ?_; (case ho => rfl); (case hg => rfl); (case hn => rfl); (case hr => go_simp <;> rfl); intro w36 hw; have hg : wr.grownBy w36 (some vF) := (by rw [hw]; exact HP35.2); have hp_ : Kd.R (Kd.int .i64) 3 w36 w.heap.size (fun k_ => some k_ ≠ (.slice (some ad298) V9.length UC : Value).ownBlock) (.slice (some ⟨vF, 0, none⟩) Vp.length XD) dL := (by rw [hw, Ny300.1]; exact HP35.1); clear HP35; replace Jy := hqZ (Kd.Q_after (v := (.slice (some ⟨vF, 0, none⟩) Vp.length XD)) (v1 := (.slice (some ⟨vF, 0, none⟩) Vp.length XD)) (ok := (fun _ => True)) (Kd.Q_mono Jy.1 (fun _ hk => ⟨trivial, hk⟩)) hg (.inl rfl)); replace Js := hqZ (zl0 (g := VT) (Js.1) hg (Kd.R_ne Jc.1 Js.1 (by decide))); replace Jc := hqZ (hp_); replace HB := hqZ ((by rw [hw]; exact zm0 (HB.1) GB6.1 : Below w.heap.size w w36)); clear hg hw hp_) | ((with_reducible refine zu0 (b := .append) (xs := #[.tmp 51, .tmp 53]) rfl ?_); at_builtin; refine Kd.Q_append (Kd.int .i64) (w0 := w) w.heap.size rfl (.tmp 51) (.tmp 53) 27 3 (.int .i64 0) 8 rfl Try.underlying27 info3 rfl (by decide) (by omega) (.slice (some ad298) V9.length UC) V9 (rd (rd_L2 J0 (rd JB 0)) V3) [.int .i64 (rd (rd_L2 J0 (rd JB 0)) V3)] (fun k_ => some k_ ≠ (.slice (some ⟨vF, 0, none⟩) Vp.length XD : Value).ownBlock) (fun _ => False) rfl rfl ?aP (fun _ hk => hk.elim) ?aF ?aO ?aB ?aS ?aL ?_; (case aP => exact rfl); (case aB => exact (HB.1)); (case aF => exact (fun k_ hk => Kd.fresh' (Kd.R_lt (Jc.1)) k_ hk)); (case aO => exact (Kd.Q_mono Jy.1 (fun _ hk => hk.2))); (case aS => exact (zb0 (HB.1))); (case aL => have := LMc33.1; omega); intro v302 w37 ho hb hg hat; rw [← Ny301.1] at ho; have n0_ := hqZ (Kd.R_after (ok := (fun _ => True)) (Kd.R_mono Jc.1 (fun _ hk => ⟨trivial, hk⟩)) hg hat); have n1_ := hqZ (zl0 (g := VT) (Js.1) hg (Kd.Q_ne Jy.1 Js.1 (by decide))); have n2_ := hqZ (hb); have n3_ := hqZ (ho); clear Jc; clear Js; clear HB; clear Jy; have Jc := n0_; have Js := n1_; have HB := n2_; have Em := n3_; clear n0_ n1_ n2_ n3_; clear ho hb hg hat)))
   (try simp only [← hl5_2])
   go_roundg k2
   case measure => have := V8.1; have := YO.1; omega
   case rel => exact ⟨(dL), (bM), (wrap64 (V3 + 1)), (rfl), H', ⟨by have := V8.1; have := YO.1; omega⟩, ⟨by (try simp only [hl5_1]); (try simp only [hl5_2]); exact Kd.R_mono Jc.1 (fun _ hk => hk.2)⟩, ⟨by (try simp only [hl5_1]); (try simp only [hl5_2]); exact Em.1⟩, ⟨by (try simp only [hl5_1]); (try simp only [hl5_2]); exact Js.1⟩, ⟨HB.1⟩⟩
def yf1.l0 : Nat → Int → Int → Int → List (List Int) → Option (Bool)
 | 0, _, _, _, _ => none
 | k + 1, x1, x8, x9, d7 => if x9 < x8 then ((yl0.f k d7 x9).bind fun o8 => (if 0 ≤ x1 then (if x1 < (o8.length : Int) then (if (rd o8 x1) < 0 then (some false) else (yf1.l0 k x1 x8 (wrap64 (x9 + 1)) d7)) else (none)) else (none))) else (some true)
def yf1.f (k : Nat) (J0 : List (List Int)) (a1 : Int) : Option (Bool) := yf1.l0 k a1 (J0.length : Int) 0 J0
theorem yf1.mono_l : ∀ k, (∀ y0 y1 y2 y3, LeO (yf1.l0 k y0 y1 y2 y3) (yf1.l0 (k + 1) y0 y1 y2 y3))
 | 0 => fun _ _ _ _ r h => by simp [yf1.l0] at h
 | k + 1 => by
  have ih0 := yf1.mono_l k
  ·intro y0 y1 y2 y3
   unfold yf1.l0
   repeat' (with_reducible first | apply ih0 | apply yl0.mono | apply LeO.refl | apply LeO.none | refine LeO.ite ?_ ?_ | refine LeO.bind ?_ (fun _ => ?_))
theorem yf1.mono : ∀ a0 a1 k, LeO (yf1.f k a0 a1) (yf1.f (k + 1) a0 a1) := by
 intro a0 a1 k
 have ih0 := yf1.mono_l k
 unfold yf1.f
 repeat' (with_reducible first | apply ih0 | apply yl0.mono | apply LeO.refl | apply LeO.none | refine LeO.ite ?_ ?_ | refine LeO.bind ?_ (fun _ => ?_))
theorem yf1.calls (k : Nat) (J4 : Option Addr) (J2 : Nat) (J0 : List (List Int)) (a1 : Int) (r : Bool) (w : World) (hr0_0 : Kd.C (Kd.slice 3 (Kd.int .i64)) w J4 J0.length J0) (hc0_0 : J0.length ≤ J2) (h : yf1.f k J0 a1 = some r) :
  Calls Try.prog 64 #[.agg #[.slice J4 J0.length J2], .int .i64 a1] w fun e w' => e = .returned (.bool r) ∧ Below w.heap.size w w' := by
 have hu26 := Try.underlying26
 have Ja := hqZ hr0_0
 have HC0_0 := hqZ hc0_0
 clear hr0_0 hc0_0
 have HB := hqZ (Below.refl w.heap.size w)
 have H : (yf1.l0 k a1 (J0.length : Int) 0 J0) = some r := h
 clear h
 have H' := hqZ H
 clear H
 go_enter Try.func64, Try.ntmps64
 go_wp2_with (((with_reducible refine zi0 (N := 2) rfl ?_); refine zk0 ?hg (N := 2) ?hd (cs := #[.slice J4 J0.length J2]) (t := 26) ?hr ?_; (case hd | hg => rfl); (case hr => go_simp); intro XT hg w3 hbox hb; have vJ := hqZ (hbox); have Jk8 := hqZ ((by rw [hg]; exact (zb0 (HB.1)) : w.heap.size ≤ XT)); have Jk9 := hqZ ((by rw [hg]; exact (zb0 (HB.1)) : w.heap.size ≤ XT)); replace HB := hqZ (za0 (HB.1) hb); clear hb hbox hg; have oP : w3.cell? ⟨XT, 0, none⟩ = some (.slice J4 J0.length J2) := (zf0 vJ.1 0).trans rfl; have oQ := zc0 vJ.1 0))
 go_loopg [9] k (fun kq v9 w' => ∃ (Jt : Int), v9 = .int .i64 Jt ∧ zg0 (yf1.l0 kq a1 (J0.length : Int) Jt J0 = some r) ∧ zg0 (kq ≤ k) ∧ zg0 (w'.heap[XT]? = some (.cells #[(.slice J4 J0.length J2)] 26 (0, 0))) ∧ zg0 (Below w.heap.size w w'))
 case atStart => exact ⟨(0), (rfl), H', ⟨Nat.le_refl _⟩, ⟨vJ.1⟩, ⟨HB.1⟩⟩
 case round =>
  clear H'
  try clear p2
  try clear oP
  try clear oQ
  obtain ⟨Jt, rfl, HA, V8, vJ, HB⟩ := hrel
  obtain _ | k1 := gk
  ·exact absurd HA.1 (by simp [yf1.l0])
  have H := HA.1
  clear HA
  simp only [yf1.l0] at H
  by_cases c5 : Jt < (J0.length : Int)
  rotate_left
  ·rw [if_neg c5] at H
   have c5b0 : decide (Jt < (J0.length : Int)) = false := decide_eq_false c5
   clear c5
   obtain rfl := Option.some.inj H
   go_wp2
   go_ret
   exact ⟨rfl, HB.1⟩
  rw [if_pos c5] at H
  have c5b0 : decide (Jt < (J0.length : Int)) = true := decide_eq_true c5
  clear c5
  replace H := Option.bind_eq_some_iff.mp H
  obtain ⟨o8, A60, H⟩ := H
  try dsimp only at H
  have A6 := hqZ A60
  clear A60
  by_cases c7 : 0 ≤ a1
  rotate_left
  ·rw [if_neg c7] at H
   exact absurd H (by simp)
  rw [if_pos c7] at H
  have c7b0 : decide (0 ≤ a1) = true := decide_eq_true c7
  clear c7
  by_cases c8 : a1 < (o8.length : Int)
  rotate_left
  ·rw [if_neg c8] at H
   exact absurd H (by simp)
  rw [if_pos c8] at H
  have c8b0 : decide (a1 < (o8.length : Int)) = true := decide_eq_true c8
  clear c8
  by_cases c9 : (rd o8 a1) < 0
  ·rw [if_pos c9] at H
   have c9b0 : decide ((rd o8 a1) < 0) = true := decide_eq_true c9
   clear c9
   obtain rfl := Option.some.inj H
   have Y0 : wr.cell? ⟨XT, 0, none⟩ = some (.slice J4 J0.length J2) := (zf0 vJ.1 0).trans rfl
   have Y1 := zc0 vJ.1 0
   go_wp2_with (((with_reducible refine ze0 (f := 75) rfl ?_); refine zM (some 14) Try.func75 #[.agg #[.slice J4 J0.length J2], .int .i64 Jt] ?_; (with_reducible refine (yl0.calls k1 _ _ J0 Jt o8 _ ?side1 ?side2 A6.1).mono ?_); (case side1 => exact (Kd.C_below Ja.1 HB.1)); (case side2 => exact HC0_0.1); rintro e w11 ⟨v309, rfl, ho0, hb⟩; refine ⟨_, rfl, ?_⟩; have UM := hqZ (Kd.R_lower ho0 (zb0 (HB.1))); replace vJ := hqZ (zd0 (g := XT) (vJ.1) hb); replace HB := hqZ (za0 (HB.1) hb); clear hb ho0; obtain ⟨DW, DX, eo12⟩ := Kd.R_slice UM.1; subst eo12; have p311 : 0 ≤ (a1 : Int) := oA; have q311 : a1 < (o8.length : Int) := oA; obtain ⟨ad311, e311, hx311_0⟩ := Kd.at_int (Kd.R_reads' UM.1).2.2 a1 p311 q311; cases e311; replace p311 := eq_true p311; replace q311 := eq_true q311))
   go_ret
   exact ⟨rfl, HB.1⟩
  rw [if_neg c9] at H
  have c9b0 : decide ((rd o8 a1) < 0) = false := decide_eq_false c9
  clear c9
  have H' := hqZ H
  clear H
  have vw : wr.cell? ⟨XT, 0, none⟩ = some (.slice J4 J0.length J2) := (zf0 vJ.1 0).trans rfl
  have vx := zc0 vJ.1 0
  go_wp2_with (((with_reducible refine ze0 (f := 75) rfl ?_); refine zM (some 14) Try.func75 #[.agg #[.slice J4 J0.length J2], .int .i64 Jt] ?_; (with_reducible refine (yl0.calls k1 _ _ J0 Jt o8 _ ?side1 ?side2 A6.1).mono ?_); (case side1 => exact (Kd.C_below Ja.1 HB.1)); (case side2 => exact HC0_0.1); rintro e w14 ⟨v309, rfl, ho0, hb⟩; refine ⟨_, rfl, ?_⟩; have UM := hqZ (Kd.R_lower ho0 (zb0 (HB.1))); replace vJ := hqZ (zd0 (g := XT) (vJ.1) hb); replace HB := hqZ (za0 (HB.1) hb); clear hb ho0; obtain ⟨DY, DZ, eo15⟩ := Kd.R_slice UM.1; subst eo15; have p311 : 0 ≤ (a1 : Int) := oA; have q311 : a1 < (o8.length : Int) := oA; obtain ⟨ad311, e311, hx311_0⟩ := Kd.at_int (Kd.R_reads' UM.1).2.2 a1 p311 q311; cases e311; replace p311 := eq_true p311; replace q311 := eq_true q311))
  go_roundg k1
  case measure => have := V8.1; omega
  case rel => exact ⟨(wrap64 (Jt + 1)), (rfl), H', ⟨by have := V8.1; omega⟩, ⟨vJ.1⟩, ⟨HB.1⟩⟩
def yj1.f (k : Nat) (J0 : List (List Int)) (a1 : Int) : Option (Bool) := (ys1.f J0 (([a1] : List Int))).bind fun qB => (if qB = true then ((yf1.f k J0 a1).bind fun qC => (some qC)) else (some false))
theorem yj1.mono : ∀ a0 a1 k, LeO (yj1.f k a0 a1) (yj1.f (k + 1) a0 a1) := by
 intro a0 a1 k
 unfold yj1.f
 repeat' (with_reducible first | apply yf1.mono | apply LeO.refl | apply LeO.none | refine LeO.ite ?_ ?_ | refine LeO.bind ?_ (fun _ => ?_))
theorem yj1.calls (k : Nat) (J4 : Option Addr) (J2 : Nat) (J0 : List (List Int)) (a1 : Int) (r : Bool) (w : World) (hr0_0 : Kd.C (Kd.slice 3 (Kd.int .i64)) w J4 J0.length J0) (hc0_0 : J0.length ≤ J2) (h : yj1.f k J0 a1 = some r) :
  Calls Try.prog 46 #[.agg #[.slice J4 J0.length J2], .int .i64 a1] w fun e w' => e = .returned (.bool r) ∧ Below w.heap.size w w' := by
 have hu26 := Try.underlying26
 have Ja := hqZ hr0_0
 have HC0_0 := hqZ hc0_0
 clear hr0_0 hc0_0
 have HB := hqZ (Below.refl w.heap.size w)
 have H : ((ys1.f J0 (([a1] : List Int))).bind fun qB => (if qB = true then ((yf1.f k J0 a1).bind fun qC => (some qC)) else (some false))) = some r := h
 clear h
 obtain ⟨En, hy313⟩ : ∃ y_ : List Int, y_ = (([a1] : List Int)) := ⟨_, rfl⟩
 replace H : ((ys1.f J0 En).bind fun qB => (if qB = true then ((yf1.f k J0 a1).bind fun qC => (some qC)) else (some false))) = some r := by (rw [hy313]; with_reducible exact H)
 have Ny313 := hqZ hy313
 clear hy313
 replace H := Option.bind_eq_some_iff.mp H
 obtain ⟨qB, A30, H⟩ := H
 try dsimp only at H
 have A3 := hqZ A30
 clear A30
 by_cases c4 : qB = true
 rotate_left
 ·replace c4 := Bool.eq_false_iff.mpr c4
  subst c4
  rw [if_neg (show ¬ (false = true) by decide)] at H
  obtain rfl := Option.some.inj H
  go_enter Try.func46, Try.ntmps46
  go_wp2_with (first | ((with_reducible refine zi0 (N := 2) rfl ?_); refine zk0 ?hg (N := 2) ?hd (cs := #[.slice J4 J0.length J2]) (t := 26) ?hr ?_; (case hd | hg => rfl); (case hr => go_simp); intro vK hg w14 hbox hb; have jo := hqZ (hbox); have bO := hqZ ((by rw [hg]; exact (zb0 (HB.1)) : w.heap.size ≤ vK)); have bP := hqZ ((by rw [hg]; exact (zb0 (HB.1)) : w.heap.size ≤ vK)); replace HB := hqZ (za0 (HB.1) hb); clear hb hbox hg; have jL : w14.cell? ⟨vK, 0, none⟩ = some (.slice J4 J0.length J2) := (zf0 jo.1 0).trans rfl; have jM := zc0 jo.1 0) | ((with_reducible refine zi0 (N := 7) rfl ?_); refine Kd.R_lit (Kd.int .i64) _ 3 ?hg (N := 7) ?hd (xs := ([a1] : List Int)) (inner := [.int .i64 a1]) (ok := fun _ => True) (okp := fun _ => True) ?hr ?hp (fun _ hk => hk) trivial (Below.refl _ _) (Nat.le_refl _) (by simp) ?_; (case hd | hg => rfl); (case hr => go_simp); (case hp => exact (Reps.one (show Kd.M (Kd.int .i64) _ _ _ a1 [.int .i64 a1] from rfl) (Reps.none _ _))); intro v314 w16 ho17 hb hg_ hnew_; clear hg_ hnew_; (rw [← Ny313.1] at ho17); have vL := hqZ (Kd.R_lower ho17 (zb0 (HB.1))); replace jo := hqZ (zd0 (g := vK) (jo.1) hb); replace HB := hqZ (za0 (HB.1) hb); clear hb ho17; obtain ⟨qn, Uy, eo18⟩ := Kd.R_slice vL.1; subst eo18) | ((with_reducible refine ze0 (f := 36) rfl ?_); refine zM (some 8) Try.func36 #[.agg #[.slice J4 J0.length J2], .slice qn En.length Uy] ?_; (with_reducible refine (ys1.calls _ _ J0 _ _ En false _ ?side1 ?side2 ?side3 ?side4 A3.1).mono ?_); (case side1 => exact (Kd.C_below Ja.1 HB.1)); (case side2 => exact HC0_0.1); (case side3 => exact (Kd.R_reads' vL.1).2.2); (case side4 => exact (Kd.R_reads' vL.1).2.1); rintro e w19 ⟨rfl, hb⟩; refine ⟨_, rfl, ?_⟩; replace vL := hqZ (Kd.R_below (vL.1) hb); replace jo := hqZ (zd0 (g := vK) (jo.1) hb); replace HB := hqZ (za0 (HB.1) hb); clear hb))
  go_ret
  exact ⟨rfl, HB.1⟩
 subst c4
 rw [if_pos rfl] at H
 replace H := Option.bind_eq_some_iff.mp H
 obtain ⟨qC, A50, H⟩ := H
 try dsimp only at H
 have A5 := hqZ A50
 clear A50
 obtain rfl := Option.some.inj H
 go_enter Try.func46, Try.ntmps46
 go_wp2_with (first | ((with_reducible refine zi0 (N := 2) rfl ?_); refine zk0 ?hg (N := 2) ?hd (cs := #[.slice J4 J0.length J2]) (t := 26) ?hr ?_; (case hd | hg => rfl); (case hr => go_simp); intro vK hg w6 hbox hb; have jo := hqZ (hbox); have bO := hqZ ((by rw [hg]; exact (zb0 (HB.1)) : w.heap.size ≤ vK)); have bP := hqZ ((by rw [hg]; exact (zb0 (HB.1)) : w.heap.size ≤ vK)); replace HB := hqZ (za0 (HB.1) hb); clear hb hbox hg; have jC : w6.cell? ⟨vK, 0, none⟩ = some (.slice J4 J0.length J2) := (zf0 jo.1 0).trans rfl; have jD := zc0 jo.1 0) | ((with_reducible refine zi0 (N := 7) rfl ?_); refine Kd.R_lit (Kd.int .i64) _ 3 ?hg (N := 7) ?hd (xs := ([a1] : List Int)) (inner := [.int .i64 a1]) (ok := fun _ => True) (okp := fun _ => True) ?hr ?hp (fun _ hk => hk) trivial (Below.refl _ _) (Nat.le_refl _) (by simp) ?_; (case hd | hg => rfl); (case hr => go_simp); (case hp => exact (Reps.one (show Kd.M (Kd.int .i64) _ _ _ a1 [.int .i64 a1] from rfl) (Reps.none _ _))); intro v314 w8 ho9 hb hg_ hnew_; clear hg_ hnew_; (rw [← Ny313.1] at ho9); have vL := hqZ (Kd.R_lower ho9 (zb0 (HB.1))); replace jo := hqZ (zd0 (g := vK) (jo.1) hb); replace HB := hqZ (za0 (HB.1) hb); clear hb ho9; obtain ⟨qD, Un, eo10⟩ := Kd.R_slice vL.1; subst eo10) | ((with_reducible refine ze0 (f := 36) rfl ?_); refine zM (some 8) Try.func36 #[.agg #[.slice J4 J0.length J2], .slice qD En.length Un] ?_; (with_reducible refine (ys1.calls _ _ J0 _ _ En true _ ?side1 ?side2 ?side3 ?side4 A3.1).mono ?_); (case side1 => exact (Kd.C_below Ja.1 HB.1)); (case side2 => exact HC0_0.1); (case side3 => exact (Kd.R_reads' vL.1).2.2); (case side4 => exact (Kd.R_reads' vL.1).2.1); rintro e w11 ⟨rfl, hb⟩; refine ⟨_, rfl, ?_⟩; replace vL := hqZ (Kd.R_below (vL.1) hb); replace jo := hqZ (zd0 (g := vK) (jo.1) hb); replace HB := hqZ (za0 (HB.1) hb); clear hb; have jj : w11.cell? ⟨vK, 0, none⟩ = some (.slice J4 J0.length J2) := (zf0 jo.1 0).trans rfl; have jk := zc0 jo.1 0) | (go_at_call 64; (with_reducible refine (yf1.calls k _ _ J0 a1 qC _ ?side1 ?side2 A5.1).mono ?_); (case side1 => exact (Kd.C_below Ja.1 HB.1)); (case side2 => exact HC0_0.1); rintro e w13 ⟨rfl, hb⟩; replace vL := hqZ (Kd.R_below (vL.1) hb); replace jo := hqZ (zd0 (g := vK) (jo.1) hb); replace HB := hqZ (za0 (HB.1) hb); clear hb))
 go_ret
 exact ⟨rfl, HB.1⟩
def yp0.l0 : Nat → Int → List Int → List (List Int) → Int → Int → Option (List Int)
 | 0, _, _, _, _, _ => none
 | k + 1, x1, x5, vq, YE, YZ => if YZ < YE then (if 0 ≤ YZ then (if YZ < (vq.length : Int) then (if YZ = x1 then (if x5.length < 17592186044416 then (yp0.l0 k x1 (x5 ++ [0]) vq YE (wrap64 (YZ + 1))) else (none)) else (if x5.length < 17592186044416 then (yp0.l0 k x1 (x5 ++ [wrap64 (((rd_L2 vq YZ).length : Int) - 1)]) vq YE (wrap64 (YZ + 1))) else (none))) else (none)) else (none)) else (some x5)
def yp0.f (k : Nat) (J0 : List (List Int)) (a1 : Int) : Option (List Int) := yp0.l0 k a1 (([] : List Int)) J0 (J0.length : Int) 0
theorem yp0.mono_l : ∀ k, (∀ y0 y1 y2 y3 y4, LeO (yp0.l0 k y0 y1 y2 y3 y4) (yp0.l0 (k + 1) y0 y1 y2 y3 y4))
 | 0 => fun _ _ _ _ _ r h => by simp [yp0.l0] at h
 | k + 1 => by
  have ih0 := yp0.mono_l k
  ·intro y0 y1 y2 y3 y4
   unfold yp0.l0
   repeat' (with_reducible first | apply ih0 | apply LeO.refl | apply LeO.none | refine LeO.ite ?_ ?_ | refine LeO.bind ?_ (fun _ => ?_))
theorem yp0.mono : ∀ a0 a1 k, LeO (yp0.f k a0 a1) (yp0.f (k + 1) a0 a1) := by
 intro a0 a1 k
 have ih0 := yp0.mono_l k
 unfold yp0.f
 repeat' (with_reducible first | apply ih0 | apply LeO.refl | apply LeO.none | refine LeO.ite ?_ ?_ | refine LeO.bind ?_ (fun _ => ?_))
theorem yp0.calls (k : Nat) (J4 : Option Addr) (J2 : Nat) (J0 : List (List Int)) (a1 : Int) (r : List Int) (w : World) (hr0_0 : Kd.C (Kd.slice 3 (Kd.int .i64)) w J4 J0.length J0) (hc0_0 : J0.length ≤ J2) (h : yp0.f k J0 a1 = some r) :
  Calls Try.prog 47 #[.agg #[.slice J4 J0.length J2], .int .i64 a1] w fun e w' => ∃ v0_ : Value, e = .returned (v0_) ∧ Kd.R (Kd.int .i64) 3 w' w.heap.size (fun _ => True) v0_ r ∧ Below w.heap.size w w' := by
 have hu26 := Try.underlying26
 have Ja := hqZ hr0_0
 have HC0_0 := hqZ hc0_0
 clear hr0_0 hc0_0
 have HB := hqZ (Below.refl w.heap.size w)
 have H : (yp0.l0 k a1 (([] : List Int)) J0 (J0.length : Int) 0) = some r := h
 clear h
 obtain ⟨bQ, hy575⟩ : ∃ y_ : List Int, y_ = (([] : List Int)) := ⟨_, rfl⟩
 replace H : (yp0.l0 k a1 bQ J0 (J0.length : Int) 0) = some r := by (rw [hy575]; with_reducible exact H)
 have Ny575 := hqZ hy575
 clear hy575
 have H' := hqZ H
 clear H
 go_enter Try.func47, Try.ntmps47
 go_wp2_with (first | ((with_reducible refine zi0 (N := 2) rfl ?_); refine zk0 ?hg (N := 2) ?hd (cs := #[.slice J4 J0.length J2]) (t := 26) ?hr ?_; (case hd | hg => rfl); (case hr => go_simp); intro oR hg w3 hbox hb; have jG := hqZ (hbox); have Jl0 := hqZ ((by rw [hg]; exact (zb0 (HB.1)) : w.heap.size ≤ oR)); have Jl1 := hqZ ((by rw [hg]; exact (zb0 (HB.1)) : w.heap.size ≤ oR)); replace HB := hqZ (za0 (HB.1) hb); clear hb hbox hg) | ((with_reducible refine zi0 (N := 8) rfl ?_); refine Kd.R_lit (Kd.int .i64) _ 3 ?hg (N := 8) ?hd (xs := ([] : List Int)) (inner := []) (ok := fun _ => True) (okp := fun _ => True) ?hr ?hp (fun _ hk => hk) trivial (Below.refl _ _) (Nat.le_refl _) (by simp) ?_; (case hd | hg => rfl); (case hr => go_simp); (case hp => exact (Reps.none _ _)); intro v576 w4 ho5 hb hg_ hnew_; clear hg_ hnew_; (rw [← Ny575.1] at ho5); have bR := hqZ (Kd.R_lower ho5 (zb0 (HB.1))); replace jG := hqZ (zd0 (g := oR) (jG.1) hb); replace HB := hqZ (za0 (HB.1) hb); clear hb ho5; have Yk : w4.cell? ⟨oR, 0, none⟩ = some (.slice J4 J0.length J2) := (zf0 jG.1 0).trans rfl; have Yz := zc0 jG.1 0))
 go_loopg [5, 12] k (fun kq v5 v12 w' => ∃ (Vv : List Int) (Jz : Int), v12 = .int .i64 Jz ∧ zg0 (yp0.l0 kq a1 Vv J0 (J0.length : Int) Jz = some r) ∧ zg0 (kq ≤ k) ∧ zg0 (Kd.R (Kd.int .i64) 3 w' w.heap.size (fun _ => True) v5 Vv) ∧ zg0 (w'.heap[oR]? = some (.cells #[(.slice J4 J0.length J2)] 26 (0, 0))) ∧ zg0 (Below w.heap.size w w'))
 case atStart => exact ⟨(bQ), (0), (rfl), H', ⟨Nat.le_refl _⟩, ⟨bR.1⟩, ⟨jG.1⟩, ⟨HB.1⟩⟩
 case round =>
  clear H'
  try clear p2
  try clear c4
  try clear Yk
  try clear Yz
  obtain ⟨Vv, Jz, rfl, HA, V8, Jc, jG, HB⟩ := hrel
  obtain _ | k1 := gk
  ·exact absurd HA.1 (by simp [yp0.l0])
  have H := HA.1
  clear HA
  simp only [yp0.l0] at H
  by_cases c7 : Jz < (J0.length : Int)
  rotate_left
  ·rw [if_neg c7] at H
   have c7b0 : decide (Jz < (J0.length : Int)) = false := decide_eq_false c7
   clear c7
   obtain rfl := Option.some.inj H
   go_wp2
   go_ret
   exact ⟨_, rfl, Jc.1, HB.1⟩
  rw [if_pos c7] at H
  have c7b0 : decide (Jz < (J0.length : Int)) = true := decide_eq_true c7
  clear c7
  by_cases c8 : 0 ≤ Jz
  rotate_left
  ·rw [if_neg c8] at H
   exact absurd H (by simp)
  rw [if_pos c8] at H
  have c8b0 : decide (0 ≤ Jz) = true := decide_eq_true c8
  clear c8
  by_cases c9 : Jz < (J0.length : Int)
  rotate_left
  ·rw [if_neg c9] at H
   exact absurd H (by simp)
  rw [if_pos c9] at H
  have c9b0 : decide (Jz < (J0.length : Int)) = true := decide_eq_true c9
  clear c9
  by_cases c10 : Jz = a1
  rotate_left
  ·rw [if_neg c10] at H
   have c10b0 : (Jz == a1) = false := beq_eq_false_iff_ne.mpr c10
   have c10b1 : (Jz != a1) = true := bne_iff_ne.mpr c10
   by_cases c13 : Vv.length < 17592186044416
   rotate_left
   ·rw [if_neg c13] at H
    exact absurd H (by simp)
   rw [if_pos c13] at H
   have LMc13 := hqZ c13
   clear c13
   obtain ⟨bS, hy582⟩ : ∃ y_ : List Int, y_ = (Vv ++ [wrap64 (((rd_L2 J0 Jz).length : Int) - 1)]) := ⟨_, rfl⟩
   replace H : (yp0.l0 k1 a1 bS J0 (J0.length : Int) (wrap64 (Jz + 1))) = some r := by (rw [hy582]; with_reducible exact H)
   have Ny582 := hqZ hy582
   clear hy582
   have H' := hqZ H
   clear H
   have p578 : 0 ≤ (Jz : Int) := oA
   have q578 : Jz < (J0.length : Int) := oA
   obtain ⟨ad578, m0, m4, e578, hx578_0, hl578_0, hi578_0⟩ := at_L2 Ja.1 Jz p578 q578
   cases e578
   replace hx578_0 := (HB.1.cell (World.block_lt_of_cell? w _ hx578_0)).trans hx578_0
   have ZB := hqZ hi578_0
   have HC578_0 := hqZ hl578_0
   clear hi578_0 hl578_0
   replace p578 := eq_true p578
   replace q578 := eq_true q578
   go_wp2_with (((with_reducible refine zu0 (b := .append) (xs := #[.tmp 23, .tmp 27]) rfl ?_); at_builtin; refine Kd.R_append (Kd.int .i64) (w0 := w) w.heap.size rfl (.tmp 23) (.tmp 27) 27 3 (.int .i64 0) 8 rfl Try.underlying27 info3 rfl (by decide) (by omega) u5 Vv (wrap64 (((rd_L2 J0 Jz).length : Int) - 1)) [.int .i64 (wrap64 (((rd_L2 J0 Jz).length : Int) - 1))] (fun _ => True) (fun _ => False) rfl rfl ?aP (fun _ hk => hk.elim) ?aF ?aO ?aB ?aS ?aL ?_; (case aP => exact rfl); (case aB => exact (HB.1)); (case aF => exact (fun _ _ => trivial)); (case aO => exact (by (with_reducible repeat (first | apply Kd.R_alloc | apply Kd.R_drewN | apply Kd.R_drew)); exact Jc.1)); (case aS => exact (zb0 (HB.1))); (case aL => have := LMc13.1; omega); intro v583 w14 ho hb hg hat; rw [← Ny582.1] at ho; have n0_ := hqZ (zl0 (g := oR) (jG.1) hg (Kd.R_ne Jc.1 jG.1 (by decide))); have n1_ := hqZ (hb); have n2_ := hqZ (ho); clear jG; clear HB; clear Jc; have jG := n0_; have HB := n1_; have bT := n2_; clear n0_ n1_ n2_; clear ho hb hg hat))
   go_roundg k1
   case measure => have := V8.1; omega
   case rel => exact ⟨(bS), (wrap64 (Jz + 1)), (rfl), H', ⟨by have := V8.1; omega⟩, ⟨bT.1⟩, ⟨jG.1⟩, ⟨HB.1⟩⟩
  rw [if_pos c10] at H
  have c10b0 : (Jz == a1) = true := beq_iff_eq.mpr c10
  have c10b1 : (Jz != a1) = false := bne_eq_false_iff_eq.mpr c10
  clear c10
  by_cases c11 : Vv.length < 17592186044416
  rotate_left
  ·rw [if_neg c11] at H
   exact absurd H (by simp)
  rw [if_pos c11] at H
  have LMc11 := hqZ c11
  clear c11
  obtain ⟨bU, hy579⟩ : ∃ y_ : List Int, y_ = (Vv ++ [0]) := ⟨_, rfl⟩
  replace H : (yp0.l0 k1 a1 bU J0 (J0.length : Int) (wrap64 (Jz + 1))) = some r := by (rw [hy579]; with_reducible exact H)
  have Ny579 := hqZ hy579
  clear hy579
  have H' := hqZ H
  clear H
  have p578 : 0 ≤ (Jz : Int) := oA
  have q578 : Jz < (J0.length : Int) := oA
  obtain ⟨ad578, m0, m4, e578, hx578_0, hl578_0, hi578_0⟩ := at_L2 Ja.1 Jz p578 q578
  cases e578
  replace hx578_0 := (HB.1.cell (World.block_lt_of_cell? w _ hx578_0)).trans hx578_0
  have ZB := hqZ hi578_0
  have HC578_0 := hqZ hl578_0
  clear hi578_0 hl578_0
  replace p578 := eq_true p578
  replace q578 := eq_true q578
  go_wp2_with (((with_reducible refine zu0 (b := .append) (xs := #[.tmp 20, .tmp 21]) rfl ?_); at_builtin; refine Kd.R_append (Kd.int .i64) (w0 := w) w.heap.size rfl (.tmp 20) (.tmp 21) 27 3 (.int .i64 0) 8 rfl Try.underlying27 info3 rfl (by decide) (by omega) u5 Vv 0 [.int .i64 0] (fun _ => True) (fun _ => False) rfl rfl ?aP (fun _ hk => hk.elim) ?aF ?aO ?aB ?aS ?aL ?_; (case aP => exact rfl); (case aB => exact (HB.1)); (case aF => exact (fun _ _ => trivial)); (case aO => exact (by (with_reducible repeat (first | apply Kd.R_alloc | apply Kd.R_drewN | apply Kd.R_drew)); exact Jc.1)); (case aS => exact (zb0 (HB.1))); (case aL => have := LMc11.1; omega); intro v580 w12 ho hb hg hat; rw [← Ny579.1] at ho; have n0_ := hqZ (zl0 (g := oR) (jG.1) hg (Kd.R_ne Jc.1 jG.1 (by decide))); have n1_ := hqZ (hb); have n2_ := hqZ (ho); clear jG; clear HB; clear Jc; have jG := n0_; have HB := n1_; have bV := n2_; clear n0_ n1_ n2_; clear ho hb hg hat))
  go_roundg k1
  case measure => have := V8.1; omega
  case rel => exact ⟨(bU), (wrap64 (Jz + 1)), (rfl), H', ⟨by have := V8.1; omega⟩, ⟨bV.1⟩, ⟨jG.1⟩, ⟨HB.1⟩⟩
def yw1.f (l0 : List Int) : Option (List Int) := if l0.length < 17592186044416 then some l0 else none
theorem C_none {w : World} {l : List Int} (h : Kd.C (Kd.int .i64) w none l.length l) : l = [] := by
 cases l with
 | nil => rfl
 | cons x l =>
  obtain ⟨ad, e, _⟩ := h.2.2 (by simp)
  cases e
theorem yw1.calls (A0 : Option Addr) (c0 : Nat) (l0 : List Int) (r : List Int) (w : World) (hr0 : Kd.C (Kd.int .i64) w A0 l0.length l0) (hc0 : l0.length ≤ c0) (h : yw1.f l0 = some r) :
  Calls Try.prog 38 #[.slice A0 l0.length c0] w fun e w' => ∃ v0_ : Value, e = .returned (v0_) ∧ Kd.R (Kd.int .i64) 3 w' w.heap.size (fun _ => True) v0_ r ∧ Below w.heap.size w w' := by
 unfold yw1.f at h
 by_cases c2 : l0.length < 17592186044416
 rotate_left
 ·rw [if_neg c2] at h
  cases h
 rw [if_pos c2] at h
 obtain rfl := Option.some.inj h
 clear h
 cases A0 with
 | none =>
  obtain rfl := C_none hr0
  clear hr0 hc0
  have q22 : ∀ (w : World) (n c n' c' : Nat), (binOp .eql 27 (.slice none n c) (.slice none n' c')).run Try.prog w = .ok (.bool true) w := fun w n c n' c' => Lib.run_eql_slice_nil w _ _ none n c n' c' Try.underlying27
  go_enter Try.func38, Try.ntmps38
  go_wp2
  go_ret
  exact ⟨_, rfl, Kd.R_nil _ _ _ _ _, Below.refl _ _⟩
 | some ad =>
  have LM := hqZ c2
  clear c2
  have uU := hqZ hr0
  have HC0 := hqZ hc0
  clear hr0 hc0
  have HB := hqZ (Below.refl w.heap.size w)
  have q22 : ∀ (w : World) (a : Addr) (n c n' c' : Nat), (binOp .eql 27 (.slice (some a) n c) (.slice none n' c')).run Try.prog w = .ok (.bool false) w := fun w a n c n' c' => Lib.run_eql_slice_nil w _ _ (some a) n c n' c' Try.underlying27
  go_enter Try.func38, Try.ntmps38
  go_wp2_with (first | ((with_reducible refine zi0 (N := 5) rfl ?_); refine Kd.R_lit (Kd.int .i64) _ 3 ?hg (N := 5) ?hd (xs := ([] : List Int)) (inner := []) (ok := fun _ => True) (okp := fun _ => True) ?hr ?hp (fun _ hk => hk) trivial (Below.refl _ _) (Nat.le_refl _) (by simp) ?_; (case hd | hg => rfl); (case hr => go_simp); (case hp => exact (Reps.none _ _)); intro v155 w3 ho4 hb hg_ hnew_; clear hg_ hnew_; have Dh := hqZ (Kd.R_lower ho4 (zb0 (HB.1))); replace HB := hqZ (za0 (HB.1) hb); clear hb ho4) | ((with_reducible refine zu0 (b := .append) (xs := #[.tmp 5, .tmp 6]) rfl ?_); at_builtin; refine Kd.R_append_rows (Kd.int .i64) (w0 := w) w.heap.size rfl (.tmp 5) (.tmp 6) 27 3 (.int .i64 0) 8 rfl Try.underlying27 info3 rfl (by decide) (by omega) v155 [] l0 _ _ _ (fun _ => True) (fun _ => False) rfl rfl ?aO ?aR (fun _ _ h => h) (fun _ h => h.elim) ?aF ?aB ?aS ?aL ?_; (case aR => exact (Kd.C_below uU.1 HB.1)); (case aB => exact (HB.1)); (case aF => exact (fun _ _ => trivial)); (case aO => exact (Dh.1)); (case aS => exact (zb0 (HB.1))); (case aL => have := LM.1; simp only [List.length_nil]; omega); intro v158 w5 ho hb hg hat; have n0_ := hqZ (hb); have n1_ := hqZ (ho); clear HB; clear Dh; have HB := n0_; have qS := n1_; clear n0_ n1_; clear ho hb hg hat))
  go_ret
  exact ⟨_, rfl, qS.1, HB.1⟩
end Go.Proofs.Ytdfabioienofhaa.P
