/- Texts of this session on the way to the law FnHeapsTopple, part 4: words of the print, walks, plain laws; only what the law's proof uses. -/
import Derived.Test.YtdfabioienofhaaCFnHeapsTopplea
import Derived.Test.YtdfabioienofhaaCFnHeapsTopplec
import Derived.Test.YtdfabioienofhaaCFnHeapsToppleb
namespace Go.Proofs.Ytdfabioienofhaa.P
set_option maxHeartbeats 8000000
set_option maxRecDepth 100000
open Go.RowKit Go.Proofs.YtdfabioienofhaaW.PrintWords Go.Proofs.YtdfabioienofhaaW.PrintLast Go.Proofs.YtdfabioienofhaaW.PrintMore
attribute [local go_sem] zx0 zu0 max_two min_two zt0 zs0 zw0 zv0
set_option linter.unusedVariables false
set_option linter.unusedSimpArgs false
mutual
def yh0.l0 : Nat → List Int → List Int → List (List Int) → Option (List Int)
 | 0, _, _, _ => none
 | k + 1, x5, x6, x284000 => if (x6.length : Int) > 0 then (if 0 < (x6.length : Int) then (if 0 ≤ (rd x6 0) then (if (rd x6 0) < (x284000.length : Int) then (yh0.l1 k x5 x6 (rd_L2 x284000 (rd x6 0)) ((rd_L2 x284000 (rd x6 0)).length : Int) 0 x284000) else (none)) else (none)) else (none)) else (some x5)
def yh0.l1 : Nat → List Int → List Int → List Int → Int → Int → List (List Int) → Option (List Int)
 | 0, _, _, _, _, _, _ => none
 | k + 1, x5, x6, x30, x31, x32, x284000 => if x32 < x31 then (if 0 ≤ x32 then (if x32 < (x30.length : Int) then (if 0 ≤ (rd x30 x32) then (if (rd x30 x32) < (x5.length : Int) then (if (rd x5 (rd x30 x32)) < 0 then (if 0 < (x6.length : Int) then (if 0 ≤ (rd x6 0) then (if (rd x6 0) < (x5.length : Int) then (if x6.length < 17592186044416 then (yh0.l1 k (x5.set ((rd x30 x32) : Int).toNat (wrap64 ((rd x5 (rd x6 0)) + 1))) (x6 ++ [rd x30 x32]) x30 x31 (wrap64 (x32 + 1)) x284000) else (none)) else (none)) else (none)) else (none)) else (yh0.l1 k x5 x6 x30 x31 (wrap64 (x32 + 1)) x284000)) else (none)) else (none)) else (none)) else (none)) else (if 1 ≤ (x6.length : Int) then (yh0.l0 k x5 (x6.drop (1 : Int).toNat) x284000) else (none))
end
def yh0.f (k : Nat) (l0_0 : List (List Int)) (a1 : Int) : Option (List Int) := (yv1.f (([(-1)] : List Int)) (l0_0.length : Int)).bind fun t287 => (if 0 ≤ a1 then (if a1 < (t287.length : Int) then (yh0.l0 k (t287.set (a1 : Int).toNat 0) (([a1] : List Int)) l0_0) else (none)) else (none))
theorem yh0.mono_l : ∀ k, (∀ y0 y1 y2, LeO (yh0.l0 k y0 y1 y2) (yh0.l0 (k + 1) y0 y1 y2)) ∧ (∀ y0 y1 y2 y3 y4 y5, LeO (yh0.l1 k y0 y1 y2 y3 y4 y5) (yh0.l1 (k + 1) y0 y1 y2 y3 y4 y5))
 | 0 => ⟨fun _ _ _ r h => by simp [yh0.l0] at h, fun _ _ _ _ _ _ r h => by simp [yh0.l1] at h⟩
 | k + 1 => by
  obtain ⟨ih0, ih1⟩ := yh0.mono_l k
  refine ⟨?_, ?_⟩
  ·intro y0 y1 y2
   unfold yh0.l0
   repeat' (with_reducible first | exact ih0 _ _ _ | exact ih1 _ _ _ _ _ _ | exact LeO.refl _ | exact LeO.none _ | refine LeO.ite ?_ ?_ | refine LeO.bind ?_ (fun _ => ?_))
  ·intro y0 y1 y2 y3 y4 y5
   unfold yh0.l1
   repeat' (with_reducible first | exact ih0 _ _ _ | exact ih1 _ _ _ _ _ _ | exact LeO.refl _ | exact LeO.none _ | refine LeO.ite ?_ ?_ | refine LeO.bind ?_ (fun _ => ?_))
theorem yh0.mono : ∀ a0 a1 k, LeO (yh0.f k a0 a1) (yh0.f (k + 1) a0 a1) := by
 intro a0 a1 k
 obtain ⟨ih0, ih1⟩ := yh0.mono_l k
 unfold yh0.f
 repeat' (with_reducible first | exact ih0 _ _ _ | exact ih1 _ _ _ _ _ _ | exact LeO.refl _ | exact LeO.none _ | refine LeO.ite ?_ ?_ | refine LeO.bind ?_ (fun _ => ?_))
theorem yh0.calls (k : Nat) (A0_0 : Option Addr) (c0_0 : Nat) (l0_0 : List (List Int)) (a1 : Int) (r : List Int) (w : World) (hr0_0 : Kd.C (Kd.slice 3 (Kd.int .i64)) w A0_0 l0_0.length l0_0) (hc0_0 : l0_0.length ≤ c0_0) (h : yh0.f k l0_0 a1 = some r) :
  Calls Try.prog 75 #[.agg #[.slice A0_0 l0_0.length c0_0], .int .i64 a1] w fun e w' => ∃ v0_ : Value, e = .returned (v0_) ∧ Kd.R (Kd.int .i64) 3 w' w.heap.size (fun _ => True) v0_ r ∧ Below w.heap.size w w' := by
 have hu26 := Try.underlying26
 have HR0_0 := hqZ hr0_0
 have HC0_0 := hqZ hc0_0
 clear hr0_0 hc0_0
 have HB := hqZ (Below.refl w.heap.size w)
 have H : ((yv1.f (([(-1)] : List Int)) (l0_0.length : Int)).bind fun t287 => (if 0 ≤ a1 then (if a1 < (t287.length : Int) then (yh0.l0 k (t287.set (a1 : Int).toNat 0) (([a1] : List Int)) l0_0) else (none)) else (none))) = some r := h
 clear h
 obtain ⟨y284, hy284⟩ : ∃ y_ : List Int, y_ = (([(-1)] : List Int)) := ⟨_, rfl⟩
 replace H : ((yv1.f y284 (l0_0.length : Int)).bind fun t287 => (if 0 ≤ a1 then (if a1 < (t287.length : Int) then (yh0.l0 k (t287.set (a1 : Int).toNat 0) (([a1] : List Int)) l0_0) else (none)) else (none))) = some r := by first | (rw [hy284]; with_reducible exact H) | (have H2_ := (Option.bind_some _ _).symm.trans H; rw [hy284]; with_reducible exact H2_) | (have H2_ := (Option.bind_some _ _).symm.trans H; with_reducible exact H2_) | with_reducible exact H | (rw [hy284]; exact H) | exact H
 have Ny284 := hqZ hy284
 clear hy284
 replace H := Option.bind_eq_some_iff.mp H
 obtain ⟨t287, A30, H⟩ := H
 try dsimp only at H
 have A3 := hqZ A30
 clear A30
 by_cases c4 : 0 ≤ a1
 rotate_left
 ·rw [if_neg c4] at H
  exact absurd H (by simp)
 rw [if_pos c4] at H
 have c4b0 : decide (0 ≤ a1) = true := decide_eq_true c4
 clear c4
 by_cases c5 : a1 < (t287.length : Int)
 rotate_left
 ·rw [if_neg c5] at H
  exact absurd H (by simp)
 rw [if_pos c5] at H
 have c5b0 : decide (a1 < (t287.length : Int)) = true := decide_eq_true c5
 clear c5
 obtain ⟨y290, hy290⟩ : ∃ y_ : List Int, y_ = (t287.set (a1 : Int).toNat 0) := ⟨_, rfl⟩
 replace H : (yh0.l0 k y290 (([a1] : List Int)) l0_0) = some r := by first | (rw [hy290]; with_reducible exact H) | (have H2_ := (Option.bind_some _ _).symm.trans H; rw [hy290]; with_reducible exact H2_) | (have H2_ := (Option.bind_some _ _).symm.trans H; with_reducible exact H2_) | with_reducible exact H | (rw [hy290]; exact H) | exact H
 have Ny290 := hqZ hy290
 clear hy290
 obtain ⟨y291, hy291⟩ : ∃ y_ : List Int, y_ = (([a1] : List Int)) := ⟨_, rfl⟩
 replace H : (yh0.l0 k y290 y291 l0_0) = some r := by first | (rw [hy291]; with_reducible exact H) | (have H2_ := (Option.bind_some _ _).symm.trans H; rw [hy291]; with_reducible exact H2_) | (have H2_ := (Option.bind_some _ _).symm.trans H; with_reducible exact H2_) | with_reducible exact H | (rw [hy291]; exact H) | exact H
 have Ny291 := hqZ hy291
 clear hy291
 have H' := hqZ H
 clear H
 go_enter Try.func75, Try.ntmps75
 go_wp2_with (first | ((with_reducible refine zo0 (N := 2) rfl ?_); refine zp0 ?hg (N := 2) ?hd (cs := #[.slice A0_0 l0_0.length c0_0]) (t := 26) ?hr ?_; (case hd | hg => rfl); (case hr => go_simp <;> rfl); intro gb283 hg w7 hbox hb; have BK283 := hqZ (hbox); have GW283 := hqZ ((by rw [hg]; exact (zb0 (HB.1)) : w.heap.size ≤ gb283)); have GE283 := hqZ ((by rw [hg]; exact (zb0 (HB.1)) : w.heap.size ≤ gb283)); replace HB := hqZ (za0 (HB.1) hb); clear hb hbox hg) | ((with_reducible refine zo0 (N := 9) rfl ?_); refine Kd.R_lit (Kd.int .i64) _ 3 ?hg (N := 9) ?hd (xs := ([(-1)] : List Int)) (inner := [.int .i64 (-1)]) (ok := fun _ => True) (okp := fun _ => True) ?hr ?hp (fun _ hk => hk) trivial (Below.refl _ _) (Nat.le_refl _) (by simp) ?_; (case hd | hg => rfl); (case hr => go_simp <;> rfl); (case hp => exact (Reps.one (show Kd.M (Kd.int .i64) _ _ _ (-1) [.int .i64 (-1)] from rfl) (Reps.none _ _))); intro v285 w8 ho9 hb hg_ hnew_; clear hg_ hnew_; (first | rw [← Ny284.1] at ho9 | (simp only [Int.reduceToNat] at ho9; rw [← Ny284.1] at ho9)); have HO286 := hqZ (Kd.R_lower ho9 (zb0 (HB.1))); replace BK283 := hqZ (zc0 (g := gb283) (BK283.1) hb); replace HB := hqZ (za0 (HB.1) hb); clear hb ho9; have hcz10_0 : w8.cell? ⟨gb283, 0, none⟩ = some (.slice A0_0 l0_0.length c0_0) := (zh0 BK283.1 0).trans rfl; have hfz10_0 := zd0 BK283.1 0; obtain ⟨Ao11, co11, eo11⟩ := Kd.R_slice HO286.1; subst eo11) | (go_at_call 77; (with_reducible refine (yv1.calls _ _ y284 (l0_0.length : Int) t287 _ ?side1 ?side2 A3.1).mono ?_); (case side1 => exact (Kd.R_reads' HO286.1).2.2); (case side2 => exact (Kd.R_reads' HO286.1).2.1); rintro e w12 ⟨v288, rfl, ho0, hb⟩; have HO289 := hqZ (Kd.R_lower (Kd.R_new' ho0 (Kd.R_lt (HO286.1))) (zb0 (HB.1))); replace HO286 := hqZ (Kd.R_elder' (HO286.1) (Kd.R_base ho0) hb); replace BK283 := hqZ (zc0 (g := gb283) (BK283.1) hb); replace HB := hqZ (za0 (HB.1) hb); clear hb ho0; have p6 : 0 ≤ (a1 : Int) := of_decide_eq_true (by assumption); have q6 : (a1 : Int) < ((t287.length : Int) : Int) := of_decide_eq_true (by assumption); obtain ⟨go6, co6, eo6, gb6, gl6, cl6, HG6⟩ := Kd.R_form HO289.1 (by omega); (first | cases eo6 | (injection eo6 with ea_ en_ ec_; (first | subst ea_ | (injection ea_ with ea_; subst ea_)); subst ec_; clear en_)); have GB6 := hqZ gb6; have GG6 := hqZ HG6; clear gb6 gl6 HG6; obtain ⟨hx6_0, hf6_0⟩ := Kd.R_celln 0 HO289.1 (a1 : Int) p6 q6; replace p6 := eq_true p6; replace q6 := eq_true q6; have n_ := hqZ (Kd.R_mono (ok' := (fun k_ => some k_ ≠ (.slice Ao11 y284.length co11 : Value).ownBlock)) HO289.1 (fun k_ hk => hk.2)); clear HO289; have HO289 := n_; clear n_; obtain ⟨hy13_, hz13_⟩ := Kd.R_celln 0 HO289.1 (a1 : Int) (of_decide_eq_true (by assumption)) (of_decide_eq_true (by assumption)); have HP13 := Kd.R_putg HO289.1 (a1 : Int) 0) | ((with_reducible refine gate_store (t := 3) (p := 16) rfl ?_); (try (rw [drewN_self w12]; generalize hq_ : World.drewN w12 _ = w12; have n0_ := hqZ (Kd.R_at hq_ HO286.1); have n1_ := hqZ (Kd.R_at hq_ HO289.1); have n2_ := hqZ (blk_at hq_ BK283.1); have n3_ := hqZ (below_at hq_ HB.1); clear hq_ HO286 HO289 BK283 HB; have HO286 := n0_; have HO289 := n1_; have BK283 := n2_; have HB := n3_; clear n0_ n1_ n2_ n3_; (try (have n_ := hqZ (Kd.R_mono (ok' := (fun k_ => some k_ ≠ (.slice Ao11 y284.length co11 : Value).ownBlock)) HO289.1 (fun k_ hk => hk.2)); clear HO289; have HO289 := n_; clear n_)); (try (obtain ⟨hy13_, hz13_⟩ := Kd.R_celln 0 HO289.1 (a1 : Int) (of_decide_eq_true (by assumption)) (of_decide_eq_true (by assumption)))); (try (have HP13 := Kd.R_putg HO289.1 (a1 : Int) 0)))); refine store_event (t := 3) (p := 16) (v := ?vo_w14) (w1 := (w12.setCell ⟨go6, (a1 : Int).toNat, none⟩ (.int .i64 0))) ?hg ?ho ?hn ?hr ?_; (case ho => rfl); (case hg => rfl); (case hn => rfl); (case hr => go_simp <;> rfl); intro w14 hw; have hg : w12.grownBy w14 (some go6) := (by rw [hw]; exact HP13.2); have hp_ : Kd.R (Kd.int .i64) 3 w14 w.heap.size (fun k_ => some k_ ≠ (.slice Ao11 y284.length co11 : Value).ownBlock) (.slice (some ⟨go6, 0, none⟩) t287.length co6) y290 := (by rw [hw, Ny290.1]; exact HP13.1); clear HP13; replace BK283 := hqZ (zr0 (g := gb283) (BK283.1) hg (Kd.R_ne HO289.1 BK283.1 (by decide))); replace HO286 := hqZ (Kd.R_after (v := (.slice (some ⟨go6, 0, none⟩) t287.length co6)) (v1 := (.slice (some ⟨go6, 0, none⟩) t287.length co6)) (ok := (fun _ => True)) (HO286.1) hg (.inl rfl)); replace HO289 := hqZ (hp_); replace HB := hqZ ((by rw [hw]; exact zf0 (HB.1) GB6.1 : Below w.heap.size w w14)); clear hg hw hp_) | ((with_reducible refine zo0 (N := 18) rfl ?_); refine Kd.R_lit (Kd.int .i64) _ 3 ?hg (N := 18) ?hd (xs := ([a1] : List Int)) (inner := [.int .i64 a1]) (ok := fun _ => True) (okp := fun _ => True) ?hr ?hp (fun _ hk => hk) trivial (Below.refl _ _) (Nat.le_refl _) (by simp) ?_; (case hd | hg => rfl); (case hr => go_simp <;> rfl); (case hp => exact (Reps.one (show Kd.M (Kd.int .i64) _ _ _ a1 [.int .i64 a1] from rfl) (Reps.none _ _))); intro v292 w15 ho16 hb hg_ hnew_; clear hg_ hnew_; (first | rw [← Ny291.1] at ho16 | (simp only [Int.reduceToNat] at ho16; rw [← Ny291.1] at ho16)); have HO293 := hqZ (Kd.R_lower (Kd.R_new' (Kd.R_new' ho16 (Kd.R_lt (HO286.1))) (Kd.R_lt (HO289.1))) (zb0 (HB.1))); replace HO286 := hqZ (Kd.R_elder' (HO286.1) (Kd.R_base ho16) hb); replace HO289 := hqZ (Kd.R_elder' (HO289.1) (Kd.R_base ho16) hb); replace BK283 := hqZ (zc0 (g := gb283) (BK283.1) hb); replace HB := hqZ (za0 (HB.1) hb); clear hb ho16))
 repeat (go_quiet (first | ((with_reducible refine zo0 (N := 2) rfl ?_); refine zp0 ?hg (N := 2) ?hd (cs := #[.slice A0_0 l0_0.length c0_0]) (t := 26) ?hr ?_; (case hd | hg => rfl); (case hr => go_simp <;> rfl); intro gb283 hg w7 hbox hb; have BK283 := hqZ (hbox); have GW283 := hqZ ((by rw [hg]; exact (zb0 (HB.1)) : w.heap.size ≤ gb283)); have GE283 := hqZ ((by rw [hg]; exact (zb0 (HB.1)) : w.heap.size ≤ gb283)); replace HB := hqZ (za0 (HB.1) hb); clear hb hbox hg) | ((with_reducible refine zo0 (N := 9) rfl ?_); refine Kd.R_lit (Kd.int .i64) _ 3 ?hg (N := 9) ?hd (xs := ([(-1)] : List Int)) (inner := [.int .i64 (-1)]) (ok := fun _ => True) (okp := fun _ => True) ?hr ?hp (fun _ hk => hk) trivial (Below.refl _ _) (Nat.le_refl _) (by simp) ?_; (case hd | hg => rfl); (case hr => go_simp <;> rfl); (case hp => exact (Reps.one (show Kd.M (Kd.int .i64) _ _ _ (-1) [.int .i64 (-1)] from rfl) (Reps.none _ _))); intro v285 w8 ho9 hb hg_ hnew_; clear hg_ hnew_; (first | rw [← Ny284.1] at ho9 | (simp only [Int.reduceToNat] at ho9; rw [← Ny284.1] at ho9)); have HO286 := hqZ (Kd.R_lower ho9 (zb0 (HB.1))); replace BK283 := hqZ (zc0 (g := gb283) (BK283.1) hb); replace HB := hqZ (za0 (HB.1) hb); clear hb ho9; have hcz10_0 : w8.cell? ⟨gb283, 0, none⟩ = some (.slice A0_0 l0_0.length c0_0) := (zh0 BK283.1 0).trans rfl; have hfz10_0 := zd0 BK283.1 0; obtain ⟨Ao11, co11, eo11⟩ := Kd.R_slice HO286.1; subst eo11) | (go_at_call 77; (with_reducible refine (yv1.calls _ _ y284 (l0_0.length : Int) t287 _ ?side1 ?side2 A3.1).mono ?_); (case side1 => exact (Kd.R_reads' HO286.1).2.2); (case side2 => exact (Kd.R_reads' HO286.1).2.1); rintro e w12 ⟨v288, rfl, ho0, hb⟩; have HO289 := hqZ (Kd.R_lower (Kd.R_new' ho0 (Kd.R_lt (HO286.1))) (zb0 (HB.1))); replace HO286 := hqZ (Kd.R_elder' (HO286.1) (Kd.R_base ho0) hb); replace BK283 := hqZ (zc0 (g := gb283) (BK283.1) hb); replace HB := hqZ (za0 (HB.1) hb); clear hb ho0; have p6 : 0 ≤ (a1 : Int) := of_decide_eq_true (by assumption); have q6 : (a1 : Int) < ((t287.length : Int) : Int) := of_decide_eq_true (by assumption); obtain ⟨go6, co6, eo6, gb6, gl6, cl6, HG6⟩ := Kd.R_form HO289.1 (by omega); (first | cases eo6 | (injection eo6 with ea_ en_ ec_; (first | subst ea_ | (injection ea_ with ea_; subst ea_)); subst ec_; clear en_)); have GB6 := hqZ gb6; have GG6 := hqZ HG6; clear gb6 gl6 HG6; obtain ⟨hx6_0, hf6_0⟩ := Kd.R_celln 0 HO289.1 (a1 : Int) p6 q6; replace p6 := eq_true p6; replace q6 := eq_true q6; have n_ := hqZ (Kd.R_mono (ok' := (fun k_ => some k_ ≠ (.slice Ao11 y284.length co11 : Value).ownBlock)) HO289.1 (fun k_ hk => hk.2)); clear HO289; have HO289 := n_; clear n_; obtain ⟨hy13_, hz13_⟩ := Kd.R_celln 0 HO289.1 (a1 : Int) (of_decide_eq_true (by assumption)) (of_decide_eq_true (by assumption)); have HP13 := Kd.R_putg HO289.1 (a1 : Int) 0) | ((with_reducible refine gate_store (t := 3) (p := 16) rfl ?_); (try (rw [drewN_self w12]; generalize hq_ : World.drewN w12 _ = w12; have n0_ := hqZ (Kd.R_at hq_ HO286.1); have n1_ := hqZ (Kd.R_at hq_ HO289.1); have n2_ := hqZ (blk_at hq_ BK283.1); have n3_ := hqZ (below_at hq_ HB.1); clear hq_ HO286 HO289 BK283 HB; have HO286 := n0_; have HO289 := n1_; have BK283 := n2_; have HB := n3_; clear n0_ n1_ n2_ n3_; (try (have n_ := hqZ (Kd.R_mono (ok' := (fun k_ => some k_ ≠ (.slice Ao11 y284.length co11 : Value).ownBlock)) HO289.1 (fun k_ hk => hk.2)); clear HO289; have HO289 := n_; clear n_)); (try (obtain ⟨hy13_, hz13_⟩ := Kd.R_celln 0 HO289.1 (a1 : Int) (of_decide_eq_true (by assumption)) (of_decide_eq_true (by assumption)))); (try (have HP13 := Kd.R_putg HO289.1 (a1 : Int) 0)))); refine store_event (t := 3) (p := 16) (v := ?vo_w14) (w1 := (w12.setCell ⟨go6, (a1 : Int).toNat, none⟩ (.int .i64 0))) ?hg ?ho ?hn ?hr ?_; (case ho => rfl); (case hg => rfl); (case hn => rfl); (case hr => go_simp <;> rfl); intro w14 hw; have hg : w12.grownBy w14 (some go6) := (by rw [hw]; exact HP13.2); have hp_ : Kd.R (Kd.int .i64) 3 w14 w.heap.size (fun k_ => some k_ ≠ (.slice Ao11 y284.length co11 : Value).ownBlock) (.slice (some ⟨go6, 0, none⟩) t287.length co6) y290 := (by rw [hw, Ny290.1]; exact HP13.1); clear HP13; replace BK283 := hqZ (zr0 (g := gb283) (BK283.1) hg (Kd.R_ne HO289.1 BK283.1 (by decide))); replace HO286 := hqZ (Kd.R_after (v := (.slice (some ⟨go6, 0, none⟩) t287.length co6)) (v1 := (.slice (some ⟨go6, 0, none⟩) t287.length co6)) (ok := (fun _ => True)) (HO286.1) hg (.inl rfl)); replace HO289 := hqZ (hp_); replace HB := hqZ ((by rw [hw]; exact zf0 (HB.1) GB6.1 : Below w.heap.size w w14)); clear hg hw hp_) | ((with_reducible refine zo0 (N := 18) rfl ?_); refine Kd.R_lit (Kd.int .i64) _ 3 ?hg (N := 18) ?hd (xs := ([a1] : List Int)) (inner := [.int .i64 a1]) (ok := fun _ => True) (okp := fun _ => True) ?hr ?hp (fun _ hk => hk) trivial (Below.refl _ _) (Nat.le_refl _) (by simp) ?_; (case hd | hg => rfl); (case hr => go_simp <;> rfl); (case hp => exact (Reps.one (show Kd.M (Kd.int .i64) _ _ _ a1 [.int .i64 a1] from rfl) (Reps.none _ _))); intro v292 w15 ho16 hb hg_ hnew_; clear hg_ hnew_; (first | rw [← Ny291.1] at ho16 | (simp only [Int.reduceToNat] at ho16; rw [← Ny291.1] at ho16)); have HO293 := hqZ (Kd.R_lower (Kd.R_new' (Kd.R_new' ho16 (Kd.R_lt (HO286.1))) (Kd.R_lt (HO289.1))) (zb0 (HB.1))); replace HO286 := hqZ (Kd.R_elder' (HO286.1) (Kd.R_base ho16) hb); replace HO289 := hqZ (Kd.R_elder' (HO289.1) (Kd.R_base ho16) hb); replace BK283 := hqZ (zc0 (g := gb283) (BK283.1) hb); replace HB := hqZ (za0 (HB.1) hb); clear hb ho16)); try go_wp2_with (first | ((with_reducible refine zo0 (N := 2) rfl ?_); refine zp0 ?hg (N := 2) ?hd (cs := #[.slice A0_0 l0_0.length c0_0]) (t := 26) ?hr ?_; (case hd | hg => rfl); (case hr => go_simp <;> rfl); intro gb283 hg w7 hbox hb; have BK283 := hqZ (hbox); have GW283 := hqZ ((by rw [hg]; exact (zb0 (HB.1)) : w.heap.size ≤ gb283)); have GE283 := hqZ ((by rw [hg]; exact (zb0 (HB.1)) : w.heap.size ≤ gb283)); replace HB := hqZ (za0 (HB.1) hb); clear hb hbox hg) | ((with_reducible refine zo0 (N := 9) rfl ?_); refine Kd.R_lit (Kd.int .i64) _ 3 ?hg (N := 9) ?hd (xs := ([(-1)] : List Int)) (inner := [.int .i64 (-1)]) (ok := fun _ => True) (okp := fun _ => True) ?hr ?hp (fun _ hk => hk) trivial (Below.refl _ _) (Nat.le_refl _) (by simp) ?_; (case hd | hg => rfl); (case hr => go_simp <;> rfl); (case hp => exact (Reps.one (show Kd.M (Kd.int .i64) _ _ _ (-1) [.int .i64 (-1)] from rfl) (Reps.none _ _))); intro v285 w8 ho9 hb hg_ hnew_; clear hg_ hnew_; (first | rw [← Ny284.1] at ho9 | (simp only [Int.reduceToNat] at ho9; rw [← Ny284.1] at ho9)); have HO286 := hqZ (Kd.R_lower ho9 (zb0 (HB.1))); replace BK283 := hqZ (zc0 (g := gb283) (BK283.1) hb); replace HB := hqZ (za0 (HB.1) hb); clear hb ho9; have hcz10_0 : w8.cell? ⟨gb283, 0, none⟩ = some (.slice A0_0 l0_0.length c0_0) := (zh0 BK283.1 0).trans rfl; have hfz10_0 := zd0 BK283.1 0; obtain ⟨Ao11, co11, eo11⟩ := Kd.R_slice HO286.1; subst eo11) | (go_at_call 77; (with_reducible refine (yv1.calls _ _ y284 (l0_0.length : Int) t287 _ ?side1 ?side2 A3.1).mono ?_); (case side1 => exact (Kd.R_reads' HO286.1).2.2); (case side2 => exact (Kd.R_reads' HO286.1).2.1); rintro e w12 ⟨v288, rfl, ho0, hb⟩; have HO289 := hqZ (Kd.R_lower (Kd.R_new' ho0 (Kd.R_lt (HO286.1))) (zb0 (HB.1))); replace HO286 := hqZ (Kd.R_elder' (HO286.1) (Kd.R_base ho0) hb); replace BK283 := hqZ (zc0 (g := gb283) (BK283.1) hb); replace HB := hqZ (za0 (HB.1) hb); clear hb ho0; have p6 : 0 ≤ (a1 : Int) := of_decide_eq_true (by assumption); have q6 : (a1 : Int) < ((t287.length : Int) : Int) := of_decide_eq_true (by assumption); obtain ⟨go6, co6, eo6, gb6, gl6, cl6, HG6⟩ := Kd.R_form HO289.1 (by omega); (first | cases eo6 | (injection eo6 with ea_ en_ ec_; (first | subst ea_ | (injection ea_ with ea_; subst ea_)); subst ec_; clear en_)); have GB6 := hqZ gb6; have GG6 := hqZ HG6; clear gb6 gl6 HG6; obtain ⟨hx6_0, hf6_0⟩ := Kd.R_celln 0 HO289.1 (a1 : Int) p6 q6; replace p6 := eq_true p6; replace q6 := eq_true q6; have n_ := hqZ (Kd.R_mono (ok' := (fun k_ => some k_ ≠ (.slice Ao11 y284.length co11 : Value).ownBlock)) HO289.1 (fun k_ hk => hk.2)); clear HO289; have HO289 := n_; clear n_; obtain ⟨hy13_, hz13_⟩ := Kd.R_celln 0 HO289.1 (a1 : Int) (of_decide_eq_true (by assumption)) (of_decide_eq_true (by assumption)); have HP13 := Kd.R_putg HO289.1 (a1 : Int) 0) | ((with_reducible refine gate_store (t := 3) (p := 16) rfl ?_); (try (rw [drewN_self w12]; generalize hq_ : World.drewN w12 _ = w12; have n0_ := hqZ (Kd.R_at hq_ HO286.1); have n1_ := hqZ (Kd.R_at hq_ HO289.1); have n2_ := hqZ (blk_at hq_ BK283.1); have n3_ := hqZ (below_at hq_ HB.1); clear hq_ HO286 HO289 BK283 HB; have HO286 := n0_; have HO289 := n1_; have BK283 := n2_; have HB := n3_; clear n0_ n1_ n2_ n3_; (try (have n_ := hqZ (Kd.R_mono (ok' := (fun k_ => some k_ ≠ (.slice Ao11 y284.length co11 : Value).ownBlock)) HO289.1 (fun k_ hk => hk.2)); clear HO289; have HO289 := n_; clear n_)); (try (obtain ⟨hy13_, hz13_⟩ := Kd.R_celln 0 HO289.1 (a1 : Int) (of_decide_eq_true (by assumption)) (of_decide_eq_true (by assumption)))); (try (have HP13 := Kd.R_putg HO289.1 (a1 : Int) 0)))); refine store_event (t := 3) (p := 16) (v := ?vo_w14) (w1 := (w12.setCell ⟨go6, (a1 : Int).toNat, none⟩ (.int .i64 0))) ?hg ?ho ?hn ?hr ?_; (case ho => rfl); (case hg => rfl); (case hn => rfl); (case hr => go_simp <;> rfl); intro w14 hw; have hg : w12.grownBy w14 (some go6) := (by rw [hw]; exact HP13.2); have hp_ : Kd.R (Kd.int .i64) 3 w14 w.heap.size (fun k_ => some k_ ≠ (.slice Ao11 y284.length co11 : Value).ownBlock) (.slice (some ⟨go6, 0, none⟩) t287.length co6) y290 := (by rw [hw, Ny290.1]; exact HP13.1); clear HP13; replace BK283 := hqZ (zr0 (g := gb283) (BK283.1) hg (Kd.R_ne HO289.1 BK283.1 (by decide))); replace HO286 := hqZ (Kd.R_after (v := (.slice (some ⟨go6, 0, none⟩) t287.length co6)) (v1 := (.slice (some ⟨go6, 0, none⟩) t287.length co6)) (ok := (fun _ => True)) (HO286.1) hg (.inl rfl)); replace HO289 := hqZ (hp_); replace HB := hqZ ((by rw [hw]; exact zf0 (HB.1) GB6.1 : Below w.heap.size w w14)); clear hg hw hp_) | ((with_reducible refine zo0 (N := 18) rfl ?_); refine Kd.R_lit (Kd.int .i64) _ 3 ?hg (N := 18) ?hd (xs := ([a1] : List Int)) (inner := [.int .i64 a1]) (ok := fun _ => True) (okp := fun _ => True) ?hr ?hp (fun _ hk => hk) trivial (Below.refl _ _) (Nat.le_refl _) (by simp) ?_; (case hd | hg => rfl); (case hr => go_simp <;> rfl); (case hp => exact (Reps.one (show Kd.M (Kd.int .i64) _ _ _ a1 [.int .i64 a1] from rfl) (Reps.none _ _))); intro v292 w15 ho16 hb hg_ hnew_; clear hg_ hnew_; (first | rw [← Ny291.1] at ho16 | (simp only [Int.reduceToNat] at ho16; rw [← Ny291.1] at ho16)); have HO293 := hqZ (Kd.R_lower (Kd.R_new' (Kd.R_new' ho16 (Kd.R_lt (HO286.1))) (Kd.R_lt (HO289.1))) (zb0 (HB.1))); replace HO286 := hqZ (Kd.R_elder' (HO286.1) (Kd.R_base ho16) hb); replace HO289 := hqZ (Kd.R_elder' (HO289.1) (Kd.R_base ho16) hb); replace BK283 := hqZ (zc0 (g := gb283) (BK283.1) hb); replace HB := hqZ (za0 (HB.1) hb); clear hb ho16)))
 go_loopg [6] k (fun kq v6 w' => ∃ (x5_1 : List Int) (x6_1 : List Int), zi0 (yh0.l0 kq x5_1 x6_1 l0_0 = some r) ∧ zi0 (kq ≤ k) ∧ zi0 (Kd.R (Kd.int .i64) 3 w' w.heap.size (fun k_ => some k_ ≠ (v6 : Value).ownBlock) (.slice (some ⟨go6, 0, none⟩) t287.length co6) x5_1) ∧ zi0 (Kd.Q (Kd.int .i64) 3 w' w.heap.size (fun k_ => some k_ ≠ ((.slice (some ⟨go6, 0, none⟩) t287.length co6) : Value).ownBlock) v6 x6_1) ∧ zi0 (w'.heap[gb283]? = some (.cells #[(.slice A0_0 l0_0.length c0_0)] 26 (0, 0))) ∧ zi0 (Below w.heap.size w w'))
 case atStart => exact ⟨(y290), (y291), H', ⟨Nat.le_refl _⟩, ⟨Kd.R_mono HO289.1 (fun _ hk => hk.2)⟩, ⟨Kd.Q_of_R (Kd.R_mono HO293.1 (fun _ hk => hk.2))⟩, ⟨BK283.1⟩, ⟨HB.1⟩⟩
 case round =>
  clear H'
  try clear p2
  try clear c4
  try clear c4b0
  try clear c5
  try clear c5b0
  try clear p6
  try clear q6
  try clear hx6
  try clear hf6
  try clear c7
  try clear hcz10_0
  try clear hfz10_0
  try clear hx6_0
  try clear p6
  try clear q6
  obtain ⟨x5_1, x6_1, HA, HK1, HO_5, HO_6, BK283, HB⟩ := hrel
  have hl5_1 := (Kd.R_reads' HO_5.1).1
  rw [hl5_1] at HO_5
  (try simp only [hl5_1])
  (try simp only [hl5_1] at BK283)
  (try simp only [hl5_1] at HO_6)
  obtain _ | k1 := gk
  ·exact absurd HA.1 (by simp [yh0.l0])
  have H := HA.1
  clear HA
  simp only [yh0.l0] at H
  by_cases c17 : (x6_1.length : Int) > 0
  rotate_left
  ·rw [if_neg c17] at H
   have c17b0 : decide (0 < (x6_1.length : Int)) = false := decide_eq_false c17
   (try (have c17b0h := c17b0; simp only [hl5_1] at c17b0h))
   have c17b1 : decide (0 < x6_1.length) = false := decide_eq_false (by omega)
   (try (have c17b1h := c17b1; simp only [hl5_1] at c17b1h))
   clear c17
   obtain rfl := Option.some.inj H
   obtain ⟨Ao41, co41, eo41, _⟩ := Kd.Q_slice HO_6.1
   subst eo41
   go_wp2
   repeat (go_quiet (fail); try go_wp2)
   go_ret
   exact ⟨_, rfl, Kd.R_mono HO_5.1 (fun _ hk => trivial), HB.1⟩
  rw [if_pos c17] at H
  have c17b0 : decide (0 < (x6_1.length : Int)) = true := decide_eq_true c17
  (try (have c17b0h := c17b0; simp only [hl5_1] at c17b0h))
  have c17b1 : decide (0 < x6_1.length) = true := decide_eq_true (by omega)
  (try (have c17b1h := c17b1; simp only [hl5_1] at c17b1h))
  clear c17
  by_cases c18 : 0 < (x6_1.length : Int)
  rotate_left
  ·rw [if_neg c18] at H
   exact absurd H (by simp)
  rw [if_pos c18] at H
  have c18b0 : decide (0 < (x6_1.length : Int)) = true := decide_eq_true c18
  (try (have c18b0h := c18b0; simp only [hl5_1] at c18b0h))
  have c18b1 : decide (0 < x6_1.length) = true := decide_eq_true (by omega)
  (try (have c18b1h := c18b1; simp only [hl5_1] at c18b1h))
  clear c18
  by_cases c19 : 0 ≤ (rd x6_1 0)
  rotate_left
  ·rw [if_neg c19] at H
   exact absurd H (by simp)
  rw [if_pos c19] at H
  have c19b0 : decide (0 ≤ (rd x6_1 0)) = true := decide_eq_true c19
  (try (have c19b0h := c19b0; simp only [hl5_1] at c19b0h))
  clear c19
  by_cases c20 : (rd x6_1 0) < (l0_0.length : Int)
  rotate_left
  ·rw [if_neg c20] at H
   exact absurd H (by simp)
  rw [if_pos c20] at H
  have c20b0 : decide ((rd x6_1 0) < (l0_0.length : Int)) = true := decide_eq_true c20
  (try (have c20b0h := c20b0; simp only [hl5_1] at c20b0h))
  clear c20
  have H' := hqZ H
  clear H
  obtain ⟨Ao21, co21, eo21, _⟩ := Kd.Q_slice HO_6.1
  subst eo21
  have hcz22_0 : wr.cell? ⟨gb283, 0, none⟩ = some (.slice A0_0 l0_0.length c0_0) := (zh0 BK283.1 0).trans rfl
  have hfz22_0 := zd0 BK283.1 0
  have p294 : 0 ≤ (0 : Int) := (by omega)
  have q294 : 0 < (x6_1.length : Int) := of_decide_eq_true (by assumption)
  obtain ⟨ad294, e294, hx294_0⟩ := Kd.at_int (Kd.Q_reads' HO_6.1).2.2 0 p294 q294
  cases e294
  have qi294 : (0 < x6_1.length) = True := eq_true (by omega)
  (try rw [show ((0 : Int)).toNat = 0 from rfl] at hx294_0)
  (try rw [Addr.add_zero'] at hx294_0)
  replace p294 := eq_true p294
  replace q294 := eq_true q294
  have p295 : 0 ≤ ((rd x6_1 0) : Int) := of_decide_eq_true (by assumption)
  have q295 : (rd x6_1 0) < (l0_0.length : Int) := of_decide_eq_true (by assumption)
  obtain ⟨ad295, A295_0, c295_0, e295, hx295_0, hl295_0, hi295_0⟩ := at_L2 HR0_0.1 (rd x6_1 0) p295 q295
  cases e295
  replace hx295_0 := (HB.1.cell (World.block_lt_of_cell? w _ hx295_0)).trans hx295_0
  have HR295_0 := hqZ hi295_0
  have HC295_0 := hqZ hl295_0
  clear hi295_0 hl295_0
  replace p295 := eq_true p295
  replace q295 := eq_true q295
  go_wp2
  repeat (go_quiet (fail); try go_wp2)
  go_loopg [6, 32] k1 (fun kq v6 v32 w' => ∃ (x5_2 : List Int) (x6_2 : List Int) (x32_2 : Int), v32 = .int .i64 x32_2 ∧ zi0 (yh0.l1 kq x5_2 x6_2 (rd_L2 l0_0 (rd x6_1 0)) ((rd_L2 l0_0 (rd x6_1 0)).length : Int) x32_2 l0_0 = some r) ∧ zi0 (kq ≤ k1) ∧ zi0 (Kd.R (Kd.int .i64) 3 w' w.heap.size (fun k_ => some k_ ≠ (v6 : Value).ownBlock) (.slice (some ⟨go6, 0, none⟩) x5_1.length co6) x5_2) ∧ zi0 (Kd.Q (Kd.int .i64) 3 w' w.heap.size (fun k_ => some k_ ≠ ((.slice (some ⟨go6, 0, none⟩) x5_1.length co6) : Value).ownBlock) v6 x6_2) ∧ zi0 (w'.heap[gb283]? = some (.cells #[(.slice (some ad295) l0_0.length c0_0)] 26 (0, 0))) ∧ zi0 (Below w.heap.size w w'))
  case atStart => exact ⟨(x5_1), (x6_1), (0), (rfl), H', ⟨Nat.le_refl _⟩, ⟨by (try simp only [hl5_1]); exact HO_5.1⟩, ⟨by (try simp only [hl5_1]); exact HO_6.1⟩, ⟨by (try simp only [hl5_1]); exact BK283.1⟩, ⟨hqB HB.1⟩⟩
  case round =>
   clear H'
   try clear c1
   try clear c2
   try clear p2
   try clear q2
   try clear hx2
   try clear qi2
   try clear c4
   try clear c4b0
   try clear c5
   try clear c5b0
   try clear p6
   try clear q6
   try clear hx6
   try clear hf6
   try clear c7
   try clear c17
   try clear c17b0
   try clear c17b1
   try clear c18
   try clear c18b0
   try clear c18b1
   try clear c19
   try clear c19b0
   try clear c20
   try clear c20b0
   try clear hcz10_0
   try clear hcz22_0
   try clear hfz10_0
   try clear hfz22_0
   try clear hx294_0
   try clear hx295_0
   try clear hx6_0
   try clear p2
   try clear p294
   try clear p295
   try clear p6
   try clear q294
   try clear q295
   try clear q6
   obtain ⟨x5_2, x6_2, x32_2, rfl, HA, HK2, HO_5, HO_6, BK283, HB⟩ := hrel
   have hl5_2 := (Kd.R_reads' HO_5.1).1
   rw [hl5_2] at HO_5
   (try simp only [hl5_2])
   (try simp only [hl5_2] at BK283)
   (try simp only [hl5_2] at HO_6)
   obtain _ | k2 := gk
   ·exact absurd HA.1 (by simp [yh0.l1])
   have H := HA.1
   clear HA
   simp only [yh0.l1] at H
   by_cases c23 : x32_2 < ((rd_L2 l0_0 (rd x6_1 0)).length : Int)
   rotate_left
   ·rw [if_neg c23] at H
    have c23b0 : decide (x32_2 < ((rd_L2 l0_0 (rd x6_1 0)).length : Int)) = false := decide_eq_false c23
    (try (have c23b0h := c23b0; simp only [hl5_1, hl5_2] at c23b0h))
    clear c23
    by_cases c38 : 1 ≤ (x6_2.length : Int)
    rotate_left
    ·rw [if_neg c38] at H
     exact absurd H (by simp)
    rw [if_pos c38] at H
    have c38b0 := eq_true c38
    have c38b1 : decide (1 ≤ (x6_2.length : Int)) = true := decide_eq_true c38
    clear c38
    obtain ⟨y304, hy304⟩ : ∃ y_ : List Int, y_ = (x6_2.drop (1 : Int).toNat) := ⟨_, rfl⟩
    replace H : (yh0.l0 k2 x5_2 y304 l0_0) = some r := by first | (rw [hy304]; with_reducible exact H) | (have H2_ := (Option.bind_some _ _).symm.trans H; rw [hy304]; with_reducible exact H2_) | (have H2_ := (Option.bind_some _ _).symm.trans H; with_reducible exact H2_) | with_reducible exact H | (rw [hy304]; exact H) | exact H
    have Ny304 := hqZ hy304
    clear hy304
    have H' := hqZ H
    clear H
    obtain ⟨Ao39, co39, eo39, _⟩ := Kd.Q_slice HO_6.1
    subst eo39
    have q40 : (1 : Int) ≤ ((x6_2.length : Int) : Int) := of_decide_eq_true (by assumption)
    obtain ⟨i040, hi040, _, hsz40, _⟩ := info_parts info3
    have hcut40 := cut_from (P := Try.prog) 27 3 .i64 Try.underlying27 hi040 1 hsz40 Ao39 x6_2.length co39 1 (by omega) q40
    have hr40 := Kd.Q_drop (k := (1 : Int).toNat) HO_6.1 (by omega)
    obtain ⟨A40, hA40⟩ : ∃ A1, A1 = (if co39 = (1 : Int).toNat then Ao39 else (Ao39 : Option Addr).map (·.add ((1 : Int).toNat * 1))) := ⟨_, rfl⟩
    obtain ⟨c40, hc40⟩ : ∃ c1, c1 = co39 - (1 : Int).toNat := ⟨_, rfl⟩
    have hy40 : y304.length = x6_2.length - (1 : Int).toNat := (by rw [Ny304.1, List.length_drop])
    rw [← Ny304.1] at hr40
    rw [← hy40, ← hA40, ← hc40] at hcut40
    replace hr40 : Kd.Q (Kd.int .i64) 3 wr w.heap.size (fun k_ => some k_ ≠ (.slice (some ⟨go6, 0, none⟩) x5_2.length co6 : Value).ownBlock) (.slice A40 y304.length c40) y304 := (by rw [hA40, hc40, hy40]; exact hr40)
    have HE40 : zi0 ((Value.slice A40 y304.length c40).ownBlock = (.slice Ao39 x6_2.length co39 : Value).ownBlock) := ⟨by rw [hA40]; split <;> (cases (Ao39 : Option Addr) <;> first | rfl | (simp only [Option.map, Value.ownBlock, Addr.add]; split <;> rfl))⟩
    clear hy40 hi040 hsz40 HO_6 hA40 hc40
    have HO306 := hqZ hr40
    clear hr40
    replace q40 := eq_true q40
    have n_ := hqZ (Kd.R_mono (ok' := fun k_ => some k_ ≠ (.slice A40 y304.length c40 : Value).ownBlock) HO_5.1 (fun k_ hk => (by rw [HE40.1]; exact hk)))
    clear HO_5
    have HO_5 := n_
    clear n_
    go_wp2
    repeat (go_quiet (fail); try go_wp2)
    (try simp only [← hl5_1, ← hl5_2])
    go_roundg k2
    case measure => have := HK1.1; have := HK2.1; omega
    case rel => exact ⟨(x5_2), (y304), H', ⟨by have := HK1.1; have := HK2.1; omega⟩, ⟨by (try simp only [hl5_1]); (try simp only [hl5_2]); exact HO_5.1⟩, ⟨by (try simp only [hl5_1]); (try simp only [hl5_2]); exact HO306.1⟩, ⟨by (try simp only [hl5_1]); (try simp only [hl5_2]); exact BK283.1⟩, ⟨HB.1⟩⟩
   rw [if_pos c23] at H
   have c23b0 : decide (x32_2 < ((rd_L2 l0_0 (rd x6_1 0)).length : Int)) = true := decide_eq_true c23
   (try (have c23b0h := c23b0; simp only [hl5_1, hl5_2] at c23b0h))
   clear c23
   by_cases c24 : 0 ≤ x32_2
   rotate_left
   ·rw [if_neg c24] at H
    exact absurd H (by simp)
   rw [if_pos c24] at H
   have c24b0 : decide (0 ≤ x32_2) = true := decide_eq_true c24
   (try (have c24b0h := c24b0; simp only [hl5_1, hl5_2] at c24b0h))
   clear c24
   by_cases c25 : x32_2 < ((rd_L2 l0_0 (rd x6_1 0)).length : Int)
   rotate_left
   ·rw [if_neg c25] at H
    exact absurd H (by simp)
   rw [if_pos c25] at H
   have c25b0 : decide (x32_2 < ((rd_L2 l0_0 (rd x6_1 0)).length : Int)) = true := decide_eq_true c25
   (try (have c25b0h := c25b0; simp only [hl5_1, hl5_2] at c25b0h))
   clear c25
   by_cases c26 : 0 ≤ (rd (rd_L2 l0_0 (rd x6_1 0)) x32_2)
   rotate_left
   ·rw [if_neg c26] at H
    exact absurd H (by simp)
   rw [if_pos c26] at H
   have c26b0 : decide (0 ≤ (rd (rd_L2 l0_0 (rd x6_1 0)) x32_2)) = true := decide_eq_true c26
   (try (have c26b0h := c26b0; simp only [hl5_1, hl5_2] at c26b0h))
   clear c26
   by_cases c27 : (rd (rd_L2 l0_0 (rd x6_1 0)) x32_2) < (x5_2.length : Int)
   rotate_left
   ·rw [if_neg c27] at H
    exact absurd H (by simp)
   rw [if_pos c27] at H
   have c27b0 : decide ((rd (rd_L2 l0_0 (rd x6_1 0)) x32_2) < (x5_2.length : Int)) = true := decide_eq_true c27
   (try (have c27b0h := c27b0; simp only [hl5_1, hl5_2] at c27b0h))
   clear c27
   by_cases c28 : (rd x5_2 (rd (rd_L2 l0_0 (rd x6_1 0)) x32_2)) < 0
   rotate_left
   ·rw [if_neg c28] at H
    have c28b0 : decide ((rd x5_2 (rd (rd_L2 l0_0 (rd x6_1 0)) x32_2)) < 0) = false := decide_eq_false c28
    (try (have c28b0h := c28b0; simp only [hl5_1, hl5_2] at c28b0h))
    clear c28
    have H' := hqZ H
    clear H
    have p296 : 0 ≤ (x32_2 : Int) := of_decide_eq_true (by assumption)
    have q296 : x32_2 < ((rd_L2 l0_0 (rd x6_1 0)).length : Int) := of_decide_eq_true (by assumption)
    obtain ⟨ad296, e296, hx296_0⟩ := Kd.at_int HR295_0.1 x32_2 p296 q296
    cases e296
    replace hx296_0 := (HB.1.cell (World.block_lt_of_cell? w _ hx296_0)).trans hx296_0
    replace p296 := eq_true p296
    replace q296 := eq_true q296
    have p297 : 0 ≤ ((rd (rd_L2 l0_0 (rd x6_1 0)) x32_2) : Int) := of_decide_eq_true (by assumption)
    have q297 : (rd (rd_L2 l0_0 (rd x6_1 0)) x32_2) < (x5_2.length : Int) := of_decide_eq_true (by assumption)
    obtain ⟨ad297, e297, hx297_0⟩ := Kd.at_int (Kd.R_reads' HO_5.1).2.2 (rd (rd_L2 l0_0 (rd x6_1 0)) x32_2) p297 q297
    obtain rfl : (⟨go6, 0, none⟩ : Addr) = ad297 := (by injection e297)
    (first | simp only [add_plain] at hx297_0 | simp only [add_at] at hx297_0 | simp only [Addr.add, Nat.zero_add] at hx297_0 | skip)
    replace p297 := eq_true p297
    replace q297 := eq_true q297
    go_wp2
    repeat (go_quiet (fail); try go_wp2)
    (try simp only [← hl5_2])
    go_roundg k2
    case measure => have := HK1.1; have := HK2.1; omega
    case rel => exact ⟨(x5_2), (x6_2), (wrap64 (x32_2 + 1)), (rfl), H', ⟨by have := HK1.1; have := HK2.1; omega⟩, ⟨by (try simp only [hl5_1]); (try simp only [hl5_2]); exact HO_5.1⟩, ⟨by (try simp only [hl5_1]); (try simp only [hl5_2]); exact HO_6.1⟩, ⟨by (try simp only [hl5_1]); (try simp only [hl5_2]); exact BK283.1⟩, ⟨HB.1⟩⟩
   rw [if_pos c28] at H
   have c28b0 : decide ((rd x5_2 (rd (rd_L2 l0_0 (rd x6_1 0)) x32_2)) < 0) = true := decide_eq_true c28
   (try (have c28b0h := c28b0; simp only [hl5_1, hl5_2] at c28b0h))
   clear c28
   by_cases c29 : 0 < (x6_2.length : Int)
   rotate_left
   ·rw [if_neg c29] at H
    exact absurd H (by simp)
   rw [if_pos c29] at H
   have c29b0 : decide (0 < (x6_2.length : Int)) = true := decide_eq_true c29
   (try (have c29b0h := c29b0; simp only [hl5_1, hl5_2] at c29b0h))
   have c29b1 : decide (0 < x6_2.length) = true := decide_eq_true (by omega)
   (try (have c29b1h := c29b1; simp only [hl5_1, hl5_2] at c29b1h))
   clear c29
   by_cases c30 : 0 ≤ (rd x6_2 0)
   rotate_left
   ·rw [if_neg c30] at H
    exact absurd H (by simp)
   rw [if_pos c30] at H
   have c30b0 : decide (0 ≤ (rd x6_2 0)) = true := decide_eq_true c30
   (try (have c30b0h := c30b0; simp only [hl5_1, hl5_2] at c30b0h))
   clear c30
   by_cases c31 : (rd x6_2 0) < (x5_2.length : Int)
   rotate_left
   ·rw [if_neg c31] at H
    exact absurd H (by simp)
   rw [if_pos c31] at H
   have c31b0 : decide ((rd x6_2 0) < (x5_2.length : Int)) = true := decide_eq_true c31
   (try (have c31b0h := c31b0; simp only [hl5_1, hl5_2] at c31b0h))
   clear c31
   obtain ⟨y300, hy300⟩ : ∃ y_ : List Int, y_ = (x5_2.set ((rd (rd_L2 l0_0 (rd x6_1 0)) x32_2) : Int).toNat (wrap64 ((rd x5_2 (rd x6_2 0)) + 1))) := ⟨_, rfl⟩
   replace H : (if x6_2.length < 17592186044416 then (yh0.l1 k2 y300 (x6_2 ++ [rd (rd_L2 l0_0 (rd x6_1 0)) x32_2]) (rd_L2 l0_0 (rd x6_1 0)) ((rd_L2 l0_0 (rd x6_1 0)).length : Int) (wrap64 (x32_2 + 1)) l0_0) else (none)) = some r := by first | (rw [hy300]; with_reducible exact H) | (have H2_ := (Option.bind_some _ _).symm.trans H; rw [hy300]; with_reducible exact H2_) | (have H2_ := (Option.bind_some _ _).symm.trans H; with_reducible exact H2_) | with_reducible exact H | (rw [hy300]; exact H) | exact H
   have Ny300 := hqZ hy300
   clear hy300
   by_cases c33 : x6_2.length < 17592186044416
   rotate_left
   ·rw [if_neg c33] at H
    exact absurd H (by simp)
   rw [if_pos c33] at H
   have LMc33 := hqZ c33
   clear c33
   obtain ⟨y301, hy301⟩ : ∃ y_ : List Int, y_ = (x6_2 ++ [rd (rd_L2 l0_0 (rd x6_1 0)) x32_2]) := ⟨_, rfl⟩
   replace H : (yh0.l1 k2 y300 y301 (rd_L2 l0_0 (rd x6_1 0)) ((rd_L2 l0_0 (rd x6_1 0)).length : Int) (wrap64 (x32_2 + 1)) l0_0) = some r := by first | (rw [hy301]; with_reducible exact H) | (have H2_ := (Option.bind_some _ _).symm.trans H; rw [hy301]; with_reducible exact H2_) | (have H2_ := (Option.bind_some _ _).symm.trans H; with_reducible exact H2_) | with_reducible exact H | (rw [hy301]; exact H) | exact H
   have Ny301 := hqZ hy301
   clear hy301
   have H' := hqZ H
   clear H
   have p296 : 0 ≤ (x32_2 : Int) := of_decide_eq_true (by assumption)
   have q296 : x32_2 < ((rd_L2 l0_0 (rd x6_1 0)).length : Int) := of_decide_eq_true (by assumption)
   obtain ⟨ad296, e296, hx296_0⟩ := Kd.at_int HR295_0.1 x32_2 p296 q296
   cases e296
   replace hx296_0 := (HB.1.cell (World.block_lt_of_cell? w _ hx296_0)).trans hx296_0
   replace p296 := eq_true p296
   replace q296 := eq_true q296
   have p297 : 0 ≤ ((rd (rd_L2 l0_0 (rd x6_1 0)) x32_2) : Int) := of_decide_eq_true (by assumption)
   have q297 : (rd (rd_L2 l0_0 (rd x6_1 0)) x32_2) < (x5_2.length : Int) := of_decide_eq_true (by assumption)
   obtain ⟨ad297, e297, hx297_0⟩ := Kd.at_int (Kd.R_reads' HO_5.1).2.2 (rd (rd_L2 l0_0 (rd x6_1 0)) x32_2) p297 q297
   obtain rfl : (⟨go6, 0, none⟩ : Addr) = ad297 := (by injection e297)
   (first | simp only [add_plain] at hx297_0 | simp only [add_at] at hx297_0 | simp only [Addr.add, Nat.zero_add] at hx297_0 | skip)
   replace p297 := eq_true p297
   replace q297 := eq_true q297
   obtain ⟨Ao34, co34, eo34, _⟩ := Kd.Q_slice HO_6.1
   subst eo34
   have p298 : 0 ≤ (0 : Int) := (by omega)
   have q298 : 0 < (x6_2.length : Int) := of_decide_eq_true (by assumption)
   obtain ⟨ad298, e298, hx298_0⟩ := Kd.at_int (Kd.Q_reads' HO_6.1).2.2 0 p298 q298
   cases e298
   have qi298 : (0 < x6_2.length) = True := eq_true (by omega)
   (try rw [show ((0 : Int)).toNat = 0 from rfl] at hx298_0)
   (try rw [Addr.add_zero'] at hx298_0)
   replace p298 := eq_true p298
   replace q298 := eq_true q298
   have p299 : 0 ≤ ((rd x6_2 0) : Int) := of_decide_eq_true (by assumption)
   have q299 : (rd x6_2 0) < (x5_2.length : Int) := of_decide_eq_true (by assumption)
   obtain ⟨ad299, e299, hx299_0⟩ := Kd.at_int (Kd.R_reads' HO_5.1).2.2 (rd x6_2 0) p299 q299
   obtain rfl : (⟨go6, 0, none⟩ : Addr) = ad299 := (by injection e299)
   (first | simp only [add_plain] at hx299_0 | simp only [add_at] at hx299_0 | simp only [Addr.add, Nat.zero_add] at hx299_0 | skip)
   replace p299 := eq_true p299
   replace q299 := eq_true q299
   have p32 : 0 ≤ ((rd (rd_L2 l0_0 (rd x6_1 0)) x32_2) : Int) := of_decide_eq_true (by assumption)
   have q32 : ((rd (rd_L2 l0_0 (rd x6_1 0)) x32_2) : Int) < ((x5_2.length : Int) : Int) := of_decide_eq_true (by assumption)
   obtain ⟨hx32_0, hf32_0⟩ := Kd.R_celln 0 HO_5.1 ((rd (rd_L2 l0_0 (rd x6_1 0)) x32_2) : Int) p32 q32
   replace p32 := eq_true p32
   replace q32 := eq_true q32
   have HP35 := Kd.R_putg HO_5.1 ((rd (rd_L2 l0_0 (rd x6_1 0)) x32_2) : Int) (wrap64 ((rd x5_2 (rd x6_2 0)) + 1))
   go_wp2_with (first | ((with_reducible refine gate_store (t := 3) (p := 50) rfl ?_); (try (rw [drewN_self wr]; generalize hq_ : World.drewN wr _ = wr; have n0_ := hqZ (Kd.R_at hq_ HO_5.1); have n1_ := hqZ (Kd.Q_at hq_ HO_6.1); have n2_ := hqZ (blk_at hq_ BK283.1); have n3_ := hqZ (below_at hq_ HB.1); clear hq_ HO_5 HO_6 BK283 HB; have HO_5 := n0_; have HO_6 := n1_; have BK283 := n2_; have HB := n3_; clear n0_ n1_ n2_ n3_; (try (have HP35 := Kd.R_putg HO_5.1 ((rd (rd_L2 l0_0 (rd x6_1 0)) x32_2) : Int) (wrap64 ((rd x5_2 (rd x6_2 0)) + 1)))))); refine store_event (t := 3) (p := 50) (v := ?vo_w36) (w1 := (wr.setCell ⟨go6, ((rd (rd_L2 l0_0 (rd x6_1 0)) x32_2) : Int).toNat, none⟩ (.int .i64 (wrap64 ((rd x5_2 (rd x6_2 0)) + 1))))) ?hg ?ho ?hn ?hr ?_; (case ho => rfl); (case hg => rfl); (case hn => rfl); (case hr => go_simp <;> rfl); intro w36 hw; have hg : wr.grownBy w36 (some go6) := (by rw [hw]; exact HP35.2); have hp_ : Kd.R (Kd.int .i64) 3 w36 w.heap.size (fun k_ => some k_ ≠ (.slice (some ad298) x6_2.length co34 : Value).ownBlock) (.slice (some ⟨go6, 0, none⟩) x5_2.length co6) y300 := (by rw [hw, Ny300.1]; exact HP35.1); clear HP35; replace HO_6 := hqZ (Kd.Q_after (v := (.slice (some ⟨go6, 0, none⟩) x5_2.length co6)) (v1 := (.slice (some ⟨go6, 0, none⟩) x5_2.length co6)) (ok := (fun _ => True)) (Kd.Q_mono HO_6.1 (fun _ hk => ⟨trivial, hk⟩)) hg (.inl rfl)); replace BK283 := hqZ (zr0 (g := gb283) (BK283.1) hg (Kd.R_ne HO_5.1 BK283.1 (by decide))); replace HO_5 := hqZ (hp_); replace HB := hqZ ((by rw [hw]; exact zf0 (HB.1) GB6.1 : Below w.heap.size w w36)); clear hg hw hp_) | ((with_reducible refine gate_builtin (b := .append) (xs := #[.tmp 51, .tmp 53]) rfl ?_); at_builtin; refine Kd.Q_append (Kd.int .i64) (w0 := w) w.heap.size rfl (.tmp 51) (.tmp 53) 27 3 (.int .i64 0) 8 rfl Try.underlying27 info3 rfl (by decide) (by omega) (.slice (some ad298) x6_2.length co34) x6_2 (rd (rd_L2 l0_0 (rd x6_1 0)) x32_2) [.int .i64 (rd (rd_L2 l0_0 (rd x6_1 0)) x32_2)] (fun k_ => some k_ ≠ (.slice (some ⟨go6, 0, none⟩) x5_2.length co6 : Value).ownBlock) (fun _ => False) rfl rfl ?aP (fun _ hk => hk.elim) ?aF ?aO ?aB ?aS ?aL ?_; (case aP => exact rfl); (case aB => exact (HB.1)); (case aF => exact (fun k_ hk => Kd.fresh' (Kd.R_lt (HO_5.1)) k_ hk)); (case aO => exact (Kd.Q_mono HO_6.1 (fun _ hk => hk.2))); (case aS => exact (zb0 (HB.1))); (case aL => have := LMc33.1; omega); intro v302 w37 ho hb hg hat; rw [← Ny301.1] at ho; have n0_ := hqZ (Kd.R_after (ok := (fun _ => True)) (Kd.R_mono HO_5.1 (fun _ hk => ⟨trivial, hk⟩)) hg hat); have n1_ := hqZ (zr0 (g := gb283) (BK283.1) hg (Kd.Q_ne HO_6.1 BK283.1 (by decide))); have n2_ := hqZ (hb); have n3_ := hqZ (ho); clear HO_5; clear BK283; clear HB; clear HO_6; have HO_5 := n0_; have BK283 := n1_; have HB := n2_; have HO303 := n3_; clear n0_ n1_ n2_ n3_; clear ho hb hg hat))
   repeat (go_quiet (first | ((with_reducible refine gate_store (t := 3) (p := 50) rfl ?_); (try (rw [drewN_self wr]; generalize hq_ : World.drewN wr _ = wr; have n0_ := hqZ (Kd.R_at hq_ HO_5.1); have n1_ := hqZ (Kd.Q_at hq_ HO_6.1); have n2_ := hqZ (blk_at hq_ BK283.1); have n3_ := hqZ (below_at hq_ HB.1); clear hq_ HO_5 HO_6 BK283 HB; have HO_5 := n0_; have HO_6 := n1_; have BK283 := n2_; have HB := n3_; clear n0_ n1_ n2_ n3_; (try (have HP35 := Kd.R_putg HO_5.1 ((rd (rd_L2 l0_0 (rd x6_1 0)) x32_2) : Int) (wrap64 ((rd x5_2 (rd x6_2 0)) + 1)))))); refine store_event (t := 3) (p := 50) (v := ?vo_w36) (w1 := (wr.setCell ⟨go6, ((rd (rd_L2 l0_0 (rd x6_1 0)) x32_2) : Int).toNat, none⟩ (.int .i64 (wrap64 ((rd x5_2 (rd x6_2 0)) + 1))))) ?hg ?ho ?hn ?hr ?_; (case ho => rfl); (case hg => rfl); (case hn => rfl); (case hr => go_simp <;> rfl); intro w36 hw; have hg : wr.grownBy w36 (some go6) := (by rw [hw]; exact HP35.2); have hp_ : Kd.R (Kd.int .i64) 3 w36 w.heap.size (fun k_ => some k_ ≠ (.slice (some ad298) x6_2.length co34 : Value).ownBlock) (.slice (some ⟨go6, 0, none⟩) x5_2.length co6) y300 := (by rw [hw, Ny300.1]; exact HP35.1); clear HP35; replace HO_6 := hqZ (Kd.Q_after (v := (.slice (some ⟨go6, 0, none⟩) x5_2.length co6)) (v1 := (.slice (some ⟨go6, 0, none⟩) x5_2.length co6)) (ok := (fun _ => True)) (Kd.Q_mono HO_6.1 (fun _ hk => ⟨trivial, hk⟩)) hg (.inl rfl)); replace BK283 := hqZ (zr0 (g := gb283) (BK283.1) hg (Kd.R_ne HO_5.1 BK283.1 (by decide))); replace HO_5 := hqZ (hp_); replace HB := hqZ ((by rw [hw]; exact zf0 (HB.1) GB6.1 : Below w.heap.size w w36)); clear hg hw hp_) | ((with_reducible refine gate_builtin (b := .append) (xs := #[.tmp 51, .tmp 53]) rfl ?_); at_builtin; refine Kd.Q_append (Kd.int .i64) (w0 := w) w.heap.size rfl (.tmp 51) (.tmp 53) 27 3 (.int .i64 0) 8 rfl Try.underlying27 info3 rfl (by decide) (by omega) (.slice (some ad298) x6_2.length co34) x6_2 (rd (rd_L2 l0_0 (rd x6_1 0)) x32_2) [.int .i64 (rd (rd_L2 l0_0 (rd x6_1 0)) x32_2)] (fun k_ => some k_ ≠ (.slice (some ⟨go6, 0, none⟩) x5_2.length co6 : Value).ownBlock) (fun _ => False) rfl rfl ?aP (fun _ hk => hk.elim) ?aF ?aO ?aB ?aS ?aL ?_; (case aP => exact rfl); (case aB => exact (HB.1)); (case aF => exact (fun k_ hk => Kd.fresh' (Kd.R_lt (HO_5.1)) k_ hk)); (case aO => exact (Kd.Q_mono HO_6.1 (fun _ hk => hk.2))); (case aS => exact (zb0 (HB.1))); (case aL => have := LMc33.1; omega); intro v302 w37 ho hb hg hat; rw [← Ny301.1] at ho; have n0_ := hqZ (Kd.R_after (ok := (fun _ => True)) (Kd.R_mono HO_5.1 (fun _ hk => ⟨trivial, hk⟩)) hg hat); have n1_ := hqZ (zr0 (g := gb283) (BK283.1) hg (Kd.Q_ne HO_6.1 BK283.1 (by decide))); have n2_ := hqZ (hb); have n3_ := hqZ (ho); clear HO_5; clear BK283; clear HB; clear HO_6; have HO_5 := n0_; have BK283 := n1_; have HB := n2_; have HO303 := n3_; clear n0_ n1_ n2_ n3_; clear ho hb hg hat)); try go_wp2_with (first | ((with_reducible refine gate_store (t := 3) (p := 50) rfl ?_); (try (rw [drewN_self wr]; generalize hq_ : World.drewN wr _ = wr; have n0_ := hqZ (Kd.R_at hq_ HO_5.1); have n1_ := hqZ (Kd.Q_at hq_ HO_6.1); have n2_ := hqZ (blk_at hq_ BK283.1); have n3_ := hqZ (below_at hq_ HB.1); clear hq_ HO_5 HO_6 BK283 HB; have HO_5 := n0_; have HO_6 := n1_; have BK283 := n2_; have HB := n3_; clear n0_ n1_ n2_ n3_; (try (have HP35 := Kd.R_putg HO_5.1 ((rd (rd_L2 l0_0 (rd x6_1 0)) x32_2) : Int) (wrap64 ((rd x5_2 (rd x6_2 0)) + 1)))))); refine store_event (t := 3) (p := 50) (v := ?vo_w36) (w1 := (wr.setCell ⟨go6, ((rd (rd_L2 l0_0 (rd x6_1 0)) x32_2) : Int).toNat, none⟩ (.int .i64 (wrap64 ((rd x5_2 (rd x6_2 0)) + 1))))) ?hg ?ho ?hn ?hr ?_; (case ho => rfl); (case hg => rfl); (case hn => rfl); (case hr => go_simp <;> rfl); intro w36 hw; have hg : wr.grownBy w36 (some go6) := (by rw [hw]; exact HP35.2); have hp_ : Kd.R (Kd.int .i64) 3 w36 w.heap.size (fun k_ => some k_ ≠ (.slice (some ad298) x6_2.length co34 : Value).ownBlock) (.slice (some ⟨go6, 0, none⟩) x5_2.length co6) y300 := (by rw [hw, Ny300.1]; exact HP35.1); clear HP35; replace HO_6 := hqZ (Kd.Q_after (v := (.slice (some ⟨go6, 0, none⟩) x5_2.length co6)) (v1 := (.slice (some ⟨go6, 0, none⟩) x5_2.length co6)) (ok := (fun _ => True)) (Kd.Q_mono HO_6.1 (fun _ hk => ⟨trivial, hk⟩)) hg (.inl rfl)); replace BK283 := hqZ (zr0 (g := gb283) (BK283.1) hg (Kd.R_ne HO_5.1 BK283.1 (by decide))); replace HO_5 := hqZ (hp_); replace HB := hqZ ((by rw [hw]; exact zf0 (HB.1) GB6.1 : Below w.heap.size w w36)); clear hg hw hp_) | ((with_reducible refine gate_builtin (b := .append) (xs := #[.tmp 51, .tmp 53]) rfl ?_); at_builtin; refine Kd.Q_append (Kd.int .i64) (w0 := w) w.heap.size rfl (.tmp 51) (.tmp 53) 27 3 (.int .i64 0) 8 rfl Try.underlying27 info3 rfl (by decide) (by omega) (.slice (some ad298) x6_2.length co34) x6_2 (rd (rd_L2 l0_0 (rd x6_1 0)) x32_2) [.int .i64 (rd (rd_L2 l0_0 (rd x6_1 0)) x32_2)] (fun k_ => some k_ ≠ (.slice (some ⟨go6, 0, none⟩) x5_2.length co6 : Value).ownBlock) (fun _ => False) rfl rfl ?aP (fun _ hk => hk.elim) ?aF ?aO ?aB ?aS ?aL ?_; (case aP => exact rfl); (case aB => exact (HB.1)); (case aF => exact (fun k_ hk => Kd.fresh' (Kd.R_lt (HO_5.1)) k_ hk)); (case aO => exact (Kd.Q_mono HO_6.1 (fun _ hk => hk.2))); (case aS => exact (zb0 (HB.1))); (case aL => have := LMc33.1; omega); intro v302 w37 ho hb hg hat; rw [← Ny301.1] at ho; have n0_ := hqZ (Kd.R_after (ok := (fun _ => True)) (Kd.R_mono HO_5.1 (fun _ hk => ⟨trivial, hk⟩)) hg hat); have n1_ := hqZ (zr0 (g := gb283) (BK283.1) hg (Kd.Q_ne HO_6.1 BK283.1 (by decide))); have n2_ := hqZ (hb); have n3_ := hqZ (ho); clear HO_5; clear BK283; clear HB; clear HO_6; have HO_5 := n0_; have BK283 := n1_; have HB := n2_; have HO303 := n3_; clear n0_ n1_ n2_ n3_; clear ho hb hg hat)))
   (try simp only [← hl5_2])
   go_roundg k2
   case measure => have := HK1.1; have := HK2.1; omega
   case rel => exact ⟨(y300), (y301), (wrap64 (x32_2 + 1)), (rfl), H', ⟨by have := HK1.1; have := HK2.1; omega⟩, ⟨by (try simp only [hl5_1]); (try simp only [hl5_2]); exact Kd.R_mono HO_5.1 (fun _ hk => hk.2)⟩, ⟨by (try simp only [hl5_1]); (try simp only [hl5_2]); exact HO303.1⟩, ⟨by (try simp only [hl5_1]); (try simp only [hl5_2]); exact BK283.1⟩, ⟨HB.1⟩⟩
def yz0.l0 : Nat → Int → Int → Int → List (List Int) → Option (Bool)
 | 0, _, _, _, _ => none
 | k + 1, x1, x8, x9, x308000 => if x9 < x8 then ((yh0.f k x308000 x9).bind fun t308 => (if 0 ≤ x1 then (if x1 < (t308.length : Int) then (if (rd t308 x1) < 0 then (some false) else (yz0.l0 k x1 x8 (wrap64 (x9 + 1)) x308000)) else (none)) else (none))) else (some true)
def yz0.f (k : Nat) (l0_0 : List (List Int)) (a1 : Int) : Option (Bool) := yz0.l0 k a1 (l0_0.length : Int) 0 l0_0
theorem yz0.mono_l : ∀ k, (∀ y0 y1 y2 y3, LeO (yz0.l0 k y0 y1 y2 y3) (yz0.l0 (k + 1) y0 y1 y2 y3))
 | 0 => fun _ _ _ _ r h => by simp [yz0.l0] at h
 | k + 1 => by
  have ih0 := yz0.mono_l k
  ·intro y0 y1 y2 y3
   unfold yz0.l0
   repeat' (with_reducible first | exact ih0 _ _ _ _ | exact yh0.mono _ _ _ | exact LeO.refl _ | exact LeO.none _ | refine LeO.ite ?_ ?_ | refine LeO.bind ?_ (fun _ => ?_))
theorem yz0.mono : ∀ a0 a1 k, LeO (yz0.f k a0 a1) (yz0.f (k + 1) a0 a1) := by
 intro a0 a1 k
 have ih0 := yz0.mono_l k
 unfold yz0.f
 repeat' (with_reducible first | exact ih0 _ _ _ _ | exact yh0.mono _ _ _ | exact LeO.refl _ | exact LeO.none _ | refine LeO.ite ?_ ?_ | refine LeO.bind ?_ (fun _ => ?_))
theorem yz0.calls (k : Nat) (A0_0 : Option Addr) (c0_0 : Nat) (l0_0 : List (List Int)) (a1 : Int) (r : Bool) (w : World) (hr0_0 : Kd.C (Kd.slice 3 (Kd.int .i64)) w A0_0 l0_0.length l0_0) (hc0_0 : l0_0.length ≤ c0_0) (h : yz0.f k l0_0 a1 = some r) :
  Calls Try.prog 64 #[.agg #[.slice A0_0 l0_0.length c0_0], .int .i64 a1] w fun e w' => e = .returned (.bool r) ∧ Below w.heap.size w w' := by
 have hu26 := Try.underlying26
 have HR0_0 := hqZ hr0_0
 have HC0_0 := hqZ hc0_0
 clear hr0_0 hc0_0
 have HB := hqZ (Below.refl w.heap.size w)
 have H : (yz0.l0 k a1 (l0_0.length : Int) 0 l0_0) = some r := h
 clear h
 have H' := hqZ H
 clear H
 go_enter Try.func64, Try.ntmps64
 go_wp2_with (first | ((with_reducible refine zo0 (N := 2) rfl ?_); refine zp0 ?hg (N := 2) ?hd (cs := #[.slice A0_0 l0_0.length c0_0]) (t := 26) ?hr ?_; (case hd | hg => rfl); (case hr => go_simp <;> rfl); intro gb307 hg w3 hbox hb; have BK307 := hqZ (hbox); have GW307 := hqZ ((by rw [hg]; exact (zb0 (HB.1)) : w.heap.size ≤ gb307)); have GE307 := hqZ ((by rw [hg]; exact (zb0 (HB.1)) : w.heap.size ≤ gb307)); replace HB := hqZ (za0 (HB.1) hb); clear hb hbox hg; have hcz4_0 : w3.cell? ⟨gb307, 0, none⟩ = some (.slice A0_0 l0_0.length c0_0) := (zh0 BK307.1 0).trans rfl; have hfz4_0 := zd0 BK307.1 0))
 go_loopg [9] k (fun kq v9 w' => ∃ (x9_1 : Int), v9 = .int .i64 x9_1 ∧ zi0 (yz0.l0 kq a1 (l0_0.length : Int) x9_1 l0_0 = some r) ∧ zi0 (kq ≤ k) ∧ zi0 (w'.heap[gb307]? = some (.cells #[(.slice A0_0 l0_0.length c0_0)] 26 (0, 0))) ∧ zi0 (Below w.heap.size w w'))
 case atStart => exact ⟨(0), (rfl), H', ⟨Nat.le_refl _⟩, ⟨BK307.1⟩, ⟨HB.1⟩⟩
 case round =>
  clear H'
  try clear p2
  try clear hcz4_0
  try clear hfz4_0
  obtain ⟨x9_1, rfl, HA, HK1, BK307, HB⟩ := hrel
  obtain _ | k1 := gk
  ·exact absurd HA.1 (by simp [yz0.l0])
  have H := HA.1
  clear HA
  simp only [yz0.l0] at H
  by_cases c5 : x9_1 < (l0_0.length : Int)
  rotate_left
  ·rw [if_neg c5] at H
   have c5b0 : decide (x9_1 < (l0_0.length : Int)) = false := decide_eq_false c5
   clear c5
   obtain rfl := Option.some.inj H
   go_wp2
   go_ret
   exact ⟨rfl, HB.1⟩
  rw [if_pos c5] at H
  have c5b0 : decide (x9_1 < (l0_0.length : Int)) = true := decide_eq_true c5
  clear c5
  replace H := Option.bind_eq_some_iff.mp H
  obtain ⟨t308, A60, H⟩ := H
  try dsimp only at H
  have A6 := hqZ A60
  clear A60
  by_cases c7 : 0 ≤ a1
  rotate_left
  ·rw [if_neg c7] at H
   exact absurd H (by simp)
  rw [if_pos c7] at H
  have c7b0 : decide (0 ≤ a1) = true := decide_eq_true c7
  clear c7
  by_cases c8 : a1 < (t308.length : Int)
  rotate_left
  ·rw [if_neg c8] at H
   exact absurd H (by simp)
  rw [if_pos c8] at H
  have c8b0 : decide (a1 < (t308.length : Int)) = true := decide_eq_true c8
  clear c8
  by_cases c9 : (rd t308 a1) < 0
  ·rw [if_pos c9] at H
   have c9b0 : decide ((rd t308 a1) < 0) = true := decide_eq_true c9
   clear c9
   obtain rfl := Option.some.inj H
   have hcz10_0 : wr.cell? ⟨gb307, 0, none⟩ = some (.slice A0_0 l0_0.length c0_0) := (zh0 BK307.1 0).trans rfl
   have hfz10_0 := zd0 BK307.1 0
   go_wp2_with (first | ((with_reducible refine ze0 (f := 75) rfl ?_); refine zq0 (some 14) rfl rfl Try.func75 (by kernel_rfl) rfl #[.agg #[.slice A0_0 l0_0.length c0_0], .int .i64 x9_1] rfl (by simp only [hqa, hqb, hqc]; rfl) ?_; (with_reducible refine (yh0.calls k1 _ _ l0_0 x9_1 t308 _ ?side1 ?side2 A6.1).mono ?_); (case side1 => exact (Kd.C_below HR0_0.1 HB.1)); (case side2 => exact HC0_0.1); rintro e w11 ⟨v309, rfl, ho0, hb⟩; refine ⟨_, rfl, ?_⟩; have HO310 := hqZ (Kd.R_lower ho0 (zb0 (HB.1))); replace BK307 := hqZ (zc0 (g := gb307) (BK307.1) hb); replace HB := hqZ (za0 (HB.1) hb); clear hb ho0; obtain ⟨Ao12, co12, eo12⟩ := Kd.R_slice HO310.1; subst eo12; have p311 : 0 ≤ (a1 : Int) := of_decide_eq_true (by assumption); have q311 : a1 < (t308.length : Int) := of_decide_eq_true (by assumption); obtain ⟨ad311, e311, hx311_0⟩ := Kd.at_int (Kd.R_reads' HO310.1).2.2 a1 p311 q311; cases e311; replace p311 := eq_true p311; replace q311 := eq_true q311))
   go_ret
   exact ⟨rfl, HB.1⟩
  rw [if_neg c9] at H
  have c9b0 : decide ((rd t308 a1) < 0) = false := decide_eq_false c9
  clear c9
  have H' := hqZ H
  clear H
  have hcz13_0 : wr.cell? ⟨gb307, 0, none⟩ = some (.slice A0_0 l0_0.length c0_0) := (zh0 BK307.1 0).trans rfl
  have hfz13_0 := zd0 BK307.1 0
  go_wp2_with (first | ((with_reducible refine ze0 (f := 75) rfl ?_); refine zq0 (some 14) rfl rfl Try.func75 (by kernel_rfl) rfl #[.agg #[.slice A0_0 l0_0.length c0_0], .int .i64 x9_1] rfl (by simp only [hqa, hqb, hqc]; rfl) ?_; (with_reducible refine (yh0.calls k1 _ _ l0_0 x9_1 t308 _ ?side1 ?side2 A6.1).mono ?_); (case side1 => exact (Kd.C_below HR0_0.1 HB.1)); (case side2 => exact HC0_0.1); rintro e w14 ⟨v309, rfl, ho0, hb⟩; refine ⟨_, rfl, ?_⟩; have HO310 := hqZ (Kd.R_lower ho0 (zb0 (HB.1))); replace BK307 := hqZ (zc0 (g := gb307) (BK307.1) hb); replace HB := hqZ (za0 (HB.1) hb); clear hb ho0; obtain ⟨Ao15, co15, eo15⟩ := Kd.R_slice HO310.1; subst eo15; have p311 : 0 ≤ (a1 : Int) := of_decide_eq_true (by assumption); have q311 : a1 < (t308.length : Int) := of_decide_eq_true (by assumption); obtain ⟨ad311, e311, hx311_0⟩ := Kd.at_int (Kd.R_reads' HO310.1).2.2 a1 p311 q311; cases e311; replace p311 := eq_true p311; replace q311 := eq_true q311))
  go_roundg k1
  case measure => have := HK1.1; omega
  case rel => exact ⟨(wrap64 (x9_1 + 1)), (rfl), H', ⟨by have := HK1.1; omega⟩, ⟨BK307.1⟩, ⟨HB.1⟩⟩
def yp1.f (k : Nat) (l0_0 : List (List Int)) (a1 : Int) : Option (Bool) := (yo1.f l0_0 (([a1] : List Int))).bind fun t316 => (if t316 = true then ((yz0.f k l0_0 a1).bind fun t317 => (some t317)) else (some false))
theorem yp1.mono : ∀ a0 a1 k, LeO (yp1.f k a0 a1) (yp1.f (k + 1) a0 a1) := by
 intro a0 a1 k
 unfold yp1.f
 repeat' (with_reducible first | exact yz0.mono _ _ _ | exact LeO.refl _ | exact LeO.none _ | refine LeO.ite ?_ ?_ | refine LeO.bind ?_ (fun _ => ?_))
theorem yp1.calls (k : Nat) (A0_0 : Option Addr) (c0_0 : Nat) (l0_0 : List (List Int)) (a1 : Int) (r : Bool) (w : World) (hr0_0 : Kd.C (Kd.slice 3 (Kd.int .i64)) w A0_0 l0_0.length l0_0) (hc0_0 : l0_0.length ≤ c0_0) (h : yp1.f k l0_0 a1 = some r) :
  Calls Try.prog 46 #[.agg #[.slice A0_0 l0_0.length c0_0], .int .i64 a1] w fun e w' => e = .returned (.bool r) ∧ Below w.heap.size w w' := by
 have hu26 := Try.underlying26
 have HR0_0 := hqZ hr0_0
 have HC0_0 := hqZ hc0_0
 clear hr0_0 hc0_0
 have HB := hqZ (Below.refl w.heap.size w)
 have H : ((yo1.f l0_0 (([a1] : List Int))).bind fun t316 => (if t316 = true then ((yz0.f k l0_0 a1).bind fun t317 => (some t317)) else (some false))) = some r := h
 clear h
 obtain ⟨y313, hy313⟩ : ∃ y_ : List Int, y_ = (([a1] : List Int)) := ⟨_, rfl⟩
 replace H : ((yo1.f l0_0 y313).bind fun t316 => (if t316 = true then ((yz0.f k l0_0 a1).bind fun t317 => (some t317)) else (some false))) = some r := by first | (rw [hy313]; with_reducible exact H) | (have H2_ := (Option.bind_some _ _).symm.trans H; rw [hy313]; with_reducible exact H2_) | (have H2_ := (Option.bind_some _ _).symm.trans H; with_reducible exact H2_) | with_reducible exact H | (rw [hy313]; exact H) | exact H
 have Ny313 := hqZ hy313
 clear hy313
 replace H := Option.bind_eq_some_iff.mp H
 obtain ⟨t316, A30, H⟩ := H
 try dsimp only at H
 have A3 := hqZ A30
 clear A30
 by_cases c4 : t316 = true
 rotate_left
 ·replace c4 := Bool.eq_false_iff.mpr c4
  subst c4
  rw [if_neg (show ¬ (false = true) by decide)] at H
  obtain rfl := Option.some.inj H
  go_enter Try.func46, Try.ntmps46
  go_wp2_with (first | ((with_reducible refine zo0 (N := 2) rfl ?_); refine zp0 ?hg (N := 2) ?hd (cs := #[.slice A0_0 l0_0.length c0_0]) (t := 26) ?hr ?_; (case hd | hg => rfl); (case hr => go_simp <;> rfl); intro gb312 hg w14 hbox hb; have BK312 := hqZ (hbox); have GW312 := hqZ ((by rw [hg]; exact (zb0 (HB.1)) : w.heap.size ≤ gb312)); have GE312 := hqZ ((by rw [hg]; exact (zb0 (HB.1)) : w.heap.size ≤ gb312)); replace HB := hqZ (za0 (HB.1) hb); clear hb hbox hg; have hcz15_0 : w14.cell? ⟨gb312, 0, none⟩ = some (.slice A0_0 l0_0.length c0_0) := (zh0 BK312.1 0).trans rfl; have hfz15_0 := zd0 BK312.1 0) | ((with_reducible refine zo0 (N := 7) rfl ?_); refine Kd.R_lit (Kd.int .i64) _ 3 ?hg (N := 7) ?hd (xs := ([a1] : List Int)) (inner := [.int .i64 a1]) (ok := fun _ => True) (okp := fun _ => True) ?hr ?hp (fun _ hk => hk) trivial (Below.refl _ _) (Nat.le_refl _) (by simp) ?_; (case hd | hg => rfl); (case hr => go_simp <;> rfl); (case hp => exact (Reps.one (show Kd.M (Kd.int .i64) _ _ _ a1 [.int .i64 a1] from rfl) (Reps.none _ _))); intro v314 w16 ho17 hb hg_ hnew_; clear hg_ hnew_; (first | rw [← Ny313.1] at ho17 | (simp only [Int.reduceToNat] at ho17; rw [← Ny313.1] at ho17)); have HO315 := hqZ (Kd.R_lower ho17 (zb0 (HB.1))); replace BK312 := hqZ (zc0 (g := gb312) (BK312.1) hb); replace HB := hqZ (za0 (HB.1) hb); clear hb ho17; obtain ⟨Ao18, co18, eo18⟩ := Kd.R_slice HO315.1; subst eo18) | ((with_reducible refine ze0 (f := 36) rfl ?_); refine zq0 (some 8) rfl rfl Try.func36 (by kernel_rfl) rfl #[.agg #[.slice A0_0 l0_0.length c0_0], .slice Ao18 y313.length co18] rfl (by simp only [hqa, hqb, hqc]; rfl) ?_; (with_reducible refine (yo1.calls _ _ l0_0 _ _ y313 false _ ?side1 ?side2 ?side3 ?side4 A3.1).mono ?_); (case side1 => exact (Kd.C_below HR0_0.1 HB.1)); (case side2 => exact HC0_0.1); (case side3 => exact (Kd.R_reads' HO315.1).2.2); (case side4 => exact (Kd.R_reads' HO315.1).2.1); rintro e w19 ⟨rfl, hb⟩; refine ⟨_, rfl, ?_⟩; replace HO315 := hqZ (Kd.R_below (HO315.1) hb); replace BK312 := hqZ (zc0 (g := gb312) (BK312.1) hb); replace HB := hqZ (za0 (HB.1) hb); clear hb))
  go_ret
  exact ⟨rfl, HB.1⟩
 subst c4
 rw [if_pos rfl] at H
 replace H := Option.bind_eq_some_iff.mp H
 obtain ⟨t317, A50, H⟩ := H
 try dsimp only at H
 have A5 := hqZ A50
 clear A50
 obtain rfl := Option.some.inj H
 go_enter Try.func46, Try.ntmps46
 go_wp2_with (first | ((with_reducible refine zo0 (N := 2) rfl ?_); refine zp0 ?hg (N := 2) ?hd (cs := #[.slice A0_0 l0_0.length c0_0]) (t := 26) ?hr ?_; (case hd | hg => rfl); (case hr => go_simp <;> rfl); intro gb312 hg w6 hbox hb; have BK312 := hqZ (hbox); have GW312 := hqZ ((by rw [hg]; exact (zb0 (HB.1)) : w.heap.size ≤ gb312)); have GE312 := hqZ ((by rw [hg]; exact (zb0 (HB.1)) : w.heap.size ≤ gb312)); replace HB := hqZ (za0 (HB.1) hb); clear hb hbox hg; have hcz7_0 : w6.cell? ⟨gb312, 0, none⟩ = some (.slice A0_0 l0_0.length c0_0) := (zh0 BK312.1 0).trans rfl; have hfz7_0 := zd0 BK312.1 0) | ((with_reducible refine zo0 (N := 7) rfl ?_); refine Kd.R_lit (Kd.int .i64) _ 3 ?hg (N := 7) ?hd (xs := ([a1] : List Int)) (inner := [.int .i64 a1]) (ok := fun _ => True) (okp := fun _ => True) ?hr ?hp (fun _ hk => hk) trivial (Below.refl _ _) (Nat.le_refl _) (by simp) ?_; (case hd | hg => rfl); (case hr => go_simp <;> rfl); (case hp => exact (Reps.one (show Kd.M (Kd.int .i64) _ _ _ a1 [.int .i64 a1] from rfl) (Reps.none _ _))); intro v314 w8 ho9 hb hg_ hnew_; clear hg_ hnew_; (first | rw [← Ny313.1] at ho9 | (simp only [Int.reduceToNat] at ho9; rw [← Ny313.1] at ho9)); have HO315 := hqZ (Kd.R_lower ho9 (zb0 (HB.1))); replace BK312 := hqZ (zc0 (g := gb312) (BK312.1) hb); replace HB := hqZ (za0 (HB.1) hb); clear hb ho9; obtain ⟨Ao10, co10, eo10⟩ := Kd.R_slice HO315.1; subst eo10) | ((with_reducible refine ze0 (f := 36) rfl ?_); refine zq0 (some 8) rfl rfl Try.func36 (by kernel_rfl) rfl #[.agg #[.slice A0_0 l0_0.length c0_0], .slice Ao10 y313.length co10] rfl (by simp only [hqa, hqb, hqc]; rfl) ?_; (with_reducible refine (yo1.calls _ _ l0_0 _ _ y313 true _ ?side1 ?side2 ?side3 ?side4 A3.1).mono ?_); (case side1 => exact (Kd.C_below HR0_0.1 HB.1)); (case side2 => exact HC0_0.1); (case side3 => exact (Kd.R_reads' HO315.1).2.2); (case side4 => exact (Kd.R_reads' HO315.1).2.1); rintro e w11 ⟨rfl, hb⟩; refine ⟨_, rfl, ?_⟩; replace HO315 := hqZ (Kd.R_below (HO315.1) hb); replace BK312 := hqZ (zc0 (g := gb312) (BK312.1) hb); replace HB := hqZ (za0 (HB.1) hb); clear hb; have hcz12_0 : w11.cell? ⟨gb312, 0, none⟩ = some (.slice A0_0 l0_0.length c0_0) := (zh0 BK312.1 0).trans rfl; have hfz12_0 := zd0 BK312.1 0) | (go_at_call 64; (with_reducible refine (yz0.calls k _ _ l0_0 a1 t317 _ ?side1 ?side2 A5.1).mono ?_); (case side1 => exact (Kd.C_below HR0_0.1 HB.1)); (case side2 => exact HC0_0.1); rintro e w13 ⟨rfl, hb⟩; replace HO315 := hqZ (Kd.R_below (HO315.1) hb); replace BK312 := hqZ (zc0 (g := gb312) (BK312.1) hb); replace HB := hqZ (za0 (HB.1) hb); clear hb))
 go_ret
 exact ⟨rfl, HB.1⟩
def yx0.f (k : Nat) (l0_0 : List (List Int)) (a1 : Int) (l2 : List Int) : Option (Bool) := (yp1.f k l0_0 a1).bind fun t319 => (if t319 = true then ((yu1.f l0_0 l2).bind fun t320 => (if t320 = true then (if 0 ≤ a1 then (if a1 < (l2.length : Int) then (some ((rd l2 a1) == 0)) else (none)) else (none)) else (some false))) else (some false))
theorem yx0.mono : ∀ a0 a1 a2 k, LeO (yx0.f k a0 a1 a2) (yx0.f (k + 1) a0 a1 a2) := by
 intro a0 a1 a2 k
 unfold yx0.f
 repeat' (with_reducible first | exact yp1.mono _ _ _ | exact LeO.refl _ | exact LeO.none _ | refine LeO.ite ?_ ?_ | refine LeO.bind ?_ (fun _ => ?_))
theorem yx0.calls (k : Nat) (A0_0 : Option Addr) (c0_0 : Nat) (l0_0 : List (List Int)) (a1 : Int) (A2 : Option Addr) (c2 : Nat) (l2 : List Int) (r : Bool) (w : World) (hr0_0 : Kd.C (Kd.slice 3 (Kd.int .i64)) w A0_0 l0_0.length l0_0) (hc0_0 : l0_0.length ≤ c0_0) (hr2 : Kd.C (Kd.int .i64) w A2 l2.length l2) (hc2 : l2.length ≤ c2) (h : yx0.f k l0_0 a1 l2 = some r) :
  Calls Try.prog 28 #[.agg #[.slice A0_0 l0_0.length c0_0], .int .i64 a1, .slice A2 l2.length c2] w fun e w' => e = .returned (.bool r) ∧ Below w.heap.size w w' := by
 have hu26 := Try.underlying26
 have HR0_0 := hqZ hr0_0
 have HC0_0 := hqZ hc0_0
 clear hr0_0 hc0_0
 have HR2 := hqZ hr2
 have HC2 := hqZ hc2
 clear hr2 hc2
 have HB := hqZ (Below.refl w.heap.size w)
 have H : ((yp1.f k l0_0 a1).bind fun t319 => (if t319 = true then ((yu1.f l0_0 l2).bind fun t320 => (if t320 = true then (if 0 ≤ a1 then (if a1 < (l2.length : Int) then (some ((rd l2 a1) == 0)) else (none)) else (none)) else (some false))) else (some false))) = some r := h
 clear h
 replace H := Option.bind_eq_some_iff.mp H
 obtain ⟨t319, A40, H⟩ := H
 try dsimp only at H
 have A4 := hqZ A40
 clear A40
 by_cases c5 : t319 = true
 rotate_left
 ·replace c5 := Bool.eq_false_iff.mpr c5
  subst c5
  rw [if_neg (show ¬ (false = true) by decide)] at H
  obtain rfl := Option.some.inj H
  go_enter Try.func28, Try.ntmps28
  go_wp2_with (first | ((with_reducible refine zo0 (N := 3) rfl ?_); refine zp0 ?hg (N := 3) ?hd (cs := #[.slice A0_0 l0_0.length c0_0]) (t := 26) ?hr ?_; (case hd | hg => rfl); (case hr => go_simp <;> rfl); intro gb318 hg w20 hbox hb; have BK318 := hqZ (hbox); have GW318 := hqZ ((by rw [hg]; exact (zb0 (HB.1)) : w.heap.size ≤ gb318)); have GE318 := hqZ ((by rw [hg]; exact (zb0 (HB.1)) : w.heap.size ≤ gb318)); replace HB := hqZ (za0 (HB.1) hb); clear hb hbox hg; have hcz21_0 : w20.cell? ⟨gb318, 0, none⟩ = some (.slice A0_0 l0_0.length c0_0) := (zh0 BK318.1 0).trans rfl; have hfz21_0 := zd0 BK318.1 0) | ((with_reducible refine ze0 (f := 46) rfl ?_); refine zq0 (some 9) rfl rfl Try.func46 (by kernel_rfl) rfl #[.agg #[.slice A0_0 l0_0.length c0_0], .int .i64 a1] rfl (by simp only [hqa, hqb, hqc]; rfl) ?_; (with_reducible refine (yp1.calls k _ _ l0_0 a1 false _ ?side1 ?side2 A4.1).mono ?_); (case side1 => exact (Kd.C_below HR0_0.1 HB.1)); (case side2 => exact HC0_0.1); rintro e w22 ⟨rfl, hb⟩; refine ⟨_, rfl, ?_⟩; replace BK318 := hqZ (zc0 (g := gb318) (BK318.1) hb); replace HB := hqZ (za0 (HB.1) hb); clear hb))
  go_ret
  exact ⟨rfl, HB.1⟩
 subst c5
 rw [if_pos rfl] at H
 replace H := Option.bind_eq_some_iff.mp H
 obtain ⟨t320, A60, H⟩ := H
 try dsimp only at H
 have A6 := hqZ A60
 clear A60
 by_cases c7 : t320 = true
 rotate_left
 ·replace c7 := Bool.eq_false_iff.mpr c7
  subst c7
  rw [if_neg (show ¬ (false = true) by decide)] at H
  obtain rfl := Option.some.inj H
  go_enter Try.func28, Try.ntmps28
  go_wp2_with (first | ((with_reducible refine zo0 (N := 3) rfl ?_); refine zp0 ?hg (N := 3) ?hd (cs := #[.slice A0_0 l0_0.length c0_0]) (t := 26) ?hr ?_; (case hd | hg => rfl); (case hr => go_simp <;> rfl); intro gb318 hg w15 hbox hb; have BK318 := hqZ (hbox); have GW318 := hqZ ((by rw [hg]; exact (zb0 (HB.1)) : w.heap.size ≤ gb318)); have GE318 := hqZ ((by rw [hg]; exact (zb0 (HB.1)) : w.heap.size ≤ gb318)); replace HB := hqZ (za0 (HB.1) hb); clear hb hbox hg; have hcz16_0 : w15.cell? ⟨gb318, 0, none⟩ = some (.slice A0_0 l0_0.length c0_0) := (zh0 BK318.1 0).trans rfl; have hfz16_0 := zd0 BK318.1 0) | ((with_reducible refine ze0 (f := 46) rfl ?_); refine zq0 (some 9) rfl rfl Try.func46 (by kernel_rfl) rfl #[.agg #[.slice A0_0 l0_0.length c0_0], .int .i64 a1] rfl (by simp only [hqa, hqb, hqc]; rfl) ?_; (with_reducible refine (yp1.calls k _ _ l0_0 a1 true _ ?side1 ?side2 A4.1).mono ?_); (case side1 => exact (Kd.C_below HR0_0.1 HB.1)); (case side2 => exact HC0_0.1); rintro e w17 ⟨rfl, hb⟩; refine ⟨_, rfl, ?_⟩; replace BK318 := hqZ (zc0 (g := gb318) (BK318.1) hb); replace HB := hqZ (za0 (HB.1) hb); clear hb; have hcz18_0 : w17.cell? ⟨gb318, 0, none⟩ = some (.slice A0_0 l0_0.length c0_0) := (zh0 BK318.1 0).trans rfl; have hfz18_0 := zd0 BK318.1 0) | (go_at_call 40; (with_reducible refine (yu1.calls _ _ l0_0 _ _ l2 false _ ?side1 ?side2 ?side3 ?side4 A6.1).mono ?_); (case side1 => exact (Kd.C_below HR0_0.1 HB.1)); (case side2 => exact HC0_0.1); (case side3 => exact (Kd.C_below HR2.1 HB.1)); (case side4 => exact HC2.1); rintro e w19 ⟨rfl, hb⟩; replace BK318 := hqZ (zc0 (g := gb318) (BK318.1) hb); replace HB := hqZ (za0 (HB.1) hb); clear hb))
  go_ret
  exact ⟨rfl, HB.1⟩
 subst c7
 rw [if_pos rfl] at H
 by_cases c8 : 0 ≤ a1
 rotate_left
 ·rw [if_neg c8] at H
  exact absurd H (by simp)
 rw [if_pos c8] at H
 have c8b0 : decide (0 ≤ a1) = true := decide_eq_true c8
 clear c8
 by_cases c9 : a1 < (l2.length : Int)
 rotate_left
 ·rw [if_neg c9] at H
  exact absurd H (by simp)
 rw [if_pos c9] at H
 have c9b0 : decide (a1 < (l2.length : Int)) = true := decide_eq_true c9
 clear c9
 obtain rfl := Option.some.inj H
 go_enter Try.func28, Try.ntmps28
 go_wp2_with (first | ((with_reducible refine zo0 (N := 3) rfl ?_); refine zp0 ?hg (N := 3) ?hd (cs := #[.slice A0_0 l0_0.length c0_0]) (t := 26) ?hr ?_; (case hd | hg => rfl); (case hr => go_simp <;> rfl); intro gb318 hg w10 hbox hb; have BK318 := hqZ (hbox); have GW318 := hqZ ((by rw [hg]; exact (zb0 (HB.1)) : w.heap.size ≤ gb318)); have GE318 := hqZ ((by rw [hg]; exact (zb0 (HB.1)) : w.heap.size ≤ gb318)); replace HB := hqZ (za0 (HB.1) hb); clear hb hbox hg; have hcz11_0 : w10.cell? ⟨gb318, 0, none⟩ = some (.slice A0_0 l0_0.length c0_0) := (zh0 BK318.1 0).trans rfl; have hfz11_0 := zd0 BK318.1 0) | ((with_reducible refine ze0 (f := 46) rfl ?_); refine zq0 (some 9) rfl rfl Try.func46 (by kernel_rfl) rfl #[.agg #[.slice A0_0 l0_0.length c0_0], .int .i64 a1] rfl (by simp only [hqa, hqb, hqc]; rfl) ?_; (with_reducible refine (yp1.calls k _ _ l0_0 a1 true _ ?side1 ?side2 A4.1).mono ?_); (case side1 => exact (Kd.C_below HR0_0.1 HB.1)); (case side2 => exact HC0_0.1); rintro e w12 ⟨rfl, hb⟩; refine ⟨_, rfl, ?_⟩; replace BK318 := hqZ (zc0 (g := gb318) (BK318.1) hb); replace HB := hqZ (za0 (HB.1) hb); clear hb; have hcz13_0 : w12.cell? ⟨gb318, 0, none⟩ = some (.slice A0_0 l0_0.length c0_0) := (zh0 BK318.1 0).trans rfl; have hfz13_0 := zd0 BK318.1 0) | (go_at_call 40; (with_reducible refine (yu1.calls _ _ l0_0 _ _ l2 true _ ?side1 ?side2 ?side3 ?side4 A6.1).mono ?_); (case side1 => exact (Kd.C_below HR0_0.1 HB.1)); (case side2 => exact HC0_0.1); (case side3 => exact (Kd.C_below HR2.1 HB.1)); (case side4 => exact HC2.1); rintro e w14 ⟨rfl, hb⟩; replace BK318 := hqZ (zc0 (g := gb318) (BK318.1) hb); replace HB := hqZ (za0 (HB.1) hb); clear hb; have p321 : 0 ≤ (a1 : Int) := of_decide_eq_true (by assumption); have q321 : a1 < (l2.length : Int) := of_decide_eq_true (by assumption); obtain ⟨ad321, e321, hx321_0⟩ := Kd.at_int HR2.1 a1 p321 q321; cases e321; replace hx321_0 := (HB.1.cell (World.block_lt_of_cell? w _ hx321_0)).trans hx321_0; replace p321 := eq_true p321; replace q321 := eq_true q321))
 go_ret
 exact ⟨rfl, HB.1⟩
def yq1.f (l0_0 : List (List Int)) (a1 : Int) (l2 : List Int) (a3 : Int) : Option (Bool) := if a3 = a1 then (some false) else (if 0 ≤ a3 then (if a3 < (l2.length : Int) then (if a3 < (l0_0.length : Int) then (some (decide ((rd l2 a3) ≥ ((rd_L2 l0_0 a3).length : Int)))) else (none)) else (none)) else (none))
theorem yq1.calls (A0_0 : Option Addr) (c0_0 : Nat) (l0_0 : List (List Int)) (a1 : Int) (A2 : Option Addr) (c2 : Nat) (l2 : List Int) (a3 : Int) (r : Bool) (w : World) (hr0_0 : Kd.C (Kd.slice 3 (Kd.int .i64)) w A0_0 l0_0.length l0_0) (hc0_0 : l0_0.length ≤ c0_0) (hr2 : Kd.C (Kd.int .i64) w A2 l2.length l2) (hc2 : l2.length ≤ c2) (h : yq1.f l0_0 a1 l2 a3 = some r) :
  Calls Try.prog 37 #[.agg #[.slice A0_0 l0_0.length c0_0], .int .i64 a1, .slice A2 l2.length c2, .int .i64 a3] w fun e w' => e = .returned (.bool r) ∧ Below w.heap.size w w' := by
 have hu26 := Try.underlying26
 have HR0_0 := hqZ hr0_0
 have HC0_0 := hqZ hc0_0
 clear hr0_0 hc0_0
 have HR2 := hqZ hr2
 have HC2 := hqZ hc2
 clear hr2 hc2
 have HB := hqZ (Below.refl w.heap.size w)
 have H : (if a3 = a1 then (some false) else (if 0 ≤ a3 then (if a3 < (l2.length : Int) then (if a3 < (l0_0.length : Int) then (some (decide ((rd l2 a3) ≥ ((rd_L2 l0_0 a3).length : Int)))) else (none)) else (none)) else (none))) = some r := h
 clear h
 by_cases c5 : a3 = a1
 ·rw [if_pos c5] at H
  have c5b0 : (a3 == a1) = true := beq_iff_eq.mpr c5
  have c5b1 : (a3 != a1) = false := bne_eq_false_iff_eq.mpr c5
  clear c5
  obtain rfl := Option.some.inj H
  go_enter Try.func37, Try.ntmps37
  go_wp2_with (first | ((with_reducible refine zo0 (N := 4) rfl ?_); (try (refine gate_guard (by rfl) ?_; dsimp only)); refine zp0 ?hg (N := 4) ?hd (cs := #[.slice A0_0 l0_0.length c0_0]) (t := 26) ?hr ?_; (case hd | hg => rfl); (case hr => go_simp <;> rfl); intro gb322 hg w6 hbox hb; have BK322 := hqZ (hbox); have GW322 := hqZ ((by rw [hg]; exact (zb0 (HB.1)) : w.heap.size ≤ gb322)); have GE322 := hqZ ((by rw [hg]; exact (zb0 (HB.1)) : w.heap.size ≤ gb322)); replace HB := hqZ (za0 (HB.1) hb); clear hb hbox hg))
  repeat (go_quiet (first | ((with_reducible refine zo0 (N := 4) rfl ?_); (try (refine gate_guard (by rfl) ?_; dsimp only)); refine zp0 ?hg (N := 4) ?hd (cs := #[.slice A0_0 l0_0.length c0_0]) (t := 26) ?hr ?_; (case hd | hg => rfl); (case hr => go_simp <;> rfl); intro gb322 hg w6 hbox hb; have BK322 := hqZ (hbox); have GW322 := hqZ ((by rw [hg]; exact (zb0 (HB.1)) : w.heap.size ≤ gb322)); have GE322 := hqZ ((by rw [hg]; exact (zb0 (HB.1)) : w.heap.size ≤ gb322)); replace HB := hqZ (za0 (HB.1) hb); clear hb hbox hg)); try go_wp2_with (first | ((with_reducible refine zo0 (N := 4) rfl ?_); (try (refine gate_guard (by rfl) ?_; dsimp only)); refine zp0 ?hg (N := 4) ?hd (cs := #[.slice A0_0 l0_0.length c0_0]) (t := 26) ?hr ?_; (case hd | hg => rfl); (case hr => go_simp <;> rfl); intro gb322 hg w6 hbox hb; have BK322 := hqZ (hbox); have GW322 := hqZ ((by rw [hg]; exact (zb0 (HB.1)) : w.heap.size ≤ gb322)); have GE322 := hqZ ((by rw [hg]; exact (zb0 (HB.1)) : w.heap.size ≤ gb322)); replace HB := hqZ (za0 (HB.1) hb); clear hb hbox hg)))
  go_ret
  exact ⟨rfl, hqB HB.1⟩
 rw [if_neg c5] at H
 have c5b0 : (a3 == a1) = false := beq_eq_false_iff_ne.mpr c5
 have c5b1 : (a3 != a1) = true := bne_iff_ne.mpr c5
 by_cases c7 : 0 ≤ a3
 rotate_left
 ·rw [if_neg c7] at H
  exact absurd H (by simp)
 rw [if_pos c7] at H
 have c7b0 : decide (0 ≤ a3) = true := decide_eq_true c7
 clear c7
 by_cases c8 : a3 < (l2.length : Int)
 rotate_left
 ·rw [if_neg c8] at H
  exact absurd H (by simp)
 rw [if_pos c8] at H
 have c8b0 : decide (a3 < (l2.length : Int)) = true := decide_eq_true c8
 clear c8
 by_cases c9 : a3 < (l0_0.length : Int)
 rotate_left
 ·rw [if_neg c9] at H
  exact absurd H (by simp)
 rw [if_pos c9] at H
 have c9b0 : decide (a3 < (l0_0.length : Int)) = true := decide_eq_true c9
 clear c9
 obtain rfl := Option.some.inj H
 go_enter Try.func37, Try.ntmps37
 go_wp2_with (first | ((with_reducible refine zo0 (N := 4) rfl ?_); (try (refine gate_guard (by rfl) ?_; dsimp only)); refine zp0 ?hg (N := 4) ?hd (cs := #[.slice A0_0 l0_0.length c0_0]) (t := 26) ?hr ?_; (case hd | hg => rfl); (case hr => go_simp <;> rfl); intro gb322 hg w10 hbox hb; have BK322 := hqZ (hbox); have GW322 := hqZ ((by rw [hg]; exact (zb0 (HB.1)) : w.heap.size ≤ gb322)); have GE322 := hqZ ((by rw [hg]; exact (zb0 (HB.1)) : w.heap.size ≤ gb322)); replace HB := hqZ (za0 (HB.1) hb); clear hb hbox hg; have p323 : 0 ≤ (a3 : Int) := of_decide_eq_true (by assumption); have q323 : a3 < (l2.length : Int) := of_decide_eq_true (by assumption); obtain ⟨ad323, e323, hx323_0⟩ := Kd.at_int HR2.1 a3 p323 q323; cases e323; replace hx323_0 := (HB.1.cell (World.block_lt_of_cell? w _ hx323_0)).trans hx323_0; replace p323 := eq_true p323; replace q323 := eq_true q323; have hcz11_0 : w10.cell? ⟨gb322, 0, none⟩ = some (.slice A0_0 l0_0.length c0_0) := (zh0 BK322.1 0).trans rfl; have hfz11_0 := zd0 BK322.1 0; have p324 : 0 ≤ (a3 : Int) := of_decide_eq_true (by assumption); have q324 : a3 < (l0_0.length : Int) := of_decide_eq_true (by assumption); obtain ⟨ad324, A324_0, c324_0, e324, hx324_0, hl324_0, hi324_0⟩ := at_L2 HR0_0.1 a3 p324 q324; cases e324; replace hx324_0 := (HB.1.cell (World.block_lt_of_cell? w _ hx324_0)).trans hx324_0; have HR324_0 := hqZ hi324_0; have HC324_0 := hqZ hl324_0; clear hi324_0 hl324_0; replace p324 := eq_true p324; replace q324 := eq_true q324))
 repeat (go_quiet (first | ((with_reducible refine zo0 (N := 4) rfl ?_); (try (refine gate_guard (by rfl) ?_; dsimp only)); refine zp0 ?hg (N := 4) ?hd (cs := #[.slice A0_0 l0_0.length c0_0]) (t := 26) ?hr ?_; (case hd | hg => rfl); (case hr => go_simp <;> rfl); intro gb322 hg w10 hbox hb; have BK322 := hqZ (hbox); have GW322 := hqZ ((by rw [hg]; exact (zb0 (HB.1)) : w.heap.size ≤ gb322)); have GE322 := hqZ ((by rw [hg]; exact (zb0 (HB.1)) : w.heap.size ≤ gb322)); replace HB := hqZ (za0 (HB.1) hb); clear hb hbox hg; have p323 : 0 ≤ (a3 : Int) := of_decide_eq_true (by assumption); have q323 : a3 < (l2.length : Int) := of_decide_eq_true (by assumption); obtain ⟨ad323, e323, hx323_0⟩ := Kd.at_int HR2.1 a3 p323 q323; cases e323; replace hx323_0 := (HB.1.cell (World.block_lt_of_cell? w _ hx323_0)).trans hx323_0; replace p323 := eq_true p323; replace q323 := eq_true q323; have hcz11_0 : w10.cell? ⟨gb322, 0, none⟩ = some (.slice A0_0 l0_0.length c0_0) := (zh0 BK322.1 0).trans rfl; have hfz11_0 := zd0 BK322.1 0; have p324 : 0 ≤ (a3 : Int) := of_decide_eq_true (by assumption); have q324 : a3 < (l0_0.length : Int) := of_decide_eq_true (by assumption); obtain ⟨ad324, A324_0, c324_0, e324, hx324_0, hl324_0, hi324_0⟩ := at_L2 HR0_0.1 a3 p324 q324; cases e324; replace hx324_0 := (HB.1.cell (World.block_lt_of_cell? w _ hx324_0)).trans hx324_0; have HR324_0 := hqZ hi324_0; have HC324_0 := hqZ hl324_0; clear hi324_0 hl324_0; replace p324 := eq_true p324; replace q324 := eq_true q324)); try go_wp2_with (first | ((with_reducible refine zo0 (N := 4) rfl ?_); (try (refine gate_guard (by rfl) ?_; dsimp only)); refine zp0 ?hg (N := 4) ?hd (cs := #[.slice A0_0 l0_0.length c0_0]) (t := 26) ?hr ?_; (case hd | hg => rfl); (case hr => go_simp <;> rfl); intro gb322 hg w10 hbox hb; have BK322 := hqZ (hbox); have GW322 := hqZ ((by rw [hg]; exact (zb0 (HB.1)) : w.heap.size ≤ gb322)); have GE322 := hqZ ((by rw [hg]; exact (zb0 (HB.1)) : w.heap.size ≤ gb322)); replace HB := hqZ (za0 (HB.1) hb); clear hb hbox hg; have p323 : 0 ≤ (a3 : Int) := of_decide_eq_true (by assumption); have q323 : a3 < (l2.length : Int) := of_decide_eq_true (by assumption); obtain ⟨ad323, e323, hx323_0⟩ := Kd.at_int HR2.1 a3 p323 q323; cases e323; replace hx323_0 := (HB.1.cell (World.block_lt_of_cell? w _ hx323_0)).trans hx323_0; replace p323 := eq_true p323; replace q323 := eq_true q323; have hcz11_0 : w10.cell? ⟨gb322, 0, none⟩ = some (.slice A0_0 l0_0.length c0_0) := (zh0 BK322.1 0).trans rfl; have hfz11_0 := zd0 BK322.1 0; have p324 : 0 ≤ (a3 : Int) := of_decide_eq_true (by assumption); have q324 : a3 < (l0_0.length : Int) := of_decide_eq_true (by assumption); obtain ⟨ad324, A324_0, c324_0, e324, hx324_0, hl324_0, hi324_0⟩ := at_L2 HR0_0.1 a3 p324 q324; cases e324; replace hx324_0 := (HB.1.cell (World.block_lt_of_cell? w _ hx324_0)).trans hx324_0; have HR324_0 := hqZ hi324_0; have HC324_0 := hqZ hl324_0; clear hi324_0 hl324_0; replace p324 := eq_true p324; replace q324 := eq_true q324)))
 go_ret
 exact ⟨rfl, hqB HB.1⟩
def ys1.f (l0 : List Int) : Option (List Int) := if l0.length < 17592186044416 then some l0 else none
theorem C_none {w : World} {l : List Int} (h : Kd.C (Kd.int .i64) w none l.length l) : l = [] := by
 cases l with
 | nil => rfl
 | cons x l =>
  obtain ⟨ad, e, _⟩ := h.2.2 (by simp)
  cases e
theorem ys1.calls (A0 : Option Addr) (c0 : Nat) (l0 : List Int) (r : List Int) (w : World) (hr0 : Kd.C (Kd.int .i64) w A0 l0.length l0) (hc0 : l0.length ≤ c0) (h : ys1.f l0 = some r) :
  Calls Try.prog 38 #[.slice A0 l0.length c0] w fun e w' => ∃ v0_ : Value, e = .returned (v0_) ∧ Kd.R (Kd.int .i64) 3 w' w.heap.size (fun _ => True) v0_ r ∧ Below w.heap.size w w' := by
 unfold ys1.f at h
 by_cases c2 : l0.length < 17592186044416
 rotate_left
 ·rw [if_neg c2] at h
  cases h
 rw [if_pos c2] at h
 obtain rfl := Option.some.inj h
 clear h
 cases A0 with
 | none =>
  obtain rfl := C_none hr0
  clear hr0 hc0
  have q22 : ∀ (w : World) (n c n' c' : Nat), (binOp .eql 27 (.slice none n c) (.slice none n' c')).run Try.prog w = .ok (.bool true) w := fun w n c n' c' => Lib.run_eql_slice_nil w _ _ none n c n' c' Try.underlying27
  go_enter Try.func38, Try.ntmps38
  go_wp2
  go_ret
  exact ⟨_, rfl, Kd.R_nil _ _ _ _ _, Below.refl _ _⟩
 | some ad =>
  have LM := hqZ c2
  clear c2
  have HR0 := hqZ hr0
  have HC0 := hqZ hc0
  clear hr0 hc0
  have HB := hqZ (Below.refl w.heap.size w)
  have q22 : ∀ (w : World) (a : Addr) (n c n' c' : Nat), (binOp .eql 27 (.slice (some a) n c) (.slice none n' c')).run Try.prog w = .ok (.bool false) w := fun w a n c n' c' => Lib.run_eql_slice_nil w _ _ (some a) n c n' c' Try.underlying27
  go_enter Try.func38, Try.ntmps38
  go_wp2_with (first | ((with_reducible refine zo0 (N := 5) rfl ?_); refine Kd.R_lit (Kd.int .i64) _ 3 ?hg (N := 5) ?hd (xs := ([] : List Int)) (inner := []) (ok := fun _ => True) (okp := fun _ => True) ?hr ?hp (fun _ hk => hk) trivial (Below.refl _ _) (Nat.le_refl _) (by simp) ?_; (case hd | hg => rfl); (case hr => go_simp <;> rfl); (case hp => exact (Reps.none _ _)); intro v155 w3 ho4 hb hg_ hnew_; clear hg_ hnew_; have HO156 := hqZ (Kd.R_lower ho4 (zb0 (HB.1))); replace HB := hqZ (za0 (HB.1) hb); clear hb ho4) | ((with_reducible refine gate_builtin (b := .append) (xs := #[.tmp 5, .tmp 6]) rfl ?_); at_builtin; refine Kd.R_append_rows (Kd.int .i64) (w0 := w) w.heap.size rfl (.tmp 5) (.tmp 6) 27 3 (.int .i64 0) 8 rfl Try.underlying27 info3 rfl (by decide) (by omega) v155 [] l0 _ _ _ (fun _ => True) (fun _ => False) rfl rfl ?aO ?aR (fun _ _ h => h) (fun _ h => h.elim) ?aF ?aB ?aS ?aL ?_; (case aR => exact (Kd.C_below HR0.1 HB.1)); (case aB => exact (HB.1)); (case aF => exact (fun _ _ => trivial)); (case aO => exact (HO156.1)); (case aS => exact (zb0 (HB.1))); (case aL => have := LM.1; simp only [List.length_nil]; omega); intro v158 w5 ho hb hg hat; have n0_ := hqZ (hb); have n1_ := hqZ (ho); clear HB; clear HO156; have HB := n0_; have HO159 := n1_; clear n0_ n1_; clear ho hb hg hat))
  go_ret
  exact ⟨_, rfl, HO159.1, HB.1⟩
def yk0.l0 : Nat → Int → List Int → List Int → Int → Int → Option (List Int)
 | 0, _, _, _, _, _ => none
 | k + 1, x1, x2, x26, x27, x28 => if x28 < x27 then (if 0 ≤ x28 then (if x28 < (x26.length : Int) then (if (rd x26 x28) = x1 then (yk0.l0 k x1 x2 x26 x27 (wrap64 (x28 + 1))) else (if 0 ≤ (rd x26 x28) then (if (rd x26 x28) < (x2.length : Int) then (yk0.l0 k x1 (x2.set ((rd x26 x28) : Int).toNat (wrap64 ((rd x2 (rd x26 x28)) + 1))) x26 x27 (wrap64 (x28 + 1))) else (none)) else (none))) else (none)) else (none)) else (some x2)
def yk0.f (k : Nat) (l0_0 : List (List Int)) (a1 : Int) (l2 : List Int) (a3 : Int) : Option (List Int) := if 0 ≤ a3 then (if a3 < (l2.length : Int) then (if a3 < (l0_0.length : Int) then (yk0.l0 k a1 (l2.set (a3 : Int).toNat (wrap64 ((rd l2 a3) - ((rd_L2 l0_0 a3).length : Int)))) (rd_L2 l0_0 a3) ((rd_L2 l0_0 a3).length : Int) 0) else (none)) else (none)) else (none)
theorem yk0.mono_l : ∀ k, (∀ y0 y1 y2 y3 y4, LeO (yk0.l0 k y0 y1 y2 y3 y4) (yk0.l0 (k + 1) y0 y1 y2 y3 y4))
 | 0 => fun _ _ _ _ _ r h => by simp [yk0.l0] at h
 | k + 1 => by
  have ih0 := yk0.mono_l k
  ·intro y0 y1 y2 y3 y4
   unfold yk0.l0
   repeat' (with_reducible first | exact ih0 _ _ _ _ _ | exact LeO.refl _ | exact LeO.none _ | refine LeO.ite ?_ ?_ | refine LeO.bind ?_ (fun _ => ?_))
theorem yk0.mono : ∀ a0 a1 a2 a3 k, LeO (yk0.f k a0 a1 a2 a3) (yk0.f (k + 1) a0 a1 a2 a3) := by
 intro a0 a1 a2 a3 k
 have ih0 := yk0.mono_l k
 unfold yk0.f
 repeat' (with_reducible first | exact ih0 _ _ _ _ _ | exact LeO.refl _ | exact LeO.none _ | refine LeO.ite ?_ ?_ | refine LeO.bind ?_ (fun _ => ?_))
def yk0.T1 : Bool × List (List Nat × List Nat) := (true, [([], []), ([], []), ([0, 1], [0, 1]), ([2], [2]), ([], []), ([4], [4]), ([], []), ([5, 6], [5, 6]), ([7], [7]), ([8], [8]), ([3, 9], [3, 9]), ([0, 1, 0, 1, 2, 3, 4, 5, 6, 7, 8, 9, 10], [0, 1]), ([11, 10, 0, 1, 2, 3, 4, 5, 6, 7, 8, 9, 10], [10, 11])])
def yk0.B1 : List Nat := [0, 0, 3, 7, 0, 16, 0, 112, 240, 496, 1023, 2047, 4095]
theorem yk0.tab1 : rtab .any (opsOf Try.f39 1) = yk0.T1 := by kernel_rfl
theorem yk0.bits1 : waitsOk yk0.T1.2 yk0.B1 = true := by kernel_rfl
theorem yk0.calls (k : Nat) (A0_0 : Option Addr) (c0_0 : Nat) (l0_0 : List (List Int)) (a1 : Int) (P2_ : Nat → Prop) (u9000_ : Value) (l2 : List Int) (a3 : Int) (r : List Int) (w0 w : World) (hB : Below w0.heap.size w0 w) (hr0_0 : ∀ W_, Kept w W_ (fun k_ => P2_ k_) → Kd.C (Kd.slice 3 (Kd.int .i64)) W_ A0_0 l0_0.length l0_0) (hc0_0 : l0_0.length ≤ c0_0) (ho2 : Kd.R (Kd.int .i64) 3 w w0.heap.size P2_ u9000_ l2) (h : yk0.f k l0_0 a1 l2 a3 = some r) :
  Calls Try.prog 39 #[.agg #[.slice A0_0 l0_0.length c0_0], .int .i64 a1, u9000_, .int .i64 a3] w fun e w' => e = .returned (.tuple #[]) ∧ Kd.R (Kd.int .i64) 3 w' w0.heap.size (fun k_ => (P2_ k_ ∨ w.heap.size ≤ k_)) u9000_ r ∧ Below w0.heap.size w0 w' ∧ Kept w w' (fun k_ => P2_ k_) := by
 have hu26 := Try.underlying26
 have HR0_0 := hqZ hr0_0
 have HC0_0 := hqZ hc0_0
 clear hr0_0 hc0_0
 have HO2 := hqZ (show Kd.R (Kd.int .i64) 3 w w0.heap.size (fun k_ => (P2_ k_ ∨ w.heap.size ≤ k_)) u9000_ l2 from Kd.R_mono ho2 (fun k_ hk => (.inl hk)))
 have HK := hqZ (Kept.refl w (fun k_ => P2_ k_))
 have HW0 := hqZ hB.size
 have HB := hqZ hB
 clear hB
 have H : (if 0 ≤ a3 then (if a3 < (l2.length : Int) then (if a3 < (l0_0.length : Int) then (yk0.l0 k a1 (l2.set (a3 : Int).toNat (wrap64 ((rd l2 a3) - ((rd_L2 l0_0 a3).length : Int)))) (rd_L2 l0_0 a3) ((rd_L2 l0_0 a3).length : Int) 0) else (none)) else (none)) else (none)) = some r := h
 clear h
 by_cases c5 : 0 ≤ a3
 rotate_left
 ·rw [if_neg c5] at H
  exact absurd H (by simp)
 rw [if_pos c5] at H
 have c5b0 : decide (0 ≤ a3) = true := decide_eq_true c5
 clear c5
 by_cases c6 : a3 < (l2.length : Int)
 rotate_left
 ·rw [if_neg c6] at H
  exact absurd H (by simp)
 rw [if_pos c6] at H
 have c6b0 : decide (a3 < (l2.length : Int)) = true := decide_eq_true c6
 clear c6
 by_cases c7 : a3 < (l0_0.length : Int)
 rotate_left
 ·rw [if_neg c7] at H
  exact absurd H (by simp)
 rw [if_pos c7] at H
 have c7b0 : decide (a3 < (l0_0.length : Int)) = true := decide_eq_true c7
 clear c7
 obtain ⟨y328, hy328⟩ : ∃ y_ : List Int, y_ = (l2.set (a3 : Int).toNat (wrap64 ((rd l2 a3) - ((rd_L2 l0_0 a3).length : Int)))) := ⟨_, rfl⟩
 replace H : (yk0.l0 k a1 y328 (rd_L2 l0_0 a3) ((rd_L2 l0_0 a3).length : Int) 0) = some r := by first | (rw [hy328]; with_reducible exact H) | (have H2_ := (Option.bind_some _ _).symm.trans H; rw [hy328]; with_reducible exact H2_) | (have H2_ := (Option.bind_some _ _).symm.trans H; with_reducible exact H2_) | with_reducible exact H | (rw [hy328]; exact H) | exact H
 have Ny328 := hqZ hy328
 clear hy328
 have H' := hqZ H
 clear H
 go_enter Try.func39, Try.ntmps39
 try go_wp2_with (first | ((with_reducible refine zo0 (N := 4) rfl ?_); refine zp0 ?hg (N := 4) ?hd (cs := #[.slice A0_0 l0_0.length c0_0]) (t := 26) ?hr ?_; (case hd | hg => rfl); (case hr => go_simp <;> rfl); intro gb325 hg w9 hbox hb; replace HO2 := hqZ (Kd.R_below (HO2.1) hb); have BK325 := hqZ (hbox); have GW325 := hqZ ((by rw [hg]; exact (by first | exact HK.1.1 | exact (show Kept w _ (fun k_ => P2_ k_) from HK.1).1) : w.heap.size ≤ gb325)); replace HK := hqZ (Kept.below (S := (fun k_ => P2_ k_)) (HK.1) hb); have GE325 := hqZ ((by rw [hg]; exact (zb0 (HB.1)) : w0.heap.size ≤ gb325)); replace HB := hqZ (za0 (HB.1) hb); clear hb hbox hg))
 have n0_ := hqZ (Kd.R_drew HO2.1)
 have n1_ := hqZ (blk_drew BK325.1)
 have n2_ := hqZ (Kept.drew HK.1)
 have n3_ := hqZ (zk0 HB.1)
 clear HO2 BK325 HK HB
 have HO2 := n0_
 have BK325 := n1_
 have HK := n2_
 have HB := n3_
 clear n0_ n1_ n2_ n3_
 obtain ⟨Ao11, co11, eo11⟩ := Kd.R_slice HO2.1
 (first | subst eo11 | (injection eo11 with f1_ f2_ f3_; have f4_ := f1_.symm; have f5_ := f3_.symm; clear f1_ f2_ f3_; subst f4_; subst f5_))
 have p326 : 0 ≤ (a3 : Int) := of_decide_eq_true (by assumption)
 have q326 : a3 < (l2.length : Int) := of_decide_eq_true (by assumption)
 obtain ⟨ad326, e326, hx326_0⟩ := Kd.at_int (Kd.R_reads' HO2.1).2.2 a3 p326 q326
 cases e326
 replace p326 := eq_true p326
 replace q326 := eq_true q326
 have p327 : 0 ≤ (a3 : Int) := of_decide_eq_true (by assumption)
 have q327 : a3 < (l0_0.length : Int) := of_decide_eq_true (by assumption)
 obtain ⟨ad327, A327_0, c327_0, e327, hx327_0, hl327_0, hi327_0⟩ := kept_L2 HR0_0.1 HK.1 a3 p327 q327
 have hw327_0 := hx327_0
 cases e327
 have HR327_0 := hqZ hi327_0
 have HC327_0 := hqZ hl327_0
 clear hi327_0 hl327_0
 replace p327 := eq_true p327
 replace q327 := eq_true q327
 have p8 : 0 ≤ (a3 : Int) := of_decide_eq_true (by assumption)
 have q8 : (a3 : Int) < ((l2.length : Int) : Int) := of_decide_eq_true (by assumption)
 obtain ⟨go8, co8, eo8, gb8, gl8, cl8, HG8⟩ := Kd.R_form HO2.1 (by omega)
 (first | cases eo8 | (injection eo8 with ea_ en_ ec_; (first | subst ea_ | (injection ea_ with ea_; subst ea_)); subst ec_; clear en_))
 have GB8 := hqZ gb8
 have GG8 := hqZ HG8
 clear gb8 gl8 HG8
 have HMgo8 := hqZ (show (P2_ go8 ∨ w.heap.size ≤ go8) from (HO2.1.1 _ rfl))
 (first | simp only [add_plain] at hx326_0 | skip)
 obtain ⟨hx8_0, hf8_0⟩ := Kd.R_celln 0 HO2.1 (a3 : Int) p8 q8
 replace p8 := eq_true p8
 replace q8 := eq_true q8
 have HP12 := Kd.R_putn HO2.1 (a3 : Int) (wrap64 ((rd l2 a3) - ((rd_L2 l0_0 a3).length : Int)))
 rw [← Ny328.1] at HP12
 have HQ12 := hqZ HP12
 clear HP12
 refine start_ (n := 13) (S := fun w' => w'.cell? ⟨gb325, 0, none⟩ = some (.slice (some ad327) l0_0.length c0_0) ∧ w'.cell? ⟨go8, (a3).toNat, none⟩ = some (.int .i64 (rd l2 a3)) ∧ w'.cell? (ad327.add (a3).toNat) = some (.slice A327_0 (rd_L2 l0_0 a3).length c327_0)) (ds := [12]) #[false, false, false, false, false, false, false, false, false, false, false, false, false] (by kernel_rfl) rfl rfl ⟨(zh0 BK325.1 0).trans rfl, hx326_0, hx327_0⟩ (fun hHeld => ?_); refine with_tabW yk0.tab1 yk0.bits1 (fun HT_ HW_ => ?_)
 generalize w9.drew = w10 at HO2 BK325 HK HB GG8 HQ12 HR327_0 hf8_0 hx326_0 hx327_0 hx8_0 hHeld ⊢
 refine pure_ (i := 0) (N := some 10) (v := ?_) (a' := ?_) (bf 13 1) rfl rfl (zm0 HT_.1 (by kernel_rfl)) (fun _ _ _ h => h) (Or.inl ⟨by rfl, ?_⟩) ?_ ?_
 rotate_left
 ·intro w'; go_simp; with_reducible rfl
 rotate_left
 ·simp only [Act.put, zA, zB, zC, i64_w, i32_w]; rfl
 refine pure_ (i := 1) (N := some 11) (v := ?_) (a' := ?_) (bf 13 3) rfl rfl (zm0 HT_.1 (by kernel_rfl)) (fun _ _ _ h => h) (Or.inl ⟨by rfl, ?_⟩) ?_ ?_
 rotate_left
 ·intro w'; go_simp; with_reducible rfl
 rotate_left
 ·simp only [Act.put, zA, zB, zC, i64_w, i32_w]; rfl
 refine pure_ (i := 2) (N := some 12) (v := ?_) (a' := ?_) (bf 13 7) rfl rfl (zm0 HT_.1 (by kernel_rfl)) (fun _ _ _ h => h) (Or.inl ⟨by rfl, ?_⟩) ?_ ?_
 rotate_left
 ·intro w'; go_simp; with_reducible rfl
 rotate_left
 ·simp only [Act.put, zA, zB, zC, i64_w, i32_w]; rfl
 refine pure_ (i := 4) (N := some 14) (v := ?_) (a' := ?_) (bf 13 23) rfl rfl (zm0 HT_.1 (by kernel_rfl)) (fun _ _ _ h => h) (Or.inl ⟨by rfl, ?_⟩) ?_ ?_
 rotate_left
 ·intro w'; go_simp; with_reducible rfl
 rotate_left
 ·simp only [Act.put, zA, zB, zC, i64_w, i32_w]; rfl
 refine pure_ (i := 6) (N := some 16) (v := ?_) (a' := ?_) (bf 13 87) rfl rfl (zm0 HT_.1 (by kernel_rfl)) (fun _ _ _ h => h) (Or.inl ⟨by rfl, ?_⟩) ?_ ?_
 rotate_left
 ·intro w'; go_simp; with_reducible rfl
 rotate_left
 ·simp only [Act.put, zA, zB, zC, i64_w, i32_w]; rfl
 refine take_ (i := 3) (N := some 13) (v := ?_) (a' := ?_) (bf 13 95) rfl rfl (take_ofW HT_.1 HW_.1 (by kernel_rfl)) (fun _ _ _ h => h) (Or.inl ⟨by rfl, ?_⟩) hHeld ?_ ?_
 rotate_left
 ·rintro w' ⟨s0, s1, s2⟩; go_simp; with_reducible rfl
 rotate_left
 ·simp only [Act.put, zA, zB, zC, i64_w, i32_w]; rfl
 refine take_ (i := 5) (N := some 15) (v := ?_) (a' := ?_) (bf 13 127) rfl rfl (take_ofW HT_.1 HW_.1 (by kernel_rfl)) (fun _ _ _ h => h) (Or.inl ⟨by rfl, ?_⟩) hHeld ?_ ?_
 rotate_left
 ·rintro w' ⟨s0, s1, s2⟩; go_simp; with_reducible rfl
 rotate_left
 ·simp only [Act.put, zA, zB, zC, i64_w, i32_w]; rfl
 refine pure_ (i := 7) (N := some 17) (v := ?_) (a' := ?_) (bf 13 255) rfl rfl (zm0 HT_.1 (by kernel_rfl)) (fun _ _ _ h => h) (Or.inl ⟨by rfl, ?_⟩) ?_ ?_
 rotate_left
 ·intro w'; go_simp; with_reducible rfl
 rotate_left
 ·simp only [Act.put, zA, zB, zC, i64_w, i32_w]; rfl
 refine take_ (i := 8) (N := some 18) (v := ?_) (a' := ?_) (bf 13 511) rfl rfl (take_ofW HT_.1 HW_.1 (by kernel_rfl)) (fun _ _ _ h => h) (Or.inl ⟨by rfl, ?_⟩) hHeld ?_ ?_
 rotate_left
 ·rintro w' ⟨s0, s1, s2⟩; go_simp; with_reducible rfl
 rotate_left
 ·simp only [Act.put, zA, zB, zC, i64_w, i32_w]; rfl
 refine pure_ (i := 9) (N := some 19) (v := ?_) (a' := ?_) (bf 13 1023) rfl rfl (zm0 HT_.1 (by kernel_rfl)) (fun _ _ _ h => h) (Or.inl ⟨by rfl, ?_⟩) ?_ ?_
 rotate_left
 ·intro w'; go_simp; with_reducible rfl
 rotate_left
 ·simp only [Act.put, zA, zB, zC, i64_w, i32_w]; rfl
 refine pure_ (i := 10) (N := some 20) (v := ?_) (a' := ?_) (bf 13 2047) rfl rfl (zm0 HT_.1 (by kernel_rfl)) (fun _ _ _ h => h) (Or.inl ⟨by rfl, ?_⟩) ?_ ?_
 rotate_left
 ·intro w'; go_simp; with_reducible rfl
 rotate_left
 ·simp only [Act.put, zA, zB, zC, i64_w, i32_w]; rfl
 refine pure_ (i := 11) (N := some 21) (v := ?_) (a' := ?_) (bf 13 4095) rfl rfl (zm0 HT_.1 (by kernel_rfl)) (fun _ _ _ h => h) (Or.inl ⟨by rfl, ?_⟩) ?_ ?_
 rotate_left
 ·intro w'; go_simp; with_reducible rfl
 rotate_left
 ·simp only [Act.put, zA, zB, zC, i64_w, i32_w]; rfl
 refine last_ (i := 12) (N := none) (bf 13 8191) rfl rfl (one_of HT_.1 (by kernel_rfl)) (by decide) (fun K hK => ?_)
 refine skip_ (w1 := ?_) (by rfl) rfl ?_ ?_
 rotate_left
 ·go_simp
  rfl
 refine hK.out _ _ ?_
 clear hK K
 refine done_ (done_of HT_.1 (by kernel_rfl)) ?_
 have hcz13_0 : (w10.setCell ⟨go8, (a3 : Int).toNat, none⟩ (.int .i64 (wrap64 ((rd l2 a3) - ((rd_L2 l0_0 a3).length : Int))))).cell? ⟨gb325, 0, none⟩ = some (.slice (some ad327) l0_0.length c0_0) := (cell_far (p := ⟨go8, (a3 : Int).toNat, none⟩) (show gb325 ≠ go8 from (by have h_ := Kd.R_ne HO2.1 BK325.1 (by decide); intro e_; exact h_ (by rw [e_]; rfl))) (.int .i64 (wrap64 ((rd l2 a3) - ((rd_L2 l0_0 a3).length : Int))))).trans ((zh0 BK325.1 0).trans rfl)
 have hfz13_0 := zd0 BK325.1 0
 have p329 : 0 ≤ (a3 : Int) := of_decide_eq_true (by assumption)
 have q329 : a3 < (l0_0.length : Int) := of_decide_eq_true (by assumption)
 obtain ⟨ad329, A329_0, c329_0, e329, hx329_0, hl329_0, hi329_0⟩ := kept_L2 HR0_0.1 (show Kept w (w10.setCell ⟨go8, (a3 : Int).toNat, none⟩ (.int .i64 (wrap64 ((rd l2 a3) - ((rd_L2 l0_0 a3).length : Int))))) (fun k_ => P2_ k_) from by repeat (first | (with_reducible first | exact HK.1 | apply Kept.alloc | apply Kept.drewN | apply Kept.drew | refine Kept.setCell ?_ HMgo8.1 _ | refine Kept.setCell ?_ (.inr GW325.1) _) | exact HK.1)) a3 p329 q329
 obtain rfl : ad327 = ad329 := (by injection e329)
 have HR329_0 := hqZ hi329_0
 have HC329_0 := hqZ hl329_0
 clear hi329_0 hl329_0
 replace p329 := eq_true p329
 replace q329 := eq_true q329
 try go_wp2
 go_loopg [28] k (fun kq v28 w' => ∃ (x2_1 : List Int) (x28_1 : Int), v28 = .int .i64 x28_1 ∧ zi0 (yk0.l0 kq a1 x2_1 (rd_L2 l0_0 a3) ((rd_L2 l0_0 a3).length : Int) x28_1 = some r) ∧ zi0 (kq ≤ k) ∧ zi0 (Kd.R (Kd.int .i64) 3 w' w0.heap.size (fun k_ => (P2_ k_ ∨ w.heap.size ≤ k_)) (.slice (some ⟨go8, 0, none⟩) l2.length co11) x2_1) ∧ zi0 (w'.heap[gb325]? = some (.cells #[(.slice (some ad327) l0_0.length c0_0)] 26 (0, 0))) ∧ zi0 (Kept w w' (fun k_ => P2_ k_)) ∧ zi0 (Below w0.heap.size w0 w'))
 case atStart => exact ⟨(y328), (0), (rfl), H', ⟨Nat.le_refl _⟩, ⟨HQ12.1⟩, ⟨by refine blk_far ?_ (by have h_ := Kd.R_ne HO2.1 BK325.1 (by decide); intro e_; exact h_ (by rw [e_]; rfl)) _; exact BK325.1⟩, ⟨by repeat (first | (with_reducible first | exact HK.1 | apply Kept.alloc | apply Kept.drewN | apply Kept.drew | refine Kept.setCell ?_ HMgo8.1 _ | refine Kept.setCell ?_ (.inr GW325.1) _) | exact HK.1)⟩, ⟨zf0 HB.1 GB8.1⟩⟩
 case round =>
  clear H'
  try clear p2
  try clear c3
  try clear p3
  try clear q3
  try clear hx3
  try clear c5
  try clear c5b0
  try clear c6
  try clear c6b0
  try clear p6
  try clear c7
  try clear c7b0
  try clear p8
  try clear q8
  try clear hx8
  try clear hf8
  try clear hcz13_0
  try clear hfz13_0
  try clear hx326_0
  try clear hx327_0
  try clear hx329_0
  try clear hx8_0
  try clear p326
  try clear p327
  try clear p329
  try clear p8
  try clear q326
  try clear q327
  try clear q329
  try clear q8
  obtain ⟨x2_1, x28_1, rfl, HA, HK1, HO_2, BK325, HK, HB⟩ := hrel
  have hl2_1 := (Kd.R_reads' HO_2.1).1
  rw [hl2_1] at HO_2
  (try simp only [hl2_1])
  (try simp only [hl2_1] at BK325)
  obtain _ | k1 := gk
  ·exact absurd HA.1 (by simp [yk0.l0])
  have H := HA.1
  clear HA
  simp only [yk0.l0] at H
  by_cases c14 : x28_1 < ((rd_L2 l0_0 a3).length : Int)
  rotate_left
  ·rw [if_neg c14] at H
   have c14b0 : decide (x28_1 < ((rd_L2 l0_0 a3).length : Int)) = false := decide_eq_false c14
   (try (have c14b0h := c14b0; simp only [hl2_1] at c14b0h))
   clear c14
   obtain rfl := Option.some.inj H
   go_wp2
   first | go_end0 | ((try simp only [Exit.inBlock, Exit.then]); refine bodyPost_ret (results_none rfl _ _ _) rfl ?_)
   exact ⟨rfl, (by first | exact (HO_2.1) | (simp only [hl2_1]; exact (HO_2.1))), HB.1, HK.1⟩
  rw [if_pos c14] at H
  have c14b0 : decide (x28_1 < ((rd_L2 l0_0 a3).length : Int)) = true := decide_eq_true c14
  (try (have c14b0h := c14b0; simp only [hl2_1] at c14b0h))
  clear c14
  by_cases c15 : 0 ≤ x28_1
  rotate_left
  ·rw [if_neg c15] at H
   exact absurd H (by simp)
  rw [if_pos c15] at H
  have c15b0 : decide (0 ≤ x28_1) = true := decide_eq_true c15
  (try (have c15b0h := c15b0; simp only [hl2_1] at c15b0h))
  clear c15
  by_cases c16 : x28_1 < ((rd_L2 l0_0 a3).length : Int)
  rotate_left
  ·rw [if_neg c16] at H
   exact absurd H (by simp)
  rw [if_pos c16] at H
  have c16b0 : decide (x28_1 < ((rd_L2 l0_0 a3).length : Int)) = true := decide_eq_true c16
  (try (have c16b0h := c16b0; simp only [hl2_1] at c16b0h))
  clear c16
  by_cases c17 : (rd (rd_L2 l0_0 a3) x28_1) = a1
  ·rw [if_pos c17] at H
   have c17b0 : ((rd (rd_L2 l0_0 a3) x28_1) == a1) = true := beq_iff_eq.mpr c17
   (try (have c17b0h := c17b0; simp only [hl2_1] at c17b0h))
   have c17b1 : ((rd (rd_L2 l0_0 a3) x28_1) != a1) = false := bne_eq_false_iff_eq.mpr c17
   (try (have c17b1h := c17b1; simp only [hl2_1] at c17b1h))
   clear c17
   have H' := hqZ H
   clear H
   have p330 : 0 ≤ (x28_1 : Int) := of_decide_eq_true (by assumption)
   have q330 : x28_1 < ((rd_L2 l0_0 a3).length : Int) := of_decide_eq_true (by assumption)
   obtain ⟨ad330, e330, hx330_0⟩ := Kd.at_int (Kd.C_kept_now HR329_0.1 HK.1) x28_1 p330 q330
   cases e330
   replace p330 := eq_true p330
   replace q330 := eq_true q330
   go_wp2
   (try simp only [← hl2_1])
   go_roundg k1
   case measure => have := HK1.1; omega
   case rel => exact ⟨(x2_1), (wrap64 (x28_1 + 1)), (rfl), H', ⟨by have := HK1.1; omega⟩, ⟨by (try simp only [hl2_1]); exact HO_2.1⟩, ⟨by (try simp only [hl2_1]); exact BK325.1⟩, ⟨HK.1⟩, ⟨HB.1⟩⟩
  rw [if_neg c17] at H
  have c17b0 : ((rd (rd_L2 l0_0 a3) x28_1) == a1) = false := beq_eq_false_iff_ne.mpr c17
  (try (have c17b0h := c17b0; simp only [hl2_1] at c17b0h))
  have c17b1 : ((rd (rd_L2 l0_0 a3) x28_1) != a1) = true := bne_iff_ne.mpr c17
  (try (have c17b1h := c17b1; simp only [hl2_1] at c17b1h))
  by_cases c18 : 0 ≤ (rd (rd_L2 l0_0 a3) x28_1)
  rotate_left
  ·rw [if_neg c18] at H
   exact absurd H (by simp)
  rw [if_pos c18] at H
  have c18b0 : decide (0 ≤ (rd (rd_L2 l0_0 a3) x28_1)) = true := decide_eq_true c18
  (try (have c18b0h := c18b0; simp only [hl2_1] at c18b0h))
  clear c18
  by_cases c19 : (rd (rd_L2 l0_0 a3) x28_1) < (x2_1.length : Int)
  rotate_left
  ·rw [if_neg c19] at H
   exact absurd H (by simp)
  rw [if_pos c19] at H
  have c19b0 : decide ((rd (rd_L2 l0_0 a3) x28_1) < (x2_1.length : Int)) = true := decide_eq_true c19
  (try (have c19b0h := c19b0; simp only [hl2_1] at c19b0h))
  clear c19
  obtain ⟨y332, hy332⟩ : ∃ y_ : List Int, y_ = (x2_1.set ((rd (rd_L2 l0_0 a3) x28_1) : Int).toNat (wrap64 ((rd x2_1 (rd (rd_L2 l0_0 a3) x28_1)) + 1))) := ⟨_, rfl⟩
  replace H : (yk0.l0 k1 a1 y332 (rd_L2 l0_0 a3) ((rd_L2 l0_0 a3).length : Int) (wrap64 (x28_1 + 1))) = some r := by first | (rw [hy332]; with_reducible exact H) | (have H2_ := (Option.bind_some _ _).symm.trans H; rw [hy332]; with_reducible exact H2_) | (have H2_ := (Option.bind_some _ _).symm.trans H; with_reducible exact H2_) | with_reducible exact H | (rw [hy332]; exact H) | exact H
  have Ny332 := hqZ hy332
  clear hy332
  have H' := hqZ H
  clear H
  have p330 : 0 ≤ (x28_1 : Int) := of_decide_eq_true (by assumption)
  have q330 : x28_1 < ((rd_L2 l0_0 a3).length : Int) := of_decide_eq_true (by assumption)
  obtain ⟨ad330, e330, hx330_0⟩ := Kd.at_int (Kd.C_kept_now HR329_0.1 HK.1) x28_1 p330 q330
  cases e330
  replace p330 := eq_true p330
  replace q330 := eq_true q330
  have p331 : 0 ≤ ((rd (rd_L2 l0_0 a3) x28_1) : Int) := of_decide_eq_true (by assumption)
  have q331 : (rd (rd_L2 l0_0 a3) x28_1) < (x2_1.length : Int) := of_decide_eq_true (by assumption)
  obtain ⟨ad331, e331, hx331_0⟩ := Kd.at_int (Kd.R_reads' HO_2.1).2.2 (rd (rd_L2 l0_0 a3) x28_1) p331 q331
  obtain rfl : (⟨go8, 0, none⟩ : Addr) = ad331 := (by injection e331)
  (first | simp only [add_plain] at hx331_0 | simp only [add_at] at hx331_0 | simp only [Addr.add, Nat.zero_add] at hx331_0 | skip)
  replace p331 := eq_true p331
  replace q331 := eq_true q331
  have p20 : 0 ≤ ((rd (rd_L2 l0_0 a3) x28_1) : Int) := of_decide_eq_true (by assumption)
  have q20 : ((rd (rd_L2 l0_0 a3) x28_1) : Int) < ((x2_1.length : Int) : Int) := of_decide_eq_true (by assumption)
  obtain ⟨hx20_0, hf20_0⟩ := Kd.R_celln 0 HO_2.1 ((rd (rd_L2 l0_0 a3) x28_1) : Int) p20 q20
  replace p20 := eq_true p20
  replace q20 := eq_true q20
  have HP21 := Kd.R_putg HO_2.1 ((rd (rd_L2 l0_0 a3) x28_1) : Int) (wrap64 ((rd x2_1 (rd (rd_L2 l0_0 a3) x28_1)) + 1))
  go_wp2_with (first | ((with_reducible refine gate_store (t := 3) (p := 40) rfl ?_); refine store_event (t := 3) (p := 40) (v := ?vo_w22) (w1 := (wr.setCell ⟨go8, ((rd (rd_L2 l0_0 a3) x28_1) : Int).toNat, none⟩ (.int .i64 (wrap64 ((rd x2_1 (rd (rd_L2 l0_0 a3) x28_1)) + 1))))) ?hg ?ho ?hn ?hr ?_; (case ho => rfl); (case hg => rfl); (case hn => rfl); (case hr => go_simp <;> rfl); intro w22 hw; have hg : wr.grownBy w22 (some go8) := (by rw [hw]; exact HP21.2); have hp_ : Kd.R (Kd.int .i64) 3 w22 w0.heap.size (fun k_ => (P2_ k_ ∨ w.heap.size ≤ k_)) (.slice (some ⟨go8, 0, none⟩) x2_1.length co11) y332 := (by rw [hw, Ny332.1]; exact HP21.1); clear HP21; replace BK325 := hqZ (zr0 (g := gb325) (BK325.1) hg (Kd.R_ne HO_2.1 BK325.1 (by decide))); replace HB := hqZ ((by rw [hw]; exact zf0 (HB.1) GB8.1 : Below w0.heap.size w0 w22)); replace HK := hqZ (Kept.of_grown (S := (fun k_ => P2_ k_)) hg (HK.1) (fun k_ e_ => (HO_2.1.1 k_ e_))); replace HO_2 := hqZ (hp_); clear hg hw hp_))
  (try simp only [← hl2_1])
  go_roundg k1
  case measure => have := HK1.1; omega
  case rel => exact ⟨(y332), (wrap64 (x28_1 + 1)), (rfl), H', ⟨by have := HK1.1; omega⟩, ⟨by (try simp only [hl2_1]); exact HO_2.1⟩, ⟨by (try simp only [hl2_1]); exact BK325.1⟩, ⟨HK.1⟩, ⟨HB.1⟩⟩
mutual
def yf0.l0 : Nat → Int → Int → List Int → List Int → Int → List (List Int) → Option (List Int × List Int × Bool)
 | 0, _, _, _, _, _, _ => none
 | k + 1, x1, x3, x11, x12, x13, x334000 => yf0.l1 k x1 x3 x11 x12 x13 0 x334000
def yf0.j2 : Nat → Int → Int → List Int → List Int → Int → Int → List (List Int) → Option (List Int × List Int × Bool)
 | 0, _, _, _, _, _, _, _ => none
 | k + 1, x1, x3, x11, x12, x13, x14, x334000 => if x14 = (x11.length : Int) then (some (x11, x12, true)) else (if x13 = x3 then (some (([] : List Int), ([] : List Int), false)) else ((yk0.f k x334000 x1 x11 x14).bind fun t341 => (if 0 ≤ x14 then (if x14 < (x12.length : Int) then (yf0.l0 k x1 x3 t341 (x12.set (x14 : Int).toNat (wrap64 ((rd x12 x14) + 1))) (wrap64 (x13 + 1)) x334000) else (none)) else (none))))
def yf0.l1 : Nat → Int → Int → List Int → List Int → Int → Int → List (List Int) → Option (List Int × List Int × Bool)
 | 0, _, _, _, _, _, _, _ => none
 | k + 1, x1, x3, x11, x12, x13, x14, x334000 => if x14 < (x11.length : Int) then ((yq1.f x334000 x1 x11 x14).bind fun t340 => (if t340 = true then (yf0.j2 k x1 x3 x11 x12 x13 x14 x334000) else (yf0.l1 k x1 x3 x11 x12 x13 (wrap64 (x14 + 1)) x334000))) else (yf0.j2 k x1 x3 x11 x12 x13 x14 x334000)
end
def yf0.f (k : Nat) (l0_0 : List (List Int)) (a1 : Int) (l2 : List Int) (a3 : Int) : Option (List Int × List Int × Bool) := (ys1.f l2).bind fun t334 => (if 0 ≤ (l2.length : Int) then (if ((l2.length : Int) : Int).toNat ≤ 35184372088832 then (yf0.l0 k a1 a3 t334 (List.replicate ((l2.length : Int) : Int).toNat 0) 0 l0_0) else (none)) else (none))
theorem yf0.mono_l : ∀ k, (∀ y0 y1 y2 y3 y4 y5, LeO (yf0.l0 k y0 y1 y2 y3 y4 y5) (yf0.l0 (k + 1) y0 y1 y2 y3 y4 y5)) ∧ (∀ y0 y1 y2 y3 y4 y5 y6, LeO (yf0.j2 k y0 y1 y2 y3 y4 y5 y6) (yf0.j2 (k + 1) y0 y1 y2 y3 y4 y5 y6)) ∧ (∀ y0 y1 y2 y3 y4 y5 y6, LeO (yf0.l1 k y0 y1 y2 y3 y4 y5 y6) (yf0.l1 (k + 1) y0 y1 y2 y3 y4 y5 y6))
 | 0 => ⟨fun _ _ _ _ _ _ r h => by simp [yf0.l0] at h, fun _ _ _ _ _ _ _ r h => by simp [yf0.j2] at h, fun _ _ _ _ _ _ _ r h => by simp [yf0.l1] at h⟩
 | k + 1 => by
  obtain ⟨ih0, ih1, ih2⟩ := yf0.mono_l k
  refine ⟨?_, ?_, ?_⟩
  ·intro y0 y1 y2 y3 y4 y5
   unfold yf0.l0
   repeat' (with_reducible first | exact ih0 _ _ _ _ _ _ | exact ih1 _ _ _ _ _ _ _ | exact ih2 _ _ _ _ _ _ _ | exact yk0.mono _ _ _ _ _ | exact LeO.refl _ | exact LeO.none _ | refine LeO.ite ?_ ?_ | refine LeO.bind ?_ (fun _ => ?_))
  ·intro y0 y1 y2 y3 y4 y5 y6
   unfold yf0.j2
   repeat' (with_reducible first | exact ih0 _ _ _ _ _ _ | exact ih1 _ _ _ _ _ _ _ | exact ih2 _ _ _ _ _ _ _ | exact yk0.mono _ _ _ _ _ | exact LeO.refl _ | exact LeO.none _ | refine LeO.ite ?_ ?_ | refine LeO.bind ?_ (fun _ => ?_))
  ·intro y0 y1 y2 y3 y4 y5 y6
   unfold yf0.l1
   repeat' (with_reducible first | exact ih0 _ _ _ _ _ _ | exact ih1 _ _ _ _ _ _ _ | exact ih2 _ _ _ _ _ _ _ | exact yk0.mono _ _ _ _ _ | exact LeO.refl _ | exact LeO.none _ | refine LeO.ite ?_ ?_ | refine LeO.bind ?_ (fun _ => ?_))
theorem yf0.mono : ∀ a0 a1 a2 a3 k, LeO (yf0.f k a0 a1 a2 a3) (yf0.f (k + 1) a0 a1 a2 a3) := by
 intro a0 a1 a2 a3 k
 obtain ⟨ih0, ih1, ih2⟩ := yf0.mono_l k
 unfold yf0.f
 repeat' (with_reducible first | exact ih0 _ _ _ _ _ _ | exact ih1 _ _ _ _ _ _ _ | exact ih2 _ _ _ _ _ _ _ | exact yk0.mono _ _ _ _ _ | exact LeO.refl _ | exact LeO.none _ | refine LeO.ite ?_ ?_ | refine LeO.bind ?_ (fun _ => ?_))
theorem yf0.calls (k : Nat) (A0_0 : Option Addr) (c0_0 : Nat) (l0_0 : List (List Int)) (a1 : Int) (A2 : Option Addr) (c2 : Nat) (l2 : List Int) (a3 : Int) (r1 : List Int) (r2 : List Int) (r3 : Bool) (w : World) (hr0_0 : Kd.C (Kd.slice 3 (Kd.int .i64)) w A0_0 l0_0.length l0_0) (hc0_0 : l0_0.length ≤ c0_0) (hr2 : Kd.C (Kd.int .i64) w A2 l2.length l2) (hc2 : l2.length ≤ c2) (h : yf0.f k l0_0 a1 l2 a3 = some (r1, r2, r3)) :
  Calls Try.prog 29 #[.agg #[.slice A0_0 l0_0.length c0_0], .int .i64 a1, .slice A2 l2.length c2, .int .i64 a3] w fun e w' => ∃ v0_ v1_ : Value, e = .returned (.tuple #[v0_, v1_, .bool r3]) ∧ Kd.R (Kd.int .i64) 3 w' w.heap.size (fun k_ => some k_ ≠ (v1_ : Value).ownBlock) v0_ r1 ∧ Kd.R (Kd.int .i64) 3 w' w.heap.size (fun k_ => some k_ ≠ (v0_ : Value).ownBlock) v1_ r2 ∧ Below w.heap.size w w' := by
 have hu26 := Try.underlying26
 have HR0_0 := hqZ hr0_0
 have HC0_0 := hqZ hc0_0
 clear hr0_0 hc0_0
 have HR2 := hqZ hr2
 have HC2 := hqZ hc2
 clear hr2 hc2
 have HB := hqZ (Below.refl w.heap.size w)
 have H : ((ys1.f l2).bind fun t334 => (if 0 ≤ (l2.length : Int) then (if ((l2.length : Int) : Int).toNat ≤ 35184372088832 then (yf0.l0 k a1 a3 t334 (List.replicate ((l2.length : Int) : Int).toNat 0) 0 l0_0) else (none)) else (none))) = some (r1, r2, r3) := h
 clear h
 replace H := Option.bind_eq_some_iff.mp H
 obtain ⟨t334, A50, H⟩ := H
 try dsimp only at H
 have A5 := hqZ A50
 clear A50
 by_cases c6 : 0 ≤ (l2.length : Int)
 rotate_left
 ·rw [if_neg c6] at H
  exact absurd H (by simp)
 rw [if_pos c6] at H
 have c6b0 := eq_true c6
 have c6b1 : decide (0 ≤ (l2.length : Int)) = true := decide_eq_true c6
 clear c6
 by_cases c7 : ((l2.length : Int) : Int).toNat ≤ 35184372088832
 rotate_left
 ·rw [if_neg c7] at H
  exact absurd H (by simp)
 rw [if_pos c7] at H
 have c7b0 := eq_true c7
 have c7b1 : decide (((l2.length : Int) : Int).toNat ≤ 35184372088832) = true := decide_eq_true c7
 clear c7
 obtain ⟨y337, hy337⟩ : ∃ y_ : List Int, y_ = (List.replicate ((l2.length : Int) : Int).toNat 0) := ⟨_, rfl⟩
 replace H : (yf0.l0 k a1 a3 t334 y337 0 l0_0) = some (r1, r2, r3) := by first | (rw [hy337]; with_reducible exact H) | (have H2_ := (Option.bind_some _ _).symm.trans H; rw [hy337]; with_reducible exact H2_) | (have H2_ := (Option.bind_some _ _).symm.trans H; with_reducible exact H2_) | with_reducible exact H | (rw [hy337]; exact H) | exact H
 have Ny337 := hqZ hy337
 clear hy337
 have H' := hqZ H
 clear H
 go_enter Try.func29, Try.ntmps29
 try go_wp2_with (first | ((with_reducible refine zo0 (N := 4) rfl ?_); refine zp0 ?hg (N := 4) ?hd (cs := #[.slice A0_0 l0_0.length c0_0]) (t := 26) ?hr ?_; (case hd | hg => rfl); (case hr => go_simp <;> rfl); intro gb333 hg w8 hbox hb; have BK333 := hqZ (hbox); have GW333 := hqZ ((by rw [hg]; exact (zb0 (HB.1)) : w.heap.size ≤ gb333)); have GE333 := hqZ ((by rw [hg]; exact (zb0 (HB.1)) : w.heap.size ≤ gb333)); replace HB := hqZ (za0 (HB.1) hb); clear hb hbox hg))
 have n0_ := hqZ (blk_drew BK333.1)
 have n1_ := hqZ (zk0 HB.1)
 clear BK333 HB
 have BK333 := n0_
 have HB := n1_
 clear n0_ n1_
 refine start_ (n := 7) (S := fun w' => True) (ds := []) #[false, false, false, false, false, false, false] (by kernel_rfl) rfl rfl trivial (fun hHeld => ?_)
 generalize w8.drew = w9 at BK333 HB hHeld ⊢
 refine pu 0 (some 15) (v := ?_) (a' := ?_) (bf 7 1) ?_ ?_ ?_
 rotate_left
 ·intro w'; go_simp; with_reducible rfl
 rotate_left
 ·simp only [Act.put, zA, zB, zC, i64_w, i32_w]; rfl
 refine pu 2 (some 17) (v := ?_) (a' := ?_) (bf 7 5) ?_ ?_ ?_
 rotate_left
 ·intro w'; go_simp; with_reducible rfl
 rotate_left
 ·simp only [Act.put, zA, zB, zC, i64_w, i32_w]; rfl
 refine pu 3 (some 18) (v := ?_) (a' := ?_) (bf 7 13) ?_ ?_ ?_
 rotate_left
 ·intro w'; go_simp; with_reducible rfl
 rotate_left
 ·simp only [Act.put, zA, zB, zC, i64_w, i32_w]; rfl
 refine join_ (σ := Value × Value) 1 (bf 7 63) (fun s_ => [(16, s_.1), (19, s_.2), (11, s_.1)]) (fun s_ w' => (Kd.R (Kd.int .i64) 3 w' w.heap.size (fun k_ => some k_ ≠ (s_.2 : Value).ownBlock) s_.1 t334) ∧ (Kd.R (Kd.int .i64) 3 w' w.heap.size (fun k_ => some k_ ≠ (s_.1 : Value).ownBlock) s_.2 y337) ∧ (w'.heap[gb333]? = some (.cells #[.slice A0_0 l0_0.length c0_0] 26 (0, 0))) ∧ (Below w.heap.size w w')) ?_ ?_
 rotate_left
 ·intro hCont
  refine two_ (i := 1) (j := 4) (Ni := some 16) (Nj := some 19) #[true, true, true, true, false, false, false] (bf 7 29) rfl rfl rfl rfl (by kernel_rfl) (by decide) (by decide) (fun K hK => ?_) (fun K hK => ?_)
  ·skip
   refine goes_ Try.func38 (by kernel_rfl) rfl #[.slice A2 l2.length c2] (by rfl) rfl rfl (by simp only [hqa, hqb, hqc]; rfl) ?_
   with_reducible refine (ys1.calls _ _ l2 t334 _ ?side1 ?side2 A5.1).mono ?_
   (case side1 => exact (Kd.C_below HR2.1 HB.1))
   (case side2 => exact HC2.1)
   rintro e w10 ⟨v335, rfl, ho0, hb⟩
   refine ⟨_, rfl, ?_⟩
   have n0_ := hqZ (Kd.R_lower ho0 (zb0 (HB.1)))
   have n1_ := hqZ (zc0 (g := gb333) (BK333.1) hb)
   have n2_ := hqZ (za0 (HB.1) hb)
   clear BK333 HB
   have HO336 := n0_
   have BK333 := n1_
   have HB := n2_
   clear n0_ n1_ n2_
   (try clear hb)
   (try clear hb2)
   (try clear hk)
   (try clear hi)
   (try clear ho0)
   refine hK.out _ _ trivial (fun hHeld => ?_)
   clear hK K
   refine norm_ (a' := ?_) ?_ ?_
   rotate_left
   ·show Act.put _ (some 16) _ = _; simp only [Act.put, zA, zB, zC, i64_w, i32_w]; rfl
   refine pu 5 (some 11) (v := ?_) (a' := ?_) (bf 7 47) ?_ ?_ ?_
   rotate_left
   ·intro w'; go_simp; with_reducible rfl
   rotate_left
   ·simp only [Act.put, zA, zB, zC, i64_w, i32_w]; rfl
   refine one_ (i := 4) (N := some 19) (bf 7 63) rfl rfl (by kernel_rfl) (by decide) (fun K hK => ?_)
   refine Kd.R_make_step (Kd.int .i64) _ 3 (by rfl) (N := 19) rfl 27 _ _ rfl (l2.length : Int) rfl rfl Try.underlying27 (.int .i64 0) 8 info3 rfl (by decide) (by omega) 0 (ok := fun _ => True) (okp := fun _ => True) rfl (fun _ hk => hk) trivial (of_decide_eq_true (by assumption)) (Nat.le_trans (Nat.mul_le_mul_right _ (of_decide_eq_true (by assumption) : (l2.length : Int).toNat ≤ 35184372088832)) (by omega)) (Below.refl _ _) (Nat.le_refl _) ?_
   intro v338 w11 ho12 hb hg_ hnew_
   clear hg_ hnew_
   (first | rw [← Ny337.1] at ho12 | (simp only [Int.reduceToNat] at ho12; rw [← Ny337.1] at ho12))
   have n0_ := hqZ (Kd.R_elder' (HO336.1) (Kd.R_base ho12) hb)
   have n1_ := hqZ (Kd.R_lower (Kd.R_new' ho12 (Kd.R_lt (HO336.1))) (zb0 (HB.1)))
   have n2_ := hqZ (zc0 (g := gb333) (BK333.1) hb)
   have n3_ := hqZ (za0 (HB.1) hb)
   clear HO336 BK333 HB
   have HO336 := n0_
   have HO339 := n1_
   have BK333 := n2_
   have HB := n3_
   clear n0_ n1_ n2_ n3_ hb ho12
   refine hK.out _ _ trivial (fun hHeld => ?_)
   clear hK K
   refine norm_ (a' := ?_) ?_ ?_
   rotate_left
   ·show Act.put _ (some 19) _ = _; simp only [Act.put, zA, zB, zC, i64_w, i32_w]; rfl
   exact norm_ (by simp only [putAll, Act.put, zA, zB, zC]) (hCont (v335, v338) _ ⟨(Kd.R_mono HO336.1 (fun _ hk => hk.2)), (Kd.R_mono HO339.1 (fun _ hk => hk.2)), (BK333.1), (HB.1)⟩)
  ·skip
   refine Kd.R_make_step (Kd.int .i64) _ 3 (by rfl) (N := 19) rfl 27 _ _ rfl (l2.length : Int) rfl rfl Try.underlying27 (.int .i64 0) 8 info3 rfl (by decide) (by omega) 0 (ok := fun _ => True) (okp := fun _ => True) rfl (fun _ hk => hk) trivial (of_decide_eq_true (by assumption)) (Nat.le_trans (Nat.mul_le_mul_right _ (of_decide_eq_true (by assumption) : (l2.length : Int).toNat ≤ 35184372088832)) (by omega)) (Below.refl _ _) (Nat.le_refl _) ?_
   intro v338 w10 ho11 hb hg_ hnew_
   clear hg_ hnew_
   (first | rw [← Ny337.1] at ho11 | (simp only [Int.reduceToNat] at ho11; rw [← Ny337.1] at ho11))
   have n0_ := hqZ (Kd.R_lower ho11 (zb0 (HB.1)))
   have n1_ := hqZ (zc0 (g := gb333) (BK333.1) hb)
   have n2_ := hqZ (za0 (HB.1) hb)
   clear BK333 HB
   have HO339 := n0_
   have BK333 := n1_
   have HB := n2_
   clear n0_ n1_ n2_ hb ho11
   refine hK.out _ _ trivial (fun hHeld => ?_)
   clear hK K
   refine norm_ (a' := ?_) ?_ ?_
   rotate_left
   ·show Act.put _ (some 19) _ = _; simp only [Act.put, zA, zB, zC, i64_w, i32_w]; rfl
   refine one_ (i := 1) (N := some 16) (bf 7 31) rfl rfl (by kernel_rfl) (by decide) (fun K hK => ?_)
   refine goes_ Try.func38 (by kernel_rfl) rfl #[.slice A2 l2.length c2] (by rfl) rfl rfl (by simp only [hqa, hqb, hqc]; rfl) ?_
   with_reducible refine (ys1.calls _ _ l2 t334 _ ?side1 ?side2 A5.1).mono ?_
   (case side1 => exact (Kd.C_below HR2.1 HB.1))
   (case side2 => exact HC2.1)
   rintro e w12 ⟨v335, rfl, ho0, hb⟩
   refine ⟨_, rfl, ?_⟩
   have n0_ := hqZ (Kd.R_elder' (HO339.1) (Kd.R_base ho0) hb)
   have n1_ := hqZ (Kd.R_lower (Kd.R_new' ho0 (Kd.R_lt (HO339.1))) (zb0 (HB.1)))
   have n2_ := hqZ (zc0 (g := gb333) (BK333.1) hb)
   have n3_ := hqZ (za0 (HB.1) hb)
   clear HO339 BK333 HB
   have HO339 := n0_
   have HO336 := n1_
   have BK333 := n2_
   have HB := n3_
   clear n0_ n1_ n2_ n3_
   (try clear hb)
   (try clear hb2)
   (try clear hk)
   (try clear hi)
   (try clear ho0)
   refine hK.out _ _ trivial (fun hHeld => ?_)
   clear hK K
   refine norm_ (a' := ?_) ?_ ?_
   rotate_left
   ·show Act.put _ (some 16) _ = _; simp only [Act.put, zA, zB, zC, i64_w, i32_w]; rfl
   refine pu 5 (some 11) (v := ?_) (a' := ?_) (bf 7 63) ?_ ?_ ?_
   rotate_left
   ·intro w'; go_simp; with_reducible rfl
   rotate_left
   ·simp only [Act.put, zA, zB, zC, i64_w, i32_w]; rfl
   exact norm_ (by simp only [putAll, Act.put, zA, zB, zC]) (hCont (v335, v338) _ ⟨(Kd.R_mono HO336.1 (fun _ hk => hk.2)), (Kd.R_mono HO339.1 (fun _ hk => hk.2)), (BK333.1), (HB.1)⟩)
 rintro ⟨v335, v338⟩ w13 ⟨h0_, h1_, h2_, h3_⟩
 have n0_ : zi0 (Kd.R (Kd.int .i64) 3 w13 w.heap.size (fun k_ => some k_ ≠ (v338 : Value).ownBlock) v335 t334) := ⟨h0_⟩
 have n1_ : zi0 (Kd.R (Kd.int .i64) 3 w13 w.heap.size (fun k_ => some k_ ≠ (v335 : Value).ownBlock) v338 y337) := ⟨h1_⟩
 have n2_ : zi0 (w13.heap[gb333]? = some (.cells #[.slice A0_0 l0_0.length c0_0] 26 (0, 0))) := ⟨h2_⟩
 have n3_ : zi0 (Below w.heap.size w w13) := ⟨h3_⟩
 clear BK333 HB h0_ h1_ h2_ h3_
 have HO336 := n0_
 have HO339 := n1_
 have BK333 := n2_
 have HB := n3_
 clear n0_ n1_ n2_ n3_
 have hHeld := trivial
 refine norm_ (a' := ?_) ?_ ?_
 rotate_left
 ·simp only [putAll, Act.put, zA, zB, zC]
  rfl
 refine pu 6 (some 12) (v := ?_) (a' := ?_) (bf 7 127) ?_ ?_ ?_
 rotate_left
 ·intro w'; go_simp; with_reducible rfl
 rotate_left
 ·simp only [Act.put, zA, zB, zC, i64_w, i32_w]; rfl
 refine done_ (by kernel_rfl) ?_
 try go_wp2
 go_loopg [13] k (fun kq v13 w' => ∃ (x11_1 : List Int) (x12_1 : List Int) (x13_1 : Int), v13 = .int .i64 x13_1 ∧ zi0 (yf0.l0 kq a1 a3 x11_1 x12_1 x13_1 l0_0 = some (r1, r2, r3)) ∧ zi0 (kq ≤ k) ∧ zi0 (Kd.R (Kd.int .i64) 3 w' w.heap.size (fun k_ => some k_ ≠ (v338 : Value).ownBlock) v335 x11_1) ∧ zi0 (Kd.R (Kd.int .i64) 3 w' w.heap.size (fun k_ => some k_ ≠ (v335 : Value).ownBlock) v338 x12_1) ∧ zi0 (w'.heap[gb333]? = some (.cells #[(.slice A0_0 l0_0.length c0_0)] 26 (0, 0))) ∧ zi0 (Below w.heap.size w w'))
 case atStart => exact ⟨(t334), (y337), (0), (rfl), H', ⟨Nat.le_refl _⟩, ⟨HO336.1⟩, ⟨HO339.1⟩, ⟨BK333.1⟩, ⟨HB.1⟩⟩
 case round =>
  clear H'
  try clear c2
  try clear p2
  try clear c3
  try clear c6
  try clear c6b0
  try clear c6b1
  try clear c7
  try clear c7b0
  try clear c7b1
  obtain ⟨x11_1, x12_1, x13_1, rfl, HA, HK1, HO_11, HO_12, BK333, HB⟩ := hrel
  obtain _ | k1 := gk
  ·exact absurd HA.1 (by simp [yf0.l0])
  have H := HA.1
  clear HA
  simp only [yf0.l0] at H
  have HC14 := hqZ H
  clear H
  go_upto_block 2 with (fail)
  go_cut [14] (fun v14 wc => ∃ (kq : Nat) (x14_13 : Int), v14 = .int .i64 x14_13 ∧ zi0 (yf0.j2 kq a1 a3 x11_1 x12_1 x13_1 x14_13 l0_0 = some (r1, r2, r3)) ∧ zi0 (kq ≤ k1) ∧ zi0 (Kd.R (Kd.int .i64) 3 wc w.heap.size (fun k_ => some k_ ≠ (v338 : Value).ownBlock) v335 x11_1) ∧ zi0 (Kd.R (Kd.int .i64) 3 wc w.heap.size (fun k_ => some k_ ≠ (v335 : Value).ownBlock) v338 x12_1) ∧ zi0 (wc.heap[gb333]? = some (.cells #[(.slice A0_0 l0_0.length c0_0)] 26 (0, 0))) ∧ zi0 (Below w.heap.size w wc))
  case first =>
   have H := HC14.1
   clear HC14
   have H' := hqZ H
   clear H
   go_wp2
   go_loopg [14] k1 (fun kq v14 w' => ∃ (x14_2 : Int), v14 = .int .i64 x14_2 ∧ zi0 (yf0.l1 kq a1 a3 x11_1 x12_1 x13_1 x14_2 l0_0 = some (r1, r2, r3)) ∧ zi0 (kq ≤ k1) ∧ zi0 (Kd.R (Kd.int .i64) 3 w' w.heap.size (fun k_ => some k_ ≠ (v338 : Value).ownBlock) v335 x11_1) ∧ zi0 (Kd.R (Kd.int .i64) 3 w' w.heap.size (fun k_ => some k_ ≠ (v335 : Value).ownBlock) v338 x12_1) ∧ zi0 (w'.heap[gb333]? = some (.cells #[(.slice A0_0 l0_0.length c0_0)] 26 (0, 0))) ∧ zi0 (Below w.heap.size w w'))
   case atStart => exact ⟨(0), (rfl), H', ⟨Nat.le_refl _⟩, ⟨HO_11.1⟩, ⟨HO_12.1⟩, ⟨BK333.1⟩, ⟨HB.1⟩⟩
   case round =>
    clear H'
    try clear c2
    try clear p2
    try clear c3
    try clear c6
    try clear c6b0
    try clear c6b1
    try clear c7
    try clear c7b0
    try clear c7b1
    try clear p2
    obtain ⟨x14_2, rfl, HA, HK2, HO_11, HO_12, BK333, HB⟩ := hrel
    obtain _ | k2 := gk
    ·exact absurd HA.1 (by simp [yf0.l1])
    have H := HA.1
    clear HA
    simp only [yf0.l1] at H
    by_cases c15 : x14_2 < (x11_1.length : Int)
    rotate_left
    ·rw [if_neg c15] at H
     have c15b0 : decide (x14_2 < (x11_1.length : Int)) = false := decide_eq_false c15
     clear c15
     (first | rw [c15b0] | (simp only [i64_w, i32_w]; rw [c15b0]) | skip)
     have H' := hqZ H
     clear H
     obtain ⟨Ao24, co24, eo24⟩ := Kd.R_slice HO_11.1
     subst eo24
     go_wp2
     go_meet
     case rel => exact ⟨_, (x14_2), (rfl), H', ⟨by have := HK1.1; have := HK2.1; first | omega | exact Nat.le_refl _⟩, ⟨HO_11.1⟩, ⟨HO_12.1⟩, ⟨BK333.1⟩, ⟨HB.1⟩⟩
    rw [if_pos c15] at H
    have c15b0 : decide (x14_2 < (x11_1.length : Int)) = true := decide_eq_true c15
    clear c15
    (first | rw [c15b0] | (simp only [i64_w, i32_w]; rw [c15b0]) | skip)
    replace H := Option.bind_eq_some_iff.mp H
    obtain ⟨t340, A160, H⟩ := H
    try dsimp only at H
    have A16 := hqZ A160
    clear A160
    by_cases c17 : t340 = true
    ·subst c17
     rw [if_pos rfl] at H
     have H' := hqZ H
     clear H
     obtain ⟨Ao18, co18, eo18⟩ := Kd.R_slice HO_11.1
     subst eo18
     have hcz19_0 : wr.cell? ⟨gb333, 0, none⟩ = some (.slice A0_0 l0_0.length c0_0) := (zh0 BK333.1 0).trans rfl
     have hfz19_0 := zd0 BK333.1 0
     go_wp2_with (first | (go_at_call 37; (with_reducible refine (yq1.calls _ _ l0_0 a1 _ _ x11_1 x14_2 true _ ?side1 ?side2 ?side3 ?side4 A16.1).mono ?_); (case side1 => exact (Kd.C_below HR0_0.1 HB.1)); (case side2 => exact HC0_0.1); (case side3 => exact (Kd.R_reads' HO_11.1).2.2); (case side4 => exact (Kd.R_reads' HO_11.1).2.1); rintro e w20 ⟨rfl, hb⟩; replace HO_11 := hqZ (Kd.R_below (HO_11.1) hb); replace HO_12 := hqZ (Kd.R_below (HO_12.1) hb); replace BK333 := hqZ (zc0 (g := gb333) (BK333.1) hb); replace HB := hqZ (za0 (HB.1) hb); clear hb))
     go_meet
     case rel => exact ⟨_, (x14_2), (rfl), H', ⟨by have := HK1.1; have := HK2.1; first | omega | exact Nat.le_refl _⟩, ⟨HO_11.1⟩, ⟨HO_12.1⟩, ⟨BK333.1⟩, ⟨HB.1⟩⟩
    replace c17 := Bool.eq_false_iff.mpr c17
    subst c17
    rw [if_neg (show ¬ (false = true) by decide)] at H
    have H' := hqZ H
    clear H
    obtain ⟨Ao21, co21, eo21⟩ := Kd.R_slice HO_11.1
    subst eo21
    have hcz22_0 : wr.cell? ⟨gb333, 0, none⟩ = some (.slice A0_0 l0_0.length c0_0) := (zh0 BK333.1 0).trans rfl
    have hfz22_0 := zd0 BK333.1 0
    go_wp2_with (first | (go_at_call 37; (with_reducible refine (yq1.calls _ _ l0_0 a1 _ _ x11_1 x14_2 false _ ?side1 ?side2 ?side3 ?side4 A16.1).mono ?_); (case side1 => exact (Kd.C_below HR0_0.1 HB.1)); (case side2 => exact HC0_0.1); (case side3 => exact (Kd.R_reads' HO_11.1).2.2); (case side4 => exact (Kd.R_reads' HO_11.1).2.1); rintro e w23 ⟨rfl, hb⟩; replace HO_11 := hqZ (Kd.R_below (HO_11.1) hb); replace HO_12 := hqZ (Kd.R_below (HO_12.1) hb); replace BK333 := hqZ (zc0 (g := gb333) (BK333.1) hb); replace HB := hqZ (za0 (HB.1) hb); clear hb))
    go_roundg k2
    case measure => have := HK1.1; have := HK2.1; omega
    case rel => exact ⟨(wrap64 (x14_2 + 1)), (rfl), H', ⟨by have := HK1.1; have := HK2.1; omega⟩, ⟨HO_11.1⟩, ⟨HO_12.1⟩, ⟨BK333.1⟩, ⟨HB.1⟩⟩
  case rest =>
   clear HC14
   try clear c1
   try clear c2
   try clear p2
   try clear c3
   try clear c6
   try clear c6b0
   try clear c6b1
   try clear p6
   try clear c7
   try clear c7b0
   try clear c7b1
   try clear c15
   try clear c15b0
   try clear c17
   try clear hcz19_0
   try clear hcz22_0
   try clear hfz19_0
   try clear hfz22_0
   try clear p2
   obtain ⟨kq, x14_13, rfl, HA, HJ13, HO_11, HO_12, BK333, HB⟩ := hcut
   cases kq with
   | zero => exact absurd HA.1 (by simp [yf0.j2])
   | succ kj13 =>
    have H := HA.1
    clear HA
    simp only [yf0.j2] at H
    by_cases c25 : x14_13 = (x11_1.length : Int)
    ·rw [if_pos c25] at H
     have c25b0 : (x14_13 == (x11_1.length : Int)) = true := beq_iff_eq.mpr c25
     have c25b1 : (x14_13 != (x11_1.length : Int)) = false := bne_eq_false_iff_eq.mpr c25
     clear c25
     simp only [Option.some.injEq, Prod.mk.injEq] at H
     obtain ⟨rfl, rfl, rfl⟩ := H
     obtain ⟨Ao26, co26, eo26⟩ := Kd.R_slice HO_11.1
     subst eo26
     go_wp2
     go_ret3
     exact ⟨_, _, rfl, HO_11.1, HO_12.1, HB.1⟩
    rw [if_neg c25] at H
    have c25b0 : (x14_13 == (x11_1.length : Int)) = false := beq_eq_false_iff_ne.mpr c25
    have c25b1 : (x14_13 != (x11_1.length : Int)) = true := bne_iff_ne.mpr c25
    by_cases c27 : x13_1 = a3
    ·rw [if_pos c27] at H
     have c27b0 : (x13_1 == a3) = true := beq_iff_eq.mpr c27
     have c27b1 : (x13_1 != a3) = false := bne_eq_false_iff_eq.mpr c27
     clear c27
     simp only [Option.some.injEq, Prod.mk.injEq] at H
     obtain ⟨rfl, rfl, rfl⟩ := H
     obtain ⟨Ao28, co28, eo28⟩ := Kd.R_slice HO_11.1
     subst eo28
     go_wp2
     go_ret3
     exact ⟨_, _, rfl, by first | exact Kd.R_nil _ _ _ _ _ | exact Kd.N_nil _ _ _ _ _ | exact Kd.V_nil _ _ _ _ _ | exact Kd.Q_nil _ _ _ _ _ | exact Kd.S_nil _ _ _ _ _, by first | exact Kd.R_nil _ _ _ _ _ | exact Kd.N_nil _ _ _ _ _ | exact Kd.V_nil _ _ _ _ _ | exact Kd.Q_nil _ _ _ _ _ | exact Kd.S_nil _ _ _ _ _, HB.1⟩
    rw [if_neg c27] at H
    have c27b0 : (x13_1 == a3) = false := beq_eq_false_iff_ne.mpr c27
    have c27b1 : (x13_1 != a3) = true := bne_iff_ne.mpr c27
    replace H := Option.bind_eq_some_iff.mp H
    obtain ⟨t341, A290, H⟩ := H
    try dsimp only at H
    have A29 := hqZ A290
    clear A290
    by_cases c30 : 0 ≤ x14_13
    rotate_left
    ·rw [if_neg c30] at H
     exact absurd H (by simp)
    rw [if_pos c30] at H
    have c30b0 : decide (0 ≤ x14_13) = true := decide_eq_true c30
    clear c30
    by_cases c31 : x14_13 < (x12_1.length : Int)
    rotate_left
    ·rw [if_neg c31] at H
     exact absurd H (by simp)
    rw [if_pos c31] at H
    have c31b0 : decide (x14_13 < (x12_1.length : Int)) = true := decide_eq_true c31
    clear c31
    obtain ⟨y343, hy343⟩ : ∃ y_ : List Int, y_ = (x12_1.set (x14_13 : Int).toNat (wrap64 ((rd x12_1 x14_13) + 1))) := ⟨_, rfl⟩
    replace H : (yf0.l0 kj13 a1 a3 t341 y343 (wrap64 (x13_1 + 1)) l0_0) = some (r1, r2, r3) := by first | (rw [hy343]; with_reducible exact H) | (have H2_ := (Option.bind_some _ _).symm.trans H; rw [hy343]; with_reducible exact H2_) | (have H2_ := (Option.bind_some _ _).symm.trans H; with_reducible exact H2_) | with_reducible exact H | (rw [hy343]; exact H) | exact H
    have Ny343 := hqZ hy343
    clear hy343
    have H' := hqZ H
    clear H
    obtain ⟨Ao33, co33, eo33⟩ := Kd.R_slice HO_11.1
    subst eo33
    have hcz34_0 : wc.cell? ⟨gb333, 0, none⟩ = some (.slice A0_0 l0_0.length c0_0) := (zh0 BK333.1 0).trans rfl
    have hfz34_0 := zd0 BK333.1 0
    go_wp2_with (first | ((with_reducible refine ze0 (f := 39) rfl ?_); refine zq0 (some 49) rfl rfl Try.func39 (by kernel_rfl) rfl #[.agg #[.slice A0_0 l0_0.length c0_0], .int .i64 a1, .slice Ao33 x11_1.length co33, .int .i64 x14_13] rfl (by simp only [hqa, hqb, hqc]; rfl) ?_; (with_reducible refine (yk0.calls kj13 _ _ l0_0 a1 (fun k_ => some k_ = (.slice Ao33 x11_1.length co33 : Value).ownBlock) (.slice Ao33 x11_1.length co33) x11_1 x14_13 t341 w _ ?side1 ?side2 ?side3 ?side4 A29.1).mono ?_); (case side1 => repeat (first | exact HB.1 | apply zn0 | apply zj0 | apply zk0 | refine zf0 ?_ GE333.1)); (case side2 => exact Kd.C_kept_came (Kd.heap_slice 3 (Kd.heap_int .i64)) HR0_0.1 (HB.1) (fun k_ hs_ => (fun e_ => Kd.R_base HO_11.1 k_ e_.symm) hs_)); (case side3 => exact HC0_0.1); (case side4 => exact Kd.R_tight rfl HO_11.1); rintro e w35 ⟨rfl, hy0, hb, hkp⟩; refine ⟨_, rfl, ?_⟩; replace HO_12 := hqZ (Kd.R_mono (ok' := fun k_ => some k_ ≠ (.slice Ao33 x11_1.length co33 : Value).ownBlock) (Kd.R_keptB (HO_12.1) hkp (fun k_ hk_ hs_ => (hk_) hs_)) (fun k_ hk_ => hk_.1)); replace BK333 := hqZ (blk_kept (BK333.1) hkp (fun hs_ => (fun e_ => (Kd.R_ne HO_11.1 BK333.1 (by decide)) e_) hs_)); replace HO_11 := hqZ (Kd.R_reok rfl hy0 (fun k_ e_ => HO_11.1.1 k_ e_)); replace HB := hqZ (hb); clear hb hkp hy0; obtain ⟨Ao36, co36, eo36⟩ := Kd.R_slice HO_12.1; subst eo36; have p342 : 0 ≤ (x14_13 : Int) := of_decide_eq_true (by assumption); have q342 : x14_13 < (x12_1.length : Int) := of_decide_eq_true (by assumption); obtain ⟨ad342, e342, hx342_0⟩ := Kd.at_int (Kd.R_reads' HO_12.1).2.2 x14_13 p342 q342; cases e342; replace p342 := eq_true p342; replace q342 := eq_true q342; have p32 : 0 ≤ (x14_13 : Int) := of_decide_eq_true (by assumption); have q32 : (x14_13 : Int) < ((x12_1.length : Int) : Int) := of_decide_eq_true (by assumption); obtain ⟨go32, co32, eo32, gb32, gl32, cl32, HG32⟩ := Kd.R_form HO_12.1 (by omega); (first | cases eo32 | (injection eo32 with ea_ en_ ec_; (first | subst ea_ | (injection ea_ with ea_; subst ea_)); subst ec_; clear en_)); have GB32 := hqZ gb32; have GG32 := hqZ HG32; clear gb32 gl32 HG32; (first | simp only [add_plain] at hx342_0 | skip); obtain ⟨hx32_0, hf32_0⟩ := Kd.R_celln 0 HO_12.1 (x14_13 : Int) p32 q32; replace p32 := eq_true p32; replace q32 := eq_true q32; obtain ⟨hy37_, hz37_⟩ := Kd.R_celln 0 HO_12.1 (x14_13 : Int) (of_decide_eq_true (by assumption)) (of_decide_eq_true (by assumption)); have HP37 := Kd.R_putg HO_12.1 (x14_13 : Int) (wrap64 ((rd x12_1 x14_13) + 1))) | ((with_reducible refine gate_store (t := 3) (p := 55) rfl ?_); refine store_event (t := 3) (p := 55) (v := ?vo_w38) (w1 := (w35.setCell ⟨go32, (x14_13 : Int).toNat, none⟩ (.int .i64 (wrap64 ((rd x12_1 x14_13) + 1))))) ?hg ?ho ?hn ?hr ?_; (case ho => rfl); (case hg => rfl); (case hn => rfl); (case hr => go_simp <;> rfl); intro w38 hw; have hg : w35.grownBy w38 (some go32) := (by rw [hw]; exact HP37.2); have hp_ : Kd.R (Kd.int .i64) 3 w38 w.heap.size (fun k_ => some k_ ≠ (.slice Ao33 x11_1.length co33 : Value).ownBlock) (.slice (some ⟨go32, 0, none⟩) x12_1.length co36) y343 := (by rw [hw, Ny343.1]; exact HP37.1); clear HP37; replace HO_11 := hqZ (Kd.R_after (v := (.slice (some ⟨go32, 0, none⟩) x12_1.length co36)) (v1 := (.slice (some ⟨go32, 0, none⟩) x12_1.length co36)) (ok := (fun _ => True)) (Kd.R_mono HO_11.1 (fun _ hk => ⟨trivial, hk⟩)) hg (.inl rfl)); replace BK333 := hqZ (zr0 (g := gb333) (BK333.1) hg (Kd.R_ne HO_12.1 BK333.1 (by decide))); replace HO_12 := hqZ (hp_); replace HB := hqZ ((by rw [hw]; exact zf0 (HB.1) GB32.1 : Below w.heap.size w w38)); clear hg hw hp_))
    go_roundg kj13
    case measure => have := HK1.1; have := HJ13.1; omega
    case rel => exact ⟨(t341), (y343), (wrap64 (x13_1 + 1)), (rfl), H', ⟨by have := HK1.1; have := HJ13.1; omega⟩, ⟨Kd.R_mono HO_11.1 (fun _ hk => hk.2)⟩, ⟨HO_12.1⟩, ⟨BK333.1⟩, ⟨HB.1⟩⟩
def ys0.f (k : Nat) (l0_0 : List (List Int)) (a1 : Int) (l2 : List Int) : Option (List Int × Bool) := (yx0.f k l0_0 a1 l2).bind fun t345 => (if t345 = true then ((yf0.f k l0_0 a1 l2 4000).bind fun bt346 => (some (bt346.1, bt346.2.2))) else (some (([] : List Int), false)))
theorem ys0.mono : ∀ a0 a1 a2 k, LeO (ys0.f k a0 a1 a2) (ys0.f (k + 1) a0 a1 a2) := by
 intro a0 a1 a2 k
 unfold ys0.f
 repeat' (with_reducible first | exact yx0.mono _ _ _ _ | exact yf0.mono _ _ _ _ _ | exact LeO.refl _ | exact LeO.none _ | refine LeO.ite ?_ ?_ | refine LeO.bind ?_ (fun _ => ?_))
theorem ys0.calls (k : Nat) (A0_0 : Option Addr) (c0_0 : Nat) (l0_0 : List (List Int)) (a1 : Int) (A2 : Option Addr) (c2 : Nat) (l2 : List Int) (r1 : List Int) (r2 : Bool) (w : World) (hr0_0 : Kd.C (Kd.slice 3 (Kd.int .i64)) w A0_0 l0_0.length l0_0) (hc0_0 : l0_0.length ≤ c0_0) (hr2 : Kd.C (Kd.int .i64) w A2 l2.length l2) (hc2 : l2.length ≤ c2) (h : ys0.f k l0_0 a1 l2 = some (r1, r2)) :
  Calls Try.prog 7 #[.agg #[.slice A0_0 l0_0.length c0_0], .int .i64 a1, .slice A2 l2.length c2] w fun e w' => ∃ v0_ : Value, e = .returned (.tuple #[v0_, .bool r2]) ∧ Kd.R (Kd.int .i64) 3 w' w.heap.size (fun _ => True) v0_ r1 ∧ Below w.heap.size w w' := by
 have hu26 := Try.underlying26
 have HR0_0 := hqZ hr0_0
 have HC0_0 := hqZ hc0_0
 clear hr0_0 hc0_0
 have HR2 := hqZ hr2
 have HC2 := hqZ hc2
 clear hr2 hc2
 have HB := hqZ (Below.refl w.heap.size w)
 have H : ((yx0.f k l0_0 a1 l2).bind fun t345 => (if t345 = true then ((yf0.f k l0_0 a1 l2 4000).bind fun bt346 => (some (bt346.1, bt346.2.2))) else (some (([] : List Int), false)))) = some (r1, r2) := h
 clear h
 replace H := Option.bind_eq_some_iff.mp H
 obtain ⟨t345, A40, H⟩ := H
 try dsimp only at H
 have A4 := hqZ A40
 clear A40
 by_cases c5 : t345 = true
 rotate_left
 ·replace c5 := Bool.eq_false_iff.mpr c5
  subst c5
  rw [if_neg (show ¬ (false = true) by decide)] at H
  simp only [Option.some.injEq, Prod.mk.injEq] at H
  obtain ⟨rfl, rfl⟩ := H
  go_enter Try.func7, Try.ntmps7
  go_wp2_with (first | ((with_reducible refine zo0 (N := 3) rfl ?_); refine zp0 ?hg (N := 3) ?hd (cs := #[.slice A0_0 l0_0.length c0_0]) (t := 26) ?hr ?_; (case hd | hg => rfl); (case hr => go_simp <;> rfl); intro gb344 hg w12 hbox hb; have BK344 := hqZ (hbox); have GW344 := hqZ ((by rw [hg]; exact (zb0 (HB.1)) : w.heap.size ≤ gb344)); have GE344 := hqZ ((by rw [hg]; exact (zb0 (HB.1)) : w.heap.size ≤ gb344)); replace HB := hqZ (za0 (HB.1) hb); clear hb hbox hg; have hcz13_0 : w12.cell? ⟨gb344, 0, none⟩ = some (.slice A0_0 l0_0.length c0_0) := (zh0 BK344.1 0).trans rfl; have hfz13_0 := zd0 BK344.1 0) | ((with_reducible refine ze0 (f := 28) rfl ?_); refine zq0 (some 14) rfl rfl Try.func28 (by kernel_rfl) rfl #[.agg #[.slice A0_0 l0_0.length c0_0], .int .i64 a1, .slice A2 l2.length c2] rfl (by simp only [hqa, hqb, hqc]; rfl) ?_; (with_reducible refine (yx0.calls k _ _ l0_0 a1 _ _ l2 false _ ?side1 ?side2 ?side3 ?side4 A4.1).mono ?_); (case side1 => exact (Kd.C_below HR0_0.1 HB.1)); (case side2 => exact HC0_0.1); (case side3 => exact (Kd.C_below HR2.1 HB.1)); (case side4 => exact HC2.1); rintro e w14 ⟨rfl, hb⟩; refine ⟨_, rfl, ?_⟩; replace BK344 := hqZ (zc0 (g := gb344) (BK344.1) hb); replace HB := hqZ (za0 (HB.1) hb); clear hb))
  go_ret2
  exact ⟨_, rfl, by first | exact Kd.R_nil _ _ _ _ _ | exact Kd.N_nil _ _ _ _ _ | exact Kd.V_nil _ _ _ _ _ | exact Kd.Q_nil _ _ _ _ _ | exact Kd.S_nil _ _ _ _ _, HB.1⟩
 subst c5
 rw [if_pos rfl] at H
 replace H := Option.bind_eq_some_iff.mp H
 obtain ⟨⟨t346, t349, t352⟩, A60, H⟩ := H
 try dsimp only at H
 have A6 := hqZ A60
 clear A60
 simp only [Option.some.injEq, Prod.mk.injEq] at H
 obtain ⟨rfl, rfl⟩ := H
 go_enter Try.func7, Try.ntmps7
 go_wp2_with (first | ((with_reducible refine zo0 (N := 3) rfl ?_); refine zp0 ?hg (N := 3) ?hd (cs := #[.slice A0_0 l0_0.length c0_0]) (t := 26) ?hr ?_; (case hd | hg => rfl); (case hr => go_simp <;> rfl); intro gb344 hg w7 hbox hb; have BK344 := hqZ (hbox); have GW344 := hqZ ((by rw [hg]; exact (zb0 (HB.1)) : w.heap.size ≤ gb344)); have GE344 := hqZ ((by rw [hg]; exact (zb0 (HB.1)) : w.heap.size ≤ gb344)); replace HB := hqZ (za0 (HB.1) hb); clear hb hbox hg; have hcz8_0 : w7.cell? ⟨gb344, 0, none⟩ = some (.slice A0_0 l0_0.length c0_0) := (zh0 BK344.1 0).trans rfl; have hfz8_0 := zd0 BK344.1 0) | ((with_reducible refine ze0 (f := 28) rfl ?_); refine zq0 (some 14) rfl rfl Try.func28 (by kernel_rfl) rfl #[.agg #[.slice A0_0 l0_0.length c0_0], .int .i64 a1, .slice A2 l2.length c2] rfl (by simp only [hqa, hqb, hqc]; rfl) ?_; (with_reducible refine (yx0.calls k _ _ l0_0 a1 _ _ l2 true _ ?side1 ?side2 ?side3 ?side4 A4.1).mono ?_); (case side1 => exact (Kd.C_below HR0_0.1 HB.1)); (case side2 => exact HC0_0.1); (case side3 => exact (Kd.C_below HR2.1 HB.1)); (case side4 => exact HC2.1); rintro e w9 ⟨rfl, hb⟩; refine ⟨_, rfl, ?_⟩; replace BK344 := hqZ (zc0 (g := gb344) (BK344.1) hb); replace HB := hqZ (za0 (HB.1) hb); clear hb; have hcz10_0 : w9.cell? ⟨gb344, 0, none⟩ = some (.slice A0_0 l0_0.length c0_0) := (zh0 BK344.1 0).trans rfl; have hfz10_0 := zd0 BK344.1 0) | ((with_reducible refine ze0 (f := 29) rfl ?_); refine zq0 (some 20) rfl rfl Try.func29 (by kernel_rfl) rfl #[.agg #[.slice A0_0 l0_0.length c0_0], .int .i64 a1, .slice A2 l2.length c2, .int .i64 4000] rfl (by simp only [hqa, hqb, hqc]; rfl) ?_; (with_reducible refine (yf0.calls k _ _ l0_0 a1 _ _ l2 4000 t346 t349 t352 _ ?side1 ?side2 ?side3 ?side4 A6.1).mono ?_); (case side1 => exact (Kd.C_below HR0_0.1 HB.1)); (case side2 => exact HC0_0.1); (case side3 => exact (Kd.C_below HR2.1 HB.1)); (case side4 => exact HC2.1); rintro e w11 ⟨v347, v350, rfl, ho0, ho1, hb⟩; refine ⟨_, rfl, ?_⟩; have HO348 := hqZ (Kd.R_lower ho0 (zb0 (HB.1))); have HO351 := hqZ (Kd.R_lower ho1 (zb0 (HB.1))); replace BK344 := hqZ (zc0 (g := gb344) (BK344.1) hb); replace HB := hqZ (za0 (HB.1) hb); clear hb ho0 ho1))
 go_ret2
 exact ⟨_, rfl, Kd.R_mono HO348.1 (fun _ hk => trivial), HB.1⟩
def yr1.f (a0 : Int) (a1 : Int) (a2 : Int) : Option (Bool) := if a0 ≥ a1 then (some (decide (a0 ≤ a2))) else (some false)
theorem yr1.calls (a0 : Int) (a1 : Int) (a2 : Int) (r : Bool) (w : World) (h : yr1.f a0 a1 a2 = some r) :
  Calls Try.prog 63 #[.int .i64 a0, .int .i64 a1, .int .i64 a2] w fun e w' => e = .returned (.bool r) ∧ Drawn0 w w' := by
 have H : (if a0 ≥ a1 then (some (decide (a0 ≤ a2))) else (some false)) = some r := h
 clear h
 by_cases c4 : a0 ≥ a1
 ·rw [if_pos c4] at H
  have c4b0 : decide (a1 ≤ a0) = true := decide_eq_true c4
  clear c4
  obtain rfl := Option.some.inj H
  go_enter Try.func63, Try.ntmps63
  go_wp2
  go_ret
  exact ⟨rfl, by repeat (first | exact Drawn0.refl _ | apply Drawn0.step)⟩
 rw [if_neg c4] at H
 have c4b0 : decide (a1 ≤ a0) = false := decide_eq_false c4
 clear c4
 obtain rfl := Option.some.inj H
 go_enter Try.func63, Try.ntmps63
 go_wp2
 go_ret
 exact ⟨rfl, by repeat (first | exact Drawn0.refl _ | apply Drawn0.step)⟩
def yo0.l0 : Nat → Int → Int → List Int → Int → Int → Option (Bool)
 | 0, _, _, _, _, _ => none
 | k + 1, x1, x2, x9, x10, x11 => if x11 < x10 then (if 0 ≤ x11 then (if x11 < (x9.length : Int) then ((yr1.f (rd x9 x11) x1 x2).bind fun t354 => (if t354 = true then (yo0.l0 k x1 x2 x9 x10 (wrap64 (x11 + 1))) else (some false))) else (none)) else (none)) else (some true)
def yo0.f (k : Nat) (l0 : List Int) (a1 : Int) (a2 : Int) : Option (Bool) := yo0.l0 k a1 a2 l0 (l0.length : Int) 0
theorem yo0.mono_l : ∀ k, (∀ y0 y1 y2 y3 y4, LeO (yo0.l0 k y0 y1 y2 y3 y4) (yo0.l0 (k + 1) y0 y1 y2 y3 y4))
 | 0 => fun _ _ _ _ _ r h => by simp [yo0.l0] at h
 | k + 1 => by
  have ih0 := yo0.mono_l k
  ·intro y0 y1 y2 y3 y4
   unfold yo0.l0
   repeat' (with_reducible first | exact ih0 _ _ _ _ _ | exact LeO.refl _ | exact LeO.none _ | refine LeO.ite ?_ ?_ | refine LeO.bind ?_ (fun _ => ?_))
theorem yo0.mono : ∀ a0 a1 a2 k, LeO (yo0.f k a0 a1 a2) (yo0.f (k + 1) a0 a1 a2) := by
 intro a0 a1 a2 k
 have ih0 := yo0.mono_l k
 unfold yo0.f
 repeat' (with_reducible first | exact ih0 _ _ _ _ _ | exact LeO.refl _ | exact LeO.none _ | refine LeO.ite ?_ ?_ | refine LeO.bind ?_ (fun _ => ?_))
theorem yo0.calls (k : Nat) (A0 : Option Addr) (c0 : Nat) (l0 : List Int) (a1 : Int) (a2 : Int) (r : Bool) (w : World) (hr0 : Kd.C (Kd.int .i64) w A0 l0.length l0) (hc0 : l0.length ≤ c0) (h : yo0.f k l0 a1 a2 = some r) :
  Calls Try.prog 44 #[.slice A0 l0.length c0, .int .i64 a1, .int .i64 a2] w fun e w' => e = .returned (.bool r) ∧ Drawn0 w w' := by
 have HR0 := hqZ hr0
 have HC0 := hqZ hc0
 clear hr0 hc0
 have H : (yo0.l0 k a1 a2 l0 (l0.length : Int) 0) = some r := h
 clear h
 have H' := hqZ H
 clear H
 go_enter Try.func44, Try.ntmps44
 go_wp2
 go_loopg [11] k (fun kq v11 w' => ∃ (x11_1 : Int), v11 = .int .i64 x11_1 ∧ zi0 (yo0.l0 kq a1 a2 l0 (l0.length : Int) x11_1 = some r) ∧ zi0 (kq ≤ k) ∧ Drawn0 w w')
 case atStart => exact ⟨(0), (rfl), H', ⟨Nat.le_refl _⟩, by repeat (first | exact Drawn0.refl _ | apply Drawn0.step)⟩
 case round =>
  clear H'
  try clear p2
  obtain ⟨x11_1, rfl, HA, HK1, ⟨m1, rfl⟩⟩ := hrel
  obtain _ | k1 := gk
  ·exact absurd HA.1 (by simp [yo0.l0])
  have H := HA.1
  clear HA
  simp only [yo0.l0] at H
  by_cases c4 : x11_1 < (l0.length : Int)
  rotate_left
  ·rw [if_neg c4] at H
   have c4b0 : decide (x11_1 < (l0.length : Int)) = false := decide_eq_false c4
   clear c4
   obtain rfl := Option.some.inj H
   go_wp2
   go_ret
   exact ⟨rfl, by repeat (first | exact Drawn0.refl _ | apply Drawn0.step)⟩
  rw [if_pos c4] at H
  have c4b0 : decide (x11_1 < (l0.length : Int)) = true := decide_eq_true c4
  clear c4
  by_cases c5 : 0 ≤ x11_1
  rotate_left
  ·rw [if_neg c5] at H
   exact absurd H (by simp)
  rw [if_pos c5] at H
  have c5b0 : decide (0 ≤ x11_1) = true := decide_eq_true c5
  clear c5
  by_cases c6 : x11_1 < (l0.length : Int)
  rotate_left
  ·rw [if_neg c6] at H
   exact absurd H (by simp)
  rw [if_pos c6] at H
  have c6b0 : decide (x11_1 < (l0.length : Int)) = true := decide_eq_true c6
  clear c6
  replace H := Option.bind_eq_some_iff.mp H
  obtain ⟨t354, A70, H⟩ := H
  try dsimp only at H
  have A7 := hqZ A70
  clear A70
  by_cases c8 : t354 = true
  rotate_left
  ·replace c8 := Bool.eq_false_iff.mpr c8
   subst c8
   rw [if_neg (show ¬ (false = true) by decide)] at H
   obtain rfl := Option.some.inj H
   have p353 : 0 ≤ (x11_1 : Int) := of_decide_eq_true (by assumption)
   have q353 : x11_1 < (l0.length : Int) := of_decide_eq_true (by assumption)
   obtain ⟨ad353, e353, hx353_0⟩ := Kd.at_int HR0.1 x11_1 p353 q353
   cases e353
   replace p353 := eq_true p353
   replace q353 := eq_true q353
   go_wp2_with (first | ((with_reducible refine ze0 (f := 63) rfl ?_); refine zq0 (some 18) rfl rfl Try.func63 (by kernel_rfl) rfl #[.int .i64 (rd l0 x11_1), .int .i64 a1, .int .i64 a2] rfl (by simp only [hqa, hqb, hqc]; rfl) ?_; (with_reducible refine (yr1.calls (rd l0 x11_1) a1 a2 false _ A7.1).mono ?_); rintro e w' ⟨rfl, ⟨nd, rfl⟩⟩; refine ⟨_, rfl, ?_⟩))
   go_ret
   exact ⟨rfl, by repeat (first | exact Drawn0.refl _ | apply Drawn0.step)⟩
  subst c8
  rw [if_pos rfl] at H
  have H' := hqZ H
  clear H
  have p353 : 0 ≤ (x11_1 : Int) := of_decide_eq_true (by assumption)
  have q353 : x11_1 < (l0.length : Int) := of_decide_eq_true (by assumption)
  obtain ⟨ad353, e353, hx353_0⟩ := Kd.at_int HR0.1 x11_1 p353 q353
  cases e353
  replace p353 := eq_true p353
  replace q353 := eq_true q353
  go_wp2_with (first | ((with_reducible refine ze0 (f := 63) rfl ?_); refine zq0 (some 18) rfl rfl Try.func63 (by kernel_rfl) rfl #[.int .i64 (rd l0 x11_1), .int .i64 a1, .int .i64 a2] rfl (by simp only [hqa, hqb, hqc]; rfl) ?_; (with_reducible refine (yr1.calls (rd l0 x11_1) a1 a2 true _ A7.1).mono ?_); rintro e w' ⟨rfl, ⟨nd, rfl⟩⟩; refine ⟨_, rfl, ?_⟩))
  go_roundg k1
  case measure => have := HK1.1; omega
  case rel => exact ⟨(wrap64 (x11_1 + 1)), (rfl), H', ⟨by have := HK1.1; omega⟩, by repeat (first | exact Drawn0.refl _ | apply Drawn0.step)⟩
def yv0.l0 : Nat → Int → List (List Int) → Int → Int → Option (Bool)
 | 0, _, _, _, _ => none
 | k + 1, x3, x13, x14, x15 => if x15 < x14 then (if 0 ≤ x15 then (if x15 < (x13.length : Int) then (if ((rd_L2 x13 x15).length : Int) > 5 then (some false) else ((yo0.f k (rd_L2 x13 x15) 0 (wrap64 (x3 - 1))).bind fun t358 => (if t358 = true then (yv0.l0 k x3 x13 x14 (wrap64 (x15 + 1))) else (some false)))) else (none)) else (none)) else (some true)
def yv0.f (k : Nat) (l0_0 : List (List Int)) : Option (Bool) := (yr1.f (l0_0.length : Int) 1 8).bind fun t356 => (if t356 = true then (yv0.l0 k (l0_0.length : Int) l0_0 (l0_0.length : Int) 0) else (some false))
theorem yv0.mono_l : ∀ k, (∀ y0 y1 y2 y3, LeO (yv0.l0 k y0 y1 y2 y3) (yv0.l0 (k + 1) y0 y1 y2 y3))
 | 0 => fun _ _ _ _ r h => by simp [yv0.l0] at h
 | k + 1 => by
  have ih0 := yv0.mono_l k
  ·intro y0 y1 y2 y3
   unfold yv0.l0
   repeat' (with_reducible first | exact ih0 _ _ _ _ | exact yo0.mono _ _ _ _ | exact LeO.refl _ | exact LeO.none _ | refine LeO.ite ?_ ?_ | refine LeO.bind ?_ (fun _ => ?_))
theorem yv0.mono : ∀ a0 k, LeO (yv0.f k a0) (yv0.f (k + 1) a0) := by
 intro a0 k
 have ih0 := yv0.mono_l k
 unfold yv0.f
 repeat' (with_reducible first | exact ih0 _ _ _ _ | exact yo0.mono _ _ _ _ | exact LeO.refl _ | exact LeO.none _ | refine LeO.ite ?_ ?_ | refine LeO.bind ?_ (fun _ => ?_))
theorem yv0.calls (k : Nat) (A0_0 : Option Addr) (c0_0 : Nat) (l0_0 : List (List Int)) (r : Bool) (w : World) (hr0_0 : Kd.C (Kd.slice 3 (Kd.int .i64)) w A0_0 l0_0.length l0_0) (hc0_0 : l0_0.length ≤ c0_0) (h : yv0.f k l0_0 = some r) :
  Calls Try.prog 62 #[.agg #[.slice A0_0 l0_0.length c0_0]] w fun e w' => e = .returned (.bool r) ∧ Below w.heap.size w w' := by
 have hu26 := Try.underlying26
 have HR0_0 := hqZ hr0_0
 have HC0_0 := hqZ hc0_0
 clear hr0_0 hc0_0
 have HB := hqZ (Below.refl w.heap.size w)
 have H : ((yr1.f (l0_0.length : Int) 1 8).bind fun t356 => (if t356 = true then (yv0.l0 k (l0_0.length : Int) l0_0 (l0_0.length : Int) 0) else (some false))) = some r := h
 clear h
 replace H := Option.bind_eq_some_iff.mp H
 obtain ⟨t356, A20, H⟩ := H
 try dsimp only at H
 have A2 := hqZ A20
 clear A20
 by_cases c3 : t356 = true
 rotate_left
 ·replace c3 := Bool.eq_false_iff.mpr c3
  subst c3
  rw [if_neg (show ¬ (false = true) by decide)] at H
  obtain rfl := Option.some.inj H
  go_enter Try.func62, Try.ntmps62
  go_wp2_with (first | ((with_reducible refine zo0 (N := 1) rfl ?_); refine zp0 ?hg (N := 1) ?hd (cs := #[.slice A0_0 l0_0.length c0_0]) (t := 26) ?hr ?_; (case hd | hg => rfl); (case hr => go_simp <;> rfl); intro gb355 hg w12 hbox hb; have BK355 := hqZ (hbox); have GW355 := hqZ ((by rw [hg]; exact (zb0 (HB.1)) : w.heap.size ≤ gb355)); have GE355 := hqZ ((by rw [hg]; exact (zb0 (HB.1)) : w.heap.size ≤ gb355)); replace HB := hqZ (za0 (HB.1) hb); clear hb hbox hg; have hcz13_0 : w12.cell? ⟨gb355, 0, none⟩ = some (.slice A0_0 l0_0.length c0_0) := (zh0 BK355.1 0).trans rfl; have hfz13_0 := zd0 BK355.1 0) | ((with_reducible refine ze0 (f := 63) rfl ?_); refine zq0 (some 10) rfl rfl Try.func63 (by kernel_rfl) rfl #[.int .i64 (l0_0.length : Int), .int .i64 1, .int .i64 8] rfl (by simp only [hqa, hqb, hqc]; rfl) ?_; (with_reducible refine (yr1.calls (l0_0.length : Int) 1 8 false _ A2.1).mono ?_); rintro e w' ⟨rfl, ⟨nd, rfl⟩⟩; refine ⟨_, rfl, ?_⟩))
  go_ret
  exact ⟨rfl, hqB HB.1⟩
 subst c3
 rw [if_pos rfl] at H
 have H' := hqZ H
 clear H
 go_enter Try.func62, Try.ntmps62
 go_wp2_with (first | ((with_reducible refine zo0 (N := 1) rfl ?_); refine zp0 ?hg (N := 1) ?hd (cs := #[.slice A0_0 l0_0.length c0_0]) (t := 26) ?hr ?_; (case hd | hg => rfl); (case hr => go_simp <;> rfl); intro gb355 hg w4 hbox hb; have BK355 := hqZ (hbox); have GW355 := hqZ ((by rw [hg]; exact (zb0 (HB.1)) : w.heap.size ≤ gb355)); have GE355 := hqZ ((by rw [hg]; exact (zb0 (HB.1)) : w.heap.size ≤ gb355)); replace HB := hqZ (za0 (HB.1) hb); clear hb hbox hg; have hcz5_0 : w4.cell? ⟨gb355, 0, none⟩ = some (.slice A0_0 l0_0.length c0_0) := (zh0 BK355.1 0).trans rfl; have hfz5_0 := zd0 BK355.1 0) | ((with_reducible refine ze0 (f := 63) rfl ?_); refine zq0 (some 10) rfl rfl Try.func63 (by kernel_rfl) rfl #[.int .i64 (l0_0.length : Int), .int .i64 1, .int .i64 8] rfl (by simp only [hqa, hqb, hqc]; rfl) ?_; (with_reducible refine (yr1.calls (l0_0.length : Int) 1 8 true _ A2.1).mono ?_); rintro e w' ⟨rfl, ⟨nd, rfl⟩⟩; refine ⟨_, rfl, ?_⟩))
 go_loopg [15] k (fun kq v15 w' => ∃ (x15_1 : Int), v15 = .int .i64 x15_1 ∧ zi0 (yv0.l0 kq (l0_0.length : Int) l0_0 (l0_0.length : Int) x15_1 = some r) ∧ zi0 (kq ≤ k) ∧ zi0 (w'.heap[gb355]? = some (.cells #[(.slice A0_0 l0_0.length c0_0)] 26 (0, 0))) ∧ zi0 (Below w.heap.size w w'))
 case atStart => exact ⟨(0), (rfl), H', ⟨Nat.le_refl _⟩, ⟨BK355.1⟩, ⟨hqB HB.1⟩⟩
 case round =>
  clear H'
  try clear p2
  try clear c3
  try clear hcz5_0
  try clear hfz5_0
  obtain ⟨x15_1, rfl, HA, HK1, BK355, HB⟩ := hrel
  obtain _ | k1 := gk
  ·exact absurd HA.1 (by simp [yv0.l0])
  have H := HA.1
  clear HA
  simp only [yv0.l0] at H
  by_cases c6 : x15_1 < (l0_0.length : Int)
  rotate_left
  ·rw [if_neg c6] at H
   have c6b0 : decide (x15_1 < (l0_0.length : Int)) = false := decide_eq_false c6
   clear c6
   obtain rfl := Option.some.inj H
   go_wp2
   go_ret
   exact ⟨rfl, HB.1⟩
  rw [if_pos c6] at H
  have c6b0 : decide (x15_1 < (l0_0.length : Int)) = true := decide_eq_true c6
  clear c6
  by_cases c7 : 0 ≤ x15_1
  rotate_left
  ·rw [if_neg c7] at H
   exact absurd H (by simp)
  rw [if_pos c7] at H
  have c7b0 : decide (0 ≤ x15_1) = true := decide_eq_true c7
  clear c7
  by_cases c8 : x15_1 < (l0_0.length : Int)
  rotate_left
  ·rw [if_neg c8] at H
   exact absurd H (by simp)
  rw [if_pos c8] at H
  have c8b0 : decide (x15_1 < (l0_0.length : Int)) = true := decide_eq_true c8
  clear c8
  by_cases c9 : ((rd_L2 l0_0 x15_1).length : Int) > 5
  ·rw [if_pos c9] at H
   have c9b0 : decide (5 < ((rd_L2 l0_0 x15_1).length : Int)) = true := decide_eq_true c9
   have c9b1 : decide (5 < (rd_L2 l0_0 x15_1).length) = true := decide_eq_true (by omega)
   clear c9
   obtain rfl := Option.some.inj H
   have p357 : 0 ≤ (x15_1 : Int) := of_decide_eq_true (by assumption)
   have q357 : x15_1 < (l0_0.length : Int) := of_decide_eq_true (by assumption)
   obtain ⟨ad357, A357_0, c357_0, e357, hx357_0, hl357_0, hi357_0⟩ := at_L2 HR0_0.1 x15_1 p357 q357
   cases e357
   replace hx357_0 := (HB.1.cell (World.block_lt_of_cell? w _ hx357_0)).trans hx357_0
   have HR357_0 := hqZ hi357_0
   have HC357_0 := hqZ hl357_0
   clear hi357_0 hl357_0
   replace p357 := eq_true p357
   replace q357 := eq_true q357
   go_wp2
   go_ret
   exact ⟨rfl, HB.1⟩
  rw [if_neg c9] at H
  have c9b0 : decide (5 < ((rd_L2 l0_0 x15_1).length : Int)) = false := decide_eq_false c9
  have c9b1 : decide (5 < (rd_L2 l0_0 x15_1).length) = false := decide_eq_false (by omega)
  clear c9
  replace H := Option.bind_eq_some_iff.mp H
  obtain ⟨t358, A100, H⟩ := H
  try dsimp only at H
  have A10 := hqZ A100
  clear A100
  by_cases c11 : t358 = true
  rotate_left
  ·replace c11 := Bool.eq_false_iff.mpr c11
   subst c11
   rw [if_neg (show ¬ (false = true) by decide)] at H
   obtain rfl := Option.some.inj H
   have p357 : 0 ≤ (x15_1 : Int) := of_decide_eq_true (by assumption)
   have q357 : x15_1 < (l0_0.length : Int) := of_decide_eq_true (by assumption)
   obtain ⟨ad357, A357_0, c357_0, e357, hx357_0, hl357_0, hi357_0⟩ := at_L2 HR0_0.1 x15_1 p357 q357
   cases e357
   replace hx357_0 := (HB.1.cell (World.block_lt_of_cell? w _ hx357_0)).trans hx357_0
   have HR357_0 := hqZ hi357_0
   have HC357_0 := hqZ hl357_0
   clear hi357_0 hl357_0
   replace p357 := eq_true p357
   replace q357 := eq_true q357
   go_wp2_with (first | (go_at_call 44; (with_reducible refine (yo0.calls k1 _ _ (rd_L2 l0_0 x15_1) 0 (wrap64 ((l0_0.length : Int) - 1)) false _ ?side1 ?side2 A10.1).mono ?_); (case side1 => exact (Kd.C_below HR357_0.1 HB.1)); (case side2 => exact HC357_0.1); rintro e w' ⟨rfl, ⟨nd, rfl⟩⟩))
   go_ret
   exact ⟨rfl, hqB HB.1⟩
  subst c11
  rw [if_pos rfl] at H
  have H' := hqZ H
  clear H
  have p357 : 0 ≤ (x15_1 : Int) := of_decide_eq_true (by assumption)
  have q357 : x15_1 < (l0_0.length : Int) := of_decide_eq_true (by assumption)
  obtain ⟨ad357, A357_0, c357_0, e357, hx357_0, hl357_0, hi357_0⟩ := at_L2 HR0_0.1 x15_1 p357 q357
  cases e357
  replace hx357_0 := (HB.1.cell (World.block_lt_of_cell? w _ hx357_0)).trans hx357_0
  have HR357_0 := hqZ hi357_0
  have HC357_0 := hqZ hl357_0
  clear hi357_0 hl357_0
  replace p357 := eq_true p357
  replace q357 := eq_true q357
  go_wp2_with (first | (go_at_call 44; (with_reducible refine (yo0.calls k1 _ _ (rd_L2 l0_0 x15_1) 0 (wrap64 ((l0_0.length : Int) - 1)) true _ ?side1 ?side2 A10.1).mono ?_); (case side1 => exact (Kd.C_below HR357_0.1 HB.1)); (case side2 => exact HC357_0.1); rintro e w' ⟨rfl, ⟨nd, rfl⟩⟩))
  go_roundg k1
  case measure => have := HK1.1; omega
  case rel => exact ⟨(wrap64 (x15_1 + 1)), (rfl), H', ⟨by have := HK1.1; omega⟩, ⟨BK355.1⟩, ⟨hqB HB.1⟩⟩
def yj1.f (k : Nat) (l0_0 : List (List Int)) (a1 : Int) : Option (Bool) := (yv0.f k l0_0).bind fun t360 => (if t360 = true then ((yr1.f a1 0 (wrap64 ((l0_0.length : Int) - 1))).bind fun t361 => (some t361)) else (some false))
theorem yj1.mono : ∀ a0 a1 k, LeO (yj1.f k a0 a1) (yj1.f (k + 1) a0 a1) := by
 intro a0 a1 k
 unfold yj1.f
 repeat' (with_reducible first | exact yv0.mono _ _ | exact LeO.refl _ | exact LeO.none _ | refine LeO.ite ?_ ?_ | refine LeO.bind ?_ (fun _ => ?_))
theorem yj1.calls (k : Nat) (A0_0 : Option Addr) (c0_0 : Nat) (l0_0 : List (List Int)) (a1 : Int) (r : Bool) (w : World) (hr0_0 : Kd.C (Kd.slice 3 (Kd.int .i64)) w A0_0 l0_0.length l0_0) (hc0_0 : l0_0.length ≤ c0_0) (h : yj1.f k l0_0 a1 = some r) :
  Calls Try.prog 41 #[.agg #[.slice A0_0 l0_0.length c0_0], .int .i64 a1] w fun e w' => e = .returned (.bool r) ∧ Below w.heap.size w w' := by
 have hu26 := Try.underlying26
 have HR0_0 := hqZ hr0_0
 have HC0_0 := hqZ hc0_0
 clear hr0_0 hc0_0
 have HB := hqZ (Below.refl w.heap.size w)
 have H : ((yv0.f k l0_0).bind fun t360 => (if t360 = true then ((yr1.f a1 0 (wrap64 ((l0_0.length : Int) - 1))).bind fun t361 => (some t361)) else (some false))) = some r := h
 clear h
 replace H := Option.bind_eq_some_iff.mp H
 obtain ⟨t360, A30, H⟩ := H
 try dsimp only at H
 have A3 := hqZ A30
 clear A30
 by_cases c4 : t360 = true
 rotate_left
 ·replace c4 := Bool.eq_false_iff.mpr c4
  subst c4
  rw [if_neg (show ¬ (false = true) by decide)] at H
  obtain rfl := Option.some.inj H
  go_enter Try.func41, Try.ntmps41
  go_wp2_with (first | ((with_reducible refine zo0 (N := 2) rfl ?_); (try (refine gate_guard (by rfl) ?_; dsimp only)); refine zp0 ?hg (N := 2) ?hd (cs := #[.slice A0_0 l0_0.length c0_0]) (t := 26) ?hr ?_; (case hd | hg => rfl); (case hr => go_simp <;> rfl); intro gb359 hg w10 hbox hb; have BK359 := hqZ (hbox); have GW359 := hqZ ((by rw [hg]; exact (zb0 (HB.1)) : w.heap.size ≤ gb359)); have GE359 := hqZ ((by rw [hg]; exact (zb0 (HB.1)) : w.heap.size ≤ gb359)); replace HB := hqZ (za0 (HB.1) hb); clear hb hbox hg; have hcz11_0 : w10.cell? ⟨gb359, 0, none⟩ = some (.slice A0_0 l0_0.length c0_0) := (zh0 BK359.1 0).trans rfl; have hfz11_0 := zd0 BK359.1 0) | ((with_reducible refine ze0 (f := 62) rfl ?_); refine zq0 (some 6) rfl rfl Try.func62 (by kernel_rfl) rfl #[.agg #[.slice A0_0 l0_0.length c0_0]] rfl (by simp only [hqa, hqb, hqc]; rfl) ?_; (with_reducible refine (yv0.calls k _ _ l0_0 false _ ?side1 ?side2 A3.1).mono ?_); (case side1 => exact (Kd.C_below HR0_0.1 HB.1)); (case side2 => exact HC0_0.1); rintro e w12 ⟨rfl, hb⟩; refine ⟨_, rfl, ?_⟩; replace BK359 := hqZ (zc0 (g := gb359) (BK359.1) hb); replace HB := hqZ (za0 (HB.1) hb); clear hb))
  go_ret
  exact ⟨rfl, HB.1⟩
 subst c4
 rw [if_pos rfl] at H
 replace H := Option.bind_eq_some_iff.mp H
 obtain ⟨t361, A50, H⟩ := H
 try dsimp only at H
 have A5 := hqZ A50
 clear A50
 obtain rfl := Option.some.inj H
 go_enter Try.func41, Try.ntmps41
 go_wp2_with (first | ((with_reducible refine zo0 (N := 2) rfl ?_); (try (refine gate_guard (by rfl) ?_; dsimp only)); refine zp0 ?hg (N := 2) ?hd (cs := #[.slice A0_0 l0_0.length c0_0]) (t := 26) ?hr ?_; (case hd | hg => rfl); (case hr => go_simp <;> rfl); intro gb359 hg w6 hbox hb; have BK359 := hqZ (hbox); have GW359 := hqZ ((by rw [hg]; exact (zb0 (HB.1)) : w.heap.size ≤ gb359)); have GE359 := hqZ ((by rw [hg]; exact (zb0 (HB.1)) : w.heap.size ≤ gb359)); replace HB := hqZ (za0 (HB.1) hb); clear hb hbox hg; have hcz7_0 : w6.cell? ⟨gb359, 0, none⟩ = some (.slice A0_0 l0_0.length c0_0) := (zh0 BK359.1 0).trans rfl; have hfz7_0 := zd0 BK359.1 0) | ((with_reducible refine ze0 (f := 62) rfl ?_); refine zq0 (some 6) rfl rfl Try.func62 (by kernel_rfl) rfl #[.agg #[.slice A0_0 l0_0.length c0_0]] rfl (by simp only [hqa, hqb, hqc]; rfl) ?_; (with_reducible refine (yv0.calls k _ _ l0_0 true _ ?side1 ?side2 A3.1).mono ?_); (case side1 => exact (Kd.C_below HR0_0.1 HB.1)); (case side2 => exact HC0_0.1); rintro e w8 ⟨rfl, hb⟩; refine ⟨_, rfl, ?_⟩; replace BK359 := hqZ (zc0 (g := gb359) (BK359.1) hb); replace HB := hqZ (za0 (HB.1) hb); clear hb; have hcz9_0 : w8.cell? ⟨gb359, 0, none⟩ = some (.slice A0_0 l0_0.length c0_0) := (zh0 BK359.1 0).trans rfl; have hfz9_0 := zd0 BK359.1 0) | (go_at_call 63; (with_reducible refine (yr1.calls a1 0 (wrap64 ((l0_0.length : Int) - 1)) t361 _ A5.1).mono ?_); rintro e w' ⟨rfl, ⟨nd, rfl⟩⟩))
 go_ret
 exact ⟨rfl, hqB HB.1⟩
def yb1.l0 : Nat → Int → Int → Int → List (List Int) → Option (Bool)
 | 0, _, _, _, _ => none
 | k + 1, x1, x8, x9, x363000 => if x9 < x8 then ((yd0.f k x363000 x9).bind fun t363 => (if 0 ≤ x1 then (if x1 < (t363.length : Int) then (if (rd t363 x1) < 0 then (some false) else (yb1.l0 k x1 x8 (wrap64 (x9 + 1)) x363000)) else (none)) else (none))) else (some true)
def yb1.f (k : Nat) (l0_0 : List (List Int)) (a1 : Int) : Option (Bool) := yb1.l0 k a1 (l0_0.length : Int) 0 l0_0
theorem yb1.mono_l : ∀ k, (∀ y0 y1 y2 y3, LeO (yb1.l0 k y0 y1 y2 y3) (yb1.l0 (k + 1) y0 y1 y2 y3))
 | 0 => fun _ _ _ _ r h => by simp [yb1.l0] at h
 | k + 1 => by
  have ih0 := yb1.mono_l k
  ·intro y0 y1 y2 y3
   unfold yb1.l0
   repeat' (with_reducible first | exact ih0 _ _ _ _ | exact yd0.mono _ _ _ | exact LeO.refl _ | exact LeO.none _ | refine LeO.ite ?_ ?_ | refine LeO.bind ?_ (fun _ => ?_))
theorem yb1.mono : ∀ a0 a1 k, LeO (yb1.f k a0 a1) (yb1.f (k + 1) a0 a1) := by
 intro a0 a1 k
 have ih0 := yb1.mono_l k
 unfold yb1.f
 repeat' (with_reducible first | exact ih0 _ _ _ _ | exact yd0.mono _ _ _ | exact LeO.refl _ | exact LeO.none _ | refine LeO.ite ?_ ?_ | refine LeO.bind ?_ (fun _ => ?_))
theorem yb1.calls (k : Nat) (A0_0 : Option Addr) (c0_0 : Nat) (l0_0 : List (List Int)) (a1 : Int) (r : Bool) (w : World) (hr0_0 : Kd.C (Kd.slice 3 (Kd.int .i64)) w A0_0 l0_0.length l0_0) (hc0_0 : l0_0.length ≤ c0_0) (h : yb1.f k l0_0 a1 = some r) :
  Calls Try.prog 66 #[.agg #[.slice A0_0 l0_0.length c0_0], .int .i64 a1] w fun e w' => e = .returned (.bool r) ∧ Below w.heap.size w w' := by
 have hu26 := Try.underlying26
 have HR0_0 := hqZ hr0_0
 have HC0_0 := hqZ hc0_0
 clear hr0_0 hc0_0
 have HB := hqZ (Below.refl w.heap.size w)
 have H : (yb1.l0 k a1 (l0_0.length : Int) 0 l0_0) = some r := h
 clear h
 have H' := hqZ H
 clear H
 go_enter Try.func66, Try.ntmps66
 go_wp2_with (first | ((with_reducible refine zo0 (N := 2) rfl ?_); refine zp0 ?hg (N := 2) ?hd (cs := #[.slice A0_0 l0_0.length c0_0]) (t := 26) ?hr ?_; (case hd | hg => rfl); (case hr => go_simp <;> rfl); intro gb362 hg w3 hbox hb; have BK362 := hqZ (hbox); have GW362 := hqZ ((by rw [hg]; exact (zb0 (HB.1)) : w.heap.size ≤ gb362)); have GE362 := hqZ ((by rw [hg]; exact (zb0 (HB.1)) : w.heap.size ≤ gb362)); replace HB := hqZ (za0 (HB.1) hb); clear hb hbox hg; have hcz4_0 : w3.cell? ⟨gb362, 0, none⟩ = some (.slice A0_0 l0_0.length c0_0) := (zh0 BK362.1 0).trans rfl; have hfz4_0 := zd0 BK362.1 0))
 go_loopg [9] k (fun kq v9 w' => ∃ (x9_1 : Int), v9 = .int .i64 x9_1 ∧ zi0 (yb1.l0 kq a1 (l0_0.length : Int) x9_1 l0_0 = some r) ∧ zi0 (kq ≤ k) ∧ zi0 (w'.heap[gb362]? = some (.cells #[(.slice A0_0 l0_0.length c0_0)] 26 (0, 0))) ∧ zi0 (Below w.heap.size w w'))
 case atStart => exact ⟨(0), (rfl), H', ⟨Nat.le_refl _⟩, ⟨BK362.1⟩, ⟨HB.1⟩⟩
 case round =>
  clear H'
  try clear p2
  try clear hcz4_0
  try clear hfz4_0
  obtain ⟨x9_1, rfl, HA, HK1, BK362, HB⟩ := hrel
  obtain _ | k1 := gk
  ·exact absurd HA.1 (by simp [yb1.l0])
  have H := HA.1
  clear HA
  simp only [yb1.l0] at H
  by_cases c5 : x9_1 < (l0_0.length : Int)
  rotate_left
  ·rw [if_neg c5] at H
   have c5b0 : decide (x9_1 < (l0_0.length : Int)) = false := decide_eq_false c5
   clear c5
   obtain rfl := Option.some.inj H
   go_wp2
   go_ret
   exact ⟨rfl, HB.1⟩
  rw [if_pos c5] at H
  have c5b0 : decide (x9_1 < (l0_0.length : Int)) = true := decide_eq_true c5
  clear c5
  replace H := Option.bind_eq_some_iff.mp H
  obtain ⟨t363, A60, H⟩ := H
  try dsimp only at H
  have A6 := hqZ A60
  clear A60
  by_cases c7 : 0 ≤ a1
  rotate_left
  ·rw [if_neg c7] at H
   exact absurd H (by simp)
  rw [if_pos c7] at H
  have c7b0 : decide (0 ≤ a1) = true := decide_eq_true c7
  clear c7
  by_cases c8 : a1 < (t363.length : Int)
  rotate_left
  ·rw [if_neg c8] at H
   exact absurd H (by simp)
  rw [if_pos c8] at H
  have c8b0 : decide (a1 < (t363.length : Int)) = true := decide_eq_true c8
  clear c8
  by_cases c9 : (rd t363 a1) < 0
  ·rw [if_pos c9] at H
   have c9b0 : decide ((rd t363 a1) < 0) = true := decide_eq_true c9
   clear c9
   obtain rfl := Option.some.inj H
   have hcz10_0 : wr.cell? ⟨gb362, 0, none⟩ = some (.slice A0_0 l0_0.length c0_0) := (zh0 BK362.1 0).trans rfl
   have hfz10_0 := zd0 BK362.1 0
   go_wp2_with (first | ((with_reducible refine ze0 (f := 71) rfl ?_); refine zq0 (some 14) rfl rfl Try.func71 (by kernel_rfl) rfl #[.agg #[.slice A0_0 l0_0.length c0_0], .int .i64 x9_1] rfl (by simp only [hqa, hqb, hqc]; rfl) ?_; (with_reducible refine (yd0.calls k1 _ _ l0_0 x9_1 t363 _ ?side1 ?side2 A6.1).mono ?_); (case side1 => exact (Kd.C_below HR0_0.1 HB.1)); (case side2 => exact HC0_0.1); rintro e w11 ⟨v364, rfl, ho0, hb⟩; refine ⟨_, rfl, ?_⟩; have HO365 := hqZ (Kd.R_lower ho0 (zb0 (HB.1))); replace BK362 := hqZ (zc0 (g := gb362) (BK362.1) hb); replace HB := hqZ (za0 (HB.1) hb); clear hb ho0; obtain ⟨Ao12, co12, eo12⟩ := Kd.R_slice HO365.1; subst eo12; have p366 : 0 ≤ (a1 : Int) := of_decide_eq_true (by assumption); have q366 : a1 < (t363.length : Int) := of_decide_eq_true (by assumption); obtain ⟨ad366, e366, hx366_0⟩ := Kd.at_int (Kd.R_reads' HO365.1).2.2 a1 p366 q366; cases e366; replace p366 := eq_true p366; replace q366 := eq_true q366))
   go_ret
   exact ⟨rfl, HB.1⟩
  rw [if_neg c9] at H
  have c9b0 : decide ((rd t363 a1) < 0) = false := decide_eq_false c9
  clear c9
  have H' := hqZ H
  clear H
  have hcz13_0 : wr.cell? ⟨gb362, 0, none⟩ = some (.slice A0_0 l0_0.length c0_0) := (zh0 BK362.1 0).trans rfl
  have hfz13_0 := zd0 BK362.1 0
  go_wp2_with (first | ((with_reducible refine ze0 (f := 71) rfl ?_); refine zq0 (some 14) rfl rfl Try.func71 (by kernel_rfl) rfl #[.agg #[.slice A0_0 l0_0.length c0_0], .int .i64 x9_1] rfl (by simp only [hqa, hqb, hqc]; rfl) ?_; (with_reducible refine (yd0.calls k1 _ _ l0_0 x9_1 t363 _ ?side1 ?side2 A6.1).mono ?_); (case side1 => exact (Kd.C_below HR0_0.1 HB.1)); (case side2 => exact HC0_0.1); rintro e w14 ⟨v364, rfl, ho0, hb⟩; refine ⟨_, rfl, ?_⟩; have HO365 := hqZ (Kd.R_lower ho0 (zb0 (HB.1))); replace BK362 := hqZ (zc0 (g := gb362) (BK362.1) hb); replace HB := hqZ (za0 (HB.1) hb); clear hb ho0; obtain ⟨Ao15, co15, eo15⟩ := Kd.R_slice HO365.1; subst eo15; have p366 : 0 ≤ (a1 : Int) := of_decide_eq_true (by assumption); have q366 : a1 < (t363.length : Int) := of_decide_eq_true (by assumption); obtain ⟨ad366, e366, hx366_0⟩ := Kd.at_int (Kd.R_reads' HO365.1).2.2 a1 p366 q366; cases e366; replace p366 := eq_true p366; replace q366 := eq_true q366))
  go_roundg k1
  case measure => have := HK1.1; omega
  case rel => exact ⟨(wrap64 (x9_1 + 1)), (rfl), H', ⟨by have := HK1.1; omega⟩, ⟨BK362.1⟩, ⟨HB.1⟩⟩
def yn1.f (k : Nat) (l0_0 : List (List Int)) (a1 : Int) : Option (Bool) := (yj1.f k l0_0 a1).bind fun t368 => (if t368 = true then ((yb1.f k l0_0 a1).bind fun t369 => (some t369)) else (some false))
theorem yn1.mono : ∀ a0 a1 k, LeO (yn1.f k a0 a1) (yn1.f (k + 1) a0 a1) := by
 intro a0 a1 k
 unfold yn1.f
 repeat' (with_reducible first | exact yb1.mono _ _ _ | exact yj1.mono _ _ _ | exact LeO.refl _ | exact LeO.none _ | refine LeO.ite ?_ ?_ | refine LeO.bind ?_ (fun _ => ?_))
theorem yn1.calls (k : Nat) (A0_0 : Option Addr) (c0_0 : Nat) (l0_0 : List (List Int)) (a1 : Int) (r : Bool) (w : World) (hr0_0 : Kd.C (Kd.slice 3 (Kd.int .i64)) w A0_0 l0_0.length l0_0) (hc0_0 : l0_0.length ≤ c0_0) (h : yn1.f k l0_0 a1 = some r) :
  Calls Try.prog 50 #[.agg #[.slice A0_0 l0_0.length c0_0], .int .i64 a1] w fun e w' => e = .returned (.bool r) ∧ Below w.heap.size w w' := by
 have hu26 := Try.underlying26
 have HR0_0 := hqZ hr0_0
 have HC0_0 := hqZ hc0_0
 clear hr0_0 hc0_0
 have HB := hqZ (Below.refl w.heap.size w)
 have H : ((yj1.f k l0_0 a1).bind fun t368 => (if t368 = true then ((yb1.f k l0_0 a1).bind fun t369 => (some t369)) else (some false))) = some r := h
 clear h
 replace H := Option.bind_eq_some_iff.mp H
 obtain ⟨t368, A30, H⟩ := H
 try dsimp only at H
 have A3 := hqZ A30
 clear A30
 by_cases c4 : t368 = true
 rotate_left
 ·replace c4 := Bool.eq_false_iff.mpr c4
  subst c4
  rw [if_neg (show ¬ (false = true) by decide)] at H
  obtain rfl := Option.some.inj H
  go_enter Try.func50, Try.ntmps50
  go_wp2_with (first | ((with_reducible refine zo0 (N := 2) rfl ?_); refine zp0 ?hg (N := 2) ?hd (cs := #[.slice A0_0 l0_0.length c0_0]) (t := 26) ?hr ?_; (case hd | hg => rfl); (case hr => go_simp <;> rfl); intro gb367 hg w11 hbox hb; have BK367 := hqZ (hbox); have GW367 := hqZ ((by rw [hg]; exact (zb0 (HB.1)) : w.heap.size ≤ gb367)); have GE367 := hqZ ((by rw [hg]; exact (zb0 (HB.1)) : w.heap.size ≤ gb367)); replace HB := hqZ (za0 (HB.1) hb); clear hb hbox hg; have hcz12_0 : w11.cell? ⟨gb367, 0, none⟩ = some (.slice A0_0 l0_0.length c0_0) := (zh0 BK367.1 0).trans rfl; have hfz12_0 := zd0 BK367.1 0) | ((with_reducible refine ze0 (f := 41) rfl ?_); refine zq0 (some 7) rfl rfl Try.func41 (by kernel_rfl) rfl #[.agg #[.slice A0_0 l0_0.length c0_0], .int .i64 a1] rfl (by simp only [hqa, hqb, hqc]; rfl) ?_; (with_reducible refine (yj1.calls k _ _ l0_0 a1 false _ ?side1 ?side2 A3.1).mono ?_); (case side1 => exact (Kd.C_below HR0_0.1 HB.1)); (case side2 => exact HC0_0.1); rintro e w13 ⟨rfl, hb⟩; refine ⟨_, rfl, ?_⟩; replace BK367 := hqZ (zc0 (g := gb367) (BK367.1) hb); replace HB := hqZ (za0 (HB.1) hb); clear hb))
  go_ret
  exact ⟨rfl, HB.1⟩
 subst c4
 rw [if_pos rfl] at H
 replace H := Option.bind_eq_some_iff.mp H
 obtain ⟨t369, A50, H⟩ := H
 try dsimp only at H
 have A5 := hqZ A50
 clear A50
 obtain rfl := Option.some.inj H
 go_enter Try.func50, Try.ntmps50
 go_wp2_with (first | ((with_reducible refine zo0 (N := 2) rfl ?_); refine zp0 ?hg (N := 2) ?hd (cs := #[.slice A0_0 l0_0.length c0_0]) (t := 26) ?hr ?_; (case hd | hg => rfl); (case hr => go_simp <;> rfl); intro gb367 hg w6 hbox hb; have BK367 := hqZ (hbox); have GW367 := hqZ ((by rw [hg]; exact (zb0 (HB.1)) : w.heap.size ≤ gb367)); have GE367 := hqZ ((by rw [hg]; exact (zb0 (HB.1)) : w.heap.size ≤ gb367)); replace HB := hqZ (za0 (HB.1) hb); clear hb hbox hg; have hcz7_0 : w6.cell? ⟨gb367, 0, none⟩ = some (.slice A0_0 l0_0.length c0_0) := (zh0 BK367.1 0).trans rfl; have hfz7_0 := zd0 BK367.1 0) | ((with_reducible refine ze0 (f := 41) rfl ?_); refine zq0 (some 7) rfl rfl Try.func41 (by kernel_rfl) rfl #[.agg #[.slice A0_0 l0_0.length c0_0], .int .i64 a1] rfl (by simp only [hqa, hqb, hqc]; rfl) ?_; (with_reducible refine (yj1.calls k _ _ l0_0 a1 true _ ?side1 ?side2 A3.1).mono ?_); (case side1 => exact (Kd.C_below HR0_0.1 HB.1)); (case side2 => exact HC0_0.1); rintro e w8 ⟨rfl, hb⟩; refine ⟨_, rfl, ?_⟩; replace BK367 := hqZ (zc0 (g := gb367) (BK367.1) hb); replace HB := hqZ (za0 (HB.1) hb); clear hb; have hcz9_0 : w8.cell? ⟨gb367, 0, none⟩ = some (.slice A0_0 l0_0.length c0_0) := (zh0 BK367.1 0).trans rfl; have hfz9_0 := zd0 BK367.1 0) | (go_at_call 66; (with_reducible refine (yb1.calls k _ _ l0_0 a1 t369 _ ?side1 ?side2 A5.1).mono ?_); (case side1 => exact (Kd.C_below HR0_0.1 HB.1)); (case side2 => exact HC0_0.1); rintro e w10 ⟨rfl, hb⟩; replace BK367 := hqZ (zc0 (g := gb367) (BK367.1) hb); replace HB := hqZ (za0 (HB.1) hb); clear hb))
 go_ret
 exact ⟨rfl, HB.1⟩
def yq0.f (k : Nat) (l0_0 : List (List Int)) (a1 : Int) (l2 : List Int) : Option (Bool) := (yn1.f k l0_0 a1).bind fun t371 => (if t371 = true then (if (l2.length : Int) = (l0_0.length : Int) then ((yo0.f k l2 0 20).bind fun t372 => (if t372 = true then (if 0 ≤ a1 then (if a1 < (l2.length : Int) then (some ((rd l2 a1) == 0)) else (none)) else (none)) else (some false))) else (some false)) else (some false))
theorem yq0.mono : ∀ a0 a1 a2 k, LeO (yq0.f k a0 a1 a2) (yq0.f (k + 1) a0 a1 a2) := by
 intro a0 a1 a2 k
 unfold yq0.f
 repeat' (with_reducible first | exact yn1.mono _ _ _ | exact yo0.mono _ _ _ _ | exact LeO.refl _ | exact LeO.none _ | refine LeO.ite ?_ ?_ | refine LeO.bind ?_ (fun _ => ?_))
theorem yq0.calls (k : Nat) (A0_0 : Option Addr) (c0_0 : Nat) (l0_0 : List (List Int)) (a1 : Int) (A2 : Option Addr) (c2 : Nat) (l2 : List Int) (r : Bool) (w : World) (hr0_0 : Kd.C (Kd.slice 3 (Kd.int .i64)) w A0_0 l0_0.length l0_0) (hc0_0 : l0_0.length ≤ c0_0) (hr2 : Kd.C (Kd.int .i64) w A2 l2.length l2) (hc2 : l2.length ≤ c2) (h : yq0.f k l0_0 a1 l2 = some r) :
  Calls Try.prog 30 #[.agg #[.slice A0_0 l0_0.length c0_0], .int .i64 a1, .slice A2 l2.length c2] w fun e w' => e = .returned (.bool r) ∧ Below w.heap.size w w' := by
 have hu26 := Try.underlying26
 have HR0_0 := hqZ hr0_0
 have HC0_0 := hqZ hc0_0
 clear hr0_0 hc0_0
 have HR2 := hqZ hr2
 have HC2 := hqZ hc2
 clear hr2 hc2
 have HB := hqZ (Below.refl w.heap.size w)
 have H : ((yn1.f k l0_0 a1).bind fun t371 => (if t371 = true then (if (l2.length : Int) = (l0_0.length : Int) then ((yo0.f k l2 0 20).bind fun t372 => (if t372 = true then (if 0 ≤ a1 then (if a1 < (l2.length : Int) then (some ((rd l2 a1) == 0)) else (none)) else (none)) else (some false))) else (some false)) else (some false))) = some r := h
 clear h
 replace H := Option.bind_eq_some_iff.mp H
 obtain ⟨t371, A40, H⟩ := H
 try dsimp only at H
 have A4 := hqZ A40
 clear A40
 by_cases c5 : t371 = true
 rotate_left
 ·replace c5 := Bool.eq_false_iff.mpr c5
  subst c5
  rw [if_neg (show ¬ (false = true) by decide)] at H
  obtain rfl := Option.some.inj H
  go_enter Try.func30, Try.ntmps30
  go_wp2_with (first | ((with_reducible refine zo0 (N := 3) rfl ?_); (try (refine gate_guard (by rfl) ?_; dsimp only)); refine zp0 ?hg (N := 3) ?hd (cs := #[.slice A0_0 l0_0.length c0_0]) (t := 26) ?hr ?_; (case hd | hg => rfl); (case hr => go_simp <;> rfl); intro gb370 hg w23 hbox hb; have BK370 := hqZ (hbox); have GW370 := hqZ ((by rw [hg]; exact (zb0 (HB.1)) : w.heap.size ≤ gb370)); have GE370 := hqZ ((by rw [hg]; exact (zb0 (HB.1)) : w.heap.size ≤ gb370)); replace HB := hqZ (za0 (HB.1) hb); clear hb hbox hg; have hcz24_0 : w23.cell? ⟨gb370, 0, none⟩ = some (.slice A0_0 l0_0.length c0_0) := (zh0 BK370.1 0).trans rfl; have hfz24_0 := zd0 BK370.1 0) | ((with_reducible refine ze0 (f := 50) rfl ?_); refine zq0 (some 9) rfl rfl Try.func50 (by kernel_rfl) rfl #[.agg #[.slice A0_0 l0_0.length c0_0], .int .i64 a1] rfl (by simp only [hqa, hqb, hqc]; rfl) ?_; (with_reducible refine (yn1.calls k _ _ l0_0 a1 false _ ?side1 ?side2 A4.1).mono ?_); (case side1 => exact (Kd.C_below HR0_0.1 HB.1)); (case side2 => exact HC0_0.1); rintro e w25 ⟨rfl, hb⟩; refine ⟨_, rfl, ?_⟩; replace BK370 := hqZ (zc0 (g := gb370) (BK370.1) hb); replace HB := hqZ (za0 (HB.1) hb); clear hb))
  go_ret
  exact ⟨rfl, HB.1⟩
 subst c5
 rw [if_pos rfl] at H
 by_cases c6 : (l2.length : Int) = (l0_0.length : Int)
 rotate_left
 ·rw [if_neg c6] at H
  have c6b0 : ((l2.length : Int) == (l0_0.length : Int)) = false := beq_eq_false_iff_ne.mpr c6
  have c6b1 : ((l2.length : Int) != (l0_0.length : Int)) = true := bne_iff_ne.mpr c6
  have c6b2 : (l2.length == l0_0.length) = false := by first | simpa using c6 | (simp at c6 ⊢; omega)
  obtain rfl := Option.some.inj H
  go_enter Try.func30, Try.ntmps30
  go_wp2_with (first | ((with_reducible refine zo0 (N := 3) rfl ?_); (try (refine gate_guard (by rfl) ?_; dsimp only)); refine zp0 ?hg (N := 3) ?hd (cs := #[.slice A0_0 l0_0.length c0_0]) (t := 26) ?hr ?_; (case hd | hg => rfl); (case hr => go_simp <;> rfl); intro gb370 hg w19 hbox hb; have BK370 := hqZ (hbox); have GW370 := hqZ ((by rw [hg]; exact (zb0 (HB.1)) : w.heap.size ≤ gb370)); have GE370 := hqZ ((by rw [hg]; exact (zb0 (HB.1)) : w.heap.size ≤ gb370)); replace HB := hqZ (za0 (HB.1) hb); clear hb hbox hg; have hcz20_0 : w19.cell? ⟨gb370, 0, none⟩ = some (.slice A0_0 l0_0.length c0_0) := (zh0 BK370.1 0).trans rfl; have hfz20_0 := zd0 BK370.1 0) | ((with_reducible refine ze0 (f := 50) rfl ?_); refine zq0 (some 9) rfl rfl Try.func50 (by kernel_rfl) rfl #[.agg #[.slice A0_0 l0_0.length c0_0], .int .i64 a1] rfl (by simp only [hqa, hqb, hqc]; rfl) ?_; (with_reducible refine (yn1.calls k _ _ l0_0 a1 true _ ?side1 ?side2 A4.1).mono ?_); (case side1 => exact (Kd.C_below HR0_0.1 HB.1)); (case side2 => exact HC0_0.1); rintro e w21 ⟨rfl, hb⟩; refine ⟨_, rfl, ?_⟩; replace BK370 := hqZ (zc0 (g := gb370) (BK370.1) hb); replace HB := hqZ (za0 (HB.1) hb); clear hb; have hcz22_0 : w21.cell? ⟨gb370, 0, none⟩ = some (.slice A0_0 l0_0.length c0_0) := (zh0 BK370.1 0).trans rfl; have hfz22_0 := zd0 BK370.1 0))
  go_ret
  exact ⟨rfl, HB.1⟩
 rw [if_pos c6] at H
 have c6b0 : ((l2.length : Int) == (l0_0.length : Int)) = true := beq_iff_eq.mpr c6
 have c6b1 : ((l2.length : Int) != (l0_0.length : Int)) = false := bne_eq_false_iff_eq.mpr c6
 have c6b2 : (l2.length == l0_0.length) = true := by first | simpa using c6 | (simp at c6 ⊢; omega)
 clear c6
 replace H := Option.bind_eq_some_iff.mp H
 obtain ⟨t372, A70, H⟩ := H
 try dsimp only at H
 have A7 := hqZ A70
 clear A70
 by_cases c8 : t372 = true
 rotate_left
 ·replace c8 := Bool.eq_false_iff.mpr c8
  subst c8
  rw [if_neg (show ¬ (false = true) by decide)] at H
  obtain rfl := Option.some.inj H
  go_enter Try.func30, Try.ntmps30
  go_wp2_with (first | ((with_reducible refine zo0 (N := 3) rfl ?_); (try (refine gate_guard (by rfl) ?_; dsimp only)); refine zp0 ?hg (N := 3) ?hd (cs := #[.slice A0_0 l0_0.length c0_0]) (t := 26) ?hr ?_; (case hd | hg => rfl); (case hr => go_simp <;> rfl); intro gb370 hg w15 hbox hb; have BK370 := hqZ (hbox); have GW370 := hqZ ((by rw [hg]; exact (zb0 (HB.1)) : w.heap.size ≤ gb370)); have GE370 := hqZ ((by rw [hg]; exact (zb0 (HB.1)) : w.heap.size ≤ gb370)); replace HB := hqZ (za0 (HB.1) hb); clear hb hbox hg; have hcz16_0 : w15.cell? ⟨gb370, 0, none⟩ = some (.slice A0_0 l0_0.length c0_0) := (zh0 BK370.1 0).trans rfl; have hfz16_0 := zd0 BK370.1 0) | ((with_reducible refine ze0 (f := 50) rfl ?_); refine zq0 (some 9) rfl rfl Try.func50 (by kernel_rfl) rfl #[.agg #[.slice A0_0 l0_0.length c0_0], .int .i64 a1] rfl (by simp only [hqa, hqb, hqc]; rfl) ?_; (with_reducible refine (yn1.calls k _ _ l0_0 a1 true _ ?side1 ?side2 A4.1).mono ?_); (case side1 => exact (Kd.C_below HR0_0.1 HB.1)); (case side2 => exact HC0_0.1); rintro e w17 ⟨rfl, hb⟩; refine ⟨_, rfl, ?_⟩; replace BK370 := hqZ (zc0 (g := gb370) (BK370.1) hb); replace HB := hqZ (za0 (HB.1) hb); clear hb; have hcz18_0 : w17.cell? ⟨gb370, 0, none⟩ = some (.slice A0_0 l0_0.length c0_0) := (zh0 BK370.1 0).trans rfl; have hfz18_0 := zd0 BK370.1 0) | (go_at_call 44; (with_reducible refine (yo0.calls k _ _ l2 0 20 false _ ?side1 ?side2 A7.1).mono ?_); (case side1 => exact (Kd.C_below HR2.1 HB.1)); (case side2 => exact HC2.1); rintro e w' ⟨rfl, ⟨nd, rfl⟩⟩))
  go_ret
  exact ⟨rfl, hqB HB.1⟩
 subst c8
 rw [if_pos rfl] at H
 by_cases c9 : 0 ≤ a1
 rotate_left
 ·rw [if_neg c9] at H
  exact absurd H (by simp)
 rw [if_pos c9] at H
 have c9b0 : decide (0 ≤ a1) = true := decide_eq_true c9
 clear c9
 by_cases c10 : a1 < (l2.length : Int)
 rotate_left
 ·rw [if_neg c10] at H
  exact absurd H (by simp)
 rw [if_pos c10] at H
 have c10b0 : decide (a1 < (l2.length : Int)) = true := decide_eq_true c10
 clear c10
 obtain rfl := Option.some.inj H
 go_enter Try.func30, Try.ntmps30
 go_wp2_with (first | ((with_reducible refine zo0 (N := 3) rfl ?_); (try (refine gate_guard (by rfl) ?_; dsimp only)); refine zp0 ?hg (N := 3) ?hd (cs := #[.slice A0_0 l0_0.length c0_0]) (t := 26) ?hr ?_; (case hd | hg => rfl); (case hr => go_simp <;> rfl); intro gb370 hg w11 hbox hb; have BK370 := hqZ (hbox); have GW370 := hqZ ((by rw [hg]; exact (zb0 (HB.1)) : w.heap.size ≤ gb370)); have GE370 := hqZ ((by rw [hg]; exact (zb0 (HB.1)) : w.heap.size ≤ gb370)); replace HB := hqZ (za0 (HB.1) hb); clear hb hbox hg; have hcz12_0 : w11.cell? ⟨gb370, 0, none⟩ = some (.slice A0_0 l0_0.length c0_0) := (zh0 BK370.1 0).trans rfl; have hfz12_0 := zd0 BK370.1 0) | ((with_reducible refine ze0 (f := 50) rfl ?_); refine zq0 (some 9) rfl rfl Try.func50 (by kernel_rfl) rfl #[.agg #[.slice A0_0 l0_0.length c0_0], .int .i64 a1] rfl (by simp only [hqa, hqb, hqc]; rfl) ?_; (with_reducible refine (yn1.calls k _ _ l0_0 a1 true _ ?side1 ?side2 A4.1).mono ?_); (case side1 => exact (Kd.C_below HR0_0.1 HB.1)); (case side2 => exact HC0_0.1); rintro e w13 ⟨rfl, hb⟩; refine ⟨_, rfl, ?_⟩; replace BK370 := hqZ (zc0 (g := gb370) (BK370.1) hb); replace HB := hqZ (za0 (HB.1) hb); clear hb; have hcz14_0 : w13.cell? ⟨gb370, 0, none⟩ = some (.slice A0_0 l0_0.length c0_0) := (zh0 BK370.1 0).trans rfl; have hfz14_0 := zd0 BK370.1 0) | (go_at_call 44; (with_reducible refine (yo0.calls k _ _ l2 0 20 true _ ?side1 ?side2 A7.1).mono ?_); (case side1 => exact (Kd.C_below HR2.1 HB.1)); (case side2 => exact HC2.1); rintro e w' ⟨rfl, ⟨nd, rfl⟩⟩; have p373 : 0 ≤ (a1 : Int) := of_decide_eq_true (by assumption); have q373 : a1 < (l2.length : Int) := of_decide_eq_true (by assumption); obtain ⟨ad373, e373, hx373_0⟩ := Kd.at_int HR2.1 a1 p373 q373; cases e373; replace hx373_0 := (HB.1.cell (World.block_lt_of_cell? w _ hx373_0)).trans hx373_0; replace p373 := eq_true p373; replace q373 := eq_true q373))
 go_ret
 exact ⟨rfl, hqB HB.1⟩
def ym0.l0 : Nat → Int → List Int → Int → Int → List (List Int) → Option (Int)
 | 0, _, _, _, _, _ => none
 | k + 1, x1, x9, x10, x11, x375000 => if x11 < x10 then (if 0 ≤ x11 then (if x11 < (x9.length : Int) then (if x11 = x1 then (ym0.l0 k x1 x9 x10 (wrap64 (x11 + 1)) x375000) else (if x11 < (x375000.length : Int) then (if (rd x9 x11) ≥ ((rd_L2 x375000 x11).length : Int) then (some x11) else (ym0.l0 k x1 x9 x10 (wrap64 (x11 + 1)) x375000)) else (none))) else (none)) else (none)) else (some (-1))
def ym0.f (k : Nat) (l0_0 : List (List Int)) (a1 : Int) (l2 : List Int) : Option (Int) := ym0.l0 k a1 l2 (l2.length : Int) 0 l0_0
theorem ym0.mono_l : ∀ k, (∀ y0 y1 y2 y3 y4, LeO (ym0.l0 k y0 y1 y2 y3 y4) (ym0.l0 (k + 1) y0 y1 y2 y3 y4))
 | 0 => fun _ _ _ _ _ r h => by simp [ym0.l0] at h
 | k + 1 => by
  have ih0 := ym0.mono_l k
  ·intro y0 y1 y2 y3 y4
   unfold ym0.l0
   repeat' (with_reducible first | exact ih0 _ _ _ _ _ | exact LeO.refl _ | exact LeO.none _ | refine LeO.ite ?_ ?_ | refine LeO.bind ?_ (fun _ => ?_))
theorem ym0.mono : ∀ a0 a1 a2 k, LeO (ym0.f k a0 a1 a2) (ym0.f (k + 1) a0 a1 a2) := by
 intro a0 a1 a2 k
 have ih0 := ym0.mono_l k
 unfold ym0.f
 repeat' (with_reducible first | exact ih0 _ _ _ _ _ | exact LeO.refl _ | exact LeO.none _ | refine LeO.ite ?_ ?_ | refine LeO.bind ?_ (fun _ => ?_))
theorem ym0.calls (k : Nat) (A0_0 : Option Addr) (c0_0 : Nat) (l0_0 : List (List Int)) (a1 : Int) (A2 : Option Addr) (c2 : Nat) (l2 : List Int) (r : Int) (w : World) (hr0_0 : Kd.C (Kd.slice 3 (Kd.int .i64)) w A0_0 l0_0.length l0_0) (hc0_0 : l0_0.length ≤ c0_0) (hr2 : Kd.C (Kd.int .i64) w A2 l2.length l2) (hc2 : l2.length ≤ c2) (h : ym0.f k l0_0 a1 l2 = some r) :
  Calls Try.prog 33 #[.agg #[.slice A0_0 l0_0.length c0_0], .int .i64 a1, .slice A2 l2.length c2] w fun e w' => e = .returned (.int .i64 r) ∧ Below w.heap.size w w' := by
 have hu26 := Try.underlying26
 have HR0_0 := hqZ hr0_0
 have HC0_0 := hqZ hc0_0
 clear hr0_0 hc0_0
 have HR2 := hqZ hr2
 have HC2 := hqZ hc2
 clear hr2 hc2
 have HB := hqZ (Below.refl w.heap.size w)
 have H : (ym0.l0 k a1 l2 (l2.length : Int) 0 l0_0) = some r := h
 clear h
 have H' := hqZ H
 clear H
 go_enter Try.func33, Try.ntmps33
 go_wp2_with (first | ((with_reducible refine zo0 (N := 3) rfl ?_); (try (refine gate_guard (by rfl) ?_; dsimp only)); refine zp0 ?hg (N := 3) ?hd (cs := #[.slice A0_0 l0_0.length c0_0]) (t := 26) ?hr ?_; (case hd | hg => rfl); (case hr => go_simp <;> rfl); intro gb374 hg w4 hbox hb; have BK374 := hqZ (hbox); have GW374 := hqZ ((by rw [hg]; exact (zb0 (HB.1)) : w.heap.size ≤ gb374)); have GE374 := hqZ ((by rw [hg]; exact (zb0 (HB.1)) : w.heap.size ≤ gb374)); replace HB := hqZ (za0 (HB.1) hb); clear hb hbox hg))
 go_loopg [11] k (fun kq v11 w' => ∃ (x11_1 : Int), v11 = .int .i64 x11_1 ∧ zi0 (ym0.l0 kq a1 l2 (l2.length : Int) x11_1 l0_0 = some r) ∧ zi0 (kq ≤ k) ∧ zi0 (w'.heap[gb374]? = some (.cells #[(.slice A0_0 l0_0.length c0_0)] 26 (0, 0))) ∧ zi0 (Below w.heap.size w w'))
 case atStart => exact ⟨(0), (rfl), H', ⟨Nat.le_refl _⟩, ⟨BK374.1⟩, ⟨HB.1⟩⟩
 case round =>
  clear H'
  try clear c2
  try clear p2
  try clear c3
  obtain ⟨x11_1, rfl, HA, HK1, BK374, HB⟩ := hrel
  obtain _ | k1 := gk
  ·exact absurd HA.1 (by simp [ym0.l0])
  have H := HA.1
  clear HA
  simp only [ym0.l0] at H
  by_cases c5 : x11_1 < (l2.length : Int)
  rotate_left
  ·rw [if_neg c5] at H
   have c5b0 : decide (x11_1 < (l2.length : Int)) = false := decide_eq_false c5
   clear c5
   obtain rfl := Option.some.inj H
   go_wp2
   go_ret
   exact ⟨rfl, HB.1⟩
  rw [if_pos c5] at H
  have c5b0 : decide (x11_1 < (l2.length : Int)) = true := decide_eq_true c5
  clear c5
  by_cases c6 : 0 ≤ x11_1
  rotate_left
  ·rw [if_neg c6] at H
   exact absurd H (by simp)
  rw [if_pos c6] at H
  have c6b0 : decide (0 ≤ x11_1) = true := decide_eq_true c6
  clear c6
  by_cases c7 : x11_1 < (l2.length : Int)
  rotate_left
  ·rw [if_neg c7] at H
   exact absurd H (by simp)
  rw [if_pos c7] at H
  have c7b0 : decide (x11_1 < (l2.length : Int)) = true := decide_eq_true c7
  clear c7
  by_cases c8 : x11_1 = a1
  ·rw [if_pos c8] at H
   have c8b0 : (x11_1 == a1) = true := beq_iff_eq.mpr c8
   have c8b1 : (x11_1 != a1) = false := bne_eq_false_iff_eq.mpr c8
   clear c8
   have H' := hqZ H
   clear H
   have p375 : 0 ≤ (x11_1 : Int) := of_decide_eq_true (by assumption)
   have q375 : x11_1 < (l2.length : Int) := of_decide_eq_true (by assumption)
   obtain ⟨ad375, e375, hx375_0⟩ := Kd.at_int HR2.1 x11_1 p375 q375
   cases e375
   replace hx375_0 := (HB.1.cell (World.block_lt_of_cell? w _ hx375_0)).trans hx375_0
   replace p375 := eq_true p375
   replace q375 := eq_true q375
   go_wp2
   go_roundg k1
   case measure => have := HK1.1; omega
   case rel => exact ⟨(wrap64 (x11_1 + 1)), (rfl), H', ⟨by have := HK1.1; omega⟩, ⟨BK374.1⟩, ⟨HB.1⟩⟩
  rw [if_neg c8] at H
  have c8b0 : (x11_1 == a1) = false := beq_eq_false_iff_ne.mpr c8
  have c8b1 : (x11_1 != a1) = true := bne_iff_ne.mpr c8
  by_cases c9 : x11_1 < (l0_0.length : Int)
  rotate_left
  ·rw [if_neg c9] at H
   exact absurd H (by simp)
  rw [if_pos c9] at H
  have c9b0 : decide (x11_1 < (l0_0.length : Int)) = true := decide_eq_true c9
  clear c9
  by_cases c10 : (rd l2 x11_1) ≥ ((rd_L2 l0_0 x11_1).length : Int)
  ·rw [if_pos c10] at H
   have c10b0 : decide (((rd_L2 l0_0 x11_1).length : Int) ≤ (rd l2 x11_1)) = true := decide_eq_true c10
   clear c10
   obtain rfl := Option.some.inj H
   have p375 : 0 ≤ (x11_1 : Int) := of_decide_eq_true (by assumption)
   have q375 : x11_1 < (l2.length : Int) := of_decide_eq_true (by assumption)
   obtain ⟨ad375, e375, hx375_0⟩ := Kd.at_int HR2.1 x11_1 p375 q375
   cases e375
   replace hx375_0 := (HB.1.cell (World.block_lt_of_cell? w _ hx375_0)).trans hx375_0
   replace p375 := eq_true p375
   replace q375 := eq_true q375
   have hcz11_0 : wr.cell? ⟨gb374, 0, none⟩ = some (.slice A0_0 l0_0.length c0_0) := (zh0 BK374.1 0).trans rfl
   have hfz11_0 := zd0 BK374.1 0
   have p376 : 0 ≤ (x11_1 : Int) := of_decide_eq_true (by assumption)
   have q376 : x11_1 < (l0_0.length : Int) := of_decide_eq_true (by assumption)
   obtain ⟨ad376, A376_0, c376_0, e376, hx376_0, hl376_0, hi376_0⟩ := at_L2 HR0_0.1 x11_1 p376 q376
   cases e376
   replace hx376_0 := (HB.1.cell (World.block_lt_of_cell? w _ hx376_0)).trans hx376_0
   have HR376_0 := hqZ hi376_0
   have HC376_0 := hqZ hl376_0
   clear hi376_0 hl376_0
   replace p376 := eq_true p376
   replace q376 := eq_true q376
   go_wp2
   go_ret
   exact ⟨rfl, HB.1⟩
  rw [if_neg c10] at H
  have c10b0 : decide (((rd_L2 l0_0 x11_1).length : Int) ≤ (rd l2 x11_1)) = false := decide_eq_false c10
  clear c10
  have H' := hqZ H
  clear H
  have p375 : 0 ≤ (x11_1 : Int) := of_decide_eq_true (by assumption)
  have q375 : x11_1 < (l2.length : Int) := of_decide_eq_true (by assumption)
  obtain ⟨ad375, e375, hx375_0⟩ := Kd.at_int HR2.1 x11_1 p375 q375
  cases e375
  replace hx375_0 := (HB.1.cell (World.block_lt_of_cell? w _ hx375_0)).trans hx375_0
  replace p375 := eq_true p375
  replace q375 := eq_true q375
  have hcz12_0 : wr.cell? ⟨gb374, 0, none⟩ = some (.slice A0_0 l0_0.length c0_0) := (zh0 BK374.1 0).trans rfl
  have hfz12_0 := zd0 BK374.1 0
  have p376 : 0 ≤ (x11_1 : Int) := of_decide_eq_true (by assumption)
  have q376 : x11_1 < (l0_0.length : Int) := of_decide_eq_true (by assumption)
  obtain ⟨ad376, A376_0, c376_0, e376, hx376_0, hl376_0, hi376_0⟩ := at_L2 HR0_0.1 x11_1 p376 q376
  cases e376
  replace hx376_0 := (HB.1.cell (World.block_lt_of_cell? w _ hx376_0)).trans hx376_0
  have HR376_0 := hqZ hi376_0
  have HC376_0 := hqZ hl376_0
  clear hi376_0 hl376_0
  replace p376 := eq_true p376
  replace q376 := eq_true q376
  go_wp2
  go_roundg k1
  case measure => have := HK1.1; omega
  case rel => exact ⟨(wrap64 (x11_1 + 1)), (rfl), H', ⟨by have := HK1.1; omega⟩, ⟨BK374.1⟩, ⟨HB.1⟩⟩
def yl0.l0 : Nat → Int → List Int → List Int → Int → Int → Option (List Int)
 | 0, _, _, _, _, _ => none
 | k + 1, x1, x2, x26, x27, x28 => if x28 < x27 then (if 0 ≤ x28 then (if x28 < (x26.length : Int) then (if (rd x26 x28) = x1 then (yl0.l0 k x1 x2 x26 x27 (wrap64 (x28 + 1))) else (if 0 ≤ (rd x26 x28) then (if (rd x26 x28) < (x2.length : Int) then (yl0.l0 k x1 (x2.set ((rd x26 x28) : Int).toNat (wrap64 ((rd x2 (rd x26 x28)) + 1))) x26 x27 (wrap64 (x28 + 1))) else (none)) else (none))) else (none)) else (none)) else (some x2)
def yl0.f (k : Nat) (l0_0 : List (List Int)) (a1 : Int) (l2 : List Int) (a3 : Int) : Option (List Int) := if 0 ≤ a3 then (if a3 < (l2.length : Int) then (if a3 < (l0_0.length : Int) then (yl0.l0 k a1 (l2.set (a3 : Int).toNat (wrap64 ((rd l2 a3) - ((rd_L2 l0_0 a3).length : Int)))) (rd_L2 l0_0 a3) ((rd_L2 l0_0 a3).length : Int) 0) else (none)) else (none)) else (none)
theorem yl0.mono_l : ∀ k, (∀ y0 y1 y2 y3 y4, LeO (yl0.l0 k y0 y1 y2 y3 y4) (yl0.l0 (k + 1) y0 y1 y2 y3 y4))
 | 0 => fun _ _ _ _ _ r h => by simp [yl0.l0] at h
 | k + 1 => by
  have ih0 := yl0.mono_l k
  ·intro y0 y1 y2 y3 y4
   unfold yl0.l0
   repeat' (with_reducible first | exact ih0 _ _ _ _ _ | exact LeO.refl _ | exact LeO.none _ | refine LeO.ite ?_ ?_ | refine LeO.bind ?_ (fun _ => ?_))
theorem yl0.mono : ∀ a0 a1 a2 a3 k, LeO (yl0.f k a0 a1 a2 a3) (yl0.f (k + 1) a0 a1 a2 a3) := by
 intro a0 a1 a2 a3 k
 have ih0 := yl0.mono_l k
 unfold yl0.f
 repeat' (with_reducible first | exact ih0 _ _ _ _ _ | exact LeO.refl _ | exact LeO.none _ | refine LeO.ite ?_ ?_ | refine LeO.bind ?_ (fun _ => ?_))
def yl0.T1 : Bool × List (List Nat × List Nat) := (true, [([], []), ([], []), ([0, 1], [0, 1]), ([2], [2]), ([], []), ([4], [4]), ([], []), ([5, 6], [5, 6]), ([7], [7]), ([8], [8]), ([3, 9], [3, 9]), ([0, 1, 0, 1, 2, 3, 4, 5, 6, 7, 8, 9, 10], [0, 1]), ([11, 10, 0, 1, 2, 3, 4, 5, 6, 7, 8, 9, 10], [10, 11])])
def yl0.B1 : List Nat := [0, 0, 3, 7, 0, 16, 0, 112, 240, 496, 1023, 2047, 4095]
theorem yl0.tab1 : rtab .any (opsOf Try.f43 1) = yl0.T1 := by kernel_rfl
theorem yl0.bits1 : waitsOk yl0.T1.2 yl0.B1 = true := by kernel_rfl
theorem yl0.calls (k : Nat) (A0_0 : Option Addr) (c0_0 : Nat) (l0_0 : List (List Int)) (a1 : Int) (P2_ : Nat → Prop) (u9000_ : Value) (l2 : List Int) (a3 : Int) (r : List Int) (w0 w : World) (hB : Below w0.heap.size w0 w) (hr0_0 : ∀ W_, Kept w W_ (fun k_ => P2_ k_) → Kd.C (Kd.slice 3 (Kd.int .i64)) W_ A0_0 l0_0.length l0_0) (hc0_0 : l0_0.length ≤ c0_0) (ho2 : Kd.R (Kd.int .i64) 3 w w0.heap.size P2_ u9000_ l2) (h : yl0.f k l0_0 a1 l2 a3 = some r) :
  Calls Try.prog 43 #[.agg #[.slice A0_0 l0_0.length c0_0], .int .i64 a1, u9000_, .int .i64 a3] w fun e w' => e = .returned (.tuple #[]) ∧ Kd.R (Kd.int .i64) 3 w' w0.heap.size (fun k_ => (P2_ k_ ∨ w.heap.size ≤ k_)) u9000_ r ∧ Below w0.heap.size w0 w' ∧ Kept w w' (fun k_ => P2_ k_) := by
 have hu26 := Try.underlying26
 have HR0_0 := hqZ hr0_0
 have HC0_0 := hqZ hc0_0
 clear hr0_0 hc0_0
 have HO2 := hqZ (show Kd.R (Kd.int .i64) 3 w w0.heap.size (fun k_ => (P2_ k_ ∨ w.heap.size ≤ k_)) u9000_ l2 from Kd.R_mono ho2 (fun k_ hk => (.inl hk)))
 have HK := hqZ (Kept.refl w (fun k_ => P2_ k_))
 have HW0 := hqZ hB.size
 have HB := hqZ hB
 clear hB
 have H : (if 0 ≤ a3 then (if a3 < (l2.length : Int) then (if a3 < (l0_0.length : Int) then (yl0.l0 k a1 (l2.set (a3 : Int).toNat (wrap64 ((rd l2 a3) - ((rd_L2 l0_0 a3).length : Int)))) (rd_L2 l0_0 a3) ((rd_L2 l0_0 a3).length : Int) 0) else (none)) else (none)) else (none)) = some r := h
 clear h
 by_cases c5 : 0 ≤ a3
 rotate_left
 ·rw [if_neg c5] at H
  exact absurd H (by simp)
 rw [if_pos c5] at H
 have c5b0 : decide (0 ≤ a3) = true := decide_eq_true c5
 clear c5
 by_cases c6 : a3 < (l2.length : Int)
 rotate_left
 ·rw [if_neg c6] at H
  exact absurd H (by simp)
 rw [if_pos c6] at H
 have c6b0 : decide (a3 < (l2.length : Int)) = true := decide_eq_true c6
 clear c6
 by_cases c7 : a3 < (l0_0.length : Int)
 rotate_left
 ·rw [if_neg c7] at H
  exact absurd H (by simp)
 rw [if_pos c7] at H
 have c7b0 : decide (a3 < (l0_0.length : Int)) = true := decide_eq_true c7
 clear c7
 obtain ⟨y380, hy380⟩ : ∃ y_ : List Int, y_ = (l2.set (a3 : Int).toNat (wrap64 ((rd l2 a3) - ((rd_L2 l0_0 a3).length : Int)))) := ⟨_, rfl⟩
 replace H : (yl0.l0 k a1 y380 (rd_L2 l0_0 a3) ((rd_L2 l0_0 a3).length : Int) 0) = some r := by first | (rw [hy380]; with_reducible exact H) | (have H2_ := (Option.bind_some _ _).symm.trans H; rw [hy380]; with_reducible exact H2_) | (have H2_ := (Option.bind_some _ _).symm.trans H; with_reducible exact H2_) | with_reducible exact H | (rw [hy380]; exact H) | exact H
 have Ny380 := hqZ hy380
 clear hy380
 have H' := hqZ H
 clear H
 go_enter Try.func43, Try.ntmps43
 try go_wp2_with (first | ((with_reducible refine zo0 (N := 4) rfl ?_); refine zp0 ?hg (N := 4) ?hd (cs := #[.slice A0_0 l0_0.length c0_0]) (t := 26) ?hr ?_; (case hd | hg => rfl); (case hr => go_simp <;> rfl); intro gb377 hg w9 hbox hb; replace HO2 := hqZ (Kd.R_below (HO2.1) hb); have BK377 := hqZ (hbox); have GW377 := hqZ ((by rw [hg]; exact (by first | exact HK.1.1 | exact (show Kept w _ (fun k_ => P2_ k_) from HK.1).1) : w.heap.size ≤ gb377)); replace HK := hqZ (Kept.below (S := (fun k_ => P2_ k_)) (HK.1) hb); have GE377 := hqZ ((by rw [hg]; exact (zb0 (HB.1)) : w0.heap.size ≤ gb377)); replace HB := hqZ (za0 (HB.1) hb); clear hb hbox hg))
 have n0_ := hqZ (Kd.R_drew HO2.1)
 have n1_ := hqZ (blk_drew BK377.1)
 have n2_ := hqZ (Kept.drew HK.1)
 have n3_ := hqZ (zk0 HB.1)
 clear HO2 BK377 HK HB
 have HO2 := n0_
 have BK377 := n1_
 have HK := n2_
 have HB := n3_
 clear n0_ n1_ n2_ n3_
 obtain ⟨Ao11, co11, eo11⟩ := Kd.R_slice HO2.1
 (first | subst eo11 | (injection eo11 with f1_ f2_ f3_; have f4_ := f1_.symm; have f5_ := f3_.symm; clear f1_ f2_ f3_; subst f4_; subst f5_))
 have p378 : 0 ≤ (a3 : Int) := of_decide_eq_true (by assumption)
 have q378 : a3 < (l2.length : Int) := of_decide_eq_true (by assumption)
 obtain ⟨ad378, e378, hx378_0⟩ := Kd.at_int (Kd.R_reads' HO2.1).2.2 a3 p378 q378
 cases e378
 replace p378 := eq_true p378
 replace q378 := eq_true q378
 have p379 : 0 ≤ (a3 : Int) := of_decide_eq_true (by assumption)
 have q379 : a3 < (l0_0.length : Int) := of_decide_eq_true (by assumption)
 obtain ⟨ad379, A379_0, c379_0, e379, hx379_0, hl379_0, hi379_0⟩ := kept_L2 HR0_0.1 HK.1 a3 p379 q379
 have hw379_0 := hx379_0
 cases e379
 have HR379_0 := hqZ hi379_0
 have HC379_0 := hqZ hl379_0
 clear hi379_0 hl379_0
 replace p379 := eq_true p379
 replace q379 := eq_true q379
 have p8 : 0 ≤ (a3 : Int) := of_decide_eq_true (by assumption)
 have q8 : (a3 : Int) < ((l2.length : Int) : Int) := of_decide_eq_true (by assumption)
 obtain ⟨go8, co8, eo8, gb8, gl8, cl8, HG8⟩ := Kd.R_form HO2.1 (by omega)
 (first | cases eo8 | (injection eo8 with ea_ en_ ec_; (first | subst ea_ | (injection ea_ with ea_; subst ea_)); subst ec_; clear en_))
 have GB8 := hqZ gb8
 have GG8 := hqZ HG8
 clear gb8 gl8 HG8
 have HMgo8 := hqZ (show (P2_ go8 ∨ w.heap.size ≤ go8) from (HO2.1.1 _ rfl))
 (first | simp only [add_plain] at hx378_0 | skip)
 obtain ⟨hx8_0, hf8_0⟩ := Kd.R_celln 0 HO2.1 (a3 : Int) p8 q8
 replace p8 := eq_true p8
 replace q8 := eq_true q8
 have HP12 := Kd.R_putn HO2.1 (a3 : Int) (wrap64 ((rd l2 a3) - ((rd_L2 l0_0 a3).length : Int)))
 rw [← Ny380.1] at HP12
 have HQ12 := hqZ HP12
 clear HP12
 refine start_ (n := 13) (S := fun w' => w'.cell? ⟨gb377, 0, none⟩ = some (.slice (some ad379) l0_0.length c0_0) ∧ w'.cell? ⟨go8, (a3).toNat, none⟩ = some (.int .i64 (rd l2 a3)) ∧ w'.cell? (ad379.add (a3).toNat) = some (.slice A379_0 (rd_L2 l0_0 a3).length c379_0)) (ds := [12]) #[false, false, false, false, false, false, false, false, false, false, false, false, false] (by kernel_rfl) rfl rfl ⟨(zh0 BK377.1 0).trans rfl, hx378_0, hx379_0⟩ (fun hHeld => ?_); refine with_tabW yl0.tab1 yl0.bits1 (fun HT_ HW_ => ?_)
 generalize w9.drew = w10 at HO2 BK377 HK HB GG8 HQ12 HR379_0 hf8_0 hx378_0 hx379_0 hx8_0 hHeld ⊢
 refine pure_ (i := 0) (N := some 10) (v := ?_) (a' := ?_) (bf 13 1) rfl rfl (zm0 HT_.1 (by kernel_rfl)) (fun _ _ _ h => h) (Or.inl ⟨by rfl, ?_⟩) ?_ ?_
 rotate_left
 ·intro w'; go_simp; with_reducible rfl
 rotate_left
 ·simp only [Act.put, zA, zB, zC, i64_w, i32_w]; rfl
 refine pure_ (i := 1) (N := some 11) (v := ?_) (a' := ?_) (bf 13 3) rfl rfl (zm0 HT_.1 (by kernel_rfl)) (fun _ _ _ h => h) (Or.inl ⟨by rfl, ?_⟩) ?_ ?_
 rotate_left
 ·intro w'; go_simp; with_reducible rfl
 rotate_left
 ·simp only [Act.put, zA, zB, zC, i64_w, i32_w]; rfl
 refine pure_ (i := 2) (N := some 12) (v := ?_) (a' := ?_) (bf 13 7) rfl rfl (zm0 HT_.1 (by kernel_rfl)) (fun _ _ _ h => h) (Or.inl ⟨by rfl, ?_⟩) ?_ ?_
 rotate_left
 ·intro w'; go_simp; with_reducible rfl
 rotate_left
 ·simp only [Act.put, zA, zB, zC, i64_w, i32_w]; rfl
 refine pure_ (i := 4) (N := some 14) (v := ?_) (a' := ?_) (bf 13 23) rfl rfl (zm0 HT_.1 (by kernel_rfl)) (fun _ _ _ h => h) (Or.inl ⟨by rfl, ?_⟩) ?_ ?_
 rotate_left
 ·intro w'; go_simp; with_reducible rfl
 rotate_left
 ·simp only [Act.put, zA, zB, zC, i64_w, i32_w]; rfl
 refine pure_ (i := 6) (N := some 16) (v := ?_) (a' := ?_) (bf 13 87) rfl rfl (zm0 HT_.1 (by kernel_rfl)) (fun _ _ _ h => h) (Or.inl ⟨by rfl, ?_⟩) ?_ ?_
 rotate_left
 ·intro w'; go_simp; with_reducible rfl
 rotate_left
 ·simp only [Act.put, zA, zB, zC, i64_w, i32_w]; rfl
 refine take_ (i := 3) (N := some 13) (v := ?_) (a' := ?_) (bf 13 95) rfl rfl (take_ofW HT_.1 HW_.1 (by kernel_rfl)) (fun _ _ _ h => h) (Or.inl ⟨by rfl, ?_⟩) hHeld ?_ ?_
 rotate_left
 ·rintro w' ⟨s0, s1, s2⟩; go_simp; with_reducible rfl
 rotate_left
 ·simp only [Act.put, zA, zB, zC, i64_w, i32_w]; rfl
 refine take_ (i := 5) (N := some 15) (v := ?_) (a' := ?_) (bf 13 127) rfl rfl (take_ofW HT_.1 HW_.1 (by kernel_rfl)) (fun _ _ _ h => h) (Or.inl ⟨by rfl, ?_⟩) hHeld ?_ ?_
 rotate_left
 ·rintro w' ⟨s0, s1, s2⟩; go_simp; with_reducible rfl
 rotate_left
 ·simp only [Act.put, zA, zB, zC, i64_w, i32_w]; rfl
 refine pure_ (i := 7) (N := some 17) (v := ?_) (a' := ?_) (bf 13 255) rfl rfl (zm0 HT_.1 (by kernel_rfl)) (fun _ _ _ h => h) (Or.inl ⟨by rfl, ?_⟩) ?_ ?_
 rotate_left
 ·intro w'; go_simp; with_reducible rfl
 rotate_left
 ·simp only [Act.put, zA, zB, zC, i64_w, i32_w]; rfl
 refine take_ (i := 8) (N := some 18) (v := ?_) (a' := ?_) (bf 13 511) rfl rfl (take_ofW HT_.1 HW_.1 (by kernel_rfl)) (fun _ _ _ h => h) (Or.inl ⟨by rfl, ?_⟩) hHeld ?_ ?_
 rotate_left
 ·rintro w' ⟨s0, s1, s2⟩; go_simp; with_reducible rfl
 rotate_left
 ·simp only [Act.put, zA, zB, zC, i64_w, i32_w]; rfl
 refine pure_ (i := 9) (N := some 19) (v := ?_) (a' := ?_) (bf 13 1023) rfl rfl (zm0 HT_.1 (by kernel_rfl)) (fun _ _ _ h => h) (Or.inl ⟨by rfl, ?_⟩) ?_ ?_
 rotate_left
 ·intro w'; go_simp; with_reducible rfl
 rotate_left
 ·simp only [Act.put, zA, zB, zC, i64_w, i32_w]; rfl
 refine pure_ (i := 10) (N := some 20) (v := ?_) (a' := ?_) (bf 13 2047) rfl rfl (zm0 HT_.1 (by kernel_rfl)) (fun _ _ _ h => h) (Or.inl ⟨by rfl, ?_⟩) ?_ ?_
 rotate_left
 ·intro w'; go_simp; with_reducible rfl
 rotate_left
 ·simp only [Act.put, zA, zB, zC, i64_w, i32_w]; rfl
 refine pure_ (i := 11) (N := some 21) (v := ?_) (a' := ?_) (bf 13 4095) rfl rfl (zm0 HT_.1 (by kernel_rfl)) (fun _ _ _ h => h) (Or.inl ⟨by rfl, ?_⟩) ?_ ?_
 rotate_left
 ·intro w'; go_simp; with_reducible rfl
 rotate_left
 ·simp only [Act.put, zA, zB, zC, i64_w, i32_w]; rfl
 refine last_ (i := 12) (N := none) (bf 13 8191) rfl rfl (one_of HT_.1 (by kernel_rfl)) (by decide) (fun K hK => ?_)
 refine skip_ (w1 := ?_) (by rfl) rfl ?_ ?_
 rotate_left
 ·go_simp
  rfl
 refine hK.out _ _ ?_
 clear hK K
 refine done_ (done_of HT_.1 (by kernel_rfl)) ?_
 have hcz13_0 : (w10.setCell ⟨go8, (a3 : Int).toNat, none⟩ (.int .i64 (wrap64 ((rd l2 a3) - ((rd_L2 l0_0 a3).length : Int))))).cell? ⟨gb377, 0, none⟩ = some (.slice (some ad379) l0_0.length c0_0) := (cell_far (p := ⟨go8, (a3 : Int).toNat, none⟩) (show gb377 ≠ go8 from (by have h_ := Kd.R_ne HO2.1 BK377.1 (by decide); intro e_; exact h_ (by rw [e_]; rfl))) (.int .i64 (wrap64 ((rd l2 a3) - ((rd_L2 l0_0 a3).length : Int))))).trans ((zh0 BK377.1 0).trans rfl)
 have hfz13_0 := zd0 BK377.1 0
 have p381 : 0 ≤ (a3 : Int) := of_decide_eq_true (by assumption)
 have q381 : a3 < (l0_0.length : Int) := of_decide_eq_true (by assumption)
 obtain ⟨ad381, A381_0, c381_0, e381, hx381_0, hl381_0, hi381_0⟩ := kept_L2 HR0_0.1 (show Kept w (w10.setCell ⟨go8, (a3 : Int).toNat, none⟩ (.int .i64 (wrap64 ((rd l2 a3) - ((rd_L2 l0_0 a3).length : Int))))) (fun k_ => P2_ k_) from by repeat (first | (with_reducible first | exact HK.1 | apply Kept.alloc | apply Kept.drewN | apply Kept.drew | refine Kept.setCell ?_ HMgo8.1 _ | refine Kept.setCell ?_ (.inr GW377.1) _) | exact HK.1)) a3 p381 q381
 obtain rfl : ad379 = ad381 := (by injection e381)
 have HR381_0 := hqZ hi381_0
 have HC381_0 := hqZ hl381_0
 clear hi381_0 hl381_0
 replace p381 := eq_true p381
 replace q381 := eq_true q381
 try go_wp2
 go_loopg [28] k (fun kq v28 w' => ∃ (x2_1 : List Int) (x28_1 : Int), v28 = .int .i64 x28_1 ∧ zi0 (yl0.l0 kq a1 x2_1 (rd_L2 l0_0 a3) ((rd_L2 l0_0 a3).length : Int) x28_1 = some r) ∧ zi0 (kq ≤ k) ∧ zi0 (Kd.R (Kd.int .i64) 3 w' w0.heap.size (fun k_ => (P2_ k_ ∨ w.heap.size ≤ k_)) (.slice (some ⟨go8, 0, none⟩) l2.length co11) x2_1) ∧ zi0 (w'.heap[gb377]? = some (.cells #[(.slice (some ad379) l0_0.length c0_0)] 26 (0, 0))) ∧ zi0 (Kept w w' (fun k_ => P2_ k_)) ∧ zi0 (Below w0.heap.size w0 w'))
 case atStart => exact ⟨(y380), (0), (rfl), H', ⟨Nat.le_refl _⟩, ⟨HQ12.1⟩, ⟨by refine blk_far ?_ (by have h_ := Kd.R_ne HO2.1 BK377.1 (by decide); intro e_; exact h_ (by rw [e_]; rfl)) _; exact BK377.1⟩, ⟨by repeat (first | (with_reducible first | exact HK.1 | apply Kept.alloc | apply Kept.drewN | apply Kept.drew | refine Kept.setCell ?_ HMgo8.1 _ | refine Kept.setCell ?_ (.inr GW377.1) _) | exact HK.1)⟩, ⟨zf0 HB.1 GB8.1⟩⟩
 case round =>
  clear H'
  try clear p2
  try clear c3
  try clear p3
  try clear q3
  try clear hx3
  try clear c4
  try clear c5
  try clear c5b0
  try clear c6
  try clear c6b0
  try clear p6
  try clear c7
  try clear c7b0
  try clear p8
  try clear q8
  try clear hx8
  try clear hf8
  try clear hcz13_0
  try clear hfz13_0
  try clear hx378_0
  try clear hx379_0
  try clear hx381_0
  try clear hx8_0
  try clear p378
  try clear p379
  try clear p381
  try clear p8
  try clear q378
  try clear q379
  try clear q381
  try clear q8
  obtain ⟨x2_1, x28_1, rfl, HA, HK1, HO_2, BK377, HK, HB⟩ := hrel
  have hl2_1 := (Kd.R_reads' HO_2.1).1
  rw [hl2_1] at HO_2
  (try simp only [hl2_1])
  (try simp only [hl2_1] at BK377)
  obtain _ | k1 := gk
  ·exact absurd HA.1 (by simp [yl0.l0])
  have H := HA.1
  clear HA
  simp only [yl0.l0] at H
  by_cases c14 : x28_1 < ((rd_L2 l0_0 a3).length : Int)
  rotate_left
  ·rw [if_neg c14] at H
   have c14b0 : decide (x28_1 < ((rd_L2 l0_0 a3).length : Int)) = false := decide_eq_false c14
   (try (have c14b0h := c14b0; simp only [hl2_1] at c14b0h))
   clear c14
   obtain rfl := Option.some.inj H
   go_wp2
   first | go_end0 | ((try simp only [Exit.inBlock, Exit.then]); refine bodyPost_ret (results_none rfl _ _ _) rfl ?_)
   exact ⟨rfl, (by first | exact (HO_2.1) | (simp only [hl2_1]; exact (HO_2.1))), HB.1, HK.1⟩
  rw [if_pos c14] at H
  have c14b0 : decide (x28_1 < ((rd_L2 l0_0 a3).length : Int)) = true := decide_eq_true c14
  (try (have c14b0h := c14b0; simp only [hl2_1] at c14b0h))
  clear c14
  by_cases c15 : 0 ≤ x28_1
  rotate_left
  ·rw [if_neg c15] at H
   exact absurd H (by simp)
  rw [if_pos c15] at H
  have c15b0 : decide (0 ≤ x28_1) = true := decide_eq_true c15
  (try (have c15b0h := c15b0; simp only [hl2_1] at c15b0h))
  clear c15
  by_cases c16 : x28_1 < ((rd_L2 l0_0 a3).length : Int)
  rotate_left
  ·rw [if_neg c16] at H
   exact absurd H (by simp)
  rw [if_pos c16] at H
  have c16b0 : decide (x28_1 < ((rd_L2 l0_0 a3).length : Int)) = true := decide_eq_true c16
  (try (have c16b0h := c16b0; simp only [hl2_1] at c16b0h))
  clear c16
  by_cases c17 : (rd (rd_L2 l0_0 a3) x28_1) = a1
  ·rw [if_pos c17] at H
   have c17b0 : ((rd (rd_L2 l0_0 a3) x28_1) == a1) = true := beq_iff_eq.mpr c17
   (try (have c17b0h := c17b0; simp only [hl2_1] at c17b0h))
   have c17b1 : ((rd (rd_L2 l0_0 a3) x28_1) != a1) = false := bne_eq_false_iff_eq.mpr c17
   (try (have c17b1h := c17b1; simp only [hl2_1] at c17b1h))
   clear c17
   have H' := hqZ H
   clear H
   have p382 : 0 ≤ (x28_1 : Int) := of_decide_eq_true (by assumption)
   have q382 : x28_1 < ((rd_L2 l0_0 a3).length : Int) := of_decide_eq_true (by assumption)
   obtain ⟨ad382, e382, hx382_0⟩ := Kd.at_int (Kd.C_kept_now HR381_0.1 HK.1) x28_1 p382 q382
   cases e382
   replace p382 := eq_true p382
   replace q382 := eq_true q382
   go_wp2
   (try simp only [← hl2_1])
   go_roundg k1
   case measure => have := HK1.1; omega
   case rel => exact ⟨(x2_1), (wrap64 (x28_1 + 1)), (rfl), H', ⟨by have := HK1.1; omega⟩, ⟨by (try simp only [hl2_1]); exact HO_2.1⟩, ⟨by (try simp only [hl2_1]); exact BK377.1⟩, ⟨HK.1⟩, ⟨HB.1⟩⟩
  rw [if_neg c17] at H
  have c17b0 : ((rd (rd_L2 l0_0 a3) x28_1) == a1) = false := beq_eq_false_iff_ne.mpr c17
  (try (have c17b0h := c17b0; simp only [hl2_1] at c17b0h))
  have c17b1 : ((rd (rd_L2 l0_0 a3) x28_1) != a1) = true := bne_iff_ne.mpr c17
  (try (have c17b1h := c17b1; simp only [hl2_1] at c17b1h))
  by_cases c18 : 0 ≤ (rd (rd_L2 l0_0 a3) x28_1)
  rotate_left
  ·rw [if_neg c18] at H
   exact absurd H (by simp)
  rw [if_pos c18] at H
  have c18b0 : decide (0 ≤ (rd (rd_L2 l0_0 a3) x28_1)) = true := decide_eq_true c18
  (try (have c18b0h := c18b0; simp only [hl2_1] at c18b0h))
  clear c18
  by_cases c19 : (rd (rd_L2 l0_0 a3) x28_1) < (x2_1.length : Int)
  rotate_left
  ·rw [if_neg c19] at H
   exact absurd H (by simp)
  rw [if_pos c19] at H
  have c19b0 : decide ((rd (rd_L2 l0_0 a3) x28_1) < (x2_1.length : Int)) = true := decide_eq_true c19
  (try (have c19b0h := c19b0; simp only [hl2_1] at c19b0h))
  clear c19
  obtain ⟨y384, hy384⟩ : ∃ y_ : List Int, y_ = (x2_1.set ((rd (rd_L2 l0_0 a3) x28_1) : Int).toNat (wrap64 ((rd x2_1 (rd (rd_L2 l0_0 a3) x28_1)) + 1))) := ⟨_, rfl⟩
  replace H : (yl0.l0 k1 a1 y384 (rd_L2 l0_0 a3) ((rd_L2 l0_0 a3).length : Int) (wrap64 (x28_1 + 1))) = some r := by first | (rw [hy384]; with_reducible exact H) | (have H2_ := (Option.bind_some _ _).symm.trans H; rw [hy384]; with_reducible exact H2_) | (have H2_ := (Option.bind_some _ _).symm.trans H; with_reducible exact H2_) | with_reducible exact H | (rw [hy384]; exact H) | exact H
  have Ny384 := hqZ hy384
  clear hy384
  have H' := hqZ H
  clear H
  have p382 : 0 ≤ (x28_1 : Int) := of_decide_eq_true (by assumption)
  have q382 : x28_1 < ((rd_L2 l0_0 a3).length : Int) := of_decide_eq_true (by assumption)
  obtain ⟨ad382, e382, hx382_0⟩ := Kd.at_int (Kd.C_kept_now HR381_0.1 HK.1) x28_1 p382 q382
  cases e382
  replace p382 := eq_true p382
  replace q382 := eq_true q382
  have p383 : 0 ≤ ((rd (rd_L2 l0_0 a3) x28_1) : Int) := of_decide_eq_true (by assumption)
  have q383 : (rd (rd_L2 l0_0 a3) x28_1) < (x2_1.length : Int) := of_decide_eq_true (by assumption)
  obtain ⟨ad383, e383, hx383_0⟩ := Kd.at_int (Kd.R_reads' HO_2.1).2.2 (rd (rd_L2 l0_0 a3) x28_1) p383 q383
  obtain rfl : (⟨go8, 0, none⟩ : Addr) = ad383 := (by injection e383)
  (first | simp only [add_plain] at hx383_0 | simp only [add_at] at hx383_0 | simp only [Addr.add, Nat.zero_add] at hx383_0 | skip)
  replace p383 := eq_true p383
  replace q383 := eq_true q383
  have p20 : 0 ≤ ((rd (rd_L2 l0_0 a3) x28_1) : Int) := of_decide_eq_true (by assumption)
  have q20 : ((rd (rd_L2 l0_0 a3) x28_1) : Int) < ((x2_1.length : Int) : Int) := of_decide_eq_true (by assumption)
  obtain ⟨hx20_0, hf20_0⟩ := Kd.R_celln 0 HO_2.1 ((rd (rd_L2 l0_0 a3) x28_1) : Int) p20 q20
  replace p20 := eq_true p20
  replace q20 := eq_true q20
  have HP21 := Kd.R_putg HO_2.1 ((rd (rd_L2 l0_0 a3) x28_1) : Int) (wrap64 ((rd x2_1 (rd (rd_L2 l0_0 a3) x28_1)) + 1))
  go_wp2_with (first | ((with_reducible refine gate_store (t := 3) (p := 40) rfl ?_); refine store_event (t := 3) (p := 40) (v := ?vo_w22) (w1 := (wr.setCell ⟨go8, ((rd (rd_L2 l0_0 a3) x28_1) : Int).toNat, none⟩ (.int .i64 (wrap64 ((rd x2_1 (rd (rd_L2 l0_0 a3) x28_1)) + 1))))) ?hg ?ho ?hn ?hr ?_; (case ho => rfl); (case hg => rfl); (case hn => rfl); (case hr => go_simp <;> rfl); intro w22 hw; have hg : wr.grownBy w22 (some go8) := (by rw [hw]; exact HP21.2); have hp_ : Kd.R (Kd.int .i64) 3 w22 w0.heap.size (fun k_ => (P2_ k_ ∨ w.heap.size ≤ k_)) (.slice (some ⟨go8, 0, none⟩) x2_1.length co11) y384 := (by rw [hw, Ny384.1]; exact HP21.1); clear HP21; replace BK377 := hqZ (zr0 (g := gb377) (BK377.1) hg (Kd.R_ne HO_2.1 BK377.1 (by decide))); replace HB := hqZ ((by rw [hw]; exact zf0 (HB.1) GB8.1 : Below w0.heap.size w0 w22)); replace HK := hqZ (Kept.of_grown (S := (fun k_ => P2_ k_)) hg (HK.1) (fun k_ e_ => (HO_2.1.1 k_ e_))); replace HO_2 := hqZ (hp_); clear hg hw hp_))
  (try simp only [← hl2_1])
  go_roundg k1
  case measure => have := HK1.1; omega
  case rel => exact ⟨(y384), (wrap64 (x28_1 + 1)), (rfl), H', ⟨by have := HK1.1; omega⟩, ⟨by (try simp only [hl2_1]); exact HO_2.1⟩, ⟨by (try simp only [hl2_1]); exact BK377.1⟩, ⟨HK.1⟩, ⟨HB.1⟩⟩
end Go.Proofs.Ytdfabioienofhaa.P
