/- Texts of this session on the way to the law FnExactOrbitOfTree, part 7: words of the print, walks, plain laws; only what the law's proof uses. -/
import Derived.Test.YtlbgajpbdbgmkaaCFnExactOrbitOfTreed
import Derived.Test.YtlbgajpbdbgmkaaCFnExactOrbitOfTreef
import Derived.Test.YtlbgajpbdbgmkaaCFnExactOrbitOfTreeb
import Derived.Test.YtlbgajpbdbgmkaaCFnExactOrbitOfTreec
import Derived.Test.YtlbgajpbdbgmkaaCFnExactOrbitOfTreee
namespace Go.Proofs.Ytlbgajpbdbgmkaa.P
set_option maxHeartbeats 8000000
set_option maxRecDepth 100000
open Go.RowKit Go.Proofs.YtlbgajpbdbgmkaaW.PrintWords Go.Proofs.YtlbgajpbdbgmkaaW.PrintLast Go.Proofs.YtlbgajpbdbgmkaaW.PrintMore Go.Proofs.Ytlbgajpbdbgmkaa.M
attribute [local go_sem] zw0 zv0 zz0 zy0 zs0 zq0 zu0 zx0
set_option linter.unusedVariables false
set_option linter.unusedSimpArgs false
def yz1.Good (l0_0 : List (List Int)) (a1 : Int) (l2 : List Int) (a3 : Int) : Prop :=
 ((l2.length : Int) ≤ 1048576 → ∃ x4 : Int, Ev (fun k => yx1.f k l0_0 1048576) x4 ∧ (0 ≤ x4 → Ev (fun k => yo1.f k l0_0) l0_0 ∧ Ev (fun k => yj0.f k l2) l2 ∧ ∃ x23 : List (List Int), ∃ x24 : Bool, Ev (fun k => ys1.f k l0_0 a1 l2 a3) (x23, x24) ∧ Ev (fun k => ye1.f k l0_0 a1 l2 a3) (x23, x24) ∧ Ev (fun k => yk0.f k x23 x23) true ∧ Ev (fun k => yw1.f k l0_0 l0_0) true ∧ Ev (fun k => yi0.f k l2 l2) true ∧ ∃ x78 : Int, ∃ x79 : List (List Int), Ev (fun k => yh2.f k l0_0 1) (x78, x79) ∧ 0 ≤ x78 ∧ ∃ x83 : Int, ∃ x84 : List Int, Ev (fun k => yw0.f k l2 x78) (x83, x84) ∧ 0 ≤ x83 ∧ ∃ x89 : Int, ∃ x90 : List (List Int), Ev (fun k => yd1.f k x23 1) (x89, x90) ∧ 0 ≤ x89 ∧ Ev (fun k => yz0.f k x90 1) x89 ∧ True))
open Classical in
noncomputable def yz1.f (l0_0 : List (List Int)) (a1 : Int) (l2 : List Int) (a3 : Int) : Option Bool := if yz1.Good l0_0 a1 l2 a3 then some true else none
set_option maxHeartbeats 16000000 in
theorem yz1.calls (A0_0 : Option Addr) (c0_0 : Nat) (l0_0 : List (List Int)) (a1 : Int) (A2 : Option Addr) (c2 : Nat) (l2 : List Int) (a3 : Int) (r : Bool) (w : World) (hr0_0 : Kd.C (Kd.slice 3 (Kd.int .i64)) w A0_0 l0_0.length l0_0) (hc0_0 : l0_0.length ≤ c0_0) (hr2 : Kd.C (Kd.int .i64) w A2 l2.length l2) (hc2 : l2.length ≤ c2) (h : yz1.f l0_0 a1 l2 a3 = some r) :
  Calls Try.prog 5 #[.agg #[.slice A0_0 l0_0.length c0_0], .int .i64 a1, .slice A2 l2.length c2, .int .i64 a3] w fun e w' => e = .returned (.bool r) ∧ Below w.heap.size w w' := by
 unfold yz1.f at h
 by_cases hg : yz1.Good l0_0 a1 l2 a3
 case neg => rw [if_neg hg] at h; cases h
 rw [if_pos hg] at h
 obtain rfl := Option.some.inj h
 clear h
 unfold yz1.Good at hg
 have hu24 := Try.underlying24
 have hu29 := Try.underlying29
 obtain ⟨s0, hs0⟩ : ∃ s0, s0 = w.heap.size := ⟨_, rfl⟩
 have HS := za0.mk (Nat.le_of_eq hs0)
 have CH := za0.mk True.intro
 have HB := za0.mk (Below.refl w.heap.size w)
 have FA0_0 := za0.mk (show Kd.F (Kd.slice 3 (Kd.int .i64)) w (fun k_ => k_ < s0) A0_0 l0_0.length l0_0 by rw [hs0]; exact Kd.C_F (Kd.heap_slice 3 (Kd.heap_int .i64)) hr0_0)
 have HC0_0 := za0.mk hc0_0
 clear hr0_0 hc0_0
 have FA2 := za0.mk (show Kd.F (Kd.int .i64) w (fun k_ => k_ < s0) A2 l2.length l2 by rw [hs0]; exact Kd.C_F (Kd.heap_int .i64) hr2)
 have HC2 := za0.mk hc2
 clear hr2 hc2 hs0
 by_cases hz : (l2.length : Int) > 1048576
 ·have hzb : decide ((l2.length : Int) > 1048576) = true := decide_eq_true hz
  have hzc : decide (1048576 < l2.length) = true := decide_eq_true (by omega)
  have hzd : decide (1048576 < (l2.length : Int)) = true := hzb
  clear hg hz
  go_enter Try.func5, Try.ntmps5
  go_wp2_with (first | ((with_reducible refine zo0 (N := 4) rfl ?_); refine zp0 ?hg (N := 4) ?hd (cs := #[.slice A0_0 l0_0.length c0_0]) (t := 24) ?hr ?_; (case hd | hg => rfl); (case hr => go_simp <;> rfl); intro gb1 hg_ w2 hbox_ hb_; obtain ⟨hk_, hs1_, hs2_, hw0_⟩ := ev_kept (S := (fun _ => False)) HS.1 HB.1 hb_ (by repeat (first | exact Kept.refl _ _ | apply Kept.alloc | apply Kept.drewN | apply Kept.drew)); have hw_ : w.heap.size ≤ gb1 := (by rw [hg_]; exact hw0_); have hB_ := zi0 (by repeat (first | exact HB.1 | apply zc0 | apply zb0 | apply zd0)) hb_; have n0_ := za0.mk (Kd.F_kept FA0_0.1 hk_ (fun _ _ hs_ => hs_.elim)); have n1_ := za0.mk (Kd.F_kept FA2.1 hk_ (fun _ _ hs_ => hs_.elim)); have hS_ : s0 ≤ gb1 := (by rw [hg_]; exact hs1_); have nb_ := za0.mk hbox_; have ns_ := za0.mk (box_in hbox_); have nc_ := za0.mk (And.intro hS_ CH.1); have ng_ := za0.mk hw_; have nB_ := za0.mk hB_; clear HB HS CH FA0_0 FA2; have FA0_0 := n0_; have FA2 := n1_; have HB := nB_; have HS := ns_; have CH := nc_; have BKgb1 := nb_; have GEgb1 := ng_; clear nB_ ns_ nc_ nb_ ng_ n0_ n1_; clear hk_ hs1_ hs2_ hw_ hw0_ hB_ hS_ hb_ hbox_ hg_; have hczgb1_0 : w2.cell? ⟨gb1, 0, none⟩ = some (.slice A0_0 l0_0.length c0_0) := (zl0 BKgb1.1 0).trans rfl; have hfzgb1_0 := zk0 BKgb1.1 0))
  go_ret
  exact ⟨by first | rfl | (simp; done), by repeat (first | exact HB.1 | apply zc0 | apply zb0 | apply zd0 | refine ze0 ?_ GEgb1.1 | refine ze0 ?_ GEgb39.1)⟩
 have hg := hg (by omega)
 have hzLl2 : decide ((l2.length : Int) > 1048576) = false := decide_eq_false hz
 have hzcLl2 : decide (1048576 < l2.length) = false := decide_eq_false (by omega)
 have hzdLl2 : decide (1048576 < (l2.length : Int)) = false := hzLl2
 clear hz
 obtain ⟨x4, hg⟩ := hg
 obtain ⟨E_, hg⟩ := hg
 obtain ⟨KE5, E_⟩ := E_
 have E5 := za0.mk (E_ KE5 (Nat.le_refl _))
 clear E_
 by_cases hz : x4 < 0
 ·have hzb : decide (x4 < 0) = true := decide_eq_true hz
  clear hg hz
  go_enter Try.func5, Try.ntmps5
  go_wp2_with (first | ((with_reducible refine zo0 (N := 4) rfl ?_); refine zp0 ?hg (N := 4) ?hd (cs := #[.slice A0_0 l0_0.length c0_0]) (t := 24) ?hr ?_; (case hd | hg => rfl); (case hr => go_simp <;> rfl); intro gb1 hg_ w2 hbox_ hb_; obtain ⟨hk_, hs1_, hs2_, hw0_⟩ := ev_kept (S := (fun _ => False)) HS.1 HB.1 hb_ (by repeat (first | exact Kept.refl _ _ | apply Kept.alloc | apply Kept.drewN | apply Kept.drew)); have hw_ : w.heap.size ≤ gb1 := (by rw [hg_]; exact hw0_); have hB_ := zi0 (by repeat (first | exact HB.1 | apply zc0 | apply zb0 | apply zd0)) hb_; have n0_ := za0.mk (Kd.F_kept FA0_0.1 hk_ (fun _ _ hs_ => hs_.elim)); have n1_ := za0.mk (Kd.F_kept FA2.1 hk_ (fun _ _ hs_ => hs_.elim)); have hS_ : s0 ≤ gb1 := (by rw [hg_]; exact hs1_); have nb_ := za0.mk hbox_; have ns_ := za0.mk (box_in hbox_); have nc_ := za0.mk (And.intro hS_ CH.1); have ng_ := za0.mk hw_; have nB_ := za0.mk hB_; clear HB HS CH FA0_0 FA2; have FA0_0 := n0_; have FA2 := n1_; have HB := nB_; have HS := ns_; have CH := nc_; have BKgb1 := nb_; have GEgb1 := ng_; clear nB_ ns_ nc_ nb_ ng_ n0_ n1_; clear hk_ hs1_ hs2_ hw_ hw0_ hB_ hS_ hb_ hbox_ hg_; have hczgb1_0 : w2.cell? ⟨gb1, 0, none⟩ = some (.slice A0_0 l0_0.length c0_0) := (zl0 BKgb1.1 0).trans rfl; have hfzgb1_0 := zk0 BKgb1.1 0) | ((with_reducible refine zn0 (f := 7) rfl ?_); refine za1 (some 26) rfl rfl Try.func7 (by kernel_rfl) rfl #[.agg #[.slice A0_0 l0_0.length c0_0], .int .i64 1048576] rfl (by (try simp only [List.map_toArray, List.map_cons, List.map_nil]); first | done | rfl | (simp only [List.length_drop, List.length_take]; rfl)) ?_; (with_reducible refine (yx1.calls KE5 _ _ l0_0 1048576 x4 _ ?sidehr0_0 ?sidehc0_0 E5.1).mono ?_); (case sidehr0_0 => exact F_at (S := (fun _ => False)) FA0_0.1 (by repeat (first | exact Kept.refl _ _ | apply Kept.alloc | apply Kept.drewN | apply Kept.drew)) (fun _ _ hs_ => hs_.elim)); (case sidehc0_0 => exact HC0_0.1); rintro e w3 ⟨rfl, hb_⟩; refine ⟨_, rfl, ?_⟩; (try clear hczgb1_0); (try clear hfzgb1_0); obtain ⟨hk_, hs1_, hs2_, hw_⟩ := ev_kept (S := (fun _ => False)) HS.1 HB.1 hb_ (by repeat (first | exact Kept.refl _ _ | apply Kept.alloc | apply Kept.drewN | apply Kept.drew)); have hB_ := zi0 (by repeat (first | exact HB.1 | apply zc0 | apply zb0 | apply zd0 | refine ze0 ?_ GEgb1.1)) hb_; have n0_ := za0.mk (Kd.F_kept FA0_0.1 hk_ (fun _ _ hs_ => hs_.elim)); have n1_ := za0.mk (Kd.F_kept FA2.1 hk_ (fun _ _ hs_ => hs_.elim)); have n2_ := za0.mk (zm0 (g := gb1) (o := .cells #[.slice A0_0 l0_0.length c0_0] 24 (0, 0)) (by (with_reducible repeat (first | refine zg0 ?_ _ | refine zj0 ?_ | refine zf0 ?_ _)); exact BKgb1.1) hb_); have ns_ := za0.mk (Nat.le_trans (Nat.le_trans hs1_ hs2_) (Nat.le_refl _)); have nB_ := za0.mk hB_; clear HB HS FA0_0 FA2 BKgb1; have FA0_0 := n0_; have FA2 := n1_; have BKgb1 := n2_; have HB := nB_; have HS := ns_; clear nB_ ns_ n0_ n1_ n2_; clear hk_ hs1_ hs2_ hw_ hB_ hb_; have hczgb1_0 : w3.cell? ⟨gb1, 0, none⟩ = some (.slice A0_0 l0_0.length c0_0) := (zl0 BKgb1.1 0).trans rfl; have hfzgb1_0 := zk0 BKgb1.1 0))
  go_ret
  exact ⟨by first | rfl | (simp; done), by repeat (first | exact HB.1 | apply zc0 | apply zb0 | apply zd0 | refine ze0 ?_ GEgb1.1 | refine ze0 ?_ GEgb39.1)⟩
 have hg := hg (by omega)
 have hzx4 : decide (x4 < 0) = false := decide_eq_false hz
 clear hz
 obtain ⟨E_, hg⟩ := hg
 obtain ⟨KE7, E_⟩ := E_
 have E7 := za0.mk (E_ KE7 (Nat.le_refl _))
 clear E_
 obtain ⟨E_, hg⟩ := hg
 obtain ⟨KE15, E_⟩ := E_
 have E15 := za0.mk (E_ KE15 (Nat.le_refl _))
 clear E_
 obtain ⟨x23, hg⟩ := hg
 obtain ⟨x24, hg⟩ := hg
 obtain ⟨E_, hg⟩ := hg
 obtain ⟨KE25, E_⟩ := E_
 have E25 := za0.mk (E_ KE25 (Nat.le_refl _))
 clear E_
 obtain ⟨E_, hg⟩ := hg
 obtain ⟨KE49, E_⟩ := E_
 have E49 := za0.mk (E_ KE49 (Nat.le_refl _))
 clear E_
 obtain ⟨E_, hg⟩ := hg
 obtain ⟨KE57, E_⟩ := E_
 have E57 := za0.mk (E_ KE57 (Nat.le_refl _))
 clear E_
 obtain ⟨E_, hg⟩ := hg
 obtain ⟨KE67, E_⟩ := E_
 have E67 := za0.mk (E_ KE67 (Nat.le_refl _))
 clear E_
 obtain ⟨E_, hg⟩ := hg
 obtain ⟨KE76, E_⟩ := E_
 have E76 := za0.mk (E_ KE76 (Nat.le_refl _))
 clear E_
 obtain ⟨x78, hg⟩ := hg
 obtain ⟨x79, hg⟩ := hg
 obtain ⟨E_, hg⟩ := hg
 obtain ⟨KE80, E_⟩ := E_
 have E80 := za0.mk (E_ KE80 (Nat.le_refl _))
 clear E_
 obtain ⟨hpx78, hg⟩ := hg
 have hnx78 : decide (x78 < 0) = false := decide_eq_false (by omega)
 have hex78 : (x78 != x78) = false := bne_self_eq_false _
 have hdx78 : decide (x78 = x78) = true := decide_eq_true rfl
 clear hpx78
 obtain ⟨x83, hg⟩ := hg
 obtain ⟨x84, hg⟩ := hg
 obtain ⟨E_, hg⟩ := hg
 obtain ⟨KE85, E_⟩ := E_
 have E85 := za0.mk (E_ KE85 (Nat.le_refl _))
 clear E_
 obtain ⟨hpx83, hg⟩ := hg
 have hnx83 : decide (x83 < 0) = false := decide_eq_false (by omega)
 have hex83 : (x83 != x83) = false := bne_self_eq_false _
 have hdx83 : decide (x83 = x83) = true := decide_eq_true rfl
 clear hpx83
 obtain ⟨x89, hg⟩ := hg
 obtain ⟨x90, hg⟩ := hg
 obtain ⟨E_, hg⟩ := hg
 obtain ⟨KE91, E_⟩ := E_
 have E91 := za0.mk (E_ KE91 (Nat.le_refl _))
 clear E_
 obtain ⟨hpx89, hg⟩ := hg
 have hnx89 : decide (x89 < 0) = false := decide_eq_false (by omega)
 have hex89 : (x89 != x89) = false := bne_self_eq_false _
 have hdx89 : decide (x89 = x89) = true := decide_eq_true rfl
 clear hpx89
 obtain ⟨E_, hg⟩ := hg
 obtain ⟨KE94, E_⟩ := E_
 have E94 := za0.mk (E_ KE94 (Nat.le_refl _))
 clear E_ hg
 have hbx24 : (x24 != x24) = false := bne_self_eq_false _
 have hdx24 : (x24 == x24) = true := beq_self_eq_true _
 go_enter Try.func5, Try.ntmps5
 go_wp2_with (first | ((with_reducible refine zo0 (N := 4) rfl ?_); refine zp0 ?hg (N := 4) ?hd (cs := #[.slice A0_0 l0_0.length c0_0]) (t := 24) ?hr ?_; (case hd | hg => rfl); (case hr => go_simp <;> rfl); intro gb1 hg_ w2 hbox_ hb_; obtain ⟨hk_, hs1_, hs2_, hw0_⟩ := ev_kept (S := (fun _ => False)) HS.1 HB.1 hb_ (by repeat (first | exact Kept.refl _ _ | apply Kept.alloc | apply Kept.drewN | apply Kept.drew)); have hw_ : w.heap.size ≤ gb1 := (by rw [hg_]; exact hw0_); have hB_ := zi0 (by repeat (first | exact HB.1 | apply zc0 | apply zb0 | apply zd0)) hb_; have n0_ := za0.mk (Kd.F_kept FA0_0.1 hk_ (fun _ _ hs_ => hs_.elim)); have n1_ := za0.mk (Kd.F_kept FA2.1 hk_ (fun _ _ hs_ => hs_.elim)); have hS_ : s0 ≤ gb1 := (by rw [hg_]; exact hs1_); have nb_ := za0.mk hbox_; have ns_ := za0.mk (box_in hbox_); have nc_ := za0.mk (And.intro hS_ CH.1); have ng_ := za0.mk hw_; have nB_ := za0.mk hB_; clear HB HS CH FA0_0 FA2; have FA0_0 := n0_; have FA2 := n1_; have HB := nB_; have HS := ns_; have CH := nc_; have BKgb1 := nb_; have GEgb1 := ng_; clear nB_ ns_ nc_ nb_ ng_ n0_ n1_; clear hk_ hs1_ hs2_ hw_ hw0_ hB_ hS_ hb_ hbox_ hg_; have hczgb1_0 : w2.cell? ⟨gb1, 0, none⟩ = some (.slice A0_0 l0_0.length c0_0) := (zl0 BKgb1.1 0).trans rfl; have hfzgb1_0 := zk0 BKgb1.1 0) | ((with_reducible refine zn0 (f := 7) rfl ?_); refine za1 (some 26) rfl rfl Try.func7 (by kernel_rfl) rfl #[.agg #[.slice A0_0 l0_0.length c0_0], .int .i64 1048576] rfl (by (try simp only [List.map_toArray, List.map_cons, List.map_nil]); first | done | rfl | (simp only [List.length_drop, List.length_take]; rfl)) ?_; (with_reducible refine (yx1.calls KE5 _ _ l0_0 1048576 x4 _ ?sidehr0_0 ?sidehc0_0 E5.1).mono ?_); (case sidehr0_0 => exact F_at (S := (fun _ => False)) FA0_0.1 (by repeat (first | exact Kept.refl _ _ | apply Kept.alloc | apply Kept.drewN | apply Kept.drew)) (fun _ _ hs_ => hs_.elim)); (case sidehc0_0 => exact HC0_0.1); rintro e w3 ⟨rfl, hb_⟩; refine ⟨_, rfl, ?_⟩; (try clear hczgb1_0); (try clear hfzgb1_0); obtain ⟨hk_, hs1_, hs2_, hw_⟩ := ev_kept (S := (fun _ => False)) HS.1 HB.1 hb_ (by repeat (first | exact Kept.refl _ _ | apply Kept.alloc | apply Kept.drewN | apply Kept.drew)); have hB_ := zi0 (by repeat (first | exact HB.1 | apply zc0 | apply zb0 | apply zd0 | refine ze0 ?_ GEgb1.1)) hb_; have n0_ := za0.mk (Kd.F_kept FA0_0.1 hk_ (fun _ _ hs_ => hs_.elim)); have n1_ := za0.mk (Kd.F_kept FA2.1 hk_ (fun _ _ hs_ => hs_.elim)); have n2_ := za0.mk (zm0 (g := gb1) (o := .cells #[.slice A0_0 l0_0.length c0_0] 24 (0, 0)) (by (with_reducible repeat (first | refine zg0 ?_ _ | refine zj0 ?_ | refine zf0 ?_ _)); exact BKgb1.1) hb_); have ns_ := za0.mk (Nat.le_trans (Nat.le_trans hs1_ hs2_) (Nat.le_refl _)); have nB_ := za0.mk hB_; clear HB HS FA0_0 FA2 BKgb1; have FA0_0 := n0_; have FA2 := n1_; have BKgb1 := n2_; have HB := nB_; have HS := ns_; clear nB_ ns_ n0_ n1_ n2_; clear hk_ hs1_ hs2_ hw_ hB_ hb_; have hczgb1_0 : w3.cell? ⟨gb1, 0, none⟩ = some (.slice A0_0 l0_0.length c0_0) := (zl0 BKgb1.1 0).trans rfl; have hfzgb1_0 := zk0 BKgb1.1 0) | ((with_reducible refine zn0 (f := 9) rfl ?_); refine za1 (some 31) rfl rfl Try.func9 (by kernel_rfl) rfl #[.agg #[.slice A0_0 l0_0.length c0_0]] rfl (by (try simp only [List.map_toArray, List.map_cons, List.map_nil]); first | done | rfl | (simp only [List.length_drop, List.length_take]; rfl)) ?_; (with_reducible refine (yo1.calls KE7 _ _ l0_0 l0_0 _ ?sidehr0_0 ?sidehc0_0 E7.1).mono ?_); (case sidehr0_0 => exact F_at (S := (fun _ => False)) FA0_0.1 (by repeat (first | exact Kept.refl _ _ | apply Kept.alloc | apply Kept.drewN | apply Kept.drew)) (fun _ _ hs_ => hs_.elim)); (case sidehc0_0 => exact HC0_0.1); rintro e w6 ⟨v8, rfl, hov0__, hb_⟩; refine ⟨_, rfl, ?_⟩; (try clear hczgb1_0); (try clear hfzgb1_0); obtain ⟨hk_, hs1_, hs2_, hw_⟩ := ev_kept (S := (fun _ => False)) HS.1 HB.1 hb_ (by repeat (first | exact Kept.refl _ _ | apply Kept.alloc | apply Kept.drewN | apply Kept.drew)); have hB_ := zi0 (by repeat (first | exact HB.1 | apply zc0 | apply zb0 | apply zd0 | refine ze0 ?_ GEgb1.1)) hb_; have n0_ := za0.mk (Kd.F_kept FA0_0.1 hk_ (fun _ _ hs_ => hs_.elim)); have n1_ := za0.mk (Kd.F_kept FA2.1 hk_ (fun _ _ hs_ => hs_.elim)); have n2_ := za0.mk (zm0 (g := gb1) (o := .cells #[.slice A0_0 l0_0.length c0_0] 24 (0, 0)) (by (with_reducible repeat (first | refine zg0 ?_ _ | refine zj0 ?_ | refine zf0 ?_ _)); exact BKgb1.1) hb_); have ns_ := za0.mk (Nat.le_trans (Nat.le_trans hs1_ hs2_) (Nat.le_refl _)); have nB_ := za0.mk hB_; obtain ⟨lo9, hi10, c1_, c2_, c3_, h_⟩ := S_new hov0__ hs2_ hw_ hs1_; have HS11 := za0.mk h_; obtain ⟨Ao12, co13, eo_⟩ := Kd.S_slice HS11.1; subst eo_; have HCHS11 := za0.mk (Kd.S_reads' HS11.1).2.1; clear h_ hov0__; have nc_ := za0.mk (And.intro c1_ (And.intro c2_ CH.1)); clear CH ns_; have CH := nc_; have ns_ := za0.mk c3_; clear nc_ c1_ c2_ c3_; clear HB HS FA0_0 FA2 BKgb1; have FA0_0 := n0_; have FA2 := n1_; have BKgb1 := n2_; have HB := nB_; have HS := ns_; clear nB_ ns_ n0_ n1_ n2_; clear hk_ hs1_ hs2_ hw_ hB_ hb_; have hczgb1_0 : w6.cell? ⟨gb1, 0, none⟩ = some (.slice A0_0 l0_0.length c0_0) := (zl0 BKgb1.1 0).trans rfl; have hfzgb1_0 := zk0 BKgb1.1 0) | ((with_reducible refine zn0 (f := 10) rfl ?_); refine za1 (some 34) rfl rfl Try.func10 (by kernel_rfl) rfl #[.slice A2 l2.length c2] rfl (by (try simp only [List.map_toArray, List.map_cons, List.map_nil]); first | done | rfl | (simp only [List.length_drop, List.length_take]; rfl)) ?_; (with_reducible refine (yj0.calls KE15 _ _ l2 l2 _ ?sidehr0 ?sidehc0 E15.1).mono ?_); (case sidehr0 => exact F_at (S := (fun _ => False)) FA2.1 (by repeat (first | exact Kept.refl _ _ | apply Kept.alloc | apply Kept.drewN | apply Kept.drew)) (fun _ _ hs_ => hs_.elim)); (case sidehc0 => exact HC2.1); rintro e w14 ⟨v16, rfl, hov0__, hb_⟩; refine ⟨_, rfl, ?_⟩; (try clear hczgb1_0); (try clear hfzgb1_0); obtain ⟨hk_, hs1_, hs2_, hw_⟩ := ev_kept (S := (fun _ => False)) HS.1 HB.1 hb_ (by repeat (first | exact Kept.refl _ _ | apply Kept.alloc | apply Kept.drewN | apply Kept.drew)); have hB_ := zi0 (by repeat (first | exact HB.1 | apply zc0 | apply zb0 | apply zd0 | refine ze0 ?_ GEgb1.1)) hb_; have n0_ := za0.mk (Kd.F_kept FA0_0.1 hk_ (fun _ _ hs_ => hs_.elim)); have n1_ := za0.mk (Kd.F_kept FA2.1 hk_ (fun _ _ hs_ => hs_.elim)); have n2_ := za0.mk (zm0 (g := gb1) (o := .cells #[.slice A0_0 l0_0.length c0_0] 24 (0, 0)) (by (with_reducible repeat (first | refine zg0 ?_ _ | refine zj0 ?_ | refine zf0 ?_ _)); exact BKgb1.1) hb_); have n3_ := za0.mk (Kd.S_kept HS11.1 hk_ (fun _ _ hs_ => hs_.elim)); have ns_ := za0.mk (Nat.le_trans (Nat.le_trans hs1_ hs2_) (Nat.le_refl _)); have nB_ := za0.mk hB_; obtain ⟨lo17, hi18, c1_, c2_, c3_, h_⟩ := R_new hov0__ hs2_ hw_ hs1_; have HR19 := za0.mk h_; obtain ⟨Ao20, co21, eo_⟩ := Kd.R_slice HR19.1; subst eo_; have HCHR19 := za0.mk (Kd.R_reads' HR19.1).2.1; clear h_ hov0__; have nc_ := za0.mk (And.intro c1_ (And.intro c2_ CH.1)); clear CH ns_; have CH := nc_; have ns_ := za0.mk c3_; clear nc_ c1_ c2_ c3_; clear HB HS FA0_0 FA2 BKgb1 HS11; have FA0_0 := n0_; have FA2 := n1_; have BKgb1 := n2_; have HS11 := n3_; have HB := nB_; have HS := ns_; clear nB_ ns_ n0_ n1_ n2_ n3_; clear hk_ hs1_ hs2_ hw_ hB_ hb_; have hczgb1_0 : w14.cell? ⟨gb1, 0, none⟩ = some (.slice A0_0 l0_0.length c0_0) := (zl0 BKgb1.1 0).trans rfl; have hfzgb1_0 := zk0 BKgb1.1 0) | ((with_reducible refine zn0 (f := 19) rfl ?_); refine za1 (some 36) rfl rfl Try.func19 (by kernel_rfl) rfl #[.agg #[.slice Ao12 l0_0.length co13], .int .i64 a1, .slice Ao20 l2.length co21, .int .i64 a3] rfl (by (try simp only [List.map_toArray, List.map_cons, List.map_nil]); first | done | rfl | (simp only [List.length_drop, List.length_take]; rfl)) ?_; (with_reducible refine (ys1.calls KE25 _ _ l0_0 a1 _ _ l2 a3 x23 x24 _ ?sidehr0_0 ?sidehc0_0 ?sidehr2 ?sidehc2 E25.1).mono ?_); (case sidehr0_0 => exact S_now (S := (fun _ => False)) HS11.1 (by repeat (first | exact Kept.refl _ _ | apply Kept.alloc | apply Kept.drewN | apply Kept.drew)) (fun _ _ hs_ => hs_.elim)); (case sidehc0_0 => exact HCHS11.1); (case sidehr2 => exact R_now (S := (fun _ => False)) HR19.1 (by repeat (first | exact Kept.refl _ _ | apply Kept.alloc | apply Kept.drewN | apply Kept.drew)) (fun _ _ hs_ => hs_.elim)); (case sidehc2 => exact HCHR19.1); rintro e w22 ⟨v26, rfl, hov0__, hb_⟩; refine ⟨_, rfl, ?_⟩; (try clear hczgb1_0); (try clear hfzgb1_0); obtain ⟨hk_, hs1_, hs2_, hw_⟩ := ev_kept (S := (fun _ => False)) HS.1 HB.1 hb_ (by repeat (first | exact Kept.refl _ _ | apply Kept.alloc | apply Kept.drewN | apply Kept.drew)); have hB_ := zi0 (by repeat (first | exact HB.1 | apply zc0 | apply zb0 | apply zd0 | refine ze0 ?_ GEgb1.1)) hb_; have n0_ := za0.mk (Kd.F_kept FA0_0.1 hk_ (fun _ _ hs_ => hs_.elim)); have n1_ := za0.mk (Kd.F_kept FA2.1 hk_ (fun _ _ hs_ => hs_.elim)); have n2_ := za0.mk (zm0 (g := gb1) (o := .cells #[.slice A0_0 l0_0.length c0_0] 24 (0, 0)) (by (with_reducible repeat (first | refine zg0 ?_ _ | refine zj0 ?_ | refine zf0 ?_ _)); exact BKgb1.1) hb_); have n3_ := za0.mk (Kd.S_kept HS11.1 hk_ (fun _ _ hs_ => hs_.elim)); have n4_ := za0.mk (Kd.R_kept HR19.1 hk_ (fun _ _ hs_ => hs_.elim)); have ns_ := za0.mk (Nat.le_trans (Nat.le_trans hs1_ hs2_) (Nat.le_refl _)); have nB_ := za0.mk hB_; obtain ⟨lo27, hi28, c1_, c2_, c3_, h_⟩ := N_new hov0__ hs2_ hw_ hs1_; have HN29 := za0.mk h_; obtain ⟨Ao30, co31, eo_⟩ := Kd.N_slice HN29.1; subst eo_; have HCHN29 := za0.mk (Kd.N_reads' HN29.1).2.1; clear h_ hov0__; have nc_ := za0.mk (And.intro c1_ (And.intro c2_ CH.1)); clear CH ns_; have CH := nc_; have ns_ := za0.mk c3_; clear nc_ c1_ c2_ c3_; clear HB HS FA0_0 FA2 BKgb1 HS11 HR19; have FA0_0 := n0_; have FA2 := n1_; have BKgb1 := n2_; have HS11 := n3_; have HR19 := n4_; have HB := nB_; have HS := ns_; clear nB_ ns_ n0_ n1_ n2_ n3_ n4_; clear hk_ hs1_ hs2_ hw_ hB_ hb_; have hczgb1_0 : w22.cell? ⟨gb1, 0, none⟩ = some (.slice A0_0 l0_0.length c0_0) := (zl0 BKgb1.1 0).trans rfl; have hfzgb1_0 := zk0 BKgb1.1 0) | ((with_reducible refine zn0 (f := 9) rfl ?_); refine za1 (some 40) rfl rfl Try.func9 (by kernel_rfl) rfl #[.agg #[.slice A0_0 l0_0.length c0_0]] rfl (by (try simp only [List.map_toArray, List.map_cons, List.map_nil]); first | done | rfl | (simp only [List.length_drop, List.length_take]; rfl)) ?_; (with_reducible refine (yo1.calls KE7 _ _ l0_0 l0_0 _ ?sidehr0_0 ?sidehc0_0 E7.1).mono ?_); (case sidehr0_0 => exact F_at (S := (fun _ => False)) FA0_0.1 (by repeat (first | exact Kept.refl _ _ | apply Kept.alloc | apply Kept.drewN | apply Kept.drew)) (fun _ _ hs_ => hs_.elim)); (case sidehc0_0 => exact HC0_0.1); rintro e w32 ⟨v33, rfl, hov0__, hb_⟩; refine ⟨_, rfl, ?_⟩; (try clear hczgb1_0); (try clear hfzgb1_0); obtain ⟨hk_, hs1_, hs2_, hw_⟩ := ev_kept (S := (fun _ => False)) HS.1 HB.1 hb_ (by repeat (first | exact Kept.refl _ _ | apply Kept.alloc | apply Kept.drewN | apply Kept.drew)); have hB_ := zi0 (by repeat (first | exact HB.1 | apply zc0 | apply zb0 | apply zd0 | refine ze0 ?_ GEgb1.1)) hb_; have n0_ := za0.mk (Kd.F_kept FA0_0.1 hk_ (fun _ _ hs_ => hs_.elim)); have n1_ := za0.mk (Kd.F_kept FA2.1 hk_ (fun _ _ hs_ => hs_.elim)); have n2_ := za0.mk (zm0 (g := gb1) (o := .cells #[.slice A0_0 l0_0.length c0_0] 24 (0, 0)) (by (with_reducible repeat (first | refine zg0 ?_ _ | refine zj0 ?_ | refine zf0 ?_ _)); exact BKgb1.1) hb_); have n3_ := za0.mk (Kd.S_kept HS11.1 hk_ (fun _ _ hs_ => hs_.elim)); have n4_ := za0.mk (Kd.R_kept HR19.1 hk_ (fun _ _ hs_ => hs_.elim)); have n5_ := za0.mk (Kd.N_kept HN29.1 hk_ (fun _ _ hs_ => hs_.elim)); have ns_ := za0.mk (Nat.le_trans (Nat.le_trans hs1_ hs2_) (Nat.le_refl _)); have nB_ := za0.mk hB_; obtain ⟨lo34, hi35, c1_, c2_, c3_, h_⟩ := S_new hov0__ hs2_ hw_ hs1_; have HS36 := za0.mk h_; obtain ⟨Ao37, co38, eo_⟩ := Kd.S_slice HS36.1; subst eo_; have HCHS36 := za0.mk (Kd.S_reads' HS36.1).2.1; clear h_ hov0__; have nc_ := za0.mk (And.intro c1_ (And.intro c2_ CH.1)); clear CH ns_; have CH := nc_; have ns_ := za0.mk c3_; clear nc_ c1_ c2_ c3_; clear HB HS FA0_0 FA2 BKgb1 HS11 HR19 HN29; have FA0_0 := n0_; have FA2 := n1_; have BKgb1 := n2_; have HS11 := n3_; have HR19 := n4_; have HN29 := n5_; have HB := nB_; have HS := ns_; clear nB_ ns_ n0_ n1_ n2_ n3_ n4_ n5_; clear hk_ hs1_ hs2_ hw_ hB_ hb_; have hczgb1_0 : w32.cell? ⟨gb1, 0, none⟩ = some (.slice A0_0 l0_0.length c0_0) := (zl0 BKgb1.1 0).trans rfl; have hfzgb1_0 := zk0 BKgb1.1 0) | ((with_reducible refine zo0 (N := 12) rfl ?_); refine zp0 ?hg (N := 12) ?hd (cs := #[.slice none 0 0]) (t := 29) ?hr ?_; (case hd | hg => rfl); (case hr => go_simp <;> rfl); intro gb39 hg_ w40 hbox_ hb_; (try clear hczgb1_0); (try clear hfzgb1_0); obtain ⟨hk_, hs1_, hs2_, hw0_⟩ := ev_kept (S := (fun _ => False)) HS.1 HB.1 hb_ (by repeat (first | exact Kept.refl _ _ | apply Kept.alloc | apply Kept.drewN | apply Kept.drew)); have hw_ : w.heap.size ≤ gb39 := (by rw [hg_]; exact hw0_); have hB_ := zi0 (by repeat (first | exact HB.1 | apply zc0 | apply zb0 | apply zd0 | refine ze0 ?_ GEgb1.1)) hb_; have n0_ := za0.mk (Kd.F_kept FA0_0.1 hk_ (fun _ _ hs_ => hs_.elim)); have n1_ := za0.mk (Kd.F_kept FA2.1 hk_ (fun _ _ hs_ => hs_.elim)); have n2_ := za0.mk (zm0 (g := gb1) (o := .cells #[.slice A0_0 l0_0.length c0_0] 24 (0, 0)) (by (with_reducible repeat (first | refine zg0 ?_ _ | refine zj0 ?_ | refine zf0 ?_ _)); exact BKgb1.1) hb_); have n3_ := za0.mk (Kd.S_kept HS11.1 hk_ (fun _ _ hs_ => hs_.elim)); have n4_ := za0.mk (Kd.R_kept HR19.1 hk_ (fun _ _ hs_ => hs_.elim)); have n5_ := za0.mk (Kd.N_kept HN29.1 hk_ (fun _ _ hs_ => hs_.elim)); have n6_ := za0.mk (Kd.S_kept HS36.1 hk_ (fun _ _ hs_ => hs_.elim)); have hS_ : hi35 ≤ gb39 := (by rw [hg_]; exact hs1_); have nb_ := za0.mk hbox_; have ns_ := za0.mk (box_in hbox_); have nc_ := za0.mk (And.intro hS_ CH.1); have ng_ := za0.mk hw_; have nB_ := za0.mk hB_; clear HB HS CH FA0_0 FA2 BKgb1 HS11 HR19 HN29 HS36; have FA0_0 := n0_; have FA2 := n1_; have BKgb1 := n2_; have HS11 := n3_; have HR19 := n4_; have HN29 := n5_; have HS36 := n6_; have HB := nB_; have HS := ns_; have CH := nc_; have BKgb39 := nb_; have GEgb39 := ng_; clear nB_ ns_ nc_ nb_ ng_ n0_ n1_ n2_ n3_ n4_ n5_ n6_; clear hk_ hs1_ hs2_ hw_ hw0_ hB_ hS_ hb_ hbox_ hg_; have hczgb1_0 : w40.cell? ⟨gb1, 0, none⟩ = some (.slice A0_0 l0_0.length c0_0) := (zl0 BKgb1.1 0).trans rfl; have hfzgb1_0 := zk0 BKgb1.1 0; have hczgb39_0 : w40.cell? ⟨gb39, 0, none⟩ = some (.slice none 0 0) := (zl0 BKgb39.1 0).trans rfl; have hfzgb39_0 := zk0 BKgb39.1 0; have hnbgb1gb39 : gb1 ≠ gb39 := (by have := CH.1; omega); have hnbgb39gb1 : gb39 ≠ gb1 := (by have := CH.1; omega)) | ((with_reducible refine zn0 (f := 10) rfl ?_); refine za1 (some 42) rfl rfl Try.func10 (by kernel_rfl) rfl #[.slice A2 l2.length c2] rfl (by (try simp only [List.map_toArray, List.map_cons, List.map_nil]); first | done | rfl | (simp only [List.length_drop, List.length_take]; rfl)) ?_; (with_reducible refine (yj0.calls KE15 _ _ l2 l2 _ ?sidehr0 ?sidehc0 E15.1).mono ?_); (case sidehr0 => exact F_at (S := (fun k_ => k_ = gb39)) FA2.1 (by repeat (first | (with_reducible first | exact Kept.refl _ _ | apply Kept.alloc | apply Kept.drewN | apply Kept.drew) | refine Kept.setCell ?_ (Or.inl (show gb39 = gb39 from rfl)) _ | exact Kept.refl _ _)) (fun k_ h_ hs_ => by have h1_ : k_ < s0 := h_; have g1_ : k_ = gb39 := hs_; have := CH.1; omega)); (case sidehc0 => exact HC2.1); rintro e w41 ⟨v42, rfl, hov0__, hb_⟩; refine ⟨_, rfl, ?_⟩; (try clear hczgb1_0); (try clear hfzgb1_0); (try clear hczgb39_0); (try clear hfzgb39_0); obtain ⟨hk_, hs1_, hs2_, hw_⟩ := ev_kept (S := (fun k_ => k_ = gb39)) HS.1 HB.1 hb_ (by repeat (first | (with_reducible first | exact Kept.refl _ _ | apply Kept.alloc | apply Kept.drewN | apply Kept.drew) | refine Kept.setCell ?_ (Or.inl (show gb39 = gb39 from rfl)) _ | exact Kept.refl _ _)); have hB_ := zi0 (by repeat (first | exact HB.1 | apply zc0 | apply zb0 | apply zd0 | refine ze0 ?_ GEgb1.1 | refine ze0 ?_ GEgb39.1)) hb_; have n0_ := za0.mk (Kd.F_kept FA0_0.1 hk_ (fun k_ h_ hs_ => by have h1_ : k_ < s0 := h_; have g1_ : k_ = gb39 := hs_; have := CH.1; omega)); have n1_ := za0.mk (Kd.F_kept FA2.1 hk_ (fun k_ h_ hs_ => by have h1_ : k_ < s0 := h_; have g1_ : k_ = gb39 := hs_; have := CH.1; omega)); have n2_ := za0.mk (zm0 (g := gb1) (o := .cells #[.slice A0_0 l0_0.length c0_0] 24 (0, 0)) (by (with_reducible repeat (first | refine zg0 ?_ _ | refine zj0 ?_ | refine zf0 ?_ _)); refine blk_far ?_ (by have := CH.1; omega) _; (with_reducible repeat (first | refine zg0 ?_ _ | refine zj0 ?_ | refine zf0 ?_ _)); exact BKgb1.1) hb_); have n3_ := za0.mk (Kd.S_kept HS11.1 hk_ (fun k_ h_ hs_ => by obtain ⟨h1_, h2_⟩ := h_; have g1_ : k_ = gb39 := hs_; have := CH.1; omega)); have n4_ := za0.mk (Kd.R_kept HR19.1 hk_ (fun k_ h_ hs_ => by obtain ⟨h1_, h2_⟩ := h_; have g1_ : k_ = gb39 := hs_; have := CH.1; omega)); have n5_ := za0.mk (Kd.N_kept HN29.1 hk_ (fun k_ h_ hs_ => by obtain ⟨h1_, h2_⟩ := h_; have g1_ : k_ = gb39 := hs_; have := CH.1; omega)); have n6_ := za0.mk (Kd.S_kept HS36.1 hk_ (fun k_ h_ hs_ => by obtain ⟨h1_, h2_⟩ := h_; have g1_ : k_ = gb39 := hs_; have := CH.1; omega)); have n7_ := za0.mk (zm0 (g := gb39) (o := .cells #[.slice Ao37 l0_0.length co38] 29 (0, 0)) (by (with_reducible repeat (first | refine zg0 ?_ _ | refine zj0 ?_ | refine zf0 ?_ _)); refine blk_put (cs := #[.slice none 0 0]) ?_ 0 _ rfl; (with_reducible repeat (first | refine zg0 ?_ _ | refine zj0 ?_ | refine zf0 ?_ _)); exact BKgb39.1) hb_); have ns_ := za0.mk (Nat.le_trans (Nat.le_trans hs1_ hs2_) (Nat.le_refl _)); have nB_ := za0.mk hB_; obtain ⟨lo43, hi44, c1_, c2_, c3_, h_⟩ := R_new hov0__ hs2_ hw_ hs1_; have HR45 := za0.mk h_; obtain ⟨Ao46, co47, eo_⟩ := Kd.R_slice HR45.1; subst eo_; have HCHR45 := za0.mk (Kd.R_reads' HR45.1).2.1; clear h_ hov0__; have nc_ := za0.mk (And.intro c1_ (And.intro c2_ CH.1)); clear CH ns_; have CH := nc_; have ns_ := za0.mk c3_; clear nc_ c1_ c2_ c3_; clear HB HS FA0_0 FA2 BKgb1 HS11 HR19 HN29 HS36 BKgb39; have FA0_0 := n0_; have FA2 := n1_; have BKgb1 := n2_; have HS11 := n3_; have HR19 := n4_; have HN29 := n5_; have HS36 := n6_; have BKgb39 := n7_; have HB := nB_; have HS := ns_; clear nB_ ns_ n0_ n1_ n2_ n3_ n4_ n5_ n6_ n7_; clear hk_ hs1_ hs2_ hw_ hB_ hb_; have hczgb1_0 : w41.cell? ⟨gb1, 0, none⟩ = some (.slice A0_0 l0_0.length c0_0) := (zl0 BKgb1.1 0).trans rfl; have hfzgb1_0 := zk0 BKgb1.1 0; have hczgb39_0 : w41.cell? ⟨gb39, 0, none⟩ = some (.slice Ao37 l0_0.length co38) := (zl0 BKgb39.1 0).trans rfl; have hfzgb39_0 := zk0 BKgb39.1 0; have hnbgb1gb39 : gb1 ≠ gb39 := (by have := CH.1; omega); have hnbgb39gb1 : gb39 ≠ gb1 := (by have := CH.1; omega)) | ((with_reducible refine zn0 (f := 20) rfl ?_); refine za1 (some 48) rfl rfl Try.func20 (by kernel_rfl) rfl #[.agg #[.slice Ao37 l0_0.length co38], .int .i64 a1, .slice Ao46 l2.length co47, .int .i64 a3] rfl (by (try simp only [List.map_toArray, List.map_cons, List.map_nil]); first | done | rfl | (simp only [List.length_drop, List.length_take]; rfl)) ?_; (with_reducible refine (ye1.calls KE49 _ _ l0_0 a1 _ _ l2 a3 x23 x24 _ ?sidehr0_0 ?sidehc0_0 ?sidehr2 ?sidehc2 E49.1).mono ?_); (case sidehr0_0 => exact S_now (S := (fun _ => False)) HS36.1 (by repeat (first | exact Kept.refl _ _ | apply Kept.alloc | apply Kept.drewN | apply Kept.drew)) (fun _ _ hs_ => hs_.elim)); (case sidehc0_0 => exact HCHS36.1); (case sidehr2 => exact R_now (S := (fun _ => False)) HR45.1 (by repeat (first | exact Kept.refl _ _ | apply Kept.alloc | apply Kept.drewN | apply Kept.drew)) (fun _ _ hs_ => hs_.elim)); (case sidehc2 => exact HCHR45.1); rintro e w48 ⟨v50, rfl, hov0__, hb_⟩; refine ⟨_, rfl, ?_⟩; (try clear hczgb1_0); (try clear hfzgb1_0); (try clear hczgb39_0); (try clear hfzgb39_0); obtain ⟨hk_, hs1_, hs2_, hw_⟩ := ev_kept (S := (fun _ => False)) HS.1 HB.1 hb_ (by repeat (first | exact Kept.refl _ _ | apply Kept.alloc | apply Kept.drewN | apply Kept.drew)); have hB_ := zi0 (by repeat (first | exact HB.1 | apply zc0 | apply zb0 | apply zd0 | refine ze0 ?_ GEgb1.1 | refine ze0 ?_ GEgb39.1)) hb_; have n0_ := za0.mk (Kd.F_kept FA0_0.1 hk_ (fun _ _ hs_ => hs_.elim)); have n1_ := za0.mk (Kd.F_kept FA2.1 hk_ (fun _ _ hs_ => hs_.elim)); have n2_ := za0.mk (zm0 (g := gb1) (o := .cells #[.slice A0_0 l0_0.length c0_0] 24 (0, 0)) (by (with_reducible repeat (first | refine zg0 ?_ _ | refine zj0 ?_ | refine zf0 ?_ _)); exact BKgb1.1) hb_); have n3_ := za0.mk (Kd.S_kept HS11.1 hk_ (fun _ _ hs_ => hs_.elim)); have n4_ := za0.mk (Kd.R_kept HR19.1 hk_ (fun _ _ hs_ => hs_.elim)); have n5_ := za0.mk (Kd.N_kept HN29.1 hk_ (fun _ _ hs_ => hs_.elim)); have n6_ := za0.mk (Kd.S_kept HS36.1 hk_ (fun _ _ hs_ => hs_.elim)); have n7_ := za0.mk (zm0 (g := gb39) (o := .cells #[.slice Ao37 l0_0.length co38] 29 (0, 0)) (by (with_reducible repeat (first | refine zg0 ?_ _ | refine zj0 ?_ | refine zf0 ?_ _)); exact BKgb39.1) hb_); have n8_ := za0.mk (Kd.R_kept HR45.1 hk_ (fun _ _ hs_ => hs_.elim)); have ns_ := za0.mk (Nat.le_trans (Nat.le_trans hs1_ hs2_) (Nat.le_refl _)); have nB_ := za0.mk hB_; obtain ⟨lo51, hi52, c1_, c2_, c3_, h_⟩ := S_new hov0__ hs2_ hw_ hs1_; have HS53 := za0.mk h_; obtain ⟨Ao54, co55, eo_⟩ := Kd.S_slice HS53.1; subst eo_; have HCHS53 := za0.mk (Kd.S_reads' HS53.1).2.1; clear h_ hov0__; have nc_ := za0.mk (And.intro c1_ (And.intro c2_ CH.1)); clear CH ns_; have CH := nc_; have ns_ := za0.mk c3_; clear nc_ c1_ c2_ c3_; clear HB HS FA0_0 FA2 BKgb1 HS11 HR19 HN29 HS36 BKgb39 HR45; have FA0_0 := n0_; have FA2 := n1_; have BKgb1 := n2_; have HS11 := n3_; have HR19 := n4_; have HN29 := n5_; have HS36 := n6_; have BKgb39 := n7_; have HR45 := n8_; have HB := nB_; have HS := ns_; clear nB_ ns_ n0_ n1_ n2_ n3_ n4_ n5_ n6_ n7_ n8_; clear hk_ hs1_ hs2_ hw_ hB_ hb_; have hczgb1_0 : w48.cell? ⟨gb1, 0, none⟩ = some (.slice A0_0 l0_0.length c0_0) := (zl0 BKgb1.1 0).trans rfl; have hfzgb1_0 := zk0 BKgb1.1 0; have hczgb39_0 : w48.cell? ⟨gb39, 0, none⟩ = some (.slice Ao37 l0_0.length co38) := (zl0 BKgb39.1 0).trans rfl; have hfzgb39_0 := zk0 BKgb39.1 0; have hnbgb1gb39 : gb1 ≠ gb39 := (by have := CH.1; omega); have hnbgb39gb1 : gb39 ≠ gb1 := (by have := CH.1; omega)) | ((with_reducible refine zn0 (f := 21) rfl ?_); refine za1 (some 53) rfl rfl Try.func21 (by kernel_rfl) rfl #[.slice Ao54 x23.length co55, .slice Ao30 x23.length co31] rfl (by (try simp only [List.map_toArray, List.map_cons, List.map_nil]); first | done | rfl | (simp only [List.length_drop, List.length_take]; rfl)) ?_; (with_reducible refine (yk0.calls KE57 _ _ x23 _ _ x23 true _ ?sidehr0 ?sidehc0 ?sidehr1 ?sidehc1 E57.1).mono ?_); (case sidehr0 => exact S_now (S := (fun _ => False)) HS53.1 (by repeat (first | exact Kept.refl _ _ | apply Kept.alloc | apply Kept.drewN | apply Kept.drew)) (fun _ _ hs_ => hs_.elim)); (case sidehc0 => exact HCHS53.1); (case sidehr1 => exact N_now (S := (fun _ => False)) HN29.1 (by repeat (first | exact Kept.refl _ _ | apply Kept.alloc | apply Kept.drewN | apply Kept.drew)) (fun _ _ hs_ => hs_.elim)); (case sidehc1 => exact HCHN29.1); rintro e w56 ⟨rfl, hd_⟩; refine ⟨_, rfl, ?_⟩; have hb_ := hd_.below; (try clear hczgb1_0); (try clear hfzgb1_0); (try clear hczgb39_0); (try clear hfzgb39_0); obtain ⟨hk_, hs1_, hs2_, hw_⟩ := ev_kept (S := (fun _ => False)) HS.1 HB.1 hb_ (by repeat (first | exact Kept.refl _ _ | apply Kept.alloc | apply Kept.drewN | apply Kept.drew)); have hB_ := zi0 (by repeat (first | exact HB.1 | apply zc0 | apply zb0 | apply zd0 | refine ze0 ?_ GEgb1.1 | refine ze0 ?_ GEgb39.1)) hb_; have n0_ := za0.mk (Kd.F_kept FA0_0.1 hk_ (fun _ _ hs_ => hs_.elim)); have n1_ := za0.mk (Kd.F_kept FA2.1 hk_ (fun _ _ hs_ => hs_.elim)); have n2_ := za0.mk (zm0 (g := gb1) (o := .cells #[.slice A0_0 l0_0.length c0_0] 24 (0, 0)) (by (with_reducible repeat (first | refine zg0 ?_ _ | refine zj0 ?_ | refine zf0 ?_ _)); exact BKgb1.1) hb_); have n3_ := za0.mk (Kd.S_kept HS11.1 hk_ (fun _ _ hs_ => hs_.elim)); have n4_ := za0.mk (Kd.R_kept HR19.1 hk_ (fun _ _ hs_ => hs_.elim)); have n5_ := za0.mk (Kd.N_kept HN29.1 hk_ (fun _ _ hs_ => hs_.elim)); have n6_ := za0.mk (Kd.S_kept HS36.1 hk_ (fun _ _ hs_ => hs_.elim)); have n7_ := za0.mk (zm0 (g := gb39) (o := .cells #[.slice Ao37 l0_0.length co38] 29 (0, 0)) (by (with_reducible repeat (first | refine zg0 ?_ _ | refine zj0 ?_ | refine zf0 ?_ _)); exact BKgb39.1) hb_); have n8_ := za0.mk (Kd.R_kept HR45.1 hk_ (fun _ _ hs_ => hs_.elim)); have n9_ := za0.mk (Kd.S_kept HS53.1 hk_ (fun _ _ hs_ => hs_.elim)); have ns_ := za0.mk (Nat.le_trans (Nat.le_trans hs1_ hs2_) (Nat.le_refl _)); have nB_ := za0.mk hB_; clear HB HS FA0_0 FA2 BKgb1 HS11 HR19 HN29 HS36 BKgb39 HR45 HS53; have FA0_0 := n0_; have FA2 := n1_; have BKgb1 := n2_; have HS11 := n3_; have HR19 := n4_; have HN29 := n5_; have HS36 := n6_; have BKgb39 := n7_; have HR45 := n8_; have HS53 := n9_; have HB := nB_; have HS := ns_; clear nB_ ns_ n0_ n1_ n2_ n3_ n4_ n5_ n6_ n7_ n8_ n9_; clear hk_ hs1_ hs2_ hw_ hB_ hb_; clear hd_; have hczgb1_0 : w56.cell? ⟨gb1, 0, none⟩ = some (.slice A0_0 l0_0.length c0_0) := (zl0 BKgb1.1 0).trans rfl; have hfzgb1_0 := zk0 BKgb1.1 0; have hczgb39_0 : w56.cell? ⟨gb39, 0, none⟩ = some (.slice Ao37 l0_0.length co38) := (zl0 BKgb39.1 0).trans rfl; have hfzgb39_0 := zk0 BKgb39.1 0; have hnbgb1gb39 : gb1 ≠ gb39 := (by have := CH.1; omega); have hnbgb39gb1 : gb39 ≠ gb1 := (by have := CH.1; omega)))
 try go_wp2
 (try clear hczgb1_0)
 (try clear hfzgb1_0)
 (try clear hczgb39_0)
 (try clear hfzgb39_0)
 have n0_ := za0.mk (Kd.F_drew FA0_0.1)
 have n1_ := za0.mk (Kd.F_drew FA2.1)
 have n2_ := za0.mk (zj0 BKgb1.1)
 have n3_ := za0.mk (Kd.S_drew HS11.1)
 have n4_ := za0.mk (Kd.R_drew HR19.1)
 have n5_ := za0.mk (Kd.N_drew HN29.1)
 have n6_ := za0.mk (Kd.S_drew HS36.1)
 have n7_ := za0.mk (zj0 BKgb39.1)
 have n8_ := za0.mk (Kd.R_drew HR45.1)
 have n9_ := za0.mk (Kd.S_drew HS53.1)
 have nB_ := za0.mk (zd0 HB.1)
 have nS_ : za0 (hi52 ≤ w56.drew.heap.size) := ⟨HS.1⟩
 clear HB HS FA0_0 FA2 BKgb1 HS11 HR19 HN29 HS36 BKgb39 HR45 HS53
 have FA0_0 := n0_
 have FA2 := n1_
 have BKgb1 := n2_
 have HS11 := n3_
 have HR19 := n4_
 have HN29 := n5_
 have HS36 := n6_
 have BKgb39 := n7_
 have HR45 := n8_
 have HS53 := n9_
 have HB := nB_
 have HS := nS_
 clear nB_ nS_ n0_ n1_ n2_ n3_ n4_ n5_ n6_ n7_ n8_ n9_
 refine start_ (n := 5) (S := fun w' => w'.cell? ⟨gb1, 0, none⟩ = some (.slice A0_0 l0_0.length c0_0) ∧ w'.cell? ⟨gb39, 0, none⟩ = some (.slice Ao37 l0_0.length co38)) (ds := []) #[false, false, false, false, false] (by kernel_rfl) rfl rfl ⟨(zl0 BKgb1.1 0).trans rfl, (zl0 BKgb39.1 0).trans rfl⟩ (fun hHeld => ?_)
 generalize w56.drew = w58 at HB HS FA0_0 FA2 BKgb1 HS11 HR19 HN29 HS36 BKgb39 HR45 HS53 hHeld ⊢
 refine take_ (i := 0) (N := some 60) (v := ?_) (a' := ?_) (bf 5 1) rfl rfl (by kernel_rfl) (fun _ _ _ h => h) (Or.inl ⟨by rfl, ?_⟩) hHeld ?_ ?_
 rotate_left
 ·rintro w' ⟨s0_, s1_⟩; go_simp; with_reducible rfl
 rotate_left
 ·simp only [Act.put, zA, zB, zC, i64_w, i32_w]; rfl
 refine take_ (i := 1) (N := some 61) (v := ?_) (a' := ?_) (bf 5 3) rfl rfl (by kernel_rfl) (fun _ _ _ h => h) (Or.inl ⟨by rfl, ?_⟩) hHeld ?_ ?_
 rotate_left
 ·rintro w' ⟨s0_, s1_⟩; go_simp; with_reducible rfl
 rotate_left
 ·simp only [Act.put, zA, zB, zC, i64_w, i32_w]; rfl
 refine one_ (i := 2) (N := some 62) (bf 5 7) rfl rfl (by kernel_rfl) (by decide) (fun K hK => ?_)
 refine goes_ Try.func9 (by kernel_rfl) rfl #[.agg #[.slice A0_0 l0_0.length c0_0]] (by rfl) rfl rfl (by (try simp only [List.map_toArray, List.map_cons, List.map_nil]); first | done | rfl | (simp only [List.length_drop, List.length_take]; rfl)) ?_
 (with_reducible refine (yo1.calls KE7 _ _ l0_0 l0_0 _ ?sidehr0_0 ?sidehc0_0 E7.1).mono ?_)
 (case sidehr0_0 => exact F_at (S := (fun _ => False)) FA0_0.1 (by repeat (first | exact Kept.refl _ _ | apply Kept.alloc | apply Kept.drewN | apply Kept.drew)) (fun _ _ hs_ => hs_.elim))
 (case sidehc0_0 => exact HC0_0.1)
 rintro e w59 ⟨v60, rfl, hov0__, hb_⟩
 refine ⟨_, rfl, ?_⟩
 (try clear hczgb1_0)
 (try clear hfzgb1_0)
 (try clear hczgb39_0)
 (try clear hfzgb39_0)
 obtain ⟨hk_, hs1_, hs2_, hw_⟩ := ev_kept (S := (fun _ => False)) HS.1 HB.1 hb_ (by repeat (first | exact Kept.refl _ _ | apply Kept.alloc | apply Kept.drewN | apply Kept.drew))
 have hB_ := zi0 (by repeat (first | exact HB.1 | apply zc0 | apply zb0 | apply zd0 | refine ze0 ?_ GEgb1.1 | refine ze0 ?_ GEgb39.1)) hb_
 have n0_ := za0.mk (Kd.F_kept FA0_0.1 hk_ (fun _ _ hs_ => hs_.elim))
 have n1_ := za0.mk (Kd.F_kept FA2.1 hk_ (fun _ _ hs_ => hs_.elim))
 have n2_ := za0.mk (zm0 (g := gb1) (o := .cells #[.slice A0_0 l0_0.length c0_0] 24 (0, 0)) (by (with_reducible repeat (first | refine zg0 ?_ _ | refine zj0 ?_ | refine zf0 ?_ _)); exact BKgb1.1) hb_)
 have n3_ := za0.mk (Kd.S_kept HS11.1 hk_ (fun _ _ hs_ => hs_.elim))
 have n4_ := za0.mk (Kd.R_kept HR19.1 hk_ (fun _ _ hs_ => hs_.elim))
 have n5_ := za0.mk (Kd.N_kept HN29.1 hk_ (fun _ _ hs_ => hs_.elim))
 have n6_ := za0.mk (Kd.S_kept HS36.1 hk_ (fun _ _ hs_ => hs_.elim))
 have n7_ := za0.mk (zm0 (g := gb39) (o := .cells #[.slice Ao37 l0_0.length co38] 29 (0, 0)) (by (with_reducible repeat (first | refine zg0 ?_ _ | refine zj0 ?_ | refine zf0 ?_ _)); exact BKgb39.1) hb_)
 have n8_ := za0.mk (Kd.R_kept HR45.1 hk_ (fun _ _ hs_ => hs_.elim))
 have n9_ := za0.mk (Kd.S_kept HS53.1 hk_ (fun _ _ hs_ => hs_.elim))
 have ns_ := za0.mk (Nat.le_trans (Nat.le_trans hs1_ hs2_) (Nat.le_refl _))
 have nB_ := za0.mk hB_
 obtain ⟨lo61, hi62, c1_, c2_, c3_, h_⟩ := S_new hov0__ hs2_ hw_ hs1_
 have HS63 := za0.mk h_
 obtain ⟨Ao64, co65, eo_⟩ := Kd.S_slice HS63.1
 subst eo_
 have HCHS63 := za0.mk (Kd.S_reads' HS63.1).2.1
 clear h_ hov0__
 have nc_ := za0.mk (And.intro c1_ (And.intro c2_ CH.1))
 clear CH ns_
 have CH := nc_
 have ns_ := za0.mk c3_
 clear nc_ c1_ c2_ c3_ HB HS FA0_0 FA2 BKgb1 HS11 HR19 HN29 HS36 BKgb39 HR45 HS53
 have FA0_0 := n0_
 have FA2 := n1_
 have BKgb1 := n2_
 have HS11 := n3_
 have HR19 := n4_
 have HN29 := n5_
 have HS36 := n6_
 have BKgb39 := n7_
 have HR45 := n8_
 have HS53 := n9_
 have HB := nB_
 have HS := ns_
 clear nB_ ns_ n0_ n1_ n2_ n3_ n4_ n5_ n6_ n7_ n8_ n9_ hk_ hs1_ hs2_ hw_ hB_ hb_
 refine hK.out _ _ ⟨(zl0 BKgb1.1 0).trans rfl, (zl0 BKgb39.1 0).trans rfl⟩ (fun hHeld => ?_)
 clear hK K
 refine norm_ (a' := ?_) ?_ ?_
 rotate_left
 ·show Act.put _ (some 62) _ = _; simp only [Act.put, zA, zB, zC, i64_w, i32_w]; rfl
 refine one_ (i := 3) (N := some 63) (bf 5 15) rfl rfl (by kernel_rfl) (by decide) (fun K hK => ?_)
 refine goes_ Try.func13 (by kernel_rfl) rfl #[.agg #[.slice Ao37 l0_0.length co38], .agg #[.slice Ao64 l0_0.length co65]] (by rfl) rfl rfl (by (try simp only [List.map_toArray, List.map_cons, List.map_nil]); first | done | rfl | (simp only [List.length_drop, List.length_take]; rfl)) ?_
 (with_reducible refine (yw1.calls KE67 _ _ l0_0 _ _ l0_0 true _ ?sidehr0_0 ?sidehc0_0 ?sidehr1_0 ?sidehc1_0 E67.1).mono ?_)
 (case sidehr0_0 => exact S_now (S := (fun _ => False)) HS36.1 (by repeat (first | exact Kept.refl _ _ | apply Kept.alloc | apply Kept.drewN | apply Kept.drew)) (fun _ _ hs_ => hs_.elim))
 (case sidehc0_0 => exact HCHS36.1)
 (case sidehr1_0 => exact S_now (S := (fun _ => False)) HS63.1 (by repeat (first | exact Kept.refl _ _ | apply Kept.alloc | apply Kept.drewN | apply Kept.drew)) (fun _ _ hs_ => hs_.elim))
 (case sidehc1_0 => exact HCHS63.1)
 rintro e w66 ⟨rfl, hb_⟩
 refine ⟨_, rfl, ?_⟩
 (try clear hczgb1_0)
 (try clear hfzgb1_0)
 (try clear hczgb39_0)
 (try clear hfzgb39_0)
 obtain ⟨hk_, hs1_, hs2_, hw_⟩ := ev_kept (S := (fun _ => False)) HS.1 HB.1 hb_ (by repeat (first | exact Kept.refl _ _ | apply Kept.alloc | apply Kept.drewN | apply Kept.drew))
 have hB_ := zi0 (by repeat (first | exact HB.1 | apply zc0 | apply zb0 | apply zd0 | refine ze0 ?_ GEgb1.1 | refine ze0 ?_ GEgb39.1)) hb_
 have n0_ := za0.mk (Kd.F_kept FA0_0.1 hk_ (fun _ _ hs_ => hs_.elim))
 have n1_ := za0.mk (Kd.F_kept FA2.1 hk_ (fun _ _ hs_ => hs_.elim))
 have n2_ := za0.mk (zm0 (g := gb1) (o := .cells #[.slice A0_0 l0_0.length c0_0] 24 (0, 0)) (by (with_reducible repeat (first | refine zg0 ?_ _ | refine zj0 ?_ | refine zf0 ?_ _)); exact BKgb1.1) hb_)
 have n3_ := za0.mk (Kd.S_kept HS11.1 hk_ (fun _ _ hs_ => hs_.elim))
 have n4_ := za0.mk (Kd.R_kept HR19.1 hk_ (fun _ _ hs_ => hs_.elim))
 have n5_ := za0.mk (Kd.N_kept HN29.1 hk_ (fun _ _ hs_ => hs_.elim))
 have n6_ := za0.mk (Kd.S_kept HS36.1 hk_ (fun _ _ hs_ => hs_.elim))
 have n7_ := za0.mk (zm0 (g := gb39) (o := .cells #[.slice Ao37 l0_0.length co38] 29 (0, 0)) (by (with_reducible repeat (first | refine zg0 ?_ _ | refine zj0 ?_ | refine zf0 ?_ _)); exact BKgb39.1) hb_)
 have n8_ := za0.mk (Kd.R_kept HR45.1 hk_ (fun _ _ hs_ => hs_.elim))
 have n9_ := za0.mk (Kd.S_kept HS53.1 hk_ (fun _ _ hs_ => hs_.elim))
 have n10_ := za0.mk (Kd.S_kept HS63.1 hk_ (fun _ _ hs_ => hs_.elim))
 have ns_ := za0.mk (Nat.le_trans (Nat.le_trans hs1_ hs2_) (Nat.le_refl _))
 have nB_ := za0.mk hB_
 clear HB HS FA0_0 FA2 BKgb1 HS11 HR19 HN29 HS36 BKgb39 HR45 HS53 HS63
 have FA0_0 := n0_
 have FA2 := n1_
 have BKgb1 := n2_
 have HS11 := n3_
 have HR19 := n4_
 have HN29 := n5_
 have HS36 := n6_
 have BKgb39 := n7_
 have HR45 := n8_
 have HS53 := n9_
 have HS63 := n10_
 have HB := nB_
 have HS := ns_
 clear nB_ ns_ n0_ n1_ n2_ n3_ n4_ n5_ n6_ n7_ n8_ n9_ n10_ hk_ hs1_ hs2_ hw_ hB_ hb_
 refine hK.out _ _ ⟨(zl0 BKgb1.1 0).trans rfl, (zl0 BKgb39.1 0).trans rfl⟩ (fun hHeld => ?_)
 clear hK K
 refine norm_ (a' := ?_) ?_ ?_
 rotate_left
 ·show Act.put _ (some 63) _ = _; simp only [Act.put, zA, zB, zC, i64_w, i32_w]; rfl
 refine pu 4 (some 64) (v := ?_) (a' := ?_) (bf 5 31) ?_ ?_ ?_
 rotate_left
 ·intro w'; go_simp; with_reducible rfl
 rotate_left
 ·simp only [Act.put, zA, zB, zC, i64_w, i32_w]; rfl
 refine done_ (by kernel_rfl) ?_
 go_wp2_with (first | ((with_reducible refine zn0 (f := 10) rfl ?_); refine za1 (some 67) rfl rfl Try.func10 (by kernel_rfl) rfl #[.slice A2 l2.length c2] rfl (by (try simp only [List.map_toArray, List.map_cons, List.map_nil]); first | done | rfl | (simp only [List.length_drop, List.length_take]; rfl)) ?_; (with_reducible refine (yj0.calls KE15 _ _ l2 l2 _ ?sidehr0 ?sidehc0 E15.1).mono ?_); (case sidehr0 => exact F_at (S := (fun _ => False)) FA2.1 (by repeat (first | exact Kept.refl _ _ | apply Kept.alloc | apply Kept.drewN | apply Kept.drew)) (fun _ _ hs_ => hs_.elim)); (case sidehc0 => exact HC2.1); rintro e w68 ⟨v69, rfl, hov0__, hb_⟩; refine ⟨_, rfl, ?_⟩; (try clear hczgb1_0); (try clear hfzgb1_0); (try clear hczgb39_0); (try clear hfzgb39_0); obtain ⟨hk_, hs1_, hs2_, hw_⟩ := ev_kept (S := (fun _ => False)) HS.1 HB.1 hb_ (by repeat (first | exact Kept.refl _ _ | apply Kept.alloc | apply Kept.drewN | apply Kept.drew)); have hB_ := zi0 (by repeat (first | exact HB.1 | apply zc0 | apply zb0 | apply zd0 | refine ze0 ?_ GEgb1.1 | refine ze0 ?_ GEgb39.1)) hb_; have n0_ := za0.mk (Kd.F_kept FA0_0.1 hk_ (fun _ _ hs_ => hs_.elim)); have n1_ := za0.mk (Kd.F_kept FA2.1 hk_ (fun _ _ hs_ => hs_.elim)); have n2_ := za0.mk (zm0 (g := gb1) (o := .cells #[.slice A0_0 l0_0.length c0_0] 24 (0, 0)) (by (with_reducible repeat (first | refine zg0 ?_ _ | refine zj0 ?_ | refine zf0 ?_ _)); exact BKgb1.1) hb_); have n3_ := za0.mk (Kd.S_kept HS11.1 hk_ (fun _ _ hs_ => hs_.elim)); have n4_ := za0.mk (Kd.R_kept HR19.1 hk_ (fun _ _ hs_ => hs_.elim)); have n5_ := za0.mk (Kd.N_kept HN29.1 hk_ (fun _ _ hs_ => hs_.elim)); have n6_ := za0.mk (Kd.S_kept HS36.1 hk_ (fun _ _ hs_ => hs_.elim)); have n7_ := za0.mk (zm0 (g := gb39) (o := .cells #[.slice Ao37 l0_0.length co38] 29 (0, 0)) (by (with_reducible repeat (first | refine zg0 ?_ _ | refine zj0 ?_ | refine zf0 ?_ _)); exact BKgb39.1) hb_); have n8_ := za0.mk (Kd.R_kept HR45.1 hk_ (fun _ _ hs_ => hs_.elim)); have n9_ := za0.mk (Kd.S_kept HS53.1 hk_ (fun _ _ hs_ => hs_.elim)); have n10_ := za0.mk (Kd.S_kept HS63.1 hk_ (fun _ _ hs_ => hs_.elim)); have ns_ := za0.mk (Nat.le_trans (Nat.le_trans hs1_ hs2_) (Nat.le_refl _)); have nB_ := za0.mk hB_; obtain ⟨lo70, hi71, c1_, c2_, c3_, h_⟩ := R_new hov0__ hs2_ hw_ hs1_; have HR72 := za0.mk h_; obtain ⟨Ao73, co74, eo_⟩ := Kd.R_slice HR72.1; subst eo_; have HCHR72 := za0.mk (Kd.R_reads' HR72.1).2.1; clear h_ hov0__; have nc_ := za0.mk (And.intro c1_ (And.intro c2_ CH.1)); clear CH ns_; have CH := nc_; have ns_ := za0.mk c3_; clear nc_ c1_ c2_ c3_; clear HB HS FA0_0 FA2 BKgb1 HS11 HR19 HN29 HS36 BKgb39 HR45 HS53 HS63; have FA0_0 := n0_; have FA2 := n1_; have BKgb1 := n2_; have HS11 := n3_; have HR19 := n4_; have HN29 := n5_; have HS36 := n6_; have BKgb39 := n7_; have HR45 := n8_; have HS53 := n9_; have HS63 := n10_; have HB := nB_; have HS := ns_; clear nB_ ns_ n0_ n1_ n2_ n3_ n4_ n5_ n6_ n7_ n8_ n9_ n10_; clear hk_ hs1_ hs2_ hw_ hB_ hb_; have hczgb1_0 : w68.cell? ⟨gb1, 0, none⟩ = some (.slice A0_0 l0_0.length c0_0) := (zl0 BKgb1.1 0).trans rfl; have hfzgb1_0 := zk0 BKgb1.1 0; have hczgb39_0 : w68.cell? ⟨gb39, 0, none⟩ = some (.slice Ao37 l0_0.length co38) := (zl0 BKgb39.1 0).trans rfl; have hfzgb39_0 := zk0 BKgb39.1 0; have hnbgb1gb39 : gb1 ≠ gb39 := (by have := CH.1; omega); have hnbgb39gb1 : gb39 ≠ gb1 := (by have := CH.1; omega)) | ((with_reducible refine zn0 (f := 12) rfl ?_); refine za1 (some 68) rfl rfl Try.func12 (by kernel_rfl) rfl #[.slice Ao46 l2.length co47, .slice Ao73 l2.length co74] rfl (by (try simp only [List.map_toArray, List.map_cons, List.map_nil]); first | done | rfl | (simp only [List.length_drop, List.length_take]; rfl)) ?_; (with_reducible refine (yi0.calls KE76 _ _ l2 _ _ l2 true _ ?sidehr0 ?sidehc0 ?sidehr1 ?sidehc1 E76.1).mono ?_); (case sidehr0 => exact R_now (S := (fun _ => False)) HR45.1 (by repeat (first | exact Kept.refl _ _ | apply Kept.alloc | apply Kept.drewN | apply Kept.drew)) (fun _ _ hs_ => hs_.elim)); (case sidehc0 => exact HCHR45.1); (case sidehr1 => exact R_now (S := (fun _ => False)) HR72.1 (by repeat (first | exact Kept.refl _ _ | apply Kept.alloc | apply Kept.drewN | apply Kept.drew)) (fun _ _ hs_ => hs_.elim)); (case sidehc1 => exact HCHR72.1); rintro e w75 ⟨rfl, hd_⟩; refine ⟨_, rfl, ?_⟩; have hb_ := hd_.below; (try clear hczgb1_0); (try clear hfzgb1_0); (try clear hczgb39_0); (try clear hfzgb39_0); obtain ⟨hk_, hs1_, hs2_, hw_⟩ := ev_kept (S := (fun _ => False)) HS.1 HB.1 hb_ (by repeat (first | exact Kept.refl _ _ | apply Kept.alloc | apply Kept.drewN | apply Kept.drew)); have hB_ := zi0 (by repeat (first | exact HB.1 | apply zc0 | apply zb0 | apply zd0 | refine ze0 ?_ GEgb1.1 | refine ze0 ?_ GEgb39.1)) hb_; have n0_ := za0.mk (Kd.F_kept FA0_0.1 hk_ (fun _ _ hs_ => hs_.elim)); have n1_ := za0.mk (Kd.F_kept FA2.1 hk_ (fun _ _ hs_ => hs_.elim)); have n2_ := za0.mk (zm0 (g := gb1) (o := .cells #[.slice A0_0 l0_0.length c0_0] 24 (0, 0)) (by (with_reducible repeat (first | refine zg0 ?_ _ | refine zj0 ?_ | refine zf0 ?_ _)); exact BKgb1.1) hb_); have n3_ := za0.mk (Kd.S_kept HS11.1 hk_ (fun _ _ hs_ => hs_.elim)); have n4_ := za0.mk (Kd.R_kept HR19.1 hk_ (fun _ _ hs_ => hs_.elim)); have n5_ := za0.mk (Kd.N_kept HN29.1 hk_ (fun _ _ hs_ => hs_.elim)); have n6_ := za0.mk (Kd.S_kept HS36.1 hk_ (fun _ _ hs_ => hs_.elim)); have n7_ := za0.mk (zm0 (g := gb39) (o := .cells #[.slice Ao37 l0_0.length co38] 29 (0, 0)) (by (with_reducible repeat (first | refine zg0 ?_ _ | refine zj0 ?_ | refine zf0 ?_ _)); exact BKgb39.1) hb_); have n8_ := za0.mk (Kd.R_kept HR45.1 hk_ (fun _ _ hs_ => hs_.elim)); have n9_ := za0.mk (Kd.S_kept HS53.1 hk_ (fun _ _ hs_ => hs_.elim)); have n10_ := za0.mk (Kd.S_kept HS63.1 hk_ (fun _ _ hs_ => hs_.elim)); have n11_ := za0.mk (Kd.R_kept HR72.1 hk_ (fun _ _ hs_ => hs_.elim)); have ns_ := za0.mk (Nat.le_trans (Nat.le_trans hs1_ hs2_) (Nat.le_refl _)); have nB_ := za0.mk hB_; clear HB HS FA0_0 FA2 BKgb1 HS11 HR19 HN29 HS36 BKgb39 HR45 HS53 HS63 HR72; have FA0_0 := n0_; have FA2 := n1_; have BKgb1 := n2_; have HS11 := n3_; have HR19 := n4_; have HN29 := n5_; have HS36 := n6_; have BKgb39 := n7_; have HR45 := n8_; have HS53 := n9_; have HS63 := n10_; have HR72 := n11_; have HB := nB_; have HS := ns_; clear nB_ ns_ n0_ n1_ n2_ n3_ n4_ n5_ n6_ n7_ n8_ n9_ n10_ n11_; clear hk_ hs1_ hs2_ hw_ hB_ hb_; clear hd_; have hczgb1_0 : w75.cell? ⟨gb1, 0, none⟩ = some (.slice A0_0 l0_0.length c0_0) := (zl0 BKgb1.1 0).trans rfl; have hfzgb1_0 := zk0 BKgb1.1 0; have hczgb39_0 : w75.cell? ⟨gb39, 0, none⟩ = some (.slice Ao37 l0_0.length co38) := (zl0 BKgb39.1 0).trans rfl; have hfzgb39_0 := zk0 BKgb39.1 0; have hnbgb1gb39 : gb1 ≠ gb39 := (by have := CH.1; omega); have hnbgb39gb1 : gb39 ≠ gb1 := (by have := CH.1; omega)) | ((with_reducible refine zn0 (f := 14) rfl ?_); refine za1 (some 72) rfl rfl Try.func14 (by kernel_rfl) rfl #[.agg #[.slice Ao37 l0_0.length co38], .int .i64 1] rfl (by (try simp only [List.map_toArray, List.map_cons, List.map_nil]); first | done | rfl | (simp only [List.length_drop, List.length_take]; rfl)) ?_; (with_reducible refine (yh2.calls KE80 (fun k_ => lo34 ≤ k_ ∧ k_ < hi35) _ l0_0 1 x78 x79 w _ ?sideB ?sideO E80.1).mono ?_); (case sideB => exact (by repeat (first | exact HB.1 | apply zc0 | apply zb0 | apply zd0 | refine ze0 ?_ GEgb1.1 | refine ze0 ?_ GEgb39.1))); (case sideO => exact Kd.S_kept (S := (fun _ => False)) HS36.1 (by repeat (first | exact Kept.refl _ _ | apply Kept.alloc | apply Kept.drewN | apply Kept.drew)) (fun _ _ hs_ => hs_.elim)); rintro e w77 ⟨rfl, ho_, hb_, hm_⟩; refine ⟨_, rfl, ?_⟩; (try clear hczgb1_0); (try clear hfzgb1_0); (try clear hczgb39_0); (try clear hfzgb39_0); obtain ⟨hk_, hs1_⟩ := ev_mark (S := (fun k_ => lo34 ≤ k_ ∧ k_ < hi35)) HS.1 hm_ (by repeat (first | exact Kept.refl _ _ | apply Kept.alloc | apply Kept.drewN | apply Kept.drew)); have n0_ := za0.mk (Kd.F_kept FA0_0.1 hk_ (fun k_ h_ hs_ => by have h1_ : k_ < s0 := h_; obtain ⟨g1_, g2_⟩ := hs_; have := CH.1; omega)); have n1_ := za0.mk (Kd.F_kept FA2.1 hk_ (fun k_ h_ hs_ => by have h1_ : k_ < s0 := h_; obtain ⟨g1_, g2_⟩ := hs_; have := CH.1; omega)); have n2_ := za0.mk (blk_kept BKgb1.1 hk_ (fun hs_ => by obtain ⟨g1_, g2_⟩ := hs_; have := CH.1; omega)); have n3_ := za0.mk (Kd.S_kept HS11.1 hk_ (fun k_ h_ hs_ => by obtain ⟨h1_, h2_⟩ := h_; obtain ⟨g1_, g2_⟩ := hs_; have := CH.1; omega)); have n4_ := za0.mk (Kd.R_kept HR19.1 hk_ (fun k_ h_ hs_ => by obtain ⟨h1_, h2_⟩ := h_; obtain ⟨g1_, g2_⟩ := hs_; have := CH.1; omega)); have n5_ := za0.mk (Kd.N_kept HN29.1 hk_ (fun k_ h_ hs_ => by obtain ⟨h1_, h2_⟩ := h_; obtain ⟨g1_, g2_⟩ := hs_; have := CH.1; omega)); have n6_ := za0.mk (blk_kept BKgb39.1 hk_ (fun hs_ => by obtain ⟨g1_, g2_⟩ := hs_; have := CH.1; omega)); have n7_ := za0.mk (Kd.R_kept HR45.1 hk_ (fun k_ h_ hs_ => by obtain ⟨h1_, h2_⟩ := h_; obtain ⟨g1_, g2_⟩ := hs_; have := CH.1; omega)); have n8_ := za0.mk (Kd.S_kept HS53.1 hk_ (fun k_ h_ hs_ => by obtain ⟨h1_, h2_⟩ := h_; obtain ⟨g1_, g2_⟩ := hs_; have := CH.1; omega)); have n9_ := za0.mk (Kd.S_kept HS63.1 hk_ (fun k_ h_ hs_ => by obtain ⟨h1_, h2_⟩ := h_; obtain ⟨g1_, g2_⟩ := hs_; have := CH.1; omega)); have n10_ := za0.mk (Kd.R_kept HR72.1 hk_ (fun k_ h_ hs_ => by obtain ⟨h1_, h2_⟩ := h_; obtain ⟨g1_, g2_⟩ := hs_; have := CH.1; omega)); have nB_ := za0.mk hb_; have ns_ := za0.mk hs1_; clear HB HS FA0_0 FA2 BKgb1 HS11 HR19 HN29 BKgb39 HR45 HS53 HS63 HR72; have FA0_0 := n0_; have FA2 := n1_; have BKgb1 := n2_; have HS11 := n3_; have HR19 := n4_; have HN29 := n5_; have BKgb39 := n6_; have HR45 := n7_; have HS53 := n8_; have HS63 := n9_; have HR72 := n10_; have HB := nB_; have HS := ns_; clear nB_ ns_ n0_ n1_ n2_ n3_ n4_ n5_ n6_ n7_ n8_ n9_ n10_; have hl_ : l0_0.length = x79.length := (Kd.S_reads' ho_).1; have FM81 := za0.mk (Kd.S_F ho_); rw [hl_] at FM81; have HCHS36_ := za0.mk (show x79.length ≤ co38 by rw [← hl_]; exact HCHS36.1); have HLFM81 := za0.mk hl_; clear ho_ hm_ hb_ hk_ hs1_ hl_ HS36; have hczgb1_0 : w77.cell? ⟨gb1, 0, none⟩ = some (.slice A0_0 l0_0.length c0_0) := (zl0 BKgb1.1 0).trans rfl; have hfzgb1_0 := zk0 BKgb1.1 0; have hczgb39_0 : w77.cell? ⟨gb39, 0, none⟩ = some (.slice Ao37 l0_0.length co38) := (zl0 BKgb39.1 0).trans rfl; have hfzgb39_0 := zk0 BKgb39.1 0; have hnbgb1gb39 : gb1 ≠ gb39 := (by have := CH.1; omega); have hnbgb39gb1 : gb39 ≠ gb1 := (by have := CH.1; omega)) | ((with_reducible refine zn0 (f := 15) rfl ?_); refine za1 (some 75) rfl rfl Try.func15 (by kernel_rfl) rfl #[.slice Ao46 l2.length co47, .int .i64 x78] rfl (by (try simp only [List.map_toArray, List.map_cons, List.map_nil]); first | done | rfl | (simp only [List.length_drop, List.length_take]; rfl)) ?_; (with_reducible refine (yw0.calls KE85 (fun k_ => lo43 ≤ k_ ∧ k_ < hi44) _ l2 x78 x83 x84 w _ ?sideB ?sideO E85.1).mono ?_); (case sideB => exact (by repeat (first | exact HB.1 | apply zc0 | apply zb0 | apply zd0 | refine ze0 ?_ GEgb1.1 | refine ze0 ?_ GEgb39.1))); (case sideO => exact Kd.R_kept (S := (fun _ => False)) HR45.1 (by repeat (first | exact Kept.refl _ _ | apply Kept.alloc | apply Kept.drewN | apply Kept.drew)) (fun _ _ hs_ => hs_.elim)); rintro e w82 ⟨rfl, ho_, hb_, hm_⟩; refine ⟨_, rfl, ?_⟩; (try clear hczgb1_0); (try clear hfzgb1_0); (try clear hczgb39_0); (try clear hfzgb39_0); obtain ⟨hk_, hs1_⟩ := ev_mark (S := (fun k_ => lo43 ≤ k_ ∧ k_ < hi44)) HS.1 hm_ (by repeat (first | exact Kept.refl _ _ | apply Kept.alloc | apply Kept.drewN | apply Kept.drew)); have n0_ := za0.mk (Kd.F_kept FA0_0.1 hk_ (fun k_ h_ hs_ => by have h1_ : k_ < s0 := h_; obtain ⟨g1_, g2_⟩ := hs_; have := CH.1; omega)); have n1_ := za0.mk (Kd.F_kept FA2.1 hk_ (fun k_ h_ hs_ => by have h1_ : k_ < s0 := h_; obtain ⟨g1_, g2_⟩ := hs_; have := CH.1; omega)); have n2_ := za0.mk (blk_kept BKgb1.1 hk_ (fun hs_ => by obtain ⟨g1_, g2_⟩ := hs_; have := CH.1; omega)); have n3_ := za0.mk (Kd.S_kept HS11.1 hk_ (fun k_ h_ hs_ => by obtain ⟨h1_, h2_⟩ := h_; obtain ⟨g1_, g2_⟩ := hs_; have := CH.1; omega)); have n4_ := za0.mk (Kd.R_kept HR19.1 hk_ (fun k_ h_ hs_ => by obtain ⟨h1_, h2_⟩ := h_; obtain ⟨g1_, g2_⟩ := hs_; have := CH.1; omega)); have n5_ := za0.mk (Kd.N_kept HN29.1 hk_ (fun k_ h_ hs_ => by obtain ⟨h1_, h2_⟩ := h_; obtain ⟨g1_, g2_⟩ := hs_; have := CH.1; omega)); have n6_ := za0.mk (blk_kept BKgb39.1 hk_ (fun hs_ => by obtain ⟨g1_, g2_⟩ := hs_; have := CH.1; omega)); have n7_ := za0.mk (Kd.S_kept HS53.1 hk_ (fun k_ h_ hs_ => by obtain ⟨h1_, h2_⟩ := h_; obtain ⟨g1_, g2_⟩ := hs_; have := CH.1; omega)); have n8_ := za0.mk (Kd.S_kept HS63.1 hk_ (fun k_ h_ hs_ => by obtain ⟨h1_, h2_⟩ := h_; obtain ⟨g1_, g2_⟩ := hs_; have := CH.1; omega)); have n9_ := za0.mk (Kd.R_kept HR72.1 hk_ (fun k_ h_ hs_ => by obtain ⟨h1_, h2_⟩ := h_; obtain ⟨g1_, g2_⟩ := hs_; have := CH.1; omega)); have n10_ := za0.mk (Kd.F_kept FM81.1 hk_ (fun k_ h_ hs_ => by obtain ⟨h1_, h2_⟩ := h_; obtain ⟨g1_, g2_⟩ := hs_; have := CH.1; omega)); have nB_ := za0.mk hb_; have ns_ := za0.mk hs1_; clear HB HS FA0_0 FA2 BKgb1 HS11 HR19 HN29 BKgb39 HS53 HS63 HR72 FM81; have FA0_0 := n0_; have FA2 := n1_; have BKgb1 := n2_; have HS11 := n3_; have HR19 := n4_; have HN29 := n5_; have BKgb39 := n6_; have HS53 := n7_; have HS63 := n8_; have HR72 := n9_; have FM81 := n10_; have HB := nB_; have HS := ns_; clear nB_ ns_ n0_ n1_ n2_ n3_ n4_ n5_ n6_ n7_ n8_ n9_ n10_; have hl_ : l2.length = x84.length := (Kd.R_reads' ho_).1; have FM86 := za0.mk (Kd.R_F (Kd.R_mono (Kd.R_tight rfl ho_) (fun k_ hk_ => HR45.1.1 k_ hk_.symm))); rw [hl_] at FM86; have HCHR45_ := za0.mk (show x84.length ≤ co47 by rw [← hl_]; exact HCHR45.1); have HLFM86 := za0.mk hl_; clear ho_ hm_ hb_ hk_ hs1_ hl_ HR45; have hczgb1_0 : w82.cell? ⟨gb1, 0, none⟩ = some (.slice A0_0 l0_0.length c0_0) := (zl0 BKgb1.1 0).trans rfl; have hfzgb1_0 := zk0 BKgb1.1 0; have hczgb39_0 : w82.cell? ⟨gb39, 0, none⟩ = some (.slice Ao37 l0_0.length co38) := (zl0 BKgb39.1 0).trans rfl; have hfzgb39_0 := zk0 BKgb39.1 0; have hnbgb1gb39 : gb1 ≠ gb39 := (by have := CH.1; omega); have hnbgb39gb1 : gb39 ≠ gb1 := (by have := CH.1; omega)) | ((with_reducible refine zn0 (f := 21) rfl ?_); (try (refine gate_guard (by rfl) ?_; dsimp only)); refine za1 (some 81) rfl rfl Try.func21 (by kernel_rfl) rfl #[.slice Ao54 x23.length co55, .slice Ao30 x23.length co31] rfl (by (try simp only [List.map_toArray, List.map_cons, List.map_nil]); first | done | rfl | (simp only [List.length_drop, List.length_take]; rfl)) ?_; (with_reducible refine (yk0.calls KE57 _ _ x23 _ _ x23 true _ ?sidehr0 ?sidehc0 ?sidehr1 ?sidehc1 E57.1).mono ?_); (case sidehr0 => exact S_now (S := (fun _ => False)) HS53.1 (by repeat (first | exact Kept.refl _ _ | apply Kept.alloc | apply Kept.drewN | apply Kept.drew)) (fun _ _ hs_ => hs_.elim)); (case sidehc0 => exact HCHS53.1); (case sidehr1 => exact N_now (S := (fun _ => False)) HN29.1 (by repeat (first | exact Kept.refl _ _ | apply Kept.alloc | apply Kept.drewN | apply Kept.drew)) (fun _ _ hs_ => hs_.elim)); (case sidehc1 => exact HCHN29.1); rintro e w87 ⟨rfl, hd_⟩; refine ⟨_, rfl, ?_⟩; have hb_ := hd_.below; (try clear hczgb1_0); (try clear hfzgb1_0); (try clear hczgb39_0); (try clear hfzgb39_0); obtain ⟨hk_, hs1_, hs2_, hw_⟩ := ev_kept (S := (fun _ => False)) HS.1 HB.1 hb_ (by repeat (first | exact Kept.refl _ _ | apply Kept.alloc | apply Kept.drewN | apply Kept.drew)); have hB_ := zi0 (by repeat (first | exact HB.1 | apply zc0 | apply zb0 | apply zd0 | refine ze0 ?_ GEgb1.1 | refine ze0 ?_ GEgb39.1)) hb_; have n0_ := za0.mk (Kd.F_kept FA0_0.1 hk_ (fun _ _ hs_ => hs_.elim)); have n1_ := za0.mk (Kd.F_kept FA2.1 hk_ (fun _ _ hs_ => hs_.elim)); have n2_ := za0.mk (zm0 (g := gb1) (o := .cells #[.slice A0_0 l0_0.length c0_0] 24 (0, 0)) (by (with_reducible repeat (first | refine zg0 ?_ _ | refine zj0 ?_ | refine zf0 ?_ _)); exact BKgb1.1) hb_); have n3_ := za0.mk (Kd.S_kept HS11.1 hk_ (fun _ _ hs_ => hs_.elim)); have n4_ := za0.mk (Kd.R_kept HR19.1 hk_ (fun _ _ hs_ => hs_.elim)); have n5_ := za0.mk (Kd.N_kept HN29.1 hk_ (fun _ _ hs_ => hs_.elim)); have n6_ := za0.mk (zm0 (g := gb39) (o := .cells #[.slice Ao37 l0_0.length co38] 29 (0, 0)) (by (with_reducible repeat (first | refine zg0 ?_ _ | refine zj0 ?_ | refine zf0 ?_ _)); exact BKgb39.1) hb_); have n7_ := za0.mk (Kd.S_kept HS53.1 hk_ (fun _ _ hs_ => hs_.elim)); have n8_ := za0.mk (Kd.S_kept HS63.1 hk_ (fun _ _ hs_ => hs_.elim)); have n9_ := za0.mk (Kd.R_kept HR72.1 hk_ (fun _ _ hs_ => hs_.elim)); have n10_ := za0.mk (Kd.F_kept FM81.1 hk_ (fun _ _ hs_ => hs_.elim)); have n11_ := za0.mk (Kd.F_kept FM86.1 hk_ (fun _ _ hs_ => hs_.elim)); have ns_ := za0.mk (Nat.le_trans (Nat.le_trans hs1_ hs2_) (Nat.le_refl _)); have nB_ := za0.mk hB_; clear HB HS FA0_0 FA2 BKgb1 HS11 HR19 HN29 BKgb39 HS53 HS63 HR72 FM81 FM86; have FA0_0 := n0_; have FA2 := n1_; have BKgb1 := n2_; have HS11 := n3_; have HR19 := n4_; have HN29 := n5_; have BKgb39 := n6_; have HS53 := n7_; have HS63 := n8_; have HR72 := n9_; have FM81 := n10_; have FM86 := n11_; have HB := nB_; have HS := ns_; clear nB_ ns_ n0_ n1_ n2_ n3_ n4_ n5_ n6_ n7_ n8_ n9_ n10_ n11_; clear hk_ hs1_ hs2_ hw_ hB_ hb_; clear hd_; have hczgb1_0 : w87.cell? ⟨gb1, 0, none⟩ = some (.slice A0_0 l0_0.length c0_0) := (zl0 BKgb1.1 0).trans rfl; have hfzgb1_0 := zk0 BKgb1.1 0; have hczgb39_0 : w87.cell? ⟨gb39, 0, none⟩ = some (.slice Ao37 l0_0.length co38) := (zl0 BKgb39.1 0).trans rfl; have hfzgb39_0 := zk0 BKgb39.1 0; have hnbgb1gb39 : gb1 ≠ gb39 := (by have := CH.1; omega); have hnbgb39gb1 : gb39 ≠ gb1 := (by have := CH.1; omega)) | ((with_reducible refine zn0 (f := 22) rfl ?_); refine za1 (some 91) rfl rfl Try.func22 (by kernel_rfl) rfl #[.slice Ao54 x23.length co55, .int .i64 1] rfl (by (try simp only [List.map_toArray, List.map_cons, List.map_nil]); first | done | rfl | (simp only [List.length_drop, List.length_take]; rfl)) ?_; (with_reducible refine (yd1.calls KE91 (fun k_ => lo51 ≤ k_ ∧ k_ < hi52) _ x23 1 x89 x90 w _ ?sideB ?sideO E91.1).mono ?_); (case sideB => exact (by repeat (first | exact HB.1 | apply zc0 | apply zb0 | apply zd0 | refine ze0 ?_ GEgb1.1 | refine ze0 ?_ GEgb39.1))); (case sideO => exact Kd.S_kept (S := (fun _ => False)) HS53.1 (by repeat (first | exact Kept.refl _ _ | apply Kept.alloc | apply Kept.drewN | apply Kept.drew)) (fun _ _ hs_ => hs_.elim)); rintro e w88 ⟨rfl, ho_, hb_, hm_⟩; refine ⟨_, rfl, ?_⟩; (try clear hczgb1_0); (try clear hfzgb1_0); (try clear hczgb39_0); (try clear hfzgb39_0); obtain ⟨hk_, hs1_⟩ := ev_mark (S := (fun k_ => lo51 ≤ k_ ∧ k_ < hi52)) HS.1 hm_ (by repeat (first | exact Kept.refl _ _ | apply Kept.alloc | apply Kept.drewN | apply Kept.drew)); have n0_ := za0.mk (Kd.F_kept FA0_0.1 hk_ (fun k_ h_ hs_ => by have h1_ : k_ < s0 := h_; obtain ⟨g1_, g2_⟩ := hs_; have := CH.1; omega)); have n1_ := za0.mk (Kd.F_kept FA2.1 hk_ (fun k_ h_ hs_ => by have h1_ : k_ < s0 := h_; obtain ⟨g1_, g2_⟩ := hs_; have := CH.1; omega)); have n2_ := za0.mk (blk_kept BKgb1.1 hk_ (fun hs_ => by obtain ⟨g1_, g2_⟩ := hs_; have := CH.1; omega)); have n3_ := za0.mk (Kd.S_kept HS11.1 hk_ (fun k_ h_ hs_ => by obtain ⟨h1_, h2_⟩ := h_; obtain ⟨g1_, g2_⟩ := hs_; have := CH.1; omega)); have n4_ := za0.mk (Kd.R_kept HR19.1 hk_ (fun k_ h_ hs_ => by obtain ⟨h1_, h2_⟩ := h_; obtain ⟨g1_, g2_⟩ := hs_; have := CH.1; omega)); have n5_ := za0.mk (Kd.N_kept HN29.1 hk_ (fun k_ h_ hs_ => by obtain ⟨h1_, h2_⟩ := h_; obtain ⟨g1_, g2_⟩ := hs_; have := CH.1; omega)); have n6_ := za0.mk (blk_kept BKgb39.1 hk_ (fun hs_ => by obtain ⟨g1_, g2_⟩ := hs_; have := CH.1; omega)); have n7_ := za0.mk (Kd.S_kept HS63.1 hk_ (fun k_ h_ hs_ => by obtain ⟨h1_, h2_⟩ := h_; obtain ⟨g1_, g2_⟩ := hs_; have := CH.1; omega)); have n8_ := za0.mk (Kd.R_kept HR72.1 hk_ (fun k_ h_ hs_ => by obtain ⟨h1_, h2_⟩ := h_; obtain ⟨g1_, g2_⟩ := hs_; have := CH.1; omega)); have n9_ := za0.mk (Kd.F_kept FM81.1 hk_ (fun k_ h_ hs_ => by obtain ⟨h1_, h2_⟩ := h_; obtain ⟨g1_, g2_⟩ := hs_; have := CH.1; omega)); have n10_ := za0.mk (Kd.F_kept FM86.1 hk_ (fun k_ h_ hs_ => by obtain ⟨h1_, h2_⟩ := h_; obtain ⟨g1_, g2_⟩ := hs_; have := CH.1; omega)); have nB_ := za0.mk hb_; have ns_ := za0.mk hs1_; clear HB HS FA0_0 FA2 BKgb1 HS11 HR19 HN29 BKgb39 HS63 HR72 FM81 FM86; have FA0_0 := n0_; have FA2 := n1_; have BKgb1 := n2_; have HS11 := n3_; have HR19 := n4_; have HN29 := n5_; have BKgb39 := n6_; have HS63 := n7_; have HR72 := n8_; have FM81 := n9_; have FM86 := n10_; have HB := nB_; have HS := ns_; clear nB_ ns_ n0_ n1_ n2_ n3_ n4_ n5_ n6_ n7_ n8_ n9_ n10_; have hl_ : x23.length = x90.length := (Kd.S_reads' ho_).1; have FM92 := za0.mk (Kd.S_F ho_); rw [hl_] at FM92; have HCHS53_ := za0.mk (show x90.length ≤ co55 by rw [← hl_]; exact HCHS53.1); have HLFM92 := za0.mk hl_; clear ho_ hm_ hb_ hk_ hs1_ hl_ HS53; have hczgb1_0 : w88.cell? ⟨gb1, 0, none⟩ = some (.slice A0_0 l0_0.length c0_0) := (zl0 BKgb1.1 0).trans rfl; have hfzgb1_0 := zk0 BKgb1.1 0; have hczgb39_0 : w88.cell? ⟨gb39, 0, none⟩ = some (.slice Ao37 l0_0.length co38) := (zl0 BKgb39.1 0).trans rfl; have hfzgb39_0 := zk0 BKgb39.1 0; have hnbgb1gb39 : gb1 ≠ gb39 := (by have := CH.1; omega); have hnbgb39gb1 : gb39 ≠ gb1 := (by have := CH.1; omega)) | ((with_reducible refine zn0 (f := 23) rfl ?_); refine za1 (some 94) rfl rfl Try.func23 (by kernel_rfl) rfl #[.slice Ao54 x23.length co55, .int .i64 1] rfl (by (try simp only [List.map_toArray, List.map_cons, List.map_nil]); first | done | rfl | (simp only [List.length_drop, List.length_take]; rfl)) ?_; refine calls_len (args' := #[.slice Ao54 x90.length co55, .int .i64 1]) (by simp only [HLFM92.1]) ?_; (with_reducible refine (yz0.calls KE94 _ _ x90 1 x89 _ ?sidehr0 ?sidehc0 E94.1).mono ?_); (case sidehr0 => exact F_at (S := (fun _ => False)) FM92.1 (by repeat (first | exact Kept.refl _ _ | apply Kept.alloc | apply Kept.drewN | apply Kept.drew)) (fun _ _ hs_ => hs_.elim)); (case sidehc0 => exact HCHS53_.1); rintro e w93 ⟨rfl, hd_⟩; refine ⟨_, rfl, ?_⟩; have hb_ := hd_.below; (try clear hczgb1_0); (try clear hfzgb1_0); (try clear hczgb39_0); (try clear hfzgb39_0); obtain ⟨hk_, hs1_, hs2_, hw_⟩ := ev_kept (S := (fun _ => False)) HS.1 HB.1 hb_ (by repeat (first | exact Kept.refl _ _ | apply Kept.alloc | apply Kept.drewN | apply Kept.drew)); have hB_ := zi0 (by repeat (first | exact HB.1 | apply zc0 | apply zb0 | apply zd0 | refine ze0 ?_ GEgb1.1 | refine ze0 ?_ GEgb39.1)) hb_; have n0_ := za0.mk (Kd.F_kept FA0_0.1 hk_ (fun _ _ hs_ => hs_.elim)); have n1_ := za0.mk (Kd.F_kept FA2.1 hk_ (fun _ _ hs_ => hs_.elim)); have n2_ := za0.mk (zm0 (g := gb1) (o := .cells #[.slice A0_0 l0_0.length c0_0] 24 (0, 0)) (by (with_reducible repeat (first | refine zg0 ?_ _ | refine zj0 ?_ | refine zf0 ?_ _)); exact BKgb1.1) hb_); have n3_ := za0.mk (Kd.S_kept HS11.1 hk_ (fun _ _ hs_ => hs_.elim)); have n4_ := za0.mk (Kd.R_kept HR19.1 hk_ (fun _ _ hs_ => hs_.elim)); have n5_ := za0.mk (Kd.N_kept HN29.1 hk_ (fun _ _ hs_ => hs_.elim)); have n6_ := za0.mk (zm0 (g := gb39) (o := .cells #[.slice Ao37 l0_0.length co38] 29 (0, 0)) (by (with_reducible repeat (first | refine zg0 ?_ _ | refine zj0 ?_ | refine zf0 ?_ _)); exact BKgb39.1) hb_); have n7_ := za0.mk (Kd.S_kept HS63.1 hk_ (fun _ _ hs_ => hs_.elim)); have n8_ := za0.mk (Kd.R_kept HR72.1 hk_ (fun _ _ hs_ => hs_.elim)); have n9_ := za0.mk (Kd.F_kept FM81.1 hk_ (fun _ _ hs_ => hs_.elim)); have n10_ := za0.mk (Kd.F_kept FM86.1 hk_ (fun _ _ hs_ => hs_.elim)); have n11_ := za0.mk (Kd.F_kept FM92.1 hk_ (fun _ _ hs_ => hs_.elim)); have ns_ := za0.mk (Nat.le_trans (Nat.le_trans hs1_ hs2_) (Nat.le_refl _)); have nB_ := za0.mk hB_; clear HB HS FA0_0 FA2 BKgb1 HS11 HR19 HN29 BKgb39 HS63 HR72 FM81 FM86 FM92; have FA0_0 := n0_; have FA2 := n1_; have BKgb1 := n2_; have HS11 := n3_; have HR19 := n4_; have HN29 := n5_; have BKgb39 := n6_; have HS63 := n7_; have HR72 := n8_; have FM81 := n9_; have FM86 := n10_; have FM92 := n11_; have HB := nB_; have HS := ns_; clear nB_ ns_ n0_ n1_ n2_ n3_ n4_ n5_ n6_ n7_ n8_ n9_ n10_ n11_; clear hk_ hs1_ hs2_ hw_ hB_ hb_; clear hd_; have hczgb1_0 : w93.cell? ⟨gb1, 0, none⟩ = some (.slice A0_0 l0_0.length c0_0) := (zl0 BKgb1.1 0).trans rfl; have hfzgb1_0 := zk0 BKgb1.1 0; have hczgb39_0 : w93.cell? ⟨gb39, 0, none⟩ = some (.slice Ao37 l0_0.length co38) := (zl0 BKgb39.1 0).trans rfl; have hfzgb39_0 := zk0 BKgb39.1 0; have hnbgb1gb39 : gb1 ≠ gb39 := (by have := CH.1; omega); have hnbgb39gb1 : gb39 ≠ gb1 := (by have := CH.1; omega)) | ((with_reducible refine zn0 (f := 9) rfl ?_); refine za1 (some 102) rfl rfl Try.func9 (by kernel_rfl) rfl #[.agg #[.slice A0_0 l0_0.length c0_0]] rfl (by (try simp only [List.map_toArray, List.map_cons, List.map_nil]); first | done | rfl | (simp only [List.length_drop, List.length_take]; rfl)) ?_; (with_reducible refine (yo1.calls KE7 _ _ l0_0 l0_0 _ ?sidehr0_0 ?sidehc0_0 E7.1).mono ?_); (case sidehr0_0 => exact F_at (S := (fun _ => False)) FA0_0.1 (by repeat (first | exact Kept.refl _ _ | apply Kept.alloc | apply Kept.drewN | apply Kept.drew)) (fun _ _ hs_ => hs_.elim)); (case sidehc0_0 => exact HC0_0.1); rintro e w95 ⟨v96, rfl, hov0__, hb_⟩; refine ⟨_, rfl, ?_⟩; (try clear hczgb1_0); (try clear hfzgb1_0); (try clear hczgb39_0); (try clear hfzgb39_0); obtain ⟨hk_, hs1_, hs2_, hw_⟩ := ev_kept (S := (fun _ => False)) HS.1 HB.1 hb_ (by repeat (first | exact Kept.refl _ _ | apply Kept.alloc | apply Kept.drewN | apply Kept.drew)); have hB_ := zi0 (by repeat (first | exact HB.1 | apply zc0 | apply zb0 | apply zd0 | refine ze0 ?_ GEgb1.1 | refine ze0 ?_ GEgb39.1)) hb_; have n0_ := za0.mk (Kd.F_kept FA0_0.1 hk_ (fun _ _ hs_ => hs_.elim)); have n1_ := za0.mk (Kd.F_kept FA2.1 hk_ (fun _ _ hs_ => hs_.elim)); have n2_ := za0.mk (zm0 (g := gb1) (o := .cells #[.slice A0_0 l0_0.length c0_0] 24 (0, 0)) (by (with_reducible repeat (first | refine zg0 ?_ _ | refine zj0 ?_ | refine zf0 ?_ _)); exact BKgb1.1) hb_); have n3_ := za0.mk (Kd.S_kept HS11.1 hk_ (fun _ _ hs_ => hs_.elim)); have n4_ := za0.mk (Kd.R_kept HR19.1 hk_ (fun _ _ hs_ => hs_.elim)); have n5_ := za0.mk (Kd.N_kept HN29.1 hk_ (fun _ _ hs_ => hs_.elim)); have n6_ := za0.mk (zm0 (g := gb39) (o := .cells #[.slice Ao37 l0_0.length co38] 29 (0, 0)) (by (with_reducible repeat (first | refine zg0 ?_ _ | refine zj0 ?_ | refine zf0 ?_ _)); exact BKgb39.1) hb_); have n7_ := za0.mk (Kd.S_kept HS63.1 hk_ (fun _ _ hs_ => hs_.elim)); have n8_ := za0.mk (Kd.R_kept HR72.1 hk_ (fun _ _ hs_ => hs_.elim)); have n9_ := za0.mk (Kd.F_kept FM81.1 hk_ (fun _ _ hs_ => hs_.elim)); have n10_ := za0.mk (Kd.F_kept FM86.1 hk_ (fun _ _ hs_ => hs_.elim)); have n11_ := za0.mk (Kd.F_kept FM92.1 hk_ (fun _ _ hs_ => hs_.elim)); have ns_ := za0.mk (Nat.le_trans (Nat.le_trans hs1_ hs2_) (Nat.le_refl _)); have nB_ := za0.mk hB_; obtain ⟨lo97, hi98, c1_, c2_, c3_, h_⟩ := S_new hov0__ hs2_ hw_ hs1_; have HS99 := za0.mk h_; obtain ⟨Ao100, co101, eo_⟩ := Kd.S_slice HS99.1; subst eo_; have HCHS99 := za0.mk (Kd.S_reads' HS99.1).2.1; clear h_ hov0__; have nc_ := za0.mk (And.intro c1_ (And.intro c2_ CH.1)); clear CH ns_; have CH := nc_; have ns_ := za0.mk c3_; clear nc_ c1_ c2_ c3_; clear HB HS FA0_0 FA2 BKgb1 HS11 HR19 HN29 BKgb39 HS63 HR72 FM81 FM86 FM92; have FA0_0 := n0_; have FA2 := n1_; have BKgb1 := n2_; have HS11 := n3_; have HR19 := n4_; have HN29 := n5_; have BKgb39 := n6_; have HS63 := n7_; have HR72 := n8_; have FM81 := n9_; have FM86 := n10_; have FM92 := n11_; have HB := nB_; have HS := ns_; clear nB_ ns_ n0_ n1_ n2_ n3_ n4_ n5_ n6_ n7_ n8_ n9_ n10_ n11_; clear hk_ hs1_ hs2_ hw_ hB_ hb_; have hczgb1_0 : w95.cell? ⟨gb1, 0, none⟩ = some (.slice A0_0 l0_0.length c0_0) := (zl0 BKgb1.1 0).trans rfl; have hfzgb1_0 := zk0 BKgb1.1 0; have hczgb39_0 : w95.cell? ⟨gb39, 0, none⟩ = some (.slice Ao37 l0_0.length co38) := (zl0 BKgb39.1 0).trans rfl; have hfzgb39_0 := zk0 BKgb39.1 0; have hnbgb1gb39 : gb1 ≠ gb39 := (by have := CH.1; omega); have hnbgb39gb1 : gb39 ≠ gb1 := (by have := CH.1; omega)) | ((with_reducible refine zn0 (f := 10) rfl ?_); refine za1 (some 105) rfl rfl Try.func10 (by kernel_rfl) rfl #[.slice A2 l2.length c2] rfl (by (try simp only [List.map_toArray, List.map_cons, List.map_nil]); first | done | rfl | (simp only [List.length_drop, List.length_take]; rfl)) ?_; (with_reducible refine (yj0.calls KE15 _ _ l2 l2 _ ?sidehr0 ?sidehc0 E15.1).mono ?_); (case sidehr0 => exact F_at (S := (fun _ => False)) FA2.1 (by repeat (first | exact Kept.refl _ _ | apply Kept.alloc | apply Kept.drewN | apply Kept.drew)) (fun _ _ hs_ => hs_.elim)); (case sidehc0 => exact HC2.1); rintro e w102 ⟨v103, rfl, hov0__, hb_⟩; refine ⟨_, rfl, ?_⟩; (try clear hczgb1_0); (try clear hfzgb1_0); (try clear hczgb39_0); (try clear hfzgb39_0); obtain ⟨hk_, hs1_, hs2_, hw_⟩ := ev_kept (S := (fun _ => False)) HS.1 HB.1 hb_ (by repeat (first | exact Kept.refl _ _ | apply Kept.alloc | apply Kept.drewN | apply Kept.drew)); have hB_ := zi0 (by repeat (first | exact HB.1 | apply zc0 | apply zb0 | apply zd0 | refine ze0 ?_ GEgb1.1 | refine ze0 ?_ GEgb39.1)) hb_; have n0_ := za0.mk (Kd.F_kept FA0_0.1 hk_ (fun _ _ hs_ => hs_.elim)); have n1_ := za0.mk (Kd.F_kept FA2.1 hk_ (fun _ _ hs_ => hs_.elim)); have n2_ := za0.mk (zm0 (g := gb1) (o := .cells #[.slice A0_0 l0_0.length c0_0] 24 (0, 0)) (by (with_reducible repeat (first | refine zg0 ?_ _ | refine zj0 ?_ | refine zf0 ?_ _)); exact BKgb1.1) hb_); have n3_ := za0.mk (Kd.S_kept HS11.1 hk_ (fun _ _ hs_ => hs_.elim)); have n4_ := za0.mk (Kd.R_kept HR19.1 hk_ (fun _ _ hs_ => hs_.elim)); have n5_ := za0.mk (Kd.N_kept HN29.1 hk_ (fun _ _ hs_ => hs_.elim)); have n6_ := za0.mk (zm0 (g := gb39) (o := .cells #[.slice Ao37 l0_0.length co38] 29 (0, 0)) (by (with_reducible repeat (first | refine zg0 ?_ _ | refine zj0 ?_ | refine zf0 ?_ _)); exact BKgb39.1) hb_); have n7_ := za0.mk (Kd.S_kept HS63.1 hk_ (fun _ _ hs_ => hs_.elim)); have n8_ := za0.mk (Kd.R_kept HR72.1 hk_ (fun _ _ hs_ => hs_.elim)); have n9_ := za0.mk (Kd.F_kept FM81.1 hk_ (fun _ _ hs_ => hs_.elim)); have n10_ := za0.mk (Kd.F_kept FM86.1 hk_ (fun _ _ hs_ => hs_.elim)); have n11_ := za0.mk (Kd.F_kept FM92.1 hk_ (fun _ _ hs_ => hs_.elim)); have n12_ := za0.mk (Kd.S_kept HS99.1 hk_ (fun _ _ hs_ => hs_.elim)); have ns_ := za0.mk (Nat.le_trans (Nat.le_trans hs1_ hs2_) (Nat.le_refl _)); have nB_ := za0.mk hB_; obtain ⟨lo104, hi105, c1_, c2_, c3_, h_⟩ := R_new hov0__ hs2_ hw_ hs1_; have HR106 := za0.mk h_; obtain ⟨Ao107, co108, eo_⟩ := Kd.R_slice HR106.1; subst eo_; have HCHR106 := za0.mk (Kd.R_reads' HR106.1).2.1; clear h_ hov0__; have nc_ := za0.mk (And.intro c1_ (And.intro c2_ CH.1)); clear CH ns_; have CH := nc_; have ns_ := za0.mk c3_; clear nc_ c1_ c2_ c3_; clear HB HS FA0_0 FA2 BKgb1 HS11 HR19 HN29 BKgb39 HS63 HR72 FM81 FM86 FM92 HS99; have FA0_0 := n0_; have FA2 := n1_; have BKgb1 := n2_; have HS11 := n3_; have HR19 := n4_; have HN29 := n5_; have BKgb39 := n6_; have HS63 := n7_; have HR72 := n8_; have FM81 := n9_; have FM86 := n10_; have FM92 := n11_; have HS99 := n12_; have HB := nB_; have HS := ns_; clear nB_ ns_ n0_ n1_ n2_ n3_ n4_ n5_ n6_ n7_ n8_ n9_ n10_ n11_ n12_; clear hk_ hs1_ hs2_ hw_ hB_ hb_; have hczgb1_0 : w102.cell? ⟨gb1, 0, none⟩ = some (.slice A0_0 l0_0.length c0_0) := (zl0 BKgb1.1 0).trans rfl; have hfzgb1_0 := zk0 BKgb1.1 0; have hczgb39_0 : w102.cell? ⟨gb39, 0, none⟩ = some (.slice Ao37 l0_0.length co38) := (zl0 BKgb39.1 0).trans rfl; have hfzgb39_0 := zk0 BKgb39.1 0; have hnbgb1gb39 : gb1 ≠ gb39 := (by have := CH.1; omega); have hnbgb39gb1 : gb39 ≠ gb1 := (by have := CH.1; omega)) | ((with_reducible refine zn0 (f := 20) rfl ?_); refine za1 (some 107) rfl rfl Try.func20 (by kernel_rfl) rfl #[.agg #[.slice Ao100 l0_0.length co101], .int .i64 a1, .slice Ao107 l2.length co108, .int .i64 a3] rfl (by (try simp only [List.map_toArray, List.map_cons, List.map_nil]); first | done | rfl | (simp only [List.length_drop, List.length_take]; rfl)) ?_; (with_reducible refine (ye1.calls KE49 _ _ l0_0 a1 _ _ l2 a3 x23 x24 _ ?sidehr0_0 ?sidehc0_0 ?sidehr2 ?sidehc2 E49.1).mono ?_); (case sidehr0_0 => exact S_now (S := (fun _ => False)) HS99.1 (by repeat (first | exact Kept.refl _ _ | apply Kept.alloc | apply Kept.drewN | apply Kept.drew)) (fun _ _ hs_ => hs_.elim)); (case sidehc0_0 => exact HCHS99.1); (case sidehr2 => exact R_now (S := (fun _ => False)) HR106.1 (by repeat (first | exact Kept.refl _ _ | apply Kept.alloc | apply Kept.drewN | apply Kept.drew)) (fun _ _ hs_ => hs_.elim)); (case sidehc2 => exact HCHR106.1); rintro e w109 ⟨v110, rfl, hov0__, hb_⟩; refine ⟨_, rfl, ?_⟩; (try clear hczgb1_0); (try clear hfzgb1_0); (try clear hczgb39_0); (try clear hfzgb39_0); obtain ⟨hk_, hs1_, hs2_, hw_⟩ := ev_kept (S := (fun _ => False)) HS.1 HB.1 hb_ (by repeat (first | exact Kept.refl _ _ | apply Kept.alloc | apply Kept.drewN | apply Kept.drew)); have hB_ := zi0 (by repeat (first | exact HB.1 | apply zc0 | apply zb0 | apply zd0 | refine ze0 ?_ GEgb1.1 | refine ze0 ?_ GEgb39.1)) hb_; have n0_ := za0.mk (Kd.F_kept FA0_0.1 hk_ (fun _ _ hs_ => hs_.elim)); have n1_ := za0.mk (Kd.F_kept FA2.1 hk_ (fun _ _ hs_ => hs_.elim)); have n2_ := za0.mk (zm0 (g := gb1) (o := .cells #[.slice A0_0 l0_0.length c0_0] 24 (0, 0)) (by (with_reducible repeat (first | refine zg0 ?_ _ | refine zj0 ?_ | refine zf0 ?_ _)); exact BKgb1.1) hb_); have n3_ := za0.mk (Kd.S_kept HS11.1 hk_ (fun _ _ hs_ => hs_.elim)); have n4_ := za0.mk (Kd.R_kept HR19.1 hk_ (fun _ _ hs_ => hs_.elim)); have n5_ := za0.mk (Kd.N_kept HN29.1 hk_ (fun _ _ hs_ => hs_.elim)); have n6_ := za0.mk (zm0 (g := gb39) (o := .cells #[.slice Ao37 l0_0.length co38] 29 (0, 0)) (by (with_reducible repeat (first | refine zg0 ?_ _ | refine zj0 ?_ | refine zf0 ?_ _)); exact BKgb39.1) hb_); have n7_ := za0.mk (Kd.S_kept HS63.1 hk_ (fun _ _ hs_ => hs_.elim)); have n8_ := za0.mk (Kd.R_kept HR72.1 hk_ (fun _ _ hs_ => hs_.elim)); have n9_ := za0.mk (Kd.F_kept FM81.1 hk_ (fun _ _ hs_ => hs_.elim)); have n10_ := za0.mk (Kd.F_kept FM86.1 hk_ (fun _ _ hs_ => hs_.elim)); have n11_ := za0.mk (Kd.F_kept FM92.1 hk_ (fun _ _ hs_ => hs_.elim)); have n12_ := za0.mk (Kd.S_kept HS99.1 hk_ (fun _ _ hs_ => hs_.elim)); have n13_ := za0.mk (Kd.R_kept HR106.1 hk_ (fun _ _ hs_ => hs_.elim)); have ns_ := za0.mk (Nat.le_trans (Nat.le_trans hs1_ hs2_) (Nat.le_refl _)); have nB_ := za0.mk hB_; obtain ⟨lo111, hi112, c1_, c2_, c3_, h_⟩ := S_new hov0__ hs2_ hw_ hs1_; have HS113 := za0.mk h_; obtain ⟨Ao114, co115, eo_⟩ := Kd.S_slice HS113.1; subst eo_; have HCHS113 := za0.mk (Kd.S_reads' HS113.1).2.1; clear h_ hov0__; have nc_ := za0.mk (And.intro c1_ (And.intro c2_ CH.1)); clear CH ns_; have CH := nc_; have ns_ := za0.mk c3_; clear nc_ c1_ c2_ c3_; clear HB HS FA0_0 FA2 BKgb1 HS11 HR19 HN29 BKgb39 HS63 HR72 FM81 FM86 FM92 HS99 HR106; have FA0_0 := n0_; have FA2 := n1_; have BKgb1 := n2_; have HS11 := n3_; have HR19 := n4_; have HN29 := n5_; have BKgb39 := n6_; have HS63 := n7_; have HR72 := n8_; have FM81 := n9_; have FM86 := n10_; have FM92 := n11_; have HS99 := n12_; have HR106 := n13_; have HB := nB_; have HS := ns_; clear nB_ ns_ n0_ n1_ n2_ n3_ n4_ n5_ n6_ n7_ n8_ n9_ n10_ n11_ n12_ n13_; clear hk_ hs1_ hs2_ hw_ hB_ hb_; have hczgb1_0 : w109.cell? ⟨gb1, 0, none⟩ = some (.slice A0_0 l0_0.length c0_0) := (zl0 BKgb1.1 0).trans rfl; have hfzgb1_0 := zk0 BKgb1.1 0; have hczgb39_0 : w109.cell? ⟨gb39, 0, none⟩ = some (.slice Ao37 l0_0.length co38) := (zl0 BKgb39.1 0).trans rfl; have hfzgb39_0 := zk0 BKgb39.1 0; have hnbgb1gb39 : gb1 ≠ gb39 := (by have := CH.1; omega); have hnbgb39gb1 : gb39 ≠ gb1 := (by have := CH.1; omega)) | ((with_reducible refine zn0 (f := 21) rfl ?_); refine za1 (some 112) rfl rfl Try.func21 (by kernel_rfl) rfl #[.slice Ao114 x23.length co115, .slice Ao30 x23.length co31] rfl (by (try simp only [List.map_toArray, List.map_cons, List.map_nil]); first | done | rfl | (simp only [List.length_drop, List.length_take]; rfl)) ?_; (with_reducible refine (yk0.calls KE57 _ _ x23 _ _ x23 true _ ?sidehr0 ?sidehc0 ?sidehr1 ?sidehc1 E57.1).mono ?_); (case sidehr0 => exact S_now (S := (fun _ => False)) HS113.1 (by repeat (first | exact Kept.refl _ _ | apply Kept.alloc | apply Kept.drewN | apply Kept.drew)) (fun _ _ hs_ => hs_.elim)); (case sidehc0 => exact HCHS113.1); (case sidehr1 => exact N_now (S := (fun _ => False)) HN29.1 (by repeat (first | exact Kept.refl _ _ | apply Kept.alloc | apply Kept.drewN | apply Kept.drew)) (fun _ _ hs_ => hs_.elim)); (case sidehc1 => exact HCHN29.1); rintro e w116 ⟨rfl, hd_⟩; refine ⟨_, rfl, ?_⟩; have hb_ := hd_.below; (try clear hczgb1_0); (try clear hfzgb1_0); (try clear hczgb39_0); (try clear hfzgb39_0); obtain ⟨hk_, hs1_, hs2_, hw_⟩ := ev_kept (S := (fun _ => False)) HS.1 HB.1 hb_ (by repeat (first | exact Kept.refl _ _ | apply Kept.alloc | apply Kept.drewN | apply Kept.drew)); have hB_ := zi0 (by repeat (first | exact HB.1 | apply zc0 | apply zb0 | apply zd0 | refine ze0 ?_ GEgb1.1 | refine ze0 ?_ GEgb39.1)) hb_; have n0_ := za0.mk (Kd.F_kept FA0_0.1 hk_ (fun _ _ hs_ => hs_.elim)); have n1_ := za0.mk (Kd.F_kept FA2.1 hk_ (fun _ _ hs_ => hs_.elim)); have n2_ := za0.mk (zm0 (g := gb1) (o := .cells #[.slice A0_0 l0_0.length c0_0] 24 (0, 0)) (by (with_reducible repeat (first | refine zg0 ?_ _ | refine zj0 ?_ | refine zf0 ?_ _)); exact BKgb1.1) hb_); have n3_ := za0.mk (Kd.S_kept HS11.1 hk_ (fun _ _ hs_ => hs_.elim)); have n4_ := za0.mk (Kd.R_kept HR19.1 hk_ (fun _ _ hs_ => hs_.elim)); have n5_ := za0.mk (Kd.N_kept HN29.1 hk_ (fun _ _ hs_ => hs_.elim)); have n6_ := za0.mk (zm0 (g := gb39) (o := .cells #[.slice Ao37 l0_0.length co38] 29 (0, 0)) (by (with_reducible repeat (first | refine zg0 ?_ _ | refine zj0 ?_ | refine zf0 ?_ _)); exact BKgb39.1) hb_); have n7_ := za0.mk (Kd.S_kept HS63.1 hk_ (fun _ _ hs_ => hs_.elim)); have n8_ := za0.mk (Kd.R_kept HR72.1 hk_ (fun _ _ hs_ => hs_.elim)); have n9_ := za0.mk (Kd.F_kept FM81.1 hk_ (fun _ _ hs_ => hs_.elim)); have n10_ := za0.mk (Kd.F_kept FM86.1 hk_ (fun _ _ hs_ => hs_.elim)); have n11_ := za0.mk (Kd.F_kept FM92.1 hk_ (fun _ _ hs_ => hs_.elim)); have n12_ := za0.mk (Kd.S_kept HS99.1 hk_ (fun _ _ hs_ => hs_.elim)); have n13_ := za0.mk (Kd.R_kept HR106.1 hk_ (fun _ _ hs_ => hs_.elim)); have n14_ := za0.mk (Kd.S_kept HS113.1 hk_ (fun _ _ hs_ => hs_.elim)); have ns_ := za0.mk (Nat.le_trans (Nat.le_trans hs1_ hs2_) (Nat.le_refl _)); have nB_ := za0.mk hB_; clear HB HS FA0_0 FA2 BKgb1 HS11 HR19 HN29 BKgb39 HS63 HR72 FM81 FM86 FM92 HS99 HR106 HS113; have FA0_0 := n0_; have FA2 := n1_; have BKgb1 := n2_; have HS11 := n3_; have HR19 := n4_; have HN29 := n5_; have BKgb39 := n6_; have HS63 := n7_; have HR72 := n8_; have FM81 := n9_; have FM86 := n10_; have FM92 := n11_; have HS99 := n12_; have HR106 := n13_; have HS113 := n14_; have HB := nB_; have HS := ns_; clear nB_ ns_ n0_ n1_ n2_ n3_ n4_ n5_ n6_ n7_ n8_ n9_ n10_ n11_ n12_ n13_ n14_; clear hk_ hs1_ hs2_ hw_ hB_ hb_; clear hd_; have hczgb1_0 : w116.cell? ⟨gb1, 0, none⟩ = some (.slice A0_0 l0_0.length c0_0) := (zl0 BKgb1.1 0).trans rfl; have hfzgb1_0 := zk0 BKgb1.1 0; have hczgb39_0 : w116.cell? ⟨gb39, 0, none⟩ = some (.slice Ao37 l0_0.length co38) := (zl0 BKgb39.1 0).trans rfl; have hfzgb39_0 := zk0 BKgb39.1 0; have hnbgb1gb39 : gb1 ≠ gb39 := (by have := CH.1; omega); have hnbgb39gb1 : gb39 ≠ gb1 := (by have := CH.1; omega)) | ((with_reducible refine zn0 (f := 23) rfl ?_); refine za1 (some 121) rfl rfl Try.func23 (by kernel_rfl) rfl #[.slice Ao54 x23.length co55, .int .i64 1] rfl (by (try simp only [List.map_toArray, List.map_cons, List.map_nil]); first | done | rfl | (simp only [List.length_drop, List.length_take]; rfl)) ?_; refine calls_len (args' := #[.slice Ao54 x90.length co55, .int .i64 1]) (by simp only [HLFM92.1]) ?_; (with_reducible refine (yz0.calls KE94 _ _ x90 1 x89 _ ?sidehr0 ?sidehc0 E94.1).mono ?_); (case sidehr0 => exact F_at (S := (fun _ => False)) FM92.1 (by repeat (first | exact Kept.refl _ _ | apply Kept.alloc | apply Kept.drewN | apply Kept.drew)) (fun _ _ hs_ => hs_.elim)); (case sidehc0 => exact HCHS53_.1); rintro e w117 ⟨rfl, hd_⟩; refine ⟨_, rfl, ?_⟩; have hb_ := hd_.below; (try clear hczgb1_0); (try clear hfzgb1_0); (try clear hczgb39_0); (try clear hfzgb39_0); obtain ⟨hk_, hs1_, hs2_, hw_⟩ := ev_kept (S := (fun _ => False)) HS.1 HB.1 hb_ (by repeat (first | exact Kept.refl _ _ | apply Kept.alloc | apply Kept.drewN | apply Kept.drew)); have hB_ := zi0 (by repeat (first | exact HB.1 | apply zc0 | apply zb0 | apply zd0 | refine ze0 ?_ GEgb1.1 | refine ze0 ?_ GEgb39.1)) hb_; have n0_ := za0.mk (Kd.F_kept FA0_0.1 hk_ (fun _ _ hs_ => hs_.elim)); have n1_ := za0.mk (Kd.F_kept FA2.1 hk_ (fun _ _ hs_ => hs_.elim)); have n2_ := za0.mk (zm0 (g := gb1) (o := .cells #[.slice A0_0 l0_0.length c0_0] 24 (0, 0)) (by (with_reducible repeat (first | refine zg0 ?_ _ | refine zj0 ?_ | refine zf0 ?_ _)); exact BKgb1.1) hb_); have n3_ := za0.mk (Kd.S_kept HS11.1 hk_ (fun _ _ hs_ => hs_.elim)); have n4_ := za0.mk (Kd.R_kept HR19.1 hk_ (fun _ _ hs_ => hs_.elim)); have n5_ := za0.mk (Kd.N_kept HN29.1 hk_ (fun _ _ hs_ => hs_.elim)); have n6_ := za0.mk (zm0 (g := gb39) (o := .cells #[.slice Ao37 l0_0.length co38] 29 (0, 0)) (by (with_reducible repeat (first | refine zg0 ?_ _ | refine zj0 ?_ | refine zf0 ?_ _)); exact BKgb39.1) hb_); have n7_ := za0.mk (Kd.S_kept HS63.1 hk_ (fun _ _ hs_ => hs_.elim)); have n8_ := za0.mk (Kd.R_kept HR72.1 hk_ (fun _ _ hs_ => hs_.elim)); have n9_ := za0.mk (Kd.F_kept FM81.1 hk_ (fun _ _ hs_ => hs_.elim)); have n10_ := za0.mk (Kd.F_kept FM86.1 hk_ (fun _ _ hs_ => hs_.elim)); have n11_ := za0.mk (Kd.F_kept FM92.1 hk_ (fun _ _ hs_ => hs_.elim)); have n12_ := za0.mk (Kd.S_kept HS99.1 hk_ (fun _ _ hs_ => hs_.elim)); have n13_ := za0.mk (Kd.R_kept HR106.1 hk_ (fun _ _ hs_ => hs_.elim)); have n14_ := za0.mk (Kd.S_kept HS113.1 hk_ (fun _ _ hs_ => hs_.elim)); have ns_ := za0.mk (Nat.le_trans (Nat.le_trans hs1_ hs2_) (Nat.le_refl _)); have nB_ := za0.mk hB_; clear HB HS FA0_0 FA2 BKgb1 HS11 HR19 HN29 BKgb39 HS63 HR72 FM81 FM86 FM92 HS99 HR106 HS113; have FA0_0 := n0_; have FA2 := n1_; have BKgb1 := n2_; have HS11 := n3_; have HR19 := n4_; have HN29 := n5_; have BKgb39 := n6_; have HS63 := n7_; have HR72 := n8_; have FM81 := n9_; have FM86 := n10_; have FM92 := n11_; have HS99 := n12_; have HR106 := n13_; have HS113 := n14_; have HB := nB_; have HS := ns_; clear nB_ ns_ n0_ n1_ n2_ n3_ n4_ n5_ n6_ n7_ n8_ n9_ n10_ n11_ n12_ n13_ n14_; clear hk_ hs1_ hs2_ hw_ hB_ hb_; clear hd_; have hczgb1_0 : w117.cell? ⟨gb1, 0, none⟩ = some (.slice A0_0 l0_0.length c0_0) := (zl0 BKgb1.1 0).trans rfl; have hfzgb1_0 := zk0 BKgb1.1 0; have hczgb39_0 : w117.cell? ⟨gb39, 0, none⟩ = some (.slice Ao37 l0_0.length co38) := (zl0 BKgb39.1 0).trans rfl; have hfzgb39_0 := zk0 BKgb39.1 0; have hnbgb1gb39 : gb1 ≠ gb39 := (by have := CH.1; omega); have hnbgb39gb1 : gb39 ≠ gb1 := (by have := CH.1; omega)))
 go_ret
 exact ⟨by first | rfl | (simp; done), by repeat (first | exact HB.1 | apply zc0 | apply zb0 | apply zd0 | refine ze0 ?_ GEgb1.1 | refine ze0 ?_ GEgb39.1)⟩
end Go.Proofs.Ytlbgajpbdbgmkaa.P
namespace Go.Proofs.Ytlbgajpbdbgmkaa.M
set_option maxHeartbeats 8000000
set_option maxRecDepth 100000
open Go.RowKit Go.Proofs.Ytlbgajpbdbgmkaa.P Go.Proofs.Ytlbgajpbdbgmkaa.In Go.Proofs.YtlbgajpbdbgmkaaW.PrintWords Go.Proofs.YtlbgajpbdbgmkaaW.PrintLast
set_option linter.unusedVariables false
set_option linter.unusedSimpArgs false
theorem wrap_id {x : Int} (h : -9223372036854775808 ≤ x ∧ x ≤ 9223372036854775807) : wrap64 x = x := by unfold wrap64; omega
theorem wrap_nat {n : Nat} (h : n < 9223372036854775807) : wrap64 ((n : Int) + 1) = ((n + 1 : Nat) : Int) := by unfold wrap64; omega
theorem rd_at {l : List Int} {n : Nat} (h : n < l.length) : rd l (n : Int) = l[n] := by simp [rd, h]
theorem rdL_at {l : List (List Int)} {n : Nat} (h : n < l.length) : rd_L1 l (n : Int) = l[n] := by simp [rd_L1, h]
theorem _root_.Go.Proofs.YtlbgajpbdbgmkaaW.PrintWords.Ev.val {α : Type} {g : Nat → Option α} {r r' : α} (h : Ev g r) (e : r = r') : Ev g r' := e ▸ h
theorem _root_.Go.Proofs.YtlbgajpbdbgmkaaW.PrintWords.Ev.const {α : Type} {g : Nat → Option α} {r : α} (h : ∀ k, g k = some r) : Ev g r := ⟨0, fun k _ => h k⟩
theorem _root_.Go.Proofs.YtlbgajpbdbgmkaaW.PrintWords.Ev.const1 {α : Type} {g : Nat → Option α} {r : α} (h : ∀ k, g (k + 1) = some r) : Ev g r := Ev.step (f := fun _ => some r) h (Ev.const fun _ => rfl)
theorem _root_.Go.Proofs.YtlbgajpbdbgmkaaW.PrintWords.Ev.succ {α : Type} {g : Nat → Option α} {r : α} (h : Ev (fun k => g (k + 1)) r) : Ev g r := Ev.step (f := fun k => g (k + 1)) (fun _ => rfl) h
theorem _root_.Go.Proofs.YtlbgajpbdbgmkaaW.PrintWords.Ev.bind0 {α β : Type} {g : Option α} {f : Nat → α → Option β} {a : α} {r : β} (h : g = some a) (k : Ev (fun n => f n a) r) : Ev (fun n => g.bind (f n)) r := by
 subst h; exact k
theorem _root_.Go.Proofs.YtlbgajpbdbgmkaaW.PrintWords.Ev.pos {α : Type} {g f : Nat → Option α} {r : α} {c : Prop} [Decidable c] (h : c) (k : Ev g r) : Ev (fun n => if c then g n else f n) r := by
 simp only [if_pos h]; exact k
theorem _root_.Go.Proofs.YtlbgajpbdbgmkaaW.PrintWords.Ev.neg {α : Type} {g f : Nat → Option α} {r : α} {c : Prop} [Decidable c] (h : ¬ c) (k : Ev f r) : Ev (fun n => if c then g n else f n) r := by
 simp only [if_neg h]; exact k
theorem toIntS_l0 (l : List Int) (hl : l.length < 9223372036854775807) : ∀ (d i : Nat) (y : List Int), l.length - i = d → i ≤ l.length → y.length = l.length → y.take i = l.take i → Ev (fun k => yj0.l0 k l y i) l := by
 intro d
 induction d with
 | zero =>
  intro i y hd hi hy ht
  have : i = l.length := by omega
  subst this
  refine Ev.const1 (fun k => ?_)
  simp only [yj0.l0]
  rw [if_neg (by omega)]
  rw [List.take_of_length_le (by omega), List.take_of_length_le (by omega)] at ht
  rw [ht]
 | succ d ih =>
  intro i y hd hi hy ht
  have hlt : i < l.length := by omega
  refine Ev.step (f := fun k => yj0.l0 k l (y.set i l[i]) (i + 1 : Nat)) (fun k => ?_) (ih (i + 1) (y.set i l[i]) (by omega) (by omega) (by rw [List.length_set]; exact hy) ?_)
  ·simp only [yj0.l0]
   rw [if_pos (by omega), if_pos (by omega), if_pos (by omega), wrap_nat (by omega), rd_at hlt, Int.toNat_natCast]
  ·rw [List.take_succ_eq_append_getElem (by rw [List.length_set]; omega), List.take_succ_eq_append_getElem hlt, List.take_set_of_le (Nat.le_refl _), ht, List.getElem_set_self]
theorem toIntS (l : List Int) (hl : l.length ≤ 35184372088832) : Ev (fun k => yj0.f k l) l := by
 unfold yj0.f
 refine Ev.pos (by omega) (Ev.pos (by omega) ?_)
 exact toIntS_l0 l (by omega) l.length 0 _ (by omega) (by omega) (by simp) (by simp)
theorem toIntSS_l0 (l : List (List Int)) (hl : l.length < 9223372036854775807) (hr : ∀ row ∈ l, row.length ≤ 35184372088832) : ∀ (d i : Nat) (y : List (List Int)), l.length - i = d → i ≤ l.length → y.length = l.length → y.take i = l.take i → Ev (fun k => yr0.l0 k l y i) l := by
 intro d
 induction d with
 | zero =>
  intro i y hd hi hy ht
  have : i = l.length := by omega
  subst this
  refine Ev.const1 (fun k => ?_)
  simp only [yr0.l0]
  rw [if_neg (by omega)]
  rw [List.take_of_length_le (by omega), List.take_of_length_le (by omega)] at ht
  rw [ht]
 | succ d ih =>
  intro i y hd hi hy ht
  have hlt : i < l.length := by omega
  refine Ev.step (f := fun k => (yj0.f k l[i]).bind fun t => yr0.l0 k l (y.set i t) (i + 1 : Nat)) (fun k => ?_) (Ev.bind (toIntS l[i] (hr _ (List.getElem_mem hlt))) (ih (i + 1) (y.set i l[i]) (by omega) (by omega) (by rw [List.length_set]; exact hy) ?_))
  ·simp only [yr0.l0]
   rw [if_pos (by omega), if_pos (by omega), wrap_nat (by omega), rdL_at hlt, Int.toNat_natCast]
   congr 1
   funext t
   rw [if_pos (by omega)]
  ·rw [List.take_succ_eq_append_getElem (by rw [List.length_set]; omega), List.take_succ_eq_append_getElem hlt, List.take_set_of_le (Nat.le_refl _), ht, List.getElem_set_self]
theorem toIntSS (l : List (List Int)) (hl : l.length ≤ 11728124029610) (hr : ∀ row ∈ l, row.length ≤ 35184372088832) : Ev (fun k => yr0.f k l) l := by
 unfold yr0.f
 refine Ev.pos (by omega) (Ev.pos (by omega) ?_)
 exact toIntSS_l0 l (by omega) hr l.length 0 _ (by omega) (by omega) (by simp) (by simp)
def small (l : List (List Int)) : Prop := l.length ≤ 1048576 ∧ ∀ row ∈ l, row.length ≤ 1048576
theorem toGraph (l : List (List Int)) (h : small l) : Ev (fun k => yo1.f k l) l := by
 unfold yo1.f
 exact Ev.bind (toIntSS l (by have := h.1; omega) (fun row hr => by have := h.2 row hr; omega)) (Ev.now _)
theorem szIntSS_l0 (l : List (List Int)) (hl : okSS l) : ∀ (d i : Nat) (a : Int), l.length - i = d → i ≤ l.length → 0 ≤ a → a ≤ 1048576 → ∃ r, Ev (fun k => yu0.l0 k l a i) r ∧ r ≤ 1048576 ∧ (0 ≤ r → ∀ j (hj : j < l.length), i ≤ j → l[j].length ≤ 1048576) := by
 intro d
 induction d with
 | zero =>
  intro i a hd hi h0 h1
  refine ⟨a, Ev.const1 (fun k => ?_), h1, fun _ j hj hij => by omega⟩
  simp only [yu0.l0]
  rw [if_neg (by omega)]
 | succ d ih =>
  intro i a hd hi h0 h1
  have hlt : i < l.length := by omega
  have hll := hl.1
  have hrow := (hl.2 _ (List.getElem_mem hlt)).1
  by_cases hneg : a - (l[i].length : Int) < 0
  ·refine ⟨-1, Ev.const1 (fun k => ?_), by omega, fun h => by omega⟩
   simp only [yu0.l0, ye2.f]
   rw [if_pos (by omega), if_pos (by omega), rdL_at hlt, if_pos (by rw [wrap_id (by omega)]; exact hneg)]
   rfl
  obtain ⟨r, h2, h3, h4⟩ := ih (i + 1) (a - (l[i].length : Int)) (by omega) (by omega) (by omega) (by omega)
  refine ⟨r, Ev.step (fun k => ?_) h2, h3, fun h j hj hij => ?_⟩
  ·simp only [yu0.l0, ye2.f]
   rw [if_pos (by omega), if_pos (by omega), rdL_at hlt, wrap_id (by omega), if_neg hneg, wrap_nat (by omega)]
   simp only [Option.bind_some]
   rw [if_neg hneg]
  ·by_cases e : j = i
   ·subst e; omega
   exact h4 h j hj (by omega)
theorem szGraph (l : List (List Int)) (hl : okSS l) : ∃ r, Ev (fun k => yx1.f k l 1048576) r ∧ r ≤ 1048576 ∧ (0 ≤ r → small l) := by
 have hll := hl.1
 unfold yx1.f yu0.f
 rw [wrap_id (by omega)]
 by_cases h : (1048576 : Int) - (l.length : Int) < 0
 ·exact ⟨-1, Ev.bind (Ev.pos h (Ev.now _)) (Ev.pos (by omega) (Ev.now _)), by omega, fun h => by omega⟩
 obtain ⟨r, h2, h3, h4⟩ := szIntSS_l0 l hl l.length 0 (1048576 - (l.length : Int)) (by omega) (by omega) (by omega) (by omega)
 by_cases hr : r < 0
 ·exact ⟨-1, Ev.bind (Ev.neg h h2) (Ev.pos hr (Ev.now _)), by omega, fun h => by omega⟩
 refine ⟨r, Ev.bind (Ev.neg h h2) (Ev.neg hr (Ev.now _)), h3, fun h0 => ⟨by omega, fun row hrow => ?_⟩⟩
 obtain ⟨j, hj, rfl⟩ := List.getElem_of_mem hrow
 exact h4 h0 j hj (Nat.zero_le _)
theorem cons_dec {α : Type} [DecidableEq α] {a b : α} {l m : List α} (e : a = b) : decide (l = m) = decide (a :: l = b :: m) := by
 subst e; exact decide_eq_decide.mpr ⟨fun h => by rw [h], fun h => (List.cons.inj h).2⟩
theorem eqIntS_l0 (x y : List Int) (hl : x.length ≤ 9223372036854775807) (hxy : x.length = y.length) : ∀ (d i : Nat), x.length - i = d → i ≤ x.length → Ev (fun k => yi0.l0 k x y i) (decide (x.drop i = y.drop i)) := by
 intro d
 induction d with
 | zero =>
  intro i hd hi
  refine Ev.const1 (fun k => ?_)
  simp only [yi0.l0]
  rw [if_neg (by omega), List.drop_of_length_le (by omega), List.drop_of_length_le (by omega)]
  simp
 | succ d ih =>
  intro i hd hi
  have hlt : i < x.length := by omega
  have hlt2 : i < y.length := by omega
  rw [List.drop_eq_getElem_cons hlt, List.drop_eq_getElem_cons hlt2]
  by_cases e : x[i] = y[i]
  ·refine Ev.step (f := fun k => yi0.l0 k x y (i + 1 : Nat)) (fun k => ?_) ((ih (i + 1) (by omega) (by omega)).val (cons_dec e))
   simp only [yi0.l0]
   rw [if_pos (by omega), if_pos (by omega), if_pos (by omega), rd_at hlt, rd_at hlt2, if_pos e, wrap_nat (by omega)]
  refine Ev.const1 (fun k => ?_)
  simp only [yi0.l0]
  rw [if_pos (by omega), if_pos (by omega), if_pos (by omega), rd_at hlt, rd_at hlt2, if_neg e, decide_eq_false (fun h => e (List.cons.inj h).1)]
theorem eqIntS (x y : List Int) (hl : x.length ≤ 9223372036854775807) : Ev (fun k => yi0.f k x y) (decide (x = y)) := by
 unfold yi0.f
 by_cases h : x.length = y.length
 ·refine Ev.pos (by omega) ?_
  exact eqIntS_l0 x y hl h x.length 0 (by omega) (by omega)
 refine Ev.neg (by omega) ?_
 exact (Ev.now _).val (by have : x ≠ y := fun e => h (by rw [e]); simp [this])
theorem eqIntSS_l0 (x y : List (List Int)) (hl : x.length ≤ 9223372036854775807) (hr : ∀ row ∈ x, row.length ≤ 9223372036854775807) (hxy : x.length = y.length) : ∀ (d i : Nat), x.length - i = d → i ≤ x.length → Ev (fun k => yk0.l0 k x y i) (decide (x.drop i = y.drop i)) := by
 intro d
 induction d with
 | zero =>
  intro i hd hi
  refine Ev.const1 (fun k => ?_)
  simp only [yk0.l0]
  rw [if_neg (by omega), List.drop_of_length_le (by omega), List.drop_of_length_le (by omega)]
  simp
 | succ d ih =>
  intro i hd hi
  have hlt : i < x.length := by omega
  have hlt2 : i < y.length := by omega
  rw [List.drop_eq_getElem_cons hlt, List.drop_eq_getElem_cons hlt2]
  refine Ev.step (f := fun k => (yi0.f k x[i] y[i]).bind fun t => if t = true then yk0.l0 k x y (i + 1 : Nat) else some false) (fun k => ?_) ?_
  ·simp only [yk0.l0]
   rw [if_pos (by omega), if_pos (by omega), if_pos (by omega), rdL_at hlt, rdL_at hlt2, wrap_nat (by omega)]
  ·by_cases e : x[i] = y[i]
   ·exact Ev.bind ((eqIntS x[i] y[i] (hr _ (List.getElem_mem hlt))).val (decide_eq_true e)) (Ev.pos rfl ((ih (i + 1) (by omega) (by omega)).val (cons_dec e)))
   exact Ev.bind ((eqIntS x[i] y[i] (hr _ (List.getElem_mem hlt))).val (decide_eq_false e)) (Ev.neg (by simp) ((Ev.now _).val (decide_eq_false (fun h => e (List.cons.inj h).1)).symm))
theorem eqIntSS (x y : List (List Int)) (hl : x.length ≤ 9223372036854775807) (hr : ∀ row ∈ x, row.length ≤ 9223372036854775807) : Ev (fun k => yk0.f k x y) (decide (x = y)) := by
 unfold yk0.f
 by_cases h : x.length = y.length
 ·refine Ev.pos (by omega) ?_
  exact eqIntSS_l0 x y hl hr h x.length 0 (by omega) (by omega)
 refine Ev.neg (by omega) ?_
 exact (Ev.now _).val (by have : x ≠ y := fun e => h (by rw [e]); simp [this])
theorem eqGraph (x y : List (List Int)) (hl : x.length ≤ 9223372036854775807) (hr : ∀ row ∈ x, row.length ≤ 9223372036854775807) : Ev (fun k => yw1.f k x y) (decide (x = y)) := by
 unfold yw1.f
 refine Ev.bind (eqIntSS x y hl hr) ?_
 by_cases e : x = y
 ·exact Ev.pos (decide_eq_true e) ((Ev.now _).val (decide_eq_true e).symm)
 exact Ev.neg (by simp [e]) ((Ev.now _).val (decide_eq_false e).symm)
theorem small_eq (l : List (List Int)) (h : small l) : Ev (fun k => yw1.f k l l) true := (eqGraph l l (by have := h.1; omega) (fun row hr => by have := h.2 row hr; omega)).val (decide_eq_true rfl)
theorem l1In (a lo hi : Int) : ya1.f a lo hi = some (decide (lo ≤ a) && decide (a ≤ hi)) := by
 unfold ya1.f
 by_cases h : a ≥ lo
 ·rw [if_pos h]; have : lo ≤ a := h; simp [this]
 rw [if_neg h]; have : ¬ lo ≤ a := h; simp [this]
theorem implin (a lo hi : Int) : yc1.f a lo hi = some (decide (lo ≤ a) && decide (a ≤ hi)) := by
 unfold yc1.f
 by_cases h : lo ≤ a
 ·rw [if_pos h]; simp [h]
 rw [if_neg h]; simp [h]
theorem l1All_l0 (l : List Int) (lo hi : Int) (hl : l.length ≤ 9223372036854775807) : ∀ (d i : Nat), l.length - i = d → i ≤ l.length → Ev (fun k => yo0.l0 k lo hi l l.length i) ((l.drop i).all fun x => decide (lo ≤ x) && decide (x ≤ hi)) := by
 intro d
 induction d with
 | zero =>
  intro i hd hi
  refine Ev.const1 (fun k => ?_)
  simp only [yo0.l0]
  rw [if_neg (by omega), List.drop_of_length_le (by omega)]
  rfl
 | succ d ih =>
  intro i hd hi'
  have hlt : i < l.length := by omega
  rw [List.drop_eq_getElem_cons hlt, List.all_cons]
  by_cases e : (decide (lo ≤ l[i]) && decide (l[i] ≤ hi)) = true
  ·refine Ev.step (f := fun k => yo0.l0 k lo hi l l.length (i + 1 : Nat)) (fun k => ?_) ((ih (i + 1) (by omega) (by omega)).val (by rw [e]; simp))
   simp only [yo0.l0, l1In]
   rw [if_pos (by omega), if_pos (by omega), if_pos (by omega), rd_at hlt, wrap_nat (by omega)]
   simp only [Option.bind_some]
   rw [if_pos e]
  refine Ev.const1 (fun k => ?_)
  simp only [yo0.l0, l1In]
  rw [if_pos (by omega), if_pos (by omega), if_pos (by omega), rd_at hlt]
  simp only [Option.bind_some]
  rw [if_neg e]
  simp only [Bool.not_eq_true] at e
  rw [e]; rfl
theorem l1All (l : List Int) (lo hi : Int) (hl : l.length ≤ 9223372036854775807) : Ev (fun k => yo0.f k l lo hi) (l.all fun x => decide (lo ≤ x) && decide (x ≤ hi)) := by
 unfold yo0.f
 exact l1All_l0 l lo hi hl l.length 0 (by omega) (by omega)
theorem grGood_l0 (l : List (List Int)) (hl : okSS l) : ∀ (d i : Nat), l.length - i = d → i ≤ l.length → Ev (fun k => ym0.l0 k l.length l l.length i) ((l.drop i).all (goodRow l.length)) := by
 intro d
 induction d with
 | zero =>
  intro i hd hi
  refine Ev.const1 (fun k => ?_)
  simp only [ym0.l0]
  rw [if_neg (by omega), List.drop_of_length_le (by omega)]
  rfl
 | succ d ih =>
  intro i hd hi'
  have hlt : i < l.length := by omega
  have hll := hl.1
  have hrow := (hl.2 _ (List.getElem_mem hlt)).1
  rw [List.drop_eq_getElem_cons hlt, List.all_cons]
  by_cases h5 : l[i].length ≤ 5
  rotate_left
  ·refine Ev.const1 (fun k => ?_)
   simp only [ym0.l0]
   rw [if_pos (by omega), if_pos (by omega), if_pos (by omega), rdL_at hlt, if_pos (by omega)]
   simp [goodRow, h5]
  refine Ev.step (f := fun k => (yo0.f k l[i] 0 ((l.length : Int) - 1)).bind fun t => if t = true then ym0.l0 k l.length l l.length (i + 1 : Nat) else some false) (fun k => ?_) ?_
  ·simp only [ym0.l0]
   rw [if_pos (by omega), if_pos (by omega), if_pos (by omega), rdL_at hlt, if_neg (by omega), wrap_nat (by omega), wrap_id (by omega)]
  ·by_cases e : (l[i].all fun x => decide (0 ≤ x) && decide (x ≤ (l.length : Int) - 1)) = true
   ·exact Ev.bind ((l1All _ 0 _ hrow).val e) (Ev.pos rfl ((ih (i + 1) (by omega) (by omega)).val (by unfold goodRow; rw [e]; simp [h5])))
   exact Ev.bind ((l1All _ 0 _ hrow).val (Bool.eq_false_iff.mpr e)) (Ev.neg (by simp) ((Ev.now _).val (by unfold goodRow; simp only [Bool.not_eq_true] at e; rw [e]; simp)))
theorem grGood (l : List (List Int)) (hl : okSS l) : Ev (fun k => ym0.f k l) (goodG l) := by
 unfold ym0.f
 rw [l1In]
 simp only [Option.bind_some]
 by_cases h : 1 ≤ l.length ∧ l.length ≤ 8
 ·have h1 : (1 : Int) ≤ l.length := by omega
  have h2 : (l.length : Int) ≤ 8 := by omega
  refine Ev.pos (by simp [h1, h2]) ?_
  exact (grGood_l0 l hl l.length 0 (by omega) (by omega)).val (by simp [goodG, h.1, h.2])
 refine Ev.neg (by simp; omega) ((Ev.now _).val ?_)
 unfold goodG
 by_cases h1 : 1 ≤ l.length
 rotate_left
 ·simp [h1]
 have h2 : ¬ l.length ≤ 8 := by omega
 simp [h1, h2]
theorem good_iff {l : List (List Int)} (h : goodG l = true) : (1 ≤ l.length ∧ l.length ≤ 8) ∧ ∀ row ∈ l, row.length ≤ 5 ∧ ∀ q ∈ row, 0 ≤ q ∧ q < (l.length : Int) := by
 simp only [goodG, goodRow, Bool.and_eq_true, decide_eq_true_eq, List.all_eq_true] at h
 refine ⟨⟨h.1, h.2.1⟩, fun row hr => ⟨(h.2.2 row hr).1, fun q hq => ?_⟩⟩
 have := (h.2.2 row hr).2 q hq
 omega
def placeB (l : List (List Int)) (p : Int) : Bool := goodG l && (decide (0 ≤ p) && decide (p ≤ (l.length : Int) - 1))
theorem place_iff {l : List (List Int)} {p : Int} (h : placeB l p = true) : goodG l = true ∧ 0 ≤ p ∧ p < (l.length : Int) := by
 simp only [placeB, Bool.and_eq_true, decide_eq_true_eq] at h
 exact ⟨h.1, h.2.1, by omega⟩
theorem grPlace (l : List (List Int)) (p : Int) (hl : okSS l) : Ev (fun k => yl0.f k l p) (placeB l p) := by
 unfold yl0.f
 have hll := hl.1
 refine Ev.bind (grGood l hl) ?_
 by_cases h : goodG l = true
 rotate_left
 ·exact Ev.neg h ((Ev.now _).val (by simp only [Bool.not_eq_true] at h; simp [placeB, h]))
 refine Ev.pos h ?_
 rw [l1In, wrap_id (by omega)]
 exact Ev.bind0 rfl ((Ev.now _).val (by simp [placeB, h]))
theorem has1 (l : List (List Int)) (p : Int) : yb1.f l [p] = some (placeB l p) := by
 unfold yb1.f placeB; simp
theorem rd_get {l : List Int} {q : Int} (h0 : 0 ≤ q) (h1 : q < (l.length : Int)) : rd l q = l[q.toNat]'(by omega) := by
 unfold rd; rw [List.getD_eq_getElem?_getD, List.getElem?_eq_getElem (by omega)]; rfl
theorem rdL_get {l : List (List Int)} {q : Int} (h0 : 0 ≤ q) (h1 : q < (l.length : Int)) : rd_L1 l q = l[q.toNat]'(by omega) := by
 unfold rd_L1; rw [List.getD_eq_getElem?_getD, List.getElem?_eq_getElem (by omega)]; rfl
theorem rd_set {o : List Int} {q x v : Int} (hq0 : 0 ≤ q) (hq : q < (o.length : Int)) (hx0 : 0 ≤ x) : rd (o.set q.toNat v) x = if x = q then v else rd o x := by
 unfold rd
 rw [List.getD_eq_getElem?_getD, List.getElem?_set, List.getD_eq_getElem?_getD]
 by_cases e : x = q
 ·subst e; rw [if_pos rfl, if_pos (by omega), if_pos rfl]; rfl
 rw [if_neg (by omega), if_neg e]
theorem drop_rd {row : List Int} {i : Nat} (h : i < row.length) : row.drop i = rd row (i : Int) :: row.drop (i + 1) := by
 rw [List.drop_eq_getElem_cons h, rd_at h]
theorem place_of {g : List (List Int)} (hg : goodG g = true) {i : Nat} (hi : i < g.length) : placeB g (i : Int) = true := by
 unfold placeB; rw [hg]; simp; omega
theorem pigeon : ∀ (n : Nat) (l : List Int), l.Nodup → (∀ x ∈ l, 0 ≤ x ∧ x < (n : Int)) → l.length ≤ n
 | 0, l, _, h => by
  cases l with
  | nil => simp
  | cons x l => have := h x (by simp); omega
 | n + 1, l, hn, h => by
  have h1 := pigeon n (l.erase (n : Int)) (hn.erase _) (fun x hx => by
   have hx' := hn.mem_erase_iff.1 hx
   have h2 := h x hx'.2
   have h3 := hx'.1
   omega)
  by_cases hm : (n : Int) ∈ l
  ·have := List.length_erase_of_mem hm; omega
  rw [List.erase_of_not_mem hm] at h1; omega
def it (f : Int → Int) : Nat → Int → Int
 | 0, p => p
 | i + 1, p => it f i (f p)
theorem it_succ (f : Int → Int) (i : Nat) (p : Int) : it f (i + 1) p = f (it f i p) := by
 induction i generalizing p with
 | zero => rfl
 | succ i ih => rw [it, ih]; rfl
theorem it_add (f : Int → Int) (i j : Nat) (p : Int) : it f (i + j) p = it f j (it f i p) := by
 induction i generalizing p with
 | zero => simp [it]
 | succ i ih => rw [Nat.succ_add, it, ih]; rfl
def orb (f : Int → Int) (p : Int) (m : Nat) : List Int := (List.range m).map fun j => it f j p
theorem orb_len (f : Int → Int) (p : Int) (m : Nat) : (orb f p m).length = m := by simp [orb]
theorem orb_mem {f : Int → Int} {p x : Int} {m : Nat} : x ∈ orb f p m ↔ ∃ j, j < m ∧ it f j p = x := by simp [orb]
theorem orb_get {f : Int → Int} {p : Int} {m j : Nat} (h : j < m) : (orb f p m)[j]'(by rw [orb_len]; exact h) = it f j p := by simp [orb]
theorem orb_inj {f : Int → Int} {p : Int} {m i j : Nat} (hn : (orb f p m).Nodup) (hi : i < m) (hj : j < m) (h : it f i p = it f j p) : i = j := by
 have h1 : (orb f p m)[i]'(by rw [orb_len]; exact hi) = (orb f p m)[j]'(by rw [orb_len]; exact hj) := by rw [orb_get hi, orb_get hj, h]
 exact (List.getElem_inj hn).1 h1
structure Rho (f : Int → Int) (n : Nat) (p : Int) (s per : Nat) : Prop where
 pos : 0 < per
 le : s + per ≤ n
 nodup : (orb f p (s + per)).Nodup
 back : it f per (it f s p) = it f s p
theorem Rho.all {f : Int → Int} {n : Nat} {p : Int} {s per : Nat} (h : Rho f n p s per) (j : Nat) : it f j p ∈ orb f p (s + per) := by
 induction j with
 | zero => exact orb_mem.2 ⟨0, by have := h.pos; omega, rfl⟩
 | succ j ih =>
  obtain ⟨m, hm, he⟩ := orb_mem.1 ih
  rw [it_succ, ← he, ← it_succ f m p]
  by_cases h2 : m + 1 < s + per
  ·exact orb_mem.2 ⟨m + 1, h2, rfl⟩
  have h3 : m + 1 = s + per := by omega
  rw [h3, it_add, h.back]
  exact orb_mem.2 ⟨s, by have := h.pos; omega, rfl⟩
theorem Rho.far {f : Int → Int} {n : Nat} {p : Int} {s per : Nat} (h : Rho f n p s per) (j : Nat) : it f (s + j + per) p = it f (s + j) p := by
 rw [show s + j + per = s + per + j by omega, it_add f (s + per), it_add f s per, h.back, ← it_add]
theorem Rho.out {f : Int → Int} {n : Nat} {p : Int} {s per : Nat} (h : Rho f n p s per) {i : Nat} (hi : i < s) : it f i p ∉ orb f (it f s p) per := by
 intro hm
 obtain ⟨m, hm, he⟩ := orb_mem.1 hm
 rw [← it_add] at he
 have := orb_inj (i := s + m) (j := i) h.nodup (by omega) (by omega) he
 omega
def rotB : List Int → List (List Int) → Bool
 | r :: rs, row :: rows => (decide (0 ≤ r) && decide (r ≤ if (row.length : Int) - 1 < 0 then 0 else (row.length : Int) - 1)) && rotB rs rows
 | _, _ => true
def nx (g : List (List Int)) (rot : List Int) (p : Int) : Int := if ((rd_L1 g p).length : Int) = 0 then -1 else rd (rd_L1 g p) (rd rot p)
theorem rot_at : ∀ (rot : List Int) (g : List (List Int)), rotB rot g = true → ∀ (i : Nat) (h1 : i < rot.length) (h2 : i < g.length), 0 ≤ rot[i] ∧ (rot[i] < (g[i].length : Int) ∨ rot[i] = 0) := by
 intro rot
 induction rot with
 | nil => intro g h i h1; simp at h1
 | cons r rot ih =>
  intro g h i h1 h2
  cases g with
  | nil => simp at h2
  | cons row g =>
   simp only [rotB, Bool.and_eq_true, decide_eq_true_eq] at h
   cases i with
   | zero =>
    simp only [List.getElem_cons_zero]
    have := h.1; unfold mx at this; split at this <;> omega
   | succ i =>
    simp only [List.getElem_cons_succ]
    exact ih g h.2 i (by simpa using h1) (by simpa using h2)
theorem rot_rd {g : List (List Int)} {rot : List Int} (hr : rotB rot g = true) (hl : rot.length = g.length) {p : Int} (h0 : 0 ≤ p) (h1 : p < (g.length : Int)) : 0 ≤ rd rot p ∧ (((rd_L1 g p).length : Int) = 0 ∨ rd rot p < ((rd_L1 g p).length : Int)) := by
 have := rot_at rot g hr p.toNat (by omega) (by omega)
 rw [rd_get h0 (by omega), rdL_get h0 h1]
 omega
theorem next_eq {g : List (List Int)} {rot : List Int} (hr : rotB rot g = true) (hl : rot.length = g.length) {p : Int} (h0 : 0 ≤ p) (h1 : p < (g.length : Int)) : yc2.f g rot p = some (nx g rot p) := by
 obtain ⟨a, b⟩ := rot_rd hr hl h0 h1
 unfold yc2.f nx
 rw [if_pos h0, if_pos h1]
 by_cases h : ((rd_L1 g p).length : Int) = 0
 ·rw [if_pos h, if_pos h]
 rw [if_neg h, if_neg h, if_pos (by omega), if_pos a, if_pos (by omega)]
theorem trNext_eq {g : List (List Int)} {rot : List Int} (hr : rotB rot g = true) (hl : rot.length = g.length) {p : Int} (h0 : 0 ≤ p) (h1 : p < (g.length : Int)) : ya2.f g rot p = some (nx g rot p) := by
 obtain ⟨a, b⟩ := rot_rd hr hl h0 h1
 unfold ya2.f nx
 rw [if_pos h0, if_pos h1]
 by_cases h : ((rd_L1 g p).length : Int) = 0
 ·rw [if_pos h, if_pos h]
 rw [if_neg h, if_neg h, if_pos (by omega), if_pos a, if_pos (by omega)]
theorem nx_lt {g : List (List Int)} (hg : goodG g = true) {rot : List Int} (hr : rotB rot g = true) (hl : rot.length = g.length) {p : Int} (h0 : 0 ≤ p) (h1 : p < (g.length : Int)) : nx g rot p < (g.length : Int) ∧ -1 ≤ nx g rot p := by
 obtain ⟨a, b⟩ := rot_rd hr hl h0 h1
 have hrow := ((good_iff hg).2 (rd_L1 g p) (by rw [rdL_get h0 h1]; exact List.getElem_mem _)).2
 unfold nx
 split
 ·omega
 ·have := hrow (rd (rd_L1 g p) (rd rot p)) (by rw [rd_get a (by omega)]; exact List.getElem_mem _)
  omega
structure Rot (g : List (List Int)) (rot : List Int) : Prop where
 good : goodG g = true
 rb : rotB rot g = true
 len : rot.length = g.length
theorem Rot.it_ok {g : List (List Int)} {rot : List Int} (h : Rot g rot) {p : Int} (h0 : 0 ≤ p) (h1 : p < (g.length : Int)) : ∀ i, (∀ j, j < i → 0 ≤ nx g rot (it (nx g rot) j p)) → 0 ≤ it (nx g rot) i p ∧ it (nx g rot) i p < (g.length : Int) := by
 intro i
 induction i with
 | zero => intro _; exact ⟨h0, h1⟩
 | succ i ih =>
  intro ha
  obtain ⟨a, b⟩ := ih (fun j hj => ha j (by omega))
  rw [it_succ]
  exact ⟨ha i (by omega), (nx_lt h.good h.rb h.len a b).1⟩
theorem Rot.orb_ok {g : List (List Int)} {rot : List Int} (h : Rot g rot) {p : Int} (h0 : 0 ≤ p) (h1 : p < (g.length : Int)) {i : Nat} (ha : ∀ j, j + 1 < i → 0 ≤ nx g rot (it (nx g rot) j p)) : ∀ x ∈ orb (nx g rot) p i, 0 ≤ x ∧ x < (g.length : Int) := by
 intro x hx
 obtain ⟨j, hj, rfl⟩ := orb_mem.1 hx
 exact h.it_ok h0 h1 j (fun m hm => ha m (by omega))
structure Hit (f : Int → Int) (sink p : Int) (m : Nat) : Prop where
 at_ : it f m p = sink
 on : ∀ j, j < m → it f j p ≠ sink ∧ 0 ≤ f (it f j p)
theorem Hit.uniq {f : Int → Int} {sink p : Int} {m m' : Nat} (h : Hit f sink p m) (h' : Hit f sink p m') : m = m' := by
 rcases Nat.lt_trichotomy m m' with h2 | h2 | h2
 ·exact absurd h.at_ (h'.on m h2).1
 ·exact h2
 ·exact absurd h'.at_ (h.on m' h2).1
theorem Hit.nodup {f : Int → Int} {sink p : Int} {m : Nat} (h : Hit f sink p m) : (orb f p (m + 1)).Nodup := by
 unfold orb
 rw [List.nodup_iff_pairwise_ne, List.pairwise_map]
 refine List.Pairwise.imp_of_mem ?_ (List.pairwise_lt_range (n := m + 1))
 intro i j hi hj hlt he
 have hj2 : j < m + 1 := List.mem_range.1 hj
 have : it f (i + (m - j)) p = sink := by
  rw [it_add, he, ← it_add, show j + (m - j) = m by omega]; exact h.at_
 exact (h.on (i + (m - j)) (by omega)).1 this
theorem Hit.lt {g : List (List Int)} {rot : List Int} (hr : Rot g rot) {sink p : Int} (h0 : 0 ≤ p) (h1 : p < (g.length : Int)) {m : Nat} (h : Hit (nx g rot) sink p m) : m < g.length := by
 have := pigeon g.length _ h.nodup (hr.orb_ok h0 h1 (fun j hj => (h.on j (by omega)).2))
 rw [orb_len] at this; omega
open Classical in
noncomputable def dst (f : Int → Int) (sink p : Int) : Int := if h : ∃ m, Hit f sink p m then ((Classical.choose h : Nat) : Int) else -1
theorem dst_hit {f : Int → Int} {sink p : Int} {m : Nat} (h : Hit f sink p m) : dst f sink p = m := by
 have he : ∃ m, Hit f sink p m := ⟨m, h⟩
 unfold dst
 rw [dif_pos he]
 have := h.uniq (Classical.choose_spec he)
 omega
theorem dst_no {f : Int → Int} {sink p : Int} (h : ¬ ∃ m, Hit f sink p m) : dst f sink p = -1 := by unfold dst; rw [dif_neg h]
noncomputable def allFrom (g : List (List Int)) (rot : List Int) (sink : Int) : Nat → Nat → Bool
 | 0, _ => true
 | d + 1, i => if dst (nx g rot) sink i < 0 then false else allFrom g rot sink d (i + 1)
noncomputable def waysFrom (g : List (List Int)) (rot : List Int) (sink : Int) : Nat → Nat → List Int → List Int
 | 0, _, acc => acc
 | d + 1, i, acc => waysFrom g rot sink d (i + 1) (acc ++ [dst (nx g rot) sink i])
noncomputable def treeB (g : List (List Int)) (rot : List Int) (sink : Int) : Bool := allFrom g rot sink g.length 0
noncomputable def wayList (g : List (List Int)) (rot : List Int) (sink : Int) : List Int := waysFrom g rot sink g.length 0 []
theorem treeWays_l1 {g : List (List Int)} {rot : List Int} (hr : Rot g rot) {sink p : Int} (h0 : 0 ≤ p) (h1 : p < (g.length : Int)) (acc : List Int) (hacc : acc.length ≤ 100) (x : Int) : ∀ (d i : Nat), g.length + 1 - i = d → i ≤ g.length + 1 → (∀ j, j < i → it (nx g rot) j p ≠ sink ∧ 0 ≤ nx g rot (it (nx g rot) j p)) →
  (dst (nx g rot) sink p < 0 → Ev (fun k => yh0.l1 k sink rot acc i (it (nx g rot) i p) g.length x g) ([], false)) ∧
  (¬ dst (nx g rot) sink p < 0 → ∀ r, Ev (fun k => yh0.l0 k sink rot (acc ++ [dst (nx g rot) sink p]) g.length (wrap64 (x + 1)) g) r → Ev (fun k => yh0.l1 k sink rot acc i (it (nx g rot) i p) g.length x g) r) := by
 have h8 := (good_iff hr.good).1.2
 intro d
 induction d with
 | zero =>
  intro i hd hi ha
  have hp := hr.it_ok h0 h1 i (fun j hj => (ha j hj).2)
  have hno : ¬ ∃ m, Hit (nx g rot) sink p m := by
   rintro ⟨m, hm⟩
   have hlt := hm.lt hr h0 h1
   exact (ha m (by omega)).1 hm.at_
  have hns : it (nx g rot) i p ≠ sink := fun e => hno ⟨i, e, ha⟩
  refine ⟨fun _ => ?_, fun h => absurd (dst_no hno) (by omega)⟩
  refine Ev.succ ?_
  simp only [yh0.l1]
  refine Ev.neg hns (Ev.bind0 (next_eq hr.rb hr.len hp.1 hp.2) ?_)
  by_cases hneg : nx g rot (it (nx g rot) i p) < 0
  ·exact Ev.pos hneg (Ev.now _)
  exact Ev.neg hneg (Ev.pos (by omega) (Ev.now _))
 | succ d ih =>
  intro i hd hi ha
  have hp := hr.it_ok h0 h1 i (fun j hj => (ha j hj).2)
  by_cases hs : it (nx g rot) i p = sink
  ·have hh : dst (nx g rot) sink p = i := dst_hit ⟨hs, ha⟩
   refine ⟨fun h => by omega, fun _ r hrr => ?_⟩
   rw [hh] at hrr
   refine Ev.succ ?_
   simp only [yh0.l1]
   exact Ev.pos hs (Ev.pos (by omega) hrr)
  by_cases hneg : nx g rot (it (nx g rot) i p) < 0
  ·have hno : ¬ ∃ m, Hit (nx g rot) sink p m := by
    rintro ⟨m, hm⟩
    rcases Nat.lt_trichotomy m i with h2 | h2 | h2
    ·exact (ha m h2).1 hm.at_
    ·subst h2; exact hs hm.at_
    ·have := (hm.on i h2).2; omega
   refine ⟨fun _ => ?_, fun h => absurd (dst_no hno) (by omega)⟩
   refine Ev.succ ?_
   simp only [yh0.l1]
   exact Ev.neg hs (Ev.bind0 (next_eq hr.rb hr.len hp.1 hp.2) (Ev.pos hneg (Ev.now _)))
  have hrec := ih (i + 1) (by omega) (by omega) (fun j hj => by
   by_cases hj2 : j = i
   ·subst hj2; exact ⟨hs, by omega⟩
   ·exact ha j (by omega))
  have hstep : ∀ r, Ev (fun k => yh0.l1 k sink rot acc (i + 1 : Nat) (it (nx g rot) (i + 1) p) g.length x g) r → Ev (fun k => yh0.l1 k sink rot acc i (it (nx g rot) i p) g.length x g) r := by
   intro r hrr
   rw [it_succ] at hrr
   refine Ev.succ ?_
   simp only [yh0.l1]
   refine Ev.neg hs (Ev.bind0 (next_eq hr.rb hr.len hp.1 hp.2) (Ev.neg hneg (Ev.neg (by omega) ?_)))
   rw [wrap_nat (by omega)]; exact hrr
  exact ⟨fun h => hstep _ (hrec.1 h), fun h r hrr => hstep _ (hrec.2 h r hrr)⟩
theorem treeWays_l0 {g : List (List Int)} {rot : List Int} (hr : Rot g rot) (sink : Int) : ∀ (d i : Nat) (acc : List Int), g.length - i = d → i ≤ g.length → acc.length = i → Ev (fun k => yh0.l0 k sink rot acc g.length i g) (cond (allFrom g rot sink d i) (waysFrom g rot sink d i acc, true) ([], false)) := by
 have h8 := (good_iff hr.good).1.2
 intro d
 induction d with
 | zero =>
  intro i acc hd hi hac
  refine Ev.succ ?_
  simp only [yh0.l0]
  exact Ev.neg (by omega) (Ev.now _)
 | succ d ih =>
  intro i acc hd hi hac
  have hl := treeWays_l1 hr (sink := sink) (p := (i : Int)) (by omega) (by omega) acc (by omega) (i : Int) (g.length + 1) 0 (by omega) (by omega) (fun j hj => by omega)
  refine Ev.succ ?_
  simp only [yh0.l0, allFrom, waysFrom]
  refine Ev.pos (by omega) ?_
  by_cases h : dst (nx g rot) sink i < 0
  ·rw [if_pos h]; exact hl.1 h
  rw [if_neg h]
  refine hl.2 h _ ?_
  rw [wrap_nat (by omega)]
  exact ih (i + 1) _ (by omega) (by omega) (by simp; omega)
theorem treeWays_ev {g : List (List Int)} {rot : List Int} (hr : Rot g rot) (sink : Int) : Ev (fun k => yh0.f k g sink rot) (cond (treeB g rot sink) (wayList g rot sink, true) ([], false)) :=
 treeWays_l0 hr sink g.length 0 [] (by omega) (by omega) rfl
theorem isTree_ev {g : List (List Int)} {rot : List Int} (hr : Rot g rot) (sink : Int) : Ev (fun k => yu1.f k g sink rot) (treeB g rot sink) := by
 unfold yu1.f
 refine Ev.bind (treeWays_ev hr sink) ((Ev.now _).val ?_)
 cases h : treeB g rot sink <;> simp
def walkB (g : List (List Int)) (rot : List Int) (at_ : Int) : Bool := placeB g at_ && (decide (rot.length = g.length) && rotB rot g)
theorem most0 (n : Nat) : mx ((n : Int) - 1) 0 = if (n : Int) - 1 < 0 then 0 else (n : Int) - 1 := by unfold mx; rfl
theorem l1Most0 (n : Nat) : yy1.f 0 ((n : Int) - 1) = some (if (n : Int) - 1 < 0 then 0 else (n : Int) - 1) := by
 unfold yy1.f
 by_cases h : (n : Int) - 1 < 0
 ·rw [if_pos h]; split <;> first | rfl | omega
 rw [if_neg h]; split
 ·congr 1; omega
 ·rfl
theorem isWalk_l0 (g : List (List Int)) (h8 : g.length ≤ 8) (hr : ∀ row ∈ g, row.length ≤ 5) (rot : List Int) (hlen : rot.length = g.length) : ∀ (d i : Nat), g.length - i = d → i ≤ g.length → Ev (fun k => yf0.l0 k rot rot.length i g) (rotB (rot.drop i) (g.drop i)) := by
 intro d
 induction d with
 | zero =>
  intro i hd hi
  refine Ev.const1 (fun k => ?_)
  simp only [yf0.l0]
  rw [if_neg (by omega), List.drop_of_length_le (by omega)]
  rfl
 | succ d ih =>
  intro i hd hi
  have hlt : i < g.length := by omega
  have hlt2 : i < rot.length := by omega
  have hrow : (rd_L1 g i).length ≤ 5 := hr _ (by rw [rdL_at hlt]; exact List.getElem_mem _)
  rw [List.drop_eq_getElem_cons hlt, List.drop_eq_getElem_cons hlt2, ← rdL_at hlt, ← rd_at hlt2]
  simp only [rotB]
  refine Ev.step (f := fun k => if (decide (0 ≤ rd rot i) && decide (rd rot i ≤ if ((rd_L1 g i).length : Int) - 1 < 0 then 0 else ((rd_L1 g i).length : Int) - 1)) = true then yf0.l0 k rot rot.length (i + 1 : Nat) g else some false) (fun k => ?_) ?_
  ·simp only [yf0.l0]
   rw [if_pos (by omega), if_pos (by omega), if_pos (by omega), if_pos (by omega), wrap_id (by omega), most0, implin, wrap_nat (by omega)]
   simp only [Option.bind_some]
  ·by_cases e : (decide (0 ≤ rd rot i) && decide (rd rot i ≤ if ((rd_L1 g i).length : Int) - 1 < 0 then 0 else ((rd_L1 g i).length : Int) - 1)) = true
   ·exact Ev.pos e ((ih (i + 1) (by omega) (by omega)).val (by rw [e]; simp))
   exact Ev.neg e ((Ev.now _).val (by simp only [Bool.not_eq_true] at e; rw [e]; simp))
theorem waGood_l0 (g : List (List Int)) (h8 : g.length ≤ 8) (hr : ∀ row ∈ g, row.length ≤ 5) (rot : List Int) (a : Int) (hlen : rot.length = g.length) : ∀ (d i : Nat), g.length - i = d → i ≤ g.length → Ev (fun k => yd0.l0 k g g.length i rot a) (rotB (rot.drop i) (g.drop i)) := by
 intro d
 induction d with
 | zero =>
  intro i hd hi
  refine Ev.const1 (fun k => ?_)
  simp only [yd0.l0]
  rw [if_neg (by omega), List.drop_of_length_le (by omega)]
  rfl
 | succ d ih =>
  intro i hd hi
  have hlt : i < g.length := by omega
  have hlt2 : i < rot.length := by omega
  have hrow : (rd_L1 g i).length ≤ 5 := hr _ (by rw [rdL_at hlt]; exact List.getElem_mem _)
  rw [List.drop_eq_getElem_cons hlt, List.drop_eq_getElem_cons hlt2, ← rdL_at hlt, ← rd_at hlt2]
  simp only [rotB]
  refine Ev.step (f := fun k => if (decide (0 ≤ rd rot i) && decide (rd rot i ≤ if ((rd_L1 g i).length : Int) - 1 < 0 then 0 else ((rd_L1 g i).length : Int) - 1)) = true then yd0.l0 k g g.length (i + 1 : Nat) rot a else some false) (fun k => ?_) ?_
  ·simp only [yd0.l0]
   rw [if_pos (by omega), if_pos (by omega), if_pos (by omega), if_pos (by omega), wrap_id (by omega), l1Most0, wrap_nat (by omega)]
   simp only [Option.bind_some, l1In]
  ·by_cases e : (decide (0 ≤ rd rot i) && decide (rd rot i ≤ if ((rd_L1 g i).length : Int) - 1 < 0 then 0 else ((rd_L1 g i).length : Int) - 1)) = true
   ·exact Ev.pos e ((ih (i + 1) (by omega) (by omega)).val (by rw [e]; simp))
   exact Ev.neg e ((Ev.now _).val (by simp only [Bool.not_eq_true] at e; rw [e]; simp))
theorem isWalk (g : List (List Int)) (rot : List Int) (a : Int) : Ev (fun k => yf0.f k g rot a) (walkB g rot a) := by
 unfold yf0.f
 refine Ev.bind0 (has1 g a) ?_
 by_cases h : placeB g a = true
 rotate_left
 ·refine Ev.neg h (Ev.succ ?_)
  simp only [yf0.j0]
  exact Ev.pos trivial ((Ev.now _).val (by simp only [Bool.not_eq_true] at h; simp [walkB, h]))
 obtain ⟨hg, _, _⟩ := place_iff h
 obtain ⟨⟨h1, h8⟩, hrows⟩ := good_iff hg
 refine Ev.pos h (Ev.succ ?_)
 simp only [yf0.j0]
 by_cases e : rot.length = g.length
 rotate_left
 ·refine Ev.pos (by simp; omega) ((Ev.now _).val (by simp [walkB, e]))
 refine Ev.neg (by simp [e]) ?_
 exact (isWalk_l0 g h8 (fun row hr => (hrows row hr).1) rot e g.length 0 (by omega) (by omega)).val (by simp [walkB, h, e])
theorem waGood (g : List (List Int)) (hl : okSS g) (rot : List Int) (a : Int) : Ev (fun k => yd0.f k g rot a) (walkB g rot a) := by
 unfold yd0.f
 refine Ev.bind (grPlace g a hl) ?_
 by_cases h : placeB g a = true
 rotate_left
 ·refine Ev.neg h (Ev.succ ?_)
  simp only [yd0.j0]
  exact Ev.pos trivial ((Ev.now _).val (by simp only [Bool.not_eq_true] at h; simp [walkB, h]))
 obtain ⟨hg, _, _⟩ := place_iff h
 obtain ⟨⟨h1, h8⟩, hrows⟩ := good_iff hg
 refine Ev.pos h (Ev.succ ?_)
 simp only [yd0.j0]
 by_cases e : rot.length = g.length
 rotate_left
 ·refine Ev.pos (by simp; omega) ((Ev.now _).val (by simp [walkB, e]))
 refine Ev.neg (by simp [e]) ?_
 exact (waGood_l0 g h8 (fun row hr => (hrows row hr).1) rot a e g.length 0 (by omega) (by omega)).val (by simp [walkB, h, e])
theorem trFar_l0 {g : List (List Int)} {rot : List Int} (hr : Rot g rot) {sink p : Int} (h0 : 0 ≤ p) (h1 : p < (g.length : Int)) : ∀ (d i : Nat), g.length - i = d → i ≤ g.length → (∀ j, j < i → it (nx g rot) j p ≠ sink ∧ 0 ≤ nx g rot (it (nx g rot) j p)) → Ev (fun k => yx0.l0 k sink rot (it (nx g rot) i p) i g) (dst (nx g rot) sink p) := by
 have h8 := (good_iff hr.good).1.2
 intro d
 induction d with
 | zero =>
  intro i hd hi ha
  refine Ev.succ ?_
  simp only [yx0.l0]
  refine Ev.neg (by omega) ((Ev.now _).val ?_)
  symm; apply dst_no
  rintro ⟨m, hm⟩
  have hlt := hm.lt hr h0 h1
  exact (ha m (by omega)).1 hm.at_
 | succ d ih =>
  intro i hd hi ha
  have hp := hr.it_ok h0 h1 i (fun j hj => (ha j hj).2)
  refine Ev.succ ?_
  simp only [yx0.l0]
  refine Ev.pos (by omega) ?_
  by_cases hs : it (nx g rot) i p = sink
  ·exact Ev.pos hs ((Ev.now _).val (dst_hit ⟨hs, ha⟩).symm)
  refine Ev.neg hs (Ev.bind0 (trNext_eq hr.rb hr.len hp.1 hp.2) ?_)
  by_cases hneg : nx g rot (it (nx g rot) i p) < 0
  rotate_left
  ·refine Ev.neg hneg ?_
   rw [wrap_nat (by omega), ← it_succ (nx g rot) i p]
   refine ih (i + 1) (by omega) (by omega) (fun j hj => ?_)
   by_cases hj2 : j = i
   ·subst hj2; exact ⟨hs, by omega⟩
   exact ha j (by omega)
  refine Ev.pos hneg ((Ev.now _).val ?_)
  symm; apply dst_no
  rintro ⟨m, hm⟩
  rcases Nat.lt_trichotomy m i with h2 | h2 | h2
  ·exact (ha m h2).1 hm.at_
  ·subst h2; exact hs hm.at_
  ·have := (hm.on i h2).2; omega
theorem trFar_ev {g : List (List Int)} {rot : List Int} (hr : Rot g rot) {sink p : Int} (h0 : 0 ≤ p) (h1 : p < (g.length : Int)) : Ev (fun k => yx0.f k g sink rot p) (dst (nx g rot) sink p) :=
 trFar_l0 hr h0 h1 g.length 0 (by omega) (by omega) (fun j hj => by omega)
theorem trIs_l0 {g : List (List Int)} {rot : List Int} (hr : Rot g rot) (sink : Int) : ∀ (d i : Nat), g.length - i = d → i ≤ g.length → Ev (fun k => ys0.l0 k sink rot g.length i g) (allFrom g rot sink d i) := by
 have h8 := (good_iff hr.good).1.2
 intro d
 induction d with
 | zero =>
  intro i hd hi
  refine Ev.succ ?_
  simp only [ys0.l0]
  exact Ev.neg (by omega) (Ev.now _)
 | succ d ih =>
  intro i hd hi
  refine Ev.succ ?_
  simp only [ys0.l0, allFrom]
  refine Ev.pos (by omega) (Ev.bind (trFar_ev hr (by omega) (by omega)) ?_)
  by_cases h : dst (nx g rot) sink i < 0
  ·rw [if_pos h]; exact Ev.pos h (Ev.now _)
  rw [if_neg h]
  refine Ev.neg h ?_
  rw [wrap_nat (by omega)]
  exact ih (i + 1) (by omega) (by omega)
theorem trIs_ev {g : List (List Int)} {rot : List Int} (hr : Rot g rot) (sink : Int) : Ev (fun k => ys0.f k g sink rot) (treeB g rot sink) := trIs_l0 hr sink g.length 0 (by omega) (by omega)
theorem place_of0 {g : List (List Int)} (hg : goodG g = true) : placeB g 0 = true := by
 have := (good_iff hg).1
 unfold placeB; rw [hg]; simp; omega
def sinkB (g : List (List Int)) (sink : Int) (rot : List Int) : Bool := placeB g sink && (decide (rot.length = g.length) && rotB rot g) && (rd rot sink == 0)
theorem Rot.of_sink {g : List (List Int)} {sink : Int} {rot : List Int} (h : sinkB g sink rot = true) : Rot g rot ∧ 0 ≤ sink ∧ sink < (g.length : Int) := by
 unfold sinkB at h
 simp only [Bool.and_eq_true, decide_eq_true_eq] at h
 obtain ⟨hg, h0, h1⟩ := place_iff h.1.1
 exact ⟨⟨hg, h.1.2.2, h.1.2.1⟩, h0, h1⟩
theorem areSink_ev (g : List (List Int)) (sink : Int) (rot : List Int) : Ev (fun k => yq1.f k g sink rot) (sinkB g sink rot) := by
 unfold yq1.f yg1.f sinkB
 refine Ev.bind0 (has1 g sink) ?_
 by_cases hp : placeB g sink = true
 rotate_left
 ·refine Ev.neg hp ((Ev.now _).val ?_)
  rw [Bool.eq_false_iff.mpr hp]; simp
 obtain ⟨hg, h0, h1⟩ := place_iff hp
 have hp0 : placeB g 0 = true := place_of0 hg
 refine Ev.pos hp (Ev.bind (Ev.bind (isWalk g rot 0) (Ev.now _)) ?_)
 have hw : walkB g rot 0 = (decide (rot.length = g.length) && rotB rot g) := by unfold walkB; rw [hp0]; rfl
 rw [hw]
 by_cases hr : (decide (rot.length = g.length) && rotB rot g) = true
 rotate_left
 ·refine Ev.neg hr ((Ev.now _).val ?_)
  rw [Bool.eq_false_iff.mpr hr]; simp
 have hlen : rot.length = g.length := by simp only [Bool.and_eq_true, decide_eq_true_eq] at hr; exact hr.1
 refine Ev.pos hr (Ev.pos h0 (Ev.pos (by omega) ((Ev.now _).val ?_)))
 rw [hp, hr]; simp
theorem trGood_ev (g : List (List Int)) (hl : okSS g) (sink : Int) (rot : List Int) : Ev (fun k => yi1.f k g sink rot) (sinkB g sink rot) := by
 unfold yi1.f sinkB
 refine Ev.bind (grPlace g sink hl) ?_
 by_cases hp : placeB g sink = true
 rotate_left
 ·refine Ev.neg hp ((Ev.now _).val ?_)
  rw [Bool.eq_false_iff.mpr hp]; simp
 obtain ⟨hg, h0, h1⟩ := place_iff hp
 refine Ev.pos hp (Ev.bind (waGood g hl rot sink) ?_)
 have hw : walkB g rot sink = (decide (rot.length = g.length) && rotB rot g) := by unfold walkB; rw [hp]; rfl
 rw [hw]
 by_cases hr : (decide (rot.length = g.length) && rotB rot g) = true
 rotate_left
 ·refine Ev.neg hr ((Ev.now _).val ?_)
  rw [Bool.eq_false_iff.mpr hr]; simp
 have hlen : rot.length = g.length := by simp only [Bool.and_eq_true, decide_eq_true_eq] at hr; exact hr.1
 refine Ev.pos hr (Ev.pos h0 (Ev.pos (by omega) ((Ev.now _).val ?_)))
 rw [hp, hr]; simp
end Go.Proofs.Ytlbgajpbdbgmkaa.M
namespace Go.Proofs.Ytlbgajpbdbgmkaa.M
set_option maxHeartbeats 8000000
set_option maxRecDepth 100000
set_option linter.unusedVariables false
set_option linter.unusedSimpArgs false
namespace DetKit
set_option maxHeartbeats 8000000
set_option maxRecDepth 100000
def skip (k j : Nat) : Nat := if j < k then j else j + 1
def sm : Nat → (Nat → Int) → Int
 | 0, _ => 0
 | n + 1, f => sm n f + f n
def sg (k : Nat) : Int := if k % 2 = 0 then 1 else -1
def D : Nat → (Nat → Nat → Int) → Int
 | 0, _ => 1
 | n + 1, A => sm (n + 1) (fun k => sg k * A 0 k * D n (fun i j => A (i + 1) (skip k j)))
theorem sm_congr {n : Nat} {f g : Nat → Int} (h : ∀ i, i < n → f i = g i) : sm n f = sm n g := by
 induction n with
 | zero => rfl
 | succ n ih => simp only [sm]; rw [ih (fun i hi => h i (by omega)), h n (by omega)]
theorem sm_zero {n : Nat} {f : Nat → Int} (h : ∀ i, i < n → f i = 0) : sm n f = 0 := by
 induction n with
 | zero => rfl
 | succ n ih => simp only [sm]; rw [ih (fun i hi => h i (by omega)), h n (by omega)]; rfl
theorem sm_add (n : Nat) (f g : Nat → Int) : sm n (fun i => f i + g i) = sm n f + sm n g := by
 induction n with
 | zero => rfl
 | succ n ih => simp only [sm]; rw [ih]; omega
theorem sm_mul (n : Nat) (c : Int) (f : Nat → Int) : sm n (fun i => c * f i) = c * sm n f := by
 induction n with
 | zero => simp [sm]
 | succ n ih => simp only [sm]; rw [ih, Int.mul_add]
theorem sm_neg (n : Nat) (f : Nat → Int) : sm n (fun i => - f i) = - sm n f := by
 induction n with
 | zero => simp [sm]
 | succ n ih => simp only [sm]; rw [ih]; omega
theorem sm_head (n : Nat) (f : Nat → Int) : sm (n + 1) f = f 0 + sm n (fun i => f (i + 1)) := by
 induction n with
 | zero => simp [sm]
 | succ n ih => rw [show sm (n + 1 + 1) f = sm (n + 1) f + f (n + 1) from rfl, ih]; simp only [sm]; omega
theorem sm_swap (m n : Nat) (f : Nat → Nat → Int) : sm m (fun i => sm n (fun j => f i j)) = sm n (fun j => sm m (fun i => f i j)) := by
 induction m with
 | zero => simp only [sm]; exact (sm_zero (fun _ _ => rfl)).symm
 | succ m ih => simp only [sm]; rw [ih, ← sm_add]
theorem sm_one {n r : Nat} {f : Nat → Int} (hr : r < n) (h : ∀ i, i < n → i ≠ r → f i = 0) : sm n f = f r := by
 induction n with
 | zero => omega
 | succ n ih =>
  simp only [sm]
  by_cases e : r = n
  ·subst e; rw [sm_zero (fun i hi => h i (by omega) (by omega))]; omega
  rw [ih (by omega) (fun i hi hn => h i (by omega) hn), h n (by omega) (by omega)]; omega
theorem sm_two {n r : Nat} {f : Nat → Int} (hr : r + 1 < n) (h : ∀ i, i < n → i ≠ r → i ≠ r + 1 → f i = 0) : sm n f = f r + f (r + 1) := by
 induction n with
 | zero => omega
 | succ n ih =>
  simp only [sm]
  by_cases e : r + 1 = n
  ·subst e; rw [sm_one (r := r) (by omega) (fun i hi hn => h i (by omega) hn (by omega))]
  rw [ih (by omega) (fun i hi hn hm => h i (by omega) hn hm), h n (by omega) (by omega) (by omega)]; omega
theorem sg_succ (k : Nat) : sg (k + 1) = - sg k := by unfold sg; split <;> split <;> omega
theorem skip_ne (k j : Nat) : skip k j ≠ k := by unfold skip; split <;> omega
theorem skip_lt {k j n : Nat} (h : j < n) : skip k j < n + 1 := by unfold skip; split <;> omega
theorem skip_zero (j : Nat) : skip 0 j = j + 1 := by simp [skip]
theorem skip_succ (k j : Nat) : skip (k + 1) (j + 1) = skip k j + 1 := by unfold skip; split <;> split <;> omega
theorem D_congr {n : Nat} {A B : Nat → Nat → Int} (h : ∀ i, i < n → ∀ j, j < n → A i j = B i j) : D n A = D n B := by
 induction n generalizing A B with
 | zero => rfl
 | succ n ih =>
  simp only [D]
  refine sm_congr (fun k hk => ?_)
  rw [h 0 (by omega) k hk, ih (fun i hi j hj => h (i + 1) (by omega) _ (skip_lt hj))]
theorem D_col (n : Nat) (A : Nat → Nat → Int) : D (n + 1) A = sm (n + 1) (fun i => sg i * A i 0 * D n (fun a b => A (skip i a) (b + 1))) := by
 induction n generalizing A with
 | zero => simp [D, sm]
 | succ n ih =>
  rw [show D (n + 1 + 1) A = sm (n + 1 + 1) (fun k => sg k * A 0 k * D (n + 1) (fun i j => A (i + 1) (skip k j))) from rfl]
  rw [sm_head (n + 1) (fun k => sg k * A 0 k * D (n + 1) (fun i j => A (i + 1) (skip k j))), sm_head (n + 1) (fun i => sg i * A i 0 * D (n + 1) (fun a b => A (skip i a) (b + 1)))]
  have e0 : D (n + 1) (fun i j => A (i + 1) (skip 0 j)) = D (n + 1) (fun a b => A (skip 0 a) (b + 1)) := D_congr (fun a _ b _ => by rw [skip_zero, skip_zero])
  rw [e0]
  congr 1
  have e1 : ∀ k, sg (k + 1) * A 0 (k + 1) * D (n + 1) (fun i j => A (i + 1) (skip (k + 1) j)) = sm (n + 1) (fun i => - (sg k * sg i * A 0 (k + 1) * A (i + 1) 0 * D n (fun a b => A (skip i a + 1) (skip k b + 1)))) := by
   intro k
   rw [ih, ← sm_mul]
   refine sm_congr (fun i _ => ?_)
   have : D n (fun a b => A (skip i a + 1) (skip (k + 1) (b + 1))) = D n (fun a b => A (skip i a + 1) (skip k b + 1)) := D_congr (fun a _ b _ => by rw [skip_succ])
   rw [this, sg_succ, show skip (k + 1) 0 = 0 from by simp [skip]]
   simp only [Int.neg_mul, Int.mul_neg, Int.mul_assoc, Int.mul_comm, Int.mul_left_comm]
  have e2 : ∀ i, sg (i + 1) * A (i + 1) 0 * D (n + 1) (fun a b => A (skip (i + 1) a) (b + 1)) = sm (n + 1) (fun k => - (sg k * sg i * A 0 (k + 1) * A (i + 1) 0 * D n (fun a b => A (skip i a + 1) (skip k b + 1)))) := by
   intro i
   rw [show D (n + 1) (fun a b => A (skip (i + 1) a) (b + 1)) = sm (n + 1) (fun k => sg k * A (skip (i + 1) 0) (k + 1) * D n (fun a b => A (skip (i + 1) (a + 1)) (skip k b + 1))) from rfl, ← sm_mul]
   refine sm_congr (fun k _ => ?_)
   have : D n (fun a b => A (skip (i + 1) (a + 1)) (skip k b + 1)) = D n (fun a b => A (skip i a + 1) (skip k b + 1)) := D_congr (fun a _ b _ => by rw [skip_succ])
   rw [this, sg_succ, show skip (i + 1) 0 = 0 from by simp [skip]]
   simp only [Int.neg_mul, Int.mul_neg, Int.mul_assoc, Int.mul_comm, Int.mul_left_comm]
  rw [sm_congr (fun k _ => e1 k), sm_congr (fun i _ => e2 i), sm_swap]
theorem D_transpose (n : Nat) (A : Nat → Nat → Int) : D n (fun i j => A j i) = D n A := by
 induction n generalizing A with
 | zero => rfl
 | succ n ih =>
  rw [D_col n A]
  rw [show D (n + 1) (fun i j => A j i) = sm (n + 1) (fun k => sg k * A k 0 * D n (fun i j => A (skip k j) (i + 1))) from rfl]
  refine sm_congr (fun k _ => ?_)
  rw [ih (fun i j => A (skip k i) (j + 1))]
def setRow (A : Nat → Nat → Int) (r : Nat) (u : Nat → Int) : Nat → Nat → Int := fun i j => if i = r then u j else A i j
def setCol (A : Nat → Nat → Int) (c : Nat) (u : Nat → Int) : Nat → Nat → Int := fun i j => if j = c then u i else A i j
theorem D_row_lin (n r : Nat) (hr : r < n) (A : Nat → Nat → Int) (a b : Int) (u v : Nat → Int) :
  D n (setRow A r (fun j => a * u j + b * v j)) = a * D n (setRow A r u) + b * D n (setRow A r v) := by
 induction n generalizing A r u v with
 | zero => omega
 | succ n ih =>
  simp only [D]
  rw [← sm_mul, ← sm_mul, ← sm_add]
  refine sm_congr (fun k hk => ?_)
  cases r with
  | zero =>
   have e : ∀ w : Nat → Int, D n (fun i j => setRow A 0 w (i + 1) (skip k j)) = D n (fun i j => A (i + 1) (skip k j)) := fun w => D_congr (fun i _ j _ => by simp [setRow])
   rw [e, e, e]
   simp only [setRow, if_pos]
   generalize sg k = s
   generalize D n _ = d
   simp only [Int.mul_add, Int.mul_comm, Int.mul_left_comm]
  | succ r =>
   have e : ∀ w : Nat → Int, D n (fun i j => setRow A (r + 1) w (i + 1) (skip k j)) = D n (setRow (fun i j => A (i + 1) (skip k j)) r (fun j => w (skip k j))) := fun w => D_congr (fun i _ j _ => by simp [setRow])
   rw [e, e, e, ih r (by omega)]
   simp only [setRow]
   rw [if_neg (by omega), if_neg (by omega), if_neg (by omega)]
   generalize sg k = s
   generalize D n _ = d
   generalize D n _ = d'
   simp only [Int.mul_add, Int.add_mul, Int.mul_assoc, Int.mul_comm, Int.mul_left_comm]
theorem D_row_zero (n r : Nat) (hr : r < n) (A : Nat → Nat → Int) (h : ∀ j, j < n → A r j = 0) : D n A = 0 := by
 have e := D_row_lin n r hr A 0 0 (fun _ => 0) (fun _ => 0)
 rw [Int.zero_mul, Int.zero_mul] at e
 have e2 : D n (setRow A r (fun j => 0 * 0 + 0 * 0)) = D n A := D_congr (fun i hi j hj => by
  simp only [setRow]; split
  ·subst i; rw [h j hj]; rfl
  ·rfl)
 rw [← e2]; exact e
theorem D_row_sum (n r : Nat) (hr : r < n) (A : Nat → Nat → Int) (m : Nat) (c : Nat → Int) (F : Nat → Nat → Int) :
  D n (setRow A r (fun j => sm m (fun t => c t * F t j))) = sm m (fun t => c t * D n (setRow A r (F t))) := by
 induction m with
 | zero => simp only [sm]; exact D_row_zero n r hr _ (fun j _ => by simp [setRow])
 | succ m ih =>
  simp only [sm]
  have := D_row_lin n r hr A 1 (c m) (fun j => sm m (fun t => c t * F t j)) (F m)
  simp only [Int.one_mul] at this
  rw [this, ih]
theorem setRow_self (A : Nat → Nat → Int) (r : Nat) : setRow A r (A r) = A := by
 funext i j; simp only [setRow]; split
 ·subst i; rfl
 ·rfl
theorem D_adj (n r : Nat) (hr : r + 1 < n) (A : Nat → Nat → Int) (h : ∀ j, j < n → A r j = A (r + 1) j) : D n A = 0 := by
 induction n generalizing r A with
 | zero => omega
 | succ n ih =>
  rw [D_col]
  rw [sm_two (r := r) hr]
  ·rw [sg_succ, ← h 0 (by omega)]
   have : D n (fun a b => A (skip r a) (b + 1)) = D n (fun a b => A (skip (r + 1) a) (b + 1)) := D_congr (fun a _ b hb => by
    unfold skip
    by_cases e : a = r
    ·subst e; rw [if_neg (by omega), if_pos (by omega), h (b + 1) (by omega)]
    ·by_cases l : a < r
     ·rw [if_pos l, if_pos (by omega)]
     ·rw [if_neg l, if_neg (by omega)])
   rw [this, Int.neg_mul, Int.neg_mul]; omega
  ·intro i hi h1 h2
   have : D n (fun a b => A (skip i a) (b + 1)) = 0 := by
    by_cases l : i < r
    ·refine ih (r - 1) (by omega) _ (fun j hj => ?_)
     show A (skip i (r - 1)) (j + 1) = A (skip i (r - 1 + 1)) (j + 1)
     rw [show skip i (r - 1) = r from by unfold skip; split <;> omega, show skip i (r - 1 + 1) = r + 1 from by unfold skip; split <;> omega]
     exact h _ (by omega)
    refine ih r (by omega) _ (fun j hj => ?_)
    show A (skip i r) (j + 1) = A (skip i (r + 1)) (j + 1)
    rw [show skip i r = r from by unfold skip; split <;> omega, show skip i (r + 1) = r + 1 from by unfold skip; split <;> omega]
    exact h _ (by omega)
   rw [this, Int.mul_zero]
def set2 (A : Nat → Nat → Int) (r s : Nat) (u v : Nat → Int) : Nat → Nat → Int := setRow (setRow A r u) s v
theorem D_adj_swap (n r : Nat) (hr : r + 1 < n) (A : Nat → Nat → Int) (u v : Nat → Int) : D n (set2 A r (r + 1) u v) = - D n (set2 A r (r + 1) v u) := by
 have z : ∀ w, D n (set2 A r (r + 1) w w) = 0 := fun w => D_adj n r hr _ (fun j _ => by simp [set2, setRow])
 have c : ∀ w x, set2 A r (r + 1) w x = setRow (setRow A (r + 1) x) r w := fun w x => by
  funext i j; simp only [set2, setRow]
  by_cases e : i = r
  ·subst e; rw [if_neg (by omega), if_pos rfl, if_pos rfl]
  simp [e]
 have l1 : D n (set2 A r (r + 1) (fun j => 1 * u j + 1 * v j) (fun j => 1 * u j + 1 * v j)) = 1 * D n (set2 A r (r + 1) (fun j => 1 * u j + 1 * v j) u) + 1 * D n (set2 A r (r + 1) (fun j => 1 * u j + 1 * v j) v) := D_row_lin n (r + 1) hr _ 1 1 u v
 have l2 : ∀ x, D n (set2 A r (r + 1) (fun j => 1 * u j + 1 * v j) x) = 1 * D n (set2 A r (r + 1) u x) + 1 * D n (set2 A r (r + 1) v x) := fun x => by
  rw [c, c, c]; exact D_row_lin n r (by omega) _ 1 1 u v
 rw [z, l2, l2, z, z] at l1
 omega
theorem D_rows_eq (n : Nat) (A : Nat → Nat → Int) (i d : Nat) (hd : i + 1 + d < n) (h : ∀ c, c < n → A i c = A (i + 1 + d) c) : D n A = 0 := by
 induction d generalizing A with
 | zero => exact D_adj n i hd A h
 | succ d ih =>
  have e : A = set2 A (i + 1 + d) (i + 1 + d + 1) (A (i + 1 + d)) (A (i + 1 + d + 1)) := by
   funext a b; simp only [set2, setRow]
   split
   ·subst a; rfl
   ·split
    ·subst a; rfl
    ·rfl
  rw [e, D_adj_swap n (i + 1 + d) (by omega), ih _ (by omega)]
  ·rfl
  ·intro c hc
   simp only [set2, setRow]
   rw [if_neg (by omega), if_neg (by omega), if_neg (by omega), if_pos trivial, h c hc]; rfl
theorem D_rows_eq' (n : Nat) (A : Nat → Nat → Int) (i j : Nat) (hi : i < n) (hj : j < n) (hij : i ≠ j) (h : ∀ c, c < n → A i c = A j c) : D n A = 0 := by
 rcases Nat.lt_or_gt_of_ne hij with l | l
 ·exact D_rows_eq n A i (j - i - 1) (by omega) (by rw [show i + 1 + (j - i - 1) = j by omega]; exact h)
 ·exact D_rows_eq n A j (i - j - 1) (by omega) (by rw [show j + 1 + (i - j - 1) = i by omega]; exact fun c hc => (h c hc).symm)
def swapRows (A : Nat → Nat → Int) (i j : Nat) : Nat → Nat → Int := fun a b => if a = i then A j b else if a = j then A i b else A a b
theorem D_swap (n : Nat) (A : Nat → Nat → Int) (i j : Nat) (hi : i < n) (hj : j < n) (hij : i ≠ j) : D n (swapRows A i j) = - D n A := by
 have z : ∀ w, D n (set2 A i j w w) = 0 := fun w => D_rows_eq' n _ i j hi hj hij (fun c _ => by simp [set2, setRow])
 have c : ∀ w x, set2 A i j w x = setRow (setRow A j x) i w := fun w x => by
  funext a b; simp only [set2, setRow]
  by_cases e : a = i
  ·subst e; rw [if_neg hij, if_pos rfl, if_pos rfl]
  simp [e]
 have l1 : D n (set2 A i j (fun b => 1 * A i b + 1 * A j b) (fun b => 1 * A i b + 1 * A j b)) = 1 * D n (set2 A i j (fun b => 1 * A i b + 1 * A j b) (A i)) + 1 * D n (set2 A i j (fun b => 1 * A i b + 1 * A j b) (A j)) := D_row_lin n j hj _ 1 1 (A i) (A j)
 have l2 : ∀ x, D n (set2 A i j (fun b => 1 * A i b + 1 * A j b) x) = 1 * D n (set2 A i j (A i) x) + 1 * D n (set2 A i j (A j) x) := fun x => by
  rw [c, c, c]; exact D_row_lin n i hi _ 1 1 (A i) (A j)
 rw [z, l2, l2, z, z] at l1
 have e1 : set2 A i j (A i) (A j) = A := by
  funext a b; simp only [set2, setRow]; split
  ·subst a; rfl
  ·split
   ·subst a; rfl
   ·rfl
 have e2 : set2 A i j (A j) (A i) = swapRows A i j := by
  funext a b; simp only [set2, setRow, swapRows]
  by_cases e : a = i
  ·subst e; rw [if_neg hij, if_pos rfl, if_pos rfl]
  simp [e]
 rw [e1, e2] at l1
 omega
theorem D_col_lin (n c : Nat) (hc : c < n) (A : Nat → Nat → Int) (a b : Int) (u v : Nat → Int) :
  D n (setCol A c (fun i => a * u i + b * v i)) = a * D n (setCol A c u) + b * D n (setCol A c v) := by
 have e : ∀ w, D n (setCol A c w) = D n (setRow (fun i j => A j i) c w) := fun w => by
  rw [← D_transpose]; rfl
 rw [e, e, e]; exact D_row_lin n c hc _ a b u v
theorem D_col_sum (n c : Nat) (hc : c < n) (A : Nat → Nat → Int) (m : Nat) (d : Nat → Int) (F : Nat → Nat → Int) :
  D n (setCol A c (fun i => sm m (fun t => d t * F t i))) = sm m (fun t => d t * D n (setCol A c (F t))) := by
 have e : ∀ w, D n (setCol A c w) = D n (setRow (fun i j => A j i) c w) := fun w => by
  rw [← D_transpose]; rfl
 rw [e, D_row_sum n c hc]
 exact sm_congr (fun t _ => by rw [e])
theorem D_cols_eq (n : Nat) (A : Nat → Nat → Int) (i j : Nat) (hi : i < n) (hj : j < n) (hij : i ≠ j) (h : ∀ r, r < n → A r i = A r j) : D n A = 0 := by
 rw [← D_transpose]; exact D_rows_eq' n _ i j hi hj hij h
theorem D_one (n : Nat) : D n (fun i j => if i = j then 1 else 0) = 1 := by
 induction n with
 | zero => rfl
 | succ n ih =>
  simp only [D]
  rw [sm_one (r := 0) (by omega) (fun k _ hk => by rw [if_neg (by omega)]; simp)]
  rw [D_congr (B := fun i j => if i = j then 1 else 0) (fun i _ j _ => by rw [skip_zero]; simp), ih]; rfl
theorem D_block1 (k : Nat) (M : Nat → Nat → Int) (h : ∀ a, a < k → M a k = 0) : D (k + 1) M = D k M * M k k := by
 induction k generalizing M with
 | zero => simp [D, sm, sg]
 | succ k ih =>
  rw [show D (k + 1 + 1) M = sm (k + 1 + 1) (fun c => sg c * M 0 c * D (k + 1) (fun i j => M (i + 1) (skip c j))) from rfl]
  rw [show sm (k + 1 + 1) (fun c => sg c * M 0 c * D (k + 1) (fun i j => M (i + 1) (skip c j))) = sm (k + 1) (fun c => sg c * M 0 c * D (k + 1) (fun i j => M (i + 1) (skip c j))) + sg (k + 1) * M 0 (k + 1) * D (k + 1) (fun i j => M (i + 1) (skip (k + 1) j)) from rfl]
  rw [h 0 (by omega), Int.mul_zero, Int.zero_mul, Int.add_zero]
  rw [show D (k + 1) M = sm (k + 1) (fun c => sg c * M 0 c * D k (fun i j => M (i + 1) (skip c j))) from rfl, Int.mul_comm, ← sm_mul]
  refine sm_congr (fun c hc => ?_)
  have hs : ∀ b, c ≤ b → skip c b = b + 1 := fun b hb => by unfold skip; split <;> omega
  rw [ih _ (fun a ha => by rw [hs k (by omega)]; exact h (a + 1) (by omega)), hs k (by omega)]
  simp only [Int.mul_assoc, Int.mul_comm, Int.mul_left_comm]
theorem D_block2 (k : Nat) (M : Nat → Nat → Int) (h : ∀ a, a < k → M a k = 0 ∧ M a (k + 1) = 0) :
  D (k + 2) M = D k M * (M k k * M (k + 1) (k + 1) - M k (k + 1) * M (k + 1) k) := by
 induction k generalizing M with
 | zero => simp [D, sm, sg, skip, Int.sub_eq_add_neg, Int.neg_mul]
 | succ k ih =>
  rw [show D (k + 1 + 2) M = sm (k + 1) (fun c => sg c * M 0 c * D (k + 2) (fun i j => M (i + 1) (skip c j))) + sg (k + 1) * M 0 (k + 1) * D (k + 2) (fun i j => M (i + 1) (skip (k + 1) j)) + sg (k + 2) * M 0 (k + 2) * D (k + 2) (fun i j => M (i + 1) (skip (k + 2) j)) from rfl]
  rw [(h 0 (by omega)).1, (h 0 (by omega)).2]
  simp only [Int.mul_zero, Int.zero_mul, Int.add_zero]
  rw [show D (k + 1) M = sm (k + 1) (fun c => sg c * M 0 c * D k (fun i j => M (i + 1) (skip c j))) from rfl, Int.mul_comm (sm _ _), ← sm_mul]
  refine sm_congr (fun c hc => ?_)
  have hs : ∀ b, c ≤ b → skip c b = b + 1 := fun b hb => by unfold skip; split <;> omega
  rw [ih _ (fun a ha => by rw [hs k (by omega), hs (k + 1) (by omega)]; exact h (a + 1) (by omega)), hs k (by omega), hs (k + 1) (by omega)]
  simp only [Int.mul_assoc, Int.mul_comm, Int.mul_left_comm]
theorem sm_unit (n : Nat) (v : Nat → Int) (j : Nat) (hj : j < n) : sm n (fun t => v t * (if t = j then 1 else 0)) = v j := by
 rw [sm_one hj (fun i _ hn => by rw [if_neg hn, Int.mul_zero])]; simp
def B (A : Nat → Nat → Int) (k i j : Nat) : Int := D (k + 1) (fun a b => A (if a < k then a else i) (if b < k then b else j))
theorem B_diag (A : Nat → Nat → Int) (k : Nat) : B A k k k = D (k + 1) A := D_congr (fun a ha b hb => by
 rw [show (if a < k then a else k) = a from by split <;> omega, show (if b < k then b else k) = b from by split <;> omega])
theorem B_low (A : Nat → Nat → Int) (k i j : Nat) (hi : i < k) : B A k i j = 0 :=
 D_rows_eq' (k + 1) _ i k (by omega) (by omega) (by omega) (fun c _ => by simp [hi])
theorem B_solve (A : Nat → Nat → Int) (k j : Nat) : ∃ C : Nat → Int, ∀ i, D k A * A i j = sm k (fun c => C c * A i c) + B A k i j := by
 refine ⟨fun c => - D (k + 1) (setRow (fun a b => A a (if b < k then b else j)) k (fun b => if c = b then 1 else 0)), fun i => ?_⟩
 have e : B A k i j = D (k + 1) (setRow (fun a b => A a (if b < k then b else j)) k (fun b => sm (k + 1) (fun t => A i (if t < k then t else j) * (if t = b then 1 else 0)))) := D_congr (fun a ha b hb => by
  simp only [setRow]
  by_cases l : a = k
  ·subst l; rw [if_pos rfl, sm_unit _ _ _ hb, if_neg (by omega)]
  ·rw [if_neg l, if_pos (by omega)])
 rw [e, D_row_sum (k + 1) k (by omega)]
 have last : D (k + 1) (setRow (fun a b => A a (if b < k then b else j)) k (fun b => if k = b then 1 else 0)) = D k A := by
  rw [← D_transpose, D_block1]
  ·have : D k (fun a b => setRow (fun a b => A a (if b < k then b else j)) k (fun b => if k = b then 1 else 0) b a) = D k A := by
    rw [D_transpose]
    exact D_congr (fun a ha b hb => by simp only [setRow]; rw [if_neg (by omega), if_pos hb])
   rw [this]; simp [setRow]
  ·intro a ha; simp only [setRow]; rw [if_pos trivial, if_neg (by omega)]
 simp only [sm]
 rw [last]
 have : sm k (fun t => A i (if t < k then t else j) * D (k + 1) (setRow (fun a b => A a (if b < k then b else j)) k (fun b => if t = b then 1 else 0))) = - sm k (fun c => - D (k + 1) (setRow (fun a b => A a (if b < k then b else j)) k (fun b => if c = b then 1 else 0)) * A i c) := by
  rw [← sm_neg]
  refine sm_congr (fun t ht => ?_)
  rw [if_pos ht, Int.neg_mul, Int.neg_neg, Int.mul_comm]
 rw [this, if_neg (Nat.lt_irrefl k), Int.mul_comm (A i j)]; omega
theorem B_step (A : Nat → Nat → Int) (k i j : Nat) (hp : D k A ≠ 0) :
  D k A * B A (k + 1) i j = B A k k k * B A k i j - B A k i k * B A k k j := by
 obtain ⟨C1, h1⟩ := B_solve A k k
 obtain ⟨C2, h2⟩ := B_solve A k j
 let ro : Nat → Nat := fun a => if a < k + 1 then a else i
 let W : Nat → Nat → Int := fun a b => A (ro a) (if b < k + 1 then b else j)
 have hW : B A (k + 1) i j = D (k + 2) W := rfl
 let X : Nat → Int := fun a => B A k (ro a) k
 let Y : Nat → Int := fun a => B A k (ro a) j
 have s1 : D k A * D (k + 2) W = D (k + 2) (setCol W k X) := by
  have e0 : D (k + 2) (setCol W k (fun a => D k A * A (ro a) k + 0 * 0)) = D k A * D (k + 2) W := by
   rw [D_col_lin (k + 2) k (by omega) W (D k A) 0 (fun a => A (ro a) k) (fun _ => 0), Int.zero_mul, Int.add_zero]
   congr 1
   exact D_congr (fun a _ b _ => by
    simp only [setCol]; split
    ·subst b; show A (ro a) k = A (ro a) (if k < k + 1 then k else j); rw [if_pos (by omega)]
    ·rfl)
  have e1 : D (k + 2) (setCol W k (fun a => D k A * A (ro a) k + 0 * 0)) = D (k + 2) (setCol W k (fun a => 1 * sm k (fun c => C1 c * A (ro a) c) + 1 * X a)) := D_congr (fun a _ b _ => by
   simp only [setCol]; split
   ·rw [h1 (ro a)]; show _ = 1 * _ + 1 * B A k (ro a) k; omega
   ·rfl)
  rw [← e0, e1, D_col_lin (k + 2) k (by omega), D_col_sum (k + 2) k (by omega)]
  rw [sm_zero (fun c hc => by
   rw [D_cols_eq (k + 2) _ c k (by omega) (by omega) (by omega) (fun r _ => by
    simp only [setCol]; rw [if_neg (by omega), if_pos trivial]; show A (ro r) (if c < k + 1 then c else j) = _; rw [if_pos (by omega)]), Int.mul_zero])]
  omega
 have s2 : D k A * D (k + 2) (setCol W k X) = D (k + 2) (setCol (setCol W k X) (k + 1) Y) := by
  have e0 : D (k + 2) (setCol (setCol W k X) (k + 1) (fun a => D k A * A (ro a) j + 0 * 0)) = D k A * D (k + 2) (setCol W k X) := by
   rw [D_col_lin (k + 2) (k + 1) (by omega) (setCol W k X) (D k A) 0 (fun a => A (ro a) j) (fun _ => 0), Int.zero_mul, Int.add_zero]
   congr 1
   exact D_congr (fun a _ b _ => by
    simp only [setCol]; split
    ·subst b; rw [if_neg (by omega)]; show A (ro a) j = A (ro a) (if k + 1 < k + 1 then k + 1 else j); rw [if_neg (by omega)]
    ·rfl)
  have e1 : D (k + 2) (setCol (setCol W k X) (k + 1) (fun a => D k A * A (ro a) j + 0 * 0)) = D (k + 2) (setCol (setCol W k X) (k + 1) (fun a => 1 * sm k (fun c => C2 c * A (ro a) c) + 1 * Y a)) := D_congr (fun a _ b _ => by
   simp only [setCol]; split
   ·rw [h2 (ro a)]; show _ = 1 * _ + 1 * B A k (ro a) j; omega
   ·rfl)
  rw [← e0, e1, D_col_lin (k + 2) (k + 1) (by omega), D_col_sum (k + 2) (k + 1) (by omega)]
  rw [sm_zero (fun c hc => by
   rw [D_cols_eq (k + 2) _ c (k + 1) (by omega) (by omega) (by omega) (fun r _ => by
    simp only [setCol]; rw [if_neg (by omega), if_neg (by omega), if_pos trivial]; show A (ro r) (if c < k + 1 then c else j) = _; rw [if_pos (by omega)]), Int.mul_zero])]
  omega
 have s3 : D (k + 2) (setCol (setCol W k X) (k + 1) Y) = D k A * (X k * Y (k + 1) - Y k * X (k + 1)) := by
  rw [D_block2]
  ·have : D k (setCol (setCol W k X) (k + 1) Y) = D k A := D_congr (fun a ha b hb => by
    simp only [setCol]; rw [if_neg (by omega), if_neg (by omega)]; show A (if a < k + 1 then a else i) (if b < k + 1 then b else j) = _; rw [if_pos (by omega), if_pos (by omega)])
   rw [this]
   simp [setCol]
  ·intro a ha
   have hr : ro a = a := by show (if a < k + 1 then a else i) = a; rw [if_pos (by omega)]
   have h1 : ¬ k = k + 1 := by omega
   simp only [setCol, if_neg h1, if_true]
   constructor
   ·show B A k (ro a) k = 0; rw [hr]; exact B_low A k a k ha
   ·show B A k (ro a) j = 0; rw [hr]; exact B_low A k a j ha
 have hk : ro k = k := by show (if k < k + 1 then k else i) = k; rw [if_pos (by omega)]
 have hk1 : ro (k + 1) = i := by show (if k + 1 < k + 1 then k + 1 else i) = i; rw [if_neg (by omega)]
 have hX0 : X k = B A k k k := by show B A k (ro k) k = _; rw [hk]
 have hX1 : X (k + 1) = B A k i k := by show B A k (ro (k + 1)) k = _; rw [hk1]
 have hY0 : Y k = B A k k j := by show B A k (ro k) j = _; rw [hk]
 have hY1 : Y (k + 1) = B A k i j := by show B A k (ro (k + 1)) j = _; rw [hk1]
 rw [hX0, hX1, hY0, hY1] at s3
 rw [hW]
 have all : D k A * (D k A * D (k + 2) W) = D k A * (B A k k k * B A k i j - B A k k j * B A k i k) := by rw [s1, s2, s3]
 have := Int.eq_of_mul_eq_mul_left hp all
 rw [this, Int.mul_comm (B A k k j)]
theorem B_none (A : Nat → Nat → Int) (n k : Nat) (hk : k < n) (hp : D k A ≠ 0) (h : ∀ i, k ≤ i → i < n → B A k i k = 0) : D n A = 0 := by
 obtain ⟨C1, h1⟩ := B_solve A k k
 have e0 : D n (setCol A k (fun a => D k A * A a k + 0 * 0)) = D k A * D n A := by
  rw [D_col_lin n k hk A (D k A) 0 (fun a => A a k) (fun _ => 0), Int.zero_mul, Int.add_zero]
  congr 1
  exact D_congr (fun a _ b _ => by
   simp only [setCol]; split
   ·subst b; rfl
   ·rfl)
 have e1 : D n (setCol A k (fun a => D k A * A a k + 0 * 0)) = D n (setCol A k (fun a => sm k (fun c => C1 c * A a c))) := D_congr (fun a ha b _ => by
  simp only [setCol]; split
  ·have : B A k a k = 0 := by
    by_cases l : a < k
    ·exact B_low A k a k l
    exact h a (by omega) ha
   rw [h1 a, this]; omega
  ·rfl)
 have : D k A * D n A = 0 := by
  rw [← e0, e1, D_col_sum n k hk]
  exact sm_zero (fun c hc => by
   rw [D_cols_eq n _ c k (by omega) (by omega) (by omega) (fun r _ => by
    simp only [setCol]; rw [if_neg (by omega), if_pos trivial]), Int.mul_zero])
 rcases Int.mul_eq_zero.mp this with h | h
 ·exact absurd h hp
 ·exact h
def bd : Nat → Int
 | 0 => 1
 | n + 1 => (n + 1) * (10 * bd n)
theorem sm_bound (n : Nat) (f : Nat → Int) (b : Int) (h : ∀ i, i < n → -b ≤ f i ∧ f i ≤ b) : -(n * b) ≤ sm n f ∧ sm n f ≤ n * b := by
 induction n with
 | zero => simp [sm]
 | succ n ih =>
  have h1 := ih (fun i hi => h i (by omega))
  have h2 := h n (by omega)
  simp only [sm]
  rw [show ((n + 1 : Nat) : Int) * b = n * b + b from by rw [Int.natCast_add, Int.add_mul]; simp]
  omega
theorem mul_bound {x y a b : Int} (ha : -a ≤ x ∧ x ≤ a) (hb : -b ≤ y ∧ y ≤ b) : -(a * b) ≤ x * y ∧ x * y ≤ a * b := by
 have h : x.natAbs * y.natAbs ≤ a.natAbs * b.natAbs := Nat.mul_le_mul (by omega) (by omega)
 rw [← Int.natAbs_mul, ← Int.natAbs_mul] at h
 have : 0 ≤ a * b := Int.mul_nonneg (by omega) (by omega)
 omega
theorem term_bound {s x d b : Int} (hs : s = 1 ∨ s = -1) (hx : -10 ≤ x ∧ x ≤ 10) (hd : -b ≤ d ∧ d ≤ b) : -(10 * b) ≤ s * x * d ∧ s * x * d ≤ 10 * b := by
 refine mul_bound (a := 10) ?_ hd
 rcases hs with rfl | rfl <;> omega
theorem sg_or (k : Nat) : sg k = 1 ∨ sg k = -1 := by unfold sg; split <;> simp
theorem D_bound (n : Nat) (A : Nat → Nat → Int) (h : ∀ i j, i < n → j < n → -10 ≤ A i j ∧ A i j ≤ 10) : -(bd n) ≤ D n A ∧ D n A ≤ bd n := by
 induction n generalizing A with
 | zero => simp [D, bd]
 | succ n ih =>
  simp only [D, bd]
  have := sm_bound (n + 1) (fun k => sg k * A 0 k * D n (fun i j => A (i + 1) (skip k j))) (10 * bd n) (fun k hk =>
   term_bound (sg_or k) (h 0 k (by omega) hk) (ih _ (fun i j hi hj => h _ _ (by omega) (skip_lt hj))))
  simpa using this
end DetKit
end Go.Proofs.Ytlbgajpbdbgmkaa.M
namespace Go.Proofs.Ytlbgajpbdbgmkaa.M
set_option maxHeartbeats 8000000
set_option maxRecDepth 100000
open Go.RowKit Go.Proofs.Ytlbgajpbdbgmkaa.P Go.Proofs.Ytlbgajpbdbgmkaa.In Go.Proofs.YtlbgajpbdbgmkaaW.PrintWords Go.Proofs.YtlbgajpbdbgmkaaW.PrintLast
set_option linter.unusedVariables false
set_option linter.unusedSimpArgs false
open DetKit
def mat (m : List (List Int)) : Nat → Nat → Int := fun i j => rd (rd_L1 m (i : Int)) (j : Int)
structure Sq (n : Nat) (m : List (List Int)) : Prop where
 len : m.length = n
 rows : ∀ row ∈ m, row.length = n ∧ ∀ x ∈ row, -10 ≤ x ∧ x ≤ 10
theorem Sq.row {n : Nat} {m : List (List Int)} (h : Sq n m) {i : Nat} (hi : i < n) : (rd_L1 m (i : Int)).length = n := by
 have hl := h.len
 exact (h.rows (rd_L1 m (i : Int)) (by rw [rdL_at (by omega)]; exact List.getElem_mem _)).1
theorem Sq.bnd {n : Nat} {m : List (List Int)} (h : Sq n m) (i j : Nat) (hi : i < n) (hj : j < n) : -10 ≤ mat m i j ∧ mat m i j ≤ 10 := by
 have hl := h.len
 have hr := h.rows (rd_L1 m (i : Int)) (by rw [rdL_at (by omega)]; exact List.getElem_mem _)
 exact hr.2 _ (by unfold mat; rw [rd_at (by omega)]; exact List.getElem_mem _)
theorem bd_le6 {n : Nat} (h : n ≤ 6) : bd n ≤ 720000000 := by
 have : n = 0 ∨ n = 1 ∨ n = 2 ∨ n = 3 ∨ n = 4 ∨ n = 5 ∨ n = 6 := by omega
 rcases this with rfl | rfl | rfl | rfl | rfl | rfl | rfl <;> decide
theorem bd_le7 {n : Nat} (h : n ≤ 7) : bd n ≤ 50400000000 := by
 have : n = 0 ∨ n = 1 ∨ n = 2 ∨ n = 3 ∨ n = 4 ∨ n = 5 ∨ n = 6 ∨ n = 7 := by omega
 rcases this with rfl | rfl | rfl | rfl | rfl | rfl | rfl | rfl <;> decide
open DetKit
def decr : List Int → List Int → List Int
 | [], c => c
 | q :: row, c => decr row (c.set q.toNat (rd c q - 1))
theorem decr_len : ∀ (row c : List Int), (decr row c).length = c.length := by
 intro row
 induction row with
 | nil => intro c; rfl
 | cons q row ih => intro c; simp only [decr]; rw [ih]; simp
def lapRow (g : List (List Int)) (p : Nat) : List Int := decr (rd_L1 g (p : Int)) ((List.replicate g.length (0 : Int)).set p ((rd_L1 g (p : Int)).length : Int))
def lapFrom (g : List (List Int)) (sink : Nat) : Nat → Nat → List (List Int) → List (List Int)
 | 0, _, acc => acc
 | d + 1, i, acc => if i = sink then lapFrom g sink d (i + 1) acc else lapFrom g sink d (i + 1) (acc ++ [(lapRow g i).eraseIdx sink])
def lap (g : List (List Int)) (sink : Nat) : List (List Int) := lapFrom g sink g.length 0 []
def lowB (i : Nat) (c : List Int) : Prop := ∀ x ∈ c, -(i : Int) ≤ x ∧ x ≤ 5
theorem low_step {i : Nat} {c : List Int} (h : lowB i c) {q : Int} (h0 : 0 ≤ q) (h1 : q < (c.length : Int)) : -(i : Int) ≤ rd c q ∧ rd c q ≤ 5 ∧ lowB (i + 1) (c.set q.toNat (rd c q - 1)) := by
 have hq := h (rd c q) (by rw [rd_get h0 h1]; exact List.getElem_mem _)
 refine ⟨hq.1, hq.2, fun x hx => ?_⟩
 rcases List.mem_or_eq_of_mem_set hx with h2 | h2
 ·have := h x h2; omega
 ·subst h2; omega
theorem decr_low : ∀ (row c : List Int) (i : Nat), lowB i c → (∀ q ∈ row, 0 ≤ q ∧ q < (c.length : Int)) → lowB (i + row.length) (decr row c) := by
 intro row
 induction row with
 | nil => intro c i h _; exact h
 | cons q row ih =>
  intro c i h hr
  have hq := hr q (by simp)
  have := ih _ (i + 1) (low_step h hq.1 hq.2).2.2 (fun x hx => by have := hr x (by simp [hx]); simpa using this)
  simp only [decr]
  rw [show i + (q :: row).length = i + 1 + row.length by simp; omega]
  exact this
theorem low_start {n p len : Nat} (h : len ≤ 5) : lowB 0 ((List.replicate n (0 : Int)).set p (len : Int)) := by
 intro x hx
 rcases List.mem_or_eq_of_mem_set hx with h2 | h2
 ·have := List.eq_of_mem_replicate h2; omega
 ·omega
theorem lapRow_len (g : List (List Int)) (p : Nat) : (lapRow g p).length = g.length := by unfold lapRow; rw [decr_len]; simp
theorem lapRow_low {g : List (List Int)} (hg : goodG g = true) {p : Nat} (hp : p < g.length) : lowB 5 (lapRow g p) := by
 have hrow := (good_iff hg).2 (rd_L1 g (p : Int)) (by rw [rdL_at hp]; exact List.getElem_mem _)
 have := decr_low (rd_L1 g (p : Int)) ((List.replicate g.length (0 : Int)).set p ((rd_L1 g (p : Int)).length : Int)) 0 (low_start hrow.1) (fun q hq => by simpa using hrow.2 q hq)
 intro x hx
 have h2 := this x hx
 omega
theorem lapFrom_sq {g : List (List Int)} (hg : goodG g = true) {sink : Nat} (hs : sink < g.length) : ∀ (d i : Nat) (acc : List (List Int)), g.length - i = d → i ≤ g.length → (∀ row ∈ acc, row.length = g.length - 1 ∧ ∀ x ∈ row, -10 ≤ x ∧ x ≤ 10) → acc.length = (if sink < i then i - 1 else i) → (lapFrom g sink d i acc).length = g.length - 1 ∧ ∀ row ∈ lapFrom g sink d i acc, row.length = g.length - 1 ∧ ∀ x ∈ row, -10 ≤ x ∧ x ≤ 10 := by
 intro d
 induction d with
 | zero =>
  intro i acc hd hi ha hl
  rw [if_pos (by omega)] at hl
  exact ⟨by simp only [lapFrom]; omega, ha⟩
 | succ d ih =>
  intro i acc hd hi ha hl
  simp only [lapFrom]
  by_cases h : i = sink
  ·rw [if_pos h]
   refine ih (i + 1) acc (by omega) (by omega) ha ?_
   rw [if_neg (by omega)] at hl
   rw [if_pos (by omega)]; omega
  rw [if_neg h]
  refine ih (i + 1) _ (by omega) (by omega) (fun row hr => ?_) ?_
  ·rcases List.mem_append.1 hr with h2 | h2
   ·exact ha row h2
   ·simp at h2; subst h2
    have hlr := lapRow_len g i
    refine ⟨by rw [List.length_eraseIdx_of_lt (by omega)]; omega, fun x hx => ?_⟩
    have := lapRow_low hg (p := i) (by omega) x (List.mem_of_mem_eraseIdx hx)
    omega
  ·simp only [List.length_append, List.length_singleton, hl]
   by_cases h3 : sink < i
   ·rw [if_pos h3, if_pos (by omega)]; omega
   rw [if_neg h3, if_neg (by omega)]
theorem lap_sq {g : List (List Int)} (hg : goodG g = true) {sink : Nat} (hs : sink < g.length) : Sq (g.length - 1) (lap g sink) := by
 obtain ⟨a, b⟩ := lapFrom_sq hg hs g.length 0 [] (by omega) (by omega) (by simp) (by simp)
 exact ⟨a, b⟩
section
variable {g : List (List Int)} {r : List (List Int)}
theorem lapI_l1 (hg : goodG g = true) (sink p : Nat) (hs : sink < g.length) (hp : p < g.length) (acc : List (List Int)) (hacc : acc.length ≤ 8) (row : List Int) (h5 : row.length ≤ 5) (hr : ∀ q ∈ row, 0 ≤ q ∧ q < (g.length : Int)) :
  ∀ (d i : Nat) (c : List Int), row.length - i = d → i ≤ row.length → c.length = g.length → lowB i c → Ev (fun k => yg0.l0 k sink (acc ++ [(decr (row.drop i) c).eraseIdx sink]) g g.length ((p + 1 : Nat) : Int) g) r → Ev (fun k => yg0.l1 k sink acc c g g.length p row row.length i g) r := by
 have h8 := (good_iff hg).1.2
 intro d
 induction d with
 | zero =>
  intro i c hd hi hc hl h
  rw [List.drop_of_length_le (by omega)] at h
  refine Ev.succ ?_
  simp only [yg0.l1]
  refine Ev.neg (by omega) (Ev.bind0 (a := c.eraseIdx sink) ?_ (Ev.pos (by omega) ?_))
  ·unfold yd2.f
   rw [wrap_nat (by omega), if_pos (by omega), if_pos (by omega), if_pos (by omega), Int.toNat_natCast]
  ·rw [wrap_nat (n := p) (by omega)]
   exact h
 | succ d ih =>
  intro i c hd hi hc hl h
  have hlt : i < row.length := by omega
  have hq := hr (rd row i) (by rw [rd_at hlt]; exact List.getElem_mem _)
  obtain ⟨s1, s2, s3⟩ := low_step hl hq.1 (by rw [hc]; exact hq.2)
  rw [drop_rd hlt] at h
  simp only [decr] at h
  refine Ev.succ ?_
  simp only [yg0.l1]
  refine Ev.pos (by omega) (Ev.pos (by omega) (Ev.pos (by omega) (Ev.pos hq.1 (Ev.pos (by omega) ?_))))
  rw [wrap_id (x := rd c (rd row i) - 1) (by omega), wrap_nat (n := i) (by omega)]
  exact ih (i + 1) _ (by omega) (by omega) (by simp; exact hc) s3 h
theorem lapI_l0 (hg : goodG g = true) (sink : Nat) (hs : sink < g.length) : ∀ (d i : Nat) (acc : List (List Int)), g.length - i = d → i ≤ g.length → acc.length ≤ i → Ev (fun k => yg0.l0 k sink acc g g.length i g) (lapFrom g sink d i acc) := by
 have h8 := (good_iff hg).1.2
 intro d
 induction d with
 | zero =>
  intro i acc hd hi ha
  refine Ev.succ ?_
  simp only [yg0.l0, lapFrom]
  exact Ev.neg (by omega) (Ev.now _)
 | succ d ih =>
  intro i acc hd hi ha
  have hrow := (good_iff hg).2 (rd_L1 g (i : Int)) (by rw [rdL_at (by omega)]; exact List.getElem_mem _)
  refine Ev.succ ?_
  simp only [yg0.l0, lapFrom]
  refine Ev.pos (by omega) (Ev.pos (by omega) (Ev.pos (by omega) ?_))
  by_cases h : i = sink
  ·rw [if_pos h]
   refine Ev.pos (by omega) ?_
   rw [wrap_nat (by omega)]
   exact ih (i + 1) acc (by omega) (by omega) (by omega)
  rw [if_neg h]
  refine Ev.neg (by omega) (Ev.pos (by omega) (Ev.pos (by omega) (Ev.bind0 rfl (Ev.pos (by simp; omega) ?_))))
  rw [Int.toNat_natCast, Int.toNat_natCast]
  refine lapI_l1 hg sink i hs (by omega) acc (by omega) (rd_L1 g (i : Int)) hrow.1 hrow.2 _ 0 _ rfl (by omega) (by simp) (low_start hrow.1) ?_
  exact ih (i + 1) _ (by omega) (by omega) (by simp; omega)
theorem laplace_ev (hg : goodG g = true) {sink : Int} (h0 : 0 ≤ sink) (h1 : sink < (g.length : Int)) : Ev (fun k => yg0.f k g sink) (lap g sink.toNat) := by
 unfold yg0.f lap
 have := lapI_l0 hg sink.toNat (by omega) g.length 0 [] (by omega) (by omega) (by simp)
 rw [Int.toNat_of_nonneg h0] at this
 exact this
end
open DetKit
structure Rect (n : Nat) (a : List (List Int)) : Prop where
 len : a.length = n
 rows : ∀ row ∈ a, row.length = n
theorem Rect.row {n : Nat} {a : List (List Int)} (h : Rect n a) {i : Nat} (hi : i < n) : (rd_L1 a (i : Int)).length = n := by
 have hl := h.len
 exact h.rows (rd_L1 a (i : Int)) (by rw [rdL_at (by omega)]; exact List.getElem_mem _)
theorem rdL_set {a : List (List Int)} {i j : Nat} (hi : i < a.length) (row : List Int) : rd_L1 (a.set i row) (j : Int) = if j = i then row else rd_L1 a (j : Int) := by
 unfold rd_L1
 rw [Int.toNat_natCast]
 by_cases h : j = i
 ·subst h; rw [if_pos rfl]; simp [List.getD, hi]
 rw [if_neg h]; simp only [List.getD, List.getElem?_set_ne (fun e => h e.symm)]
theorem rdn_set {l : List Int} {i j : Nat} (hi : i < l.length) (v : Int) : rd (l.set i v) (j : Int) = if j = i then v else rd l (j : Int) := by
 unfold rd
 rw [Int.toNat_natCast]
 by_cases h : j = i
 ·subst h; rw [if_pos rfl]; simp [List.getD, hi]
 rw [if_neg h]; simp only [List.getD, List.getElem?_set_ne (fun e => h e.symm)]
theorem mat_set {n : Nat} {a : List (List Int)} (h : Rect n a) {i j : Nat} (hi : i < n) (hj : j < n) (v : Int) (p q : Nat) : mat (a.set i ((rd_L1 a (i : Int)).set j v)) p q = if p = i ∧ q = j then v else mat a p q := by
 have hl := h.len
 have hr := h.row hi
 unfold mat
 rw [rdL_set (by omega)]
 by_cases hp : p = i
 rotate_left
 ·rw [if_neg hp, if_neg (fun e => hp e.1)]
 rw [if_pos hp, rdn_set (by omega)]
 by_cases hq : q = j
 ·rw [if_pos hq, if_pos ⟨hp, hq⟩]
 rw [if_neg hq, if_neg (fun e => hq e.2), hp]
theorem rect_set {n : Nat} {a : List (List Int)} (h : Rect n a) {i : Nat} {row : List Int} (hr : row.length = n) : Rect n (a.set i row) :=
 ⟨by simp; exact h.len, fun x hx => by
  rcases List.mem_or_eq_of_mem_set hx with h2 | h2
  ·exact h.rows x h2
  ·rw [h2]; exact hr⟩
theorem getD_rd (a : List (List Int)) (i : Nat) : a.getD i [] = rd_L1 a (i : Int) := by unfold rd_L1; rw [Int.toNat_natCast]
theorem rdL_swp {a : List (List Int)} {p q : Nat} (hp : p < a.length) (hq : q < a.length) (i : Nat) : rd_L1 (swp a [] p q) (i : Int) = if i = q then rd_L1 a (p : Int) else if i = p then rd_L1 a (q : Int) else rd_L1 a (i : Int) := by
 unfold swp
 rw [rdL_set (by simp; exact hq), rdL_set hp, getD_rd, getD_rd]
theorem rect_swp {n : Nat} {a : List (List Int)} (h : Rect n a) {p q : Nat} (hp : p < n) (hq : q < n) : Rect n (swp a [] p q) := by
 unfold swp
 rw [getD_rd, getD_rd]
 exact rect_set (rect_set h (h.row hq)) (h.row hp)
def Upd (n kk : Nat) (A : Nat → Nat → Int) (a0 a : List (List Int)) (i j : Nat) : Prop :=
 ∀ p q, p < n → q < n → mat a p q = if kk < p ∧ kk < q ∧ (p < i ∨ (p = i ∧ q < j)) then B A (kk + 1) p q else mat a0 p q
theorem B_bound {n : Nat} {A : Nat → Nat → Int} (hA : ∀ i j, i < n → j < n → -10 ≤ A i j ∧ A i j ≤ 10) {k i j : Nat} (hk : k ≤ n) (hi : i < n) (hj : j < n) : -(bd (k + 1)) ≤ B A k i j ∧ B A k i j ≤ bd (k + 1) := by
 unfold B
 exact D_bound (k + 1) _ (fun a b ha hb => hA _ _ (by split <;> omega) (by split <;> omega))
section
variable {n kk : Nat} {A : Nat → Nat → Int} {a0 : List (List Int)} {s r : Int}
theorem bar_l4 (hn : n ≤ 7) (hA : ∀ i j, i < n → j < n → -10 ≤ A i j ∧ A i j ≤ 10) (hp : D kk A ≠ 0) (ha0 : ∀ i j, kk ≤ i → kk ≤ j → i < n → j < n → mat a0 i j = B A kk i j) {i : Nat} (hi : kk < i) (hin : i < n)
  (hnext : ∀ a, Rect n a → Upd n kk A a0 a (i + 1) (kk + 1) → Ev (fun k => ya0.l3 k n s (D kk A) a kk ((i + 1 : Nat) : Int) n kk) r) :
  ∀ (d j : Nat) (a : List (List Int)), n - j = d → j ≤ n → kk < j → Rect n a → Upd n kk A a0 a i j → Ev (fun k => ya0.l4 k n s (D kk A) a kk i j n kk) r := by
 intro d
 induction d with
 | zero =>
  intro j a hd hj hkj ha hu
  refine Ev.succ ?_
  simp only [ya0.l4]
  refine Ev.neg (by omega) ?_
  rw [wrap_nat (by omega)]
  refine hnext a ha (fun p q hp hq => ?_)
  rw [hu p q hp hq]
  by_cases c : kk < p ∧ kk < q ∧ (p < i ∨ (p = i ∧ q < j))
  ·rw [if_pos c, if_pos ⟨c.1, c.2.1, by omega⟩]
  rw [if_neg c, if_neg (fun c2 => c ⟨c2.1, c2.2.1, by omega⟩)]
 | succ d ih =>
  intro j a hd hj hkj ha hu
  have hl := ha.len
  have hri := ha.row hin
  have hrk := ha.row (i := kk) (by omega)
  have hX : mat a i j = B A kk i j := by rw [hu i j hin (by omega), if_neg (by omega)]; exact ha0 i j (by omega) (by omega) hin (by omega)
  have hY : mat a kk kk = B A kk kk kk := by rw [hu kk kk (by omega) (by omega), if_neg (by omega)]; exact ha0 kk kk (by omega) (by omega) (by omega) (by omega)
  have hZ : mat a i kk = B A kk i kk := by rw [hu i kk hin (by omega), if_neg (by omega)]; exact ha0 i kk (by omega) (by omega) hin (by omega)
  have hW : mat a kk j = B A kk kk j := by rw [hu kk j (by omega) (by omega), if_neg (by omega)]; exact ha0 kk j (by omega) (by omega) (by omega) (by omega)
  have b6 := bd_le6 (n := kk + 1) (by omega)
  have b7 := bd_le7 (n := kk + 1 + 1) (by omega)
  have bX := B_bound hA (k := kk) (i := i) (j := j) (by omega) hin (by omega)
  have bY := B_bound hA (k := kk) (i := kk) (j := kk) (by omega) (by omega) (by omega)
  have bZ := B_bound hA (k := kk) (i := i) (j := kk) (by omega) hin (by omega)
  have bW := B_bound hA (k := kk) (i := kk) (j := j) (by omega) (by omega) (by omega)
  have bN := B_bound hA (k := kk + 1) (i := i) (j := j) (by omega) hin (by omega)
  have m1 := mul_bound (x := B A kk i j) (y := B A kk kk kk) (a := 720000000) (b := 720000000) (by omega) (by omega)
  have m2 := mul_bound (x := B A kk i kk) (y := B A kk kk j) (a := 720000000) (b := 720000000) (by omega) (by omega)
  have st := B_step A kk i j hp
  rw [Int.mul_comm (B A kk kk kk)] at st
  have hval : wrap64 (Int.tdiv (wrap64 (wrap64 (rd (rd_L1 a (i : Int)) (j : Int) * rd (rd_L1 a (kk : Int)) (kk : Int)) - wrap64 (rd (rd_L1 a (i : Int)) (kk : Int) * rd (rd_L1 a (kk : Int)) (j : Int)))) (D kk A)) = B A (kk + 1) i j := by
   show wrap64 (Int.tdiv (wrap64 (wrap64 (mat a i j * mat a kk kk) - wrap64 (mat a i kk * mat a kk j))) (D kk A)) = _
   rw [hX, hY, hZ, hW, wrap_id (x := B A kk i j * B A kk kk kk) (by omega), wrap_id (x := B A kk i kk * B A kk kk j) (by omega), wrap_id (x := B A kk i j * B A kk kk kk - B A kk i kk * B A kk kk j) (by omega), ← st, Int.mul_tdiv_cancel_left _ hp]
   exact wrap_id (by omega)
  refine Ev.succ ?_
  simp only [ya0.l4]
  refine Ev.pos (by omega) (Ev.pos (by omega) (Ev.pos (by omega) (Ev.pos (by omega) (Ev.pos (by omega) (Ev.pos (by omega) (Ev.pos (by omega) (Ev.pos (by omega) (Ev.pos (by omega) (Ev.pos (by omega) (Ev.neg hp ?_))))))))))
  rw [hval, wrap_nat (by omega), Int.toNat_natCast, Int.toNat_natCast]
  refine ih (j + 1) _ (by omega) (by omega) (by omega) (rect_set ha (by simp; exact hri)) (fun p q hpn hqn => ?_)
  rw [mat_set ha hin (by omega)]
  by_cases c : p = i ∧ q = j
  ·rw [if_pos c, if_pos (by omega), c.1, c.2]
  rw [if_neg c, hu p q hpn hqn]
  by_cases c2 : kk < p ∧ kk < q ∧ (p < i ∨ (p = i ∧ q < j))
  ·rw [if_pos c2, if_pos (by omega)]
  rw [if_neg c2, if_neg (by omega)]
theorem bar_l3 (hn : n ≤ 7) (hkn : kk < n) (hA : ∀ i j, i < n → j < n → -10 ≤ A i j ∧ A i j ≤ 10) (hp : D kk A ≠ 0) (ha0 : ∀ i j, kk ≤ i → kk ≤ j → i < n → j < n → mat a0 i j = B A kk i j)
  (hnext : ∀ a, Rect n a → Upd n kk A a0 a n (kk + 1) → Ev (fun k => ya0.l1 k n s (mat a0 kk kk) a n ((kk + 1 : Nat) : Int)) r) :
  ∀ (d i : Nat) (a : List (List Int)), n - i = d → i ≤ n → kk < i → Rect n a → Upd n kk A a0 a i (kk + 1) → Ev (fun k => ya0.l3 k n s (D kk A) a kk i n kk) r := by
 intro d
 induction d with
 | zero =>
  intro i a hd hi hki ha hu
  have : i = n := by omega
  subst this
  have hl := ha.len
  have hrk := ha.row hkn
  have hY : rd (rd_L1 a (kk : Int)) (kk : Int) = mat a0 kk kk := by
   show mat a kk kk = _
   rw [hu kk kk hkn hkn, if_neg (by omega)]
  refine Ev.succ ?_
  simp only [ya0.l3]
  refine Ev.neg (by omega) (Ev.pos (by omega) (Ev.pos (by omega) (Ev.pos (by omega) ?_)))
  rw [hY, wrap_nat (by omega)]
  exact hnext a ha hu
 | succ d ih =>
  intro i a hd hi hki ha hu
  refine Ev.succ ?_
  simp only [ya0.l3]
  refine Ev.pos (by omega) ?_
  rw [wrap_nat (by omega)]
  exact bar_l4 hn hA hp ha0 hki (by omega) (fun a' ha' hu' => ih (i + 1) a' (by omega) (by omega) (by omega) ha' hu') (n - (kk + 1)) (kk + 1) a rfl (by omega) (by omega) ha hu
end
theorem B_swap {A : Nat → Nat → Int} {k p i j : Nat} (hp : k ≤ p) (hi : k ≤ i) : B (swapRows A p k) k i j = B A k (if i = p then k else if i = k then p else i) j := by
 unfold B
 refine D_congr (fun a ha b hb => ?_)
 by_cases hak : a < k
 ·rw [if_pos hak, if_pos hak]; unfold swapRows; rw [if_neg (by omega), if_neg (by omega)]
 rw [if_neg hak, if_neg hak]; unfold swapRows
 by_cases h1 : i = p
 ·rw [if_pos h1, if_pos h1]
 rw [if_neg h1, if_neg h1]
 by_cases h2 : i = k
 ·rw [if_pos h2, if_pos h2]
 rw [if_neg h2, if_neg h2]
theorem D_swap_low {A : Nat → Nat → Int} {k p : Nat} (hp : k ≤ p) : D k (swapRows A p k) = D k A :=
 D_congr (fun i hi j hj => by unfold swapRows; rw [if_neg (by omega), if_neg (by omega)])
theorem bar_l1 {n : Nat} (hn : n ≤ 7) (R : Int) : ∀ (d kk : Nat) (a : List (List Int)) (A : Nat → Nat → Int) (s : Int), n - kk = d → kk ≤ n → Rect n a → (∀ i j, i < n → j < n → -10 ≤ A i j ∧ A i j ≤ 10) → (s = 1 ∨ s = -1) → s * D n A = R → D kk A ≠ 0 → (∀ i j, kk ≤ i → kk ≤ j → i < n → j < n → mat a i j = B A kk i j) → Ev (fun k => ya0.l1 k n s (D kk A) a n kk) R := by
 intro d
 induction d with
 | zero =>
  intro kk a A s hd hk ha hA hs hR hp hm
  have : kk = n := by omega
  subst this
  have hb := D_bound kk A (fun i j hi hj => hA i j hi hj)
  have b7 := bd_le7 hn
  refine Ev.succ ?_
  simp only [ya0.l1]
  refine Ev.neg (by omega) ((Ev.now _).val ?_)
  rw [← hR]
  exact wrap_id (by rcases hs with rfl | rfl <;> omega)
 | succ d ih =>
  intro kk a A s hd hk ha hA hs hR hp hm
  have hkn : kk < n := by omega
  have hl := ha.len
  have round : ∀ (a1 : List (List Int)) (A1 : Nat → Nat → Int) (s1 : Int), Rect n a1 → (∀ i j, i < n → j < n → -10 ≤ A1 i j ∧ A1 i j ≤ 10) → (s1 = 1 ∨ s1 = -1) → s1 * D n A1 = R → D kk A1 = D kk A → (∀ i j, kk ≤ i → kk ≤ j → i < n → j < n → mat a1 i j = B A1 kk i j) → mat a1 kk kk ≠ 0 → Ev (fun k => ya0.j4 k n s1 (D kk A) a1 kk n kk) R := by
   intro a1 A1 s1 h1 h2 h3 h4 h5 h6 h7
   have hd1 : D (kk + 1) A1 = mat a1 kk kk := by rw [h6 kk kk (by omega) (by omega) hkn hkn, B_diag]
   refine Ev.succ ?_
   simp only [ya0.j4]
   rw [wrap_nat (by omega), ← h5]
   refine bar_l3 hn hkn h2 (by rw [h5]; exact hp) h6 (fun a' ha' hu' => ?_) (n - (kk + 1)) (kk + 1) a1 rfl (by omega) (by omega) h1 (fun p q _ _ => by rw [if_neg (by omega)])
   rw [← hd1]
   refine ih (kk + 1) a' A1 s1 (by omega) (by omega) ha' h2 h3 h4 (by rw [hd1]; exact h7) (fun i j hi hj hin hjn => ?_)
   rw [hu' i j hin hjn, if_pos ⟨by omega, by omega, .inl hin⟩]
  have pv : ∀ (e p : Nat), n - p = e → p ≤ n → kk ≤ p → (∀ q, kk ≤ q → q < p → B A kk q kk = 0) → Ev (fun k => ya0.l2 k n s (D kk A) a kk p n kk) R := by
   intro e
   induction e with
   | zero =>
    intro p he hpn hkp hz
    have h0 : D n A = 0 := B_none A n kk hkn hp (fun i hi hin => hz i hi (by omega))
    refine Ev.succ ?_
    simp only [ya0.l2]
    refine Ev.neg (by omega) (Ev.succ ?_)
    simp only [ya0.j3]
    refine Ev.pos (by omega) ((Ev.now _).val ?_)
    rw [← hR, h0, Int.mul_zero]
   | succ e ihe =>
    intro p he hpn hkp hz
    have hrp := ha.row (i := p) (by omega)
    have hx : rd (rd_L1 a (p : Int)) (kk : Int) = B A kk p kk := hm p kk hkp (by omega) (by omega) hkn
    refine Ev.succ ?_
    simp only [ya0.l2]
    refine Ev.pos (by omega) (Ev.pos (by omega) (Ev.pos (by omega) (Ev.pos (by omega) (Ev.pos (by omega) ?_))))
    rw [hx]
    by_cases h0 : B A kk p kk = 0
    ·refine Ev.pos h0 ?_
     rw [wrap_nat (by omega)]
     refine ihe (p + 1) (by omega) (by omega) (by omega) (fun q h1 h2 => ?_)
     by_cases hq : q = p
     ·rw [hq]; exact h0
     exact hz q h1 (by omega)
    refine Ev.neg h0 (Ev.succ ?_)
    simp only [ya0.j3]
    refine Ev.neg (by omega) ?_
    by_cases hpk : p = kk
    ·subst hpk
     refine Ev.pos rfl ?_
     exact round a A s ha hA hs hR rfl hm (by rw [hm p p (by omega) (by omega) hkn hkn]; exact h0)
    refine Ev.neg (by omega) (Ev.bind0 (a := swp a [] p kk) ?_ ?_)
    ·unfold fake_swap.f
     rw [if_pos (by omega), if_pos (by omega), if_pos (by omega), if_pos (by omega), Int.toNat_natCast, Int.toNat_natCast]
    ·have hs1 : wrap64 (-s) = -s := wrap_id (by rcases hs with rfl | rfl <;> omega)
     rw [hs1]
     have hmm : ∀ i j, kk ≤ i → kk ≤ j → i < n → j < n → mat (swp a [] p kk) i j = B (swapRows A p kk) kk i j := fun i j hi hj hin hjn => by
      rw [B_swap hkp hi]
      unfold mat
      rw [rdL_swp (by omega) (by omega)]
      by_cases h1 : i = kk
      ·rw [if_pos h1, if_neg (by omega), if_pos h1]; exact hm p j hkp hj (by omega) hjn
      rw [if_neg h1]
      by_cases h2 : i = p
      ·rw [if_pos h2, if_pos h2]; exact hm kk j (by omega) hj hkn hjn
      rw [if_neg h2, if_neg h2, if_neg h1]; exact hm i j hi hj hin hjn
     refine round (swp a [] p kk) (swapRows A p kk) (-s) (rect_swp ha (by omega) hkn) (fun i j hi hj => ?_) (by omega) ?_ (D_swap_low hkp) hmm ?_
     ·unfold swapRows
      split
      ·exact hA _ _ hkn hj
      ·split
       ·exact hA _ _ (by omega) hj
       ·exact hA _ _ hi hj
     ·rw [D_swap n A p kk (by omega) hkn hpk, Int.neg_mul_neg]; exact hR
     ·rw [hmm kk kk (by omega) (by omega) hkn hkn, B_swap hkp (by omega), if_neg (by omega), if_pos rfl]
      exact h0
  refine Ev.succ ?_
  simp only [ya0.l1]
  exact Ev.pos (by omega) (pv (n - kk) kk rfl (by omega) (by omega) (fun q h1 h2 => by omega))
theorem bar_l0 {n : Nat} (hn : n ≤ 7) (m : List (List Int)) (h : Sq n m) : ∀ (d i : Nat), n - i = d → i ≤ n → Ev (fun k => ya0.l0 k n 1 1 (m.take i) m n i) (D n (mat m)) := by
 have hl := h.len
 intro d
 induction d with
 | zero =>
  intro i hd hi
  refine Ev.succ ?_
  simp only [ya0.l0]
  refine Ev.neg (by omega) ?_
  rw [List.take_of_length_le (by omega)]
  have := bar_l1 hn (D n (mat m)) n 0 m (mat m) 1 (by omega) (by omega) ⟨hl, fun row hr => (h.rows row hr).1⟩ (fun i j hi hj => h.bnd i j hi hj) (.inl rfl) (by omega) (by show (1 : Int) ≠ 0; decide) (fun i j _ _ _ _ => by
   unfold B
   show _ = sm 1 _
   simp [sm, sg, D])
  exact this
 | succ d ih =>
  intro i hd hi
  have hlt : i < m.length := by omega
  have hrow := h.row (i := i) (by omega)
  refine Ev.succ ?_
  simp only [ya0.l0]
  refine Ev.pos (by omega) (Ev.pos (by omega) (Ev.pos (by omega) (Ev.bind0 (a := rd_L1 m (i : Int)) (by unfold yj1.f; first | rfl | rw [if_pos (by omega)]) (Ev.pos (by simp; omega) ?_))))
  rw [wrap_nat (by omega)]
  have e : m.take i ++ [rd_L1 m (i : Int)] = m.take (i + 1) := by rw [rdL_at hlt, List.take_succ_eq_append_getElem hlt]
  rw [e]
  exact ih (i + 1) (by omega) (by omega)
theorem determinant_ev {n : Nat} (hn : n ≤ 7) (m : List (List Int)) (h : Sq n m) : Ev (fun k => ya0.f k m) (D n (mat m)) := by
 have hl := h.len
 unfold ya0.f
 rw [hl]
 exact bar_l0 hn m h n 0 (by omega) (by omega)
def lexL (g : List (List Int)) (s : Int) : Nat → Nat → List Int → List (List Int)
 | 0, _, r => [r]
 | d + 1, p, r => if (p : Int) = s then lexL g s d (p + 1) r else (List.range (max 1 (rd_L1 g (p : Int)).length)).flatMap fun (k : Nat) => lexL g s d (p + 1) (r.set p (k : Int))
structure Goes (f : Int → Int) (s p q : Int) (m : Nat) : Prop where
 at_ : it f m q = s ∨ p < it f m q
 on : ∀ j, j < m → it f j q ≠ s ∧ it f j q ≤ p ∧ 0 ≤ f (it f j q)
open Classical in
noncomputable def loopsB (g : List (List Int)) (r : List Int) (s p : Int) : Bool := !decide (∃ m, Goes (nx g r) s p p m)
noncomputable def trL (g : List (List Int)) (s : Int) : Nat → Nat → List Int → List (List Int)
 | 0, _, r => [r]
 | d + 1, p, r => if (p : Int) = s then trL g s d (p + 1) r else (List.range (rd_L1 g (p : Int)).length).flatMap fun (k : Nat) => if loopsB g (r.set p (k : Int)) s p then [] else trL g s d (p + 1) (r.set p (k : Int))
theorem nx_congr {g : List (List Int)} {r r2 : List Int} {q : Int} (h : rd r q = rd r2 q) : nx g r q = nx g r2 q := by unfold nx; rw [h]
theorem it_congr {f f2 : Int → Int} {P q : Int} : ∀ (m : Nat), (∀ j, j < m → f (it f j q) = f2 (it f j q)) → it f m q = it f2 m q := by
 intro m
 induction m with
 | zero => intro _; rfl
 | succ m ih =>
  intro h
  rw [it_succ, it_succ, ← ih (fun j hj => h j (by omega)), h m (by omega)]
theorem Goes.congr {f f2 : Int → Int} {s p q : Int} {m : Nat} (h : Goes f s p q m) (he : ∀ x, 0 ≤ x → x ≤ p → f x = f2 x) (h0 : ∀ j, j < m → 0 ≤ it f j q) : Goes f2 s p q m := by
 have e : ∀ j, j ≤ m → it f j q = it f2 j q := fun j hj => it_congr (P := p) j (fun i hi => he _ (h0 i (by omega)) (h.on i (by omega)).2.1)
 refine ⟨by rw [← e m (Nat.le_refl m)]; exact h.at_, fun j hj => ?_⟩
 rw [← e j (by omega), ← he _ (h0 j hj) (h.on j hj).2.1]
 exact h.on j hj
theorem Rot.pos {g : List (List Int)} {rot : List Int} (h : Rot g rot) {q : Int} (h0 : 0 ≤ q) (h1 : q < (g.length : Int)) {m : Nat} (hm : ∀ j, j < m → 0 ≤ nx g rot (it (nx g rot) j q)) : ∀ j, j ≤ m → 0 ≤ it (nx g rot) j q ∧ it (nx g rot) j q < (g.length : Int) := fun j hj => h.it_ok h0 h1 j (fun i hi => hm i (by omega))
theorem rotB_of : ∀ (rot : List Int) (g : List (List Int)), (∀ (i : Nat) (h1 : i < rot.length) (h2 : i < g.length), 0 ≤ rot[i] ∧ (rot[i] < (g[i].length : Int) ∨ rot[i] = 0)) → rotB rot g = true := by
 intro rot
 induction rot with
 | nil => intro g _; unfold rotB; rfl
 | cons r rot ih =>
  intro g h
  cases g with
  | nil => unfold rotB; rfl
  | cons row g =>
   simp only [rotB, Bool.and_eq_true, decide_eq_true_eq]
   refine ⟨?_, ih g (fun i h1 h2 => ?_)⟩
   ·have := h 0 (by simp) (by simp)
    simp only [List.getElem_cons_zero] at this
    split <;> omega
   ·have := h (i + 1) (by simpa using h1) (by simpa using h2)
    simpa using this
theorem Rot.set {g : List (List Int)} {r : List Int} (h : Rot g r) {p : Nat} (hp : p < g.length) {k : Int} (k0 : 0 ≤ k) (k1 : k < ((rd_L1 g (p : Int)).length : Int) ∨ k = 0) : Rot g (r.set p k) := by
 have hl := h.len
 refine ⟨h.good, ?_, by simp [hl]⟩
 refine rotB_of _ _ (fun i h1 h2 => ?_)
 rw [List.getElem_set]
 split
 ·rename_i e
  subst e
  rw [rdL_at hp] at k1
  exact ⟨k0, k1⟩
 ·exact rot_at r g h.rb i (by simpa using h1) h2
theorem rd_set_nat {o : List Int} {p : Nat} (hp : p < o.length) {x v : Int} (hx : 0 ≤ x) : rd (o.set p v) x = if x = (p : Int) then v else rd o x := by
 have := rd_set (o := o) (q := (p : Int)) (x := x) (v := v) (by omega) (by omega) hx
 simpa using this
theorem mem_lexL {g : List (List Int)} (s : Int) : ∀ (d p : Nat) (r r2 : List Int), p + d = g.length → Rot g r → r2 ∈ lexL g s d p r → Rot g r2 ∧ ∀ i : Int, 0 ≤ i → i < (p : Int) → rd r2 i = rd r i := by
 intro d
 induction d with
 | zero =>
  intro p r r2 hp hr hm
  simp only [lexL, List.mem_singleton] at hm
  subst hm
  exact ⟨hr, fun _ _ _ => rfl⟩
 | succ d ih =>
  intro p r r2 hp hr hm
  simp only [lexL] at hm
  by_cases hs : (p : Int) = s
  ·rw [if_pos hs] at hm
   obtain ⟨h1, h2⟩ := ih (p + 1) r r2 (by omega) hr hm
   exact ⟨h1, fun i h0 hi => h2 i h0 (by omega)⟩
  rw [if_neg hs, List.mem_flatMap] at hm
  obtain ⟨k, hk, hm⟩ := hm
  rw [List.mem_range] at hk
  have hrk := hr.set (p := p) (by omega) (k := (k : Int)) (by omega) (by omega)
  obtain ⟨h1, h2⟩ := ih (p + 1) _ r2 (by omega) hrk hm
  refine ⟨h1, fun i h0 hi => ?_⟩
  rw [h2 i h0 (by omega), rd_set_nat (by have := hr.len; omega) h0, if_neg (by omega)]
theorem allFrom_iff {g : List (List Int)} {rot : List Int} {s : Int} : ∀ (d i : Nat), allFrom g rot s d i = true ↔ ∀ j, i ≤ j → j < i + d → ∃ m, Hit (nx g rot) s (j : Int) m := by
 intro d
 induction d with
 | zero => intro i; simp only [allFrom, true_iff]; intro j h1 h2; omega
 | succ d ih =>
  intro i
  simp only [allFrom]
  by_cases h : ∃ m, Hit (nx g rot) s (i : Int) m
  rotate_left
  ·rw [if_pos (by rw [dst_no h]; omega)]
   constructor
   ·intro h; cases h
   ·intro h2; exact absurd (h2 i (Nat.le_refl i) (by omega)) h
  obtain ⟨m, hm⟩ := h
  rw [if_neg (by rw [dst_hit hm]; omega), ih]
  constructor
  ·intro h j h1 h2
   by_cases e : j = i
   ·subst e; exact ⟨m, hm⟩
   exact h j (by omega) (by omega)
  ·intro h j h1 h2; exact h j (by omega) (by omega)
theorem treeB_iff {g : List (List Int)} {rot : List Int} {s : Int} : treeB g rot s = true ↔ ∀ j, j < g.length → ∃ m, Hit (nx g rot) s (j : Int) m := by
 unfold treeB
 rw [allFrom_iff]
 exact ⟨fun h j hj => h j (by omega) (by omega), fun h j _ hj => h j (by omega)⟩
theorem goes_of_hit {f : Int → Int} {s p q : Int} : ∀ (m : Nat), Hit f s q m → ∃ m2, m2 ≤ m ∧ Goes f s p q m2 := by
 intro m h
 have key : ∀ d i, m - i = d → i ≤ m → (∀ j, j < i → it f j q ≠ s ∧ it f j q ≤ p ∧ 0 ≤ f (it f j q)) → ∃ m2, m2 ≤ m ∧ Goes f s p q m2 := by
  intro d
  induction d with
  | zero =>
   intro i hd hi ha
   obtain rfl : i = m := by omega
   exact ⟨i, Nat.le_refl i, .inl h.at_, ha⟩
  | succ d ih =>
   intro i hd hi ha
   by_cases hp : p < it f i q
   ·exact ⟨i, hi, .inr hp, ha⟩
   refine ih (i + 1) (by omega) (by omega) (fun j hj => ?_)
   rcases Nat.lt_or_ge j i with h2 | h2
   ·exact ha j h2
   ·obtain rfl : j = i := by omega
    exact ⟨(h.on j (by omega)).1, by omega, (h.on j (by omega)).2⟩
 exact key m 0 (by omega) (by omega) (fun j hj => by omega)
theorem Goes.append {f : Int → Int} {s p q : Int} {m m2 : Nat} (h : ∀ j, j < m → it f j q ≠ s ∧ it f j q ≤ p ∧ 0 ≤ f (it f j q)) (h2 : Goes f s p (it f m q) m2) : Goes f s p q (m + m2) := by
 refine ⟨by rw [it_add]; exact h2.at_, fun j hj => ?_⟩
 rcases Nat.lt_or_ge j m with h3 | h3
 ·exact h j h3
 ·have := h2.on (j - m) (by omega)
  rw [← it_add, show m + (j - m) = j by omega] at this
  exact this
def Inv (g : List (List Int)) (s : Int) (r : List Int) (p : Nat) : Prop := ∀ q : Int, 0 ≤ q → q < (p : Int) → q ≠ s → ∃ m, Goes (nx g r) s ((p : Int) - 1) q m
theorem filter_flat {α β : Type} (T : β → Bool) (F : α → List β) (xs : List α) : (xs.flatMap F).filter T = xs.flatMap fun x => (F x).filter T := by
 induction xs with
 | nil => rfl
 | cons x xs ih => simp only [List.flatMap_cons, List.filter_append, ih]
theorem flat_congr {α β : Type} {F G : α → List β} : ∀ (xs : List α), (∀ x, x ∈ xs → F x = G x) → xs.flatMap F = xs.flatMap G := by
 intro xs
 induction xs with
 | nil => intro _; rfl
 | cons x xs ih => intro h; simp only [List.flatMap_cons]; rw [h x (by simp), ih (fun y hy => h y (by simp [hy]))]
theorem filter_lexL {g : List (List Int)} {s : Int} (hs0 : 0 ≤ s) (hs1 : s < (g.length : Int)) : ∀ (d p : Nat) (r : List Int), p + d = g.length → Rot g r → Inv g s r p → (lexL g s d p r).filter (fun r => treeB g r s) = trL g s d p r := by
 intro d
 induction d with
 | zero =>
  intro p r hp hr hi
  simp only [lexL, trL]
  rw [List.filter_cons_of_pos]
  ·rfl
  ·rw [treeB_iff]
   intro j hj
   by_cases hjs : (j : Int) = s
   ·exact ⟨0, hjs, fun i hi => by omega⟩
   obtain ⟨m, hm⟩ := hi (j : Int) (by omega) (by omega) hjs
   have hb := hr.pos (q := (j : Int)) (by omega) (by omega) (fun i hi => (hm.on i hi).2.2) m (Nat.le_refl m)
   refine ⟨m, ?_, fun i hi => ⟨(hm.on i hi).1, (hm.on i hi).2.2⟩⟩
   rcases hm.at_ with e | e
   ·exact e
   ·omega
 | succ d ih =>
  intro p r hp hr hi
  simp only [lexL, trL]
  by_cases hs : (p : Int) = s
  ·rw [if_pos hs, if_pos hs]
   refine ih (p + 1) r (by omega) hr (fun q q0 q1 qs => ?_)
   obtain ⟨m, hm⟩ := hi q q0 (by omega) qs
   refine ⟨m, ?_, fun j hj => ⟨(hm.on j hj).1, by have := (hm.on j hj).2.1; omega, (hm.on j hj).2.2⟩⟩
   rcases hm.at_ with e | e
   ·exact .inl e
   ·by_cases e2 : it (nx g r) m q = s
    ·exact .inl e2
    exact .inr (by omega)
  rw [if_neg hs, if_neg hs, filter_flat]
  have hl := hr.len
  by_cases hlen : (rd_L1 g (p : Int)).length = 0
  ·rw [hlen]
   show (List.range 1).flatMap _ = []
   rw [show List.range 1 = [0] from rfl, List.flatMap_cons, List.flatMap_nil, List.append_nil, List.filter_eq_nil_iff]
   intro r2 hm hT
   obtain ⟨m, hh⟩ := treeB_iff.1 hT p (by omega)
   cases m with
   | zero => exact hs hh.at_
   | succ m =>
    have := (hh.on 0 (by omega)).2
    simp only [it] at this
    unfold nx at this
    rw [if_pos (by omega)] at this
    omega
  rw [show max 1 (rd_L1 g (p : Int)).length = (rd_L1 g (p : Int)).length by omega]
  refine flat_congr _ (fun k hk => ?_)
  rw [List.mem_range] at hk
  have hrk := hr.set (p := p) (by omega) (k := (k : Int)) (by omega) (.inl (by omega))
  by_cases hloop : loopsB g (r.set p (k : Int)) s p = true
  ·rw [if_pos hloop, List.filter_eq_nil_iff]
   intro r2 hm hT
   obtain ⟨hr2, hag⟩ := mem_lexL s d (p + 1) _ r2 (by omega) hrk hm
   obtain ⟨m, hh⟩ := treeB_iff.1 hT p (by omega)
   obtain ⟨m2, hm2, hgo⟩ := goes_of_hit (p := (p : Int)) m hh
   have hpos := hr2.pos (q := (p : Int)) (by omega) (by omega) (fun i hi => (hh.on i hi).2)
   have := hgo.congr (f2 := nx g (r.set p (k : Int))) (fun x x0 x1 => nx_congr (hag x x0 (by omega))) (fun j hj => (hpos j (by omega)).1)
   unfold loopsB at hloop
   simp only [Bool.not_eq_true', decide_eq_false_iff_not] at hloop
   exact hloop ⟨m2, this⟩
  rw [if_neg hloop]
  have hgo : ∃ m, Goes (nx g (r.set p (k : Int))) s p p m := by
   unfold loopsB at hloop
   simpa using hloop
  refine ih (p + 1) _ (by omega) hrk (fun q q0 q1 qs => ?_)
  rw [show ((p + 1 : Nat) : Int) - 1 = (p : Int) by omega]
  by_cases hq : q = (p : Int)
  ·rw [hq]; exact hgo
  obtain ⟨m, hm⟩ := hi q q0 (by omega) qs
  have hpos := hr.pos (q := q) q0 (by omega) (fun i hi => (hm.on i hi).2.2)
  have hm2 := hm.congr (f2 := nx g (r.set p (k : Int))) (fun x x0 x1 => nx_congr (by rw [rd_set_nat (by omega) x0, if_neg (by omega)])) (fun j hj => (hpos j (by omega)).1)
  have hon : ∀ j, j < m → it (nx g (r.set p (k : Int))) j q ≠ s ∧ it (nx g (r.set p (k : Int))) j q ≤ p ∧ 0 ≤ nx g (r.set p (k : Int)) (it (nx g (r.set p (k : Int))) j q) := fun j hj => ⟨(hm2.on j hj).1, by have := (hm2.on j hj).2.1; omega, (hm2.on j hj).2.2⟩
  rcases hm2.at_ with e | e
  ·exact ⟨m, .inl e, hon⟩
  ·by_cases e2 : it (nx g (r.set p (k : Int))) m q = (p : Int)
   rotate_left
   ·exact ⟨m, .inr (by omega), hon⟩
   obtain ⟨m3, hg3⟩ := hgo
   exact ⟨m + m3, Goes.append hon (by rw [e2]; exact hg3)⟩
theorem inv0 (g : List (List Int)) (s : Int) (r : List Int) : Inv g s r 0 := fun q h0 h1 => by omega
theorem rot0 {g : List (List Int)} (hg : goodG g = true) : Rot g (List.replicate g.length 0) := by
 refine ⟨hg, rotB_of _ _ (fun i h1 h2 => by simp), by simp⟩
open DetKit
def arrow (f : Nat → Nat) : Nat → Nat → Int := fun i j => (if i = j then 1 else 0) - (if f i = j then 1 else 0)
def nsum : Nat → (Nat → Nat) → Nat
 | 0, _ => 0
 | n + 1, f => nsum n f + f n
theorem nsum_le {n : Nat} {f g : Nat → Nat} (h : ∀ i, i < n → f i ≤ g i) : nsum n f ≤ nsum n g := by
 induction n with
 | zero => exact Nat.le_refl _
 | succ n ih => simp only [nsum]; have := ih (fun i hi => h i (by omega)); have := h n (by omega); omega
theorem nsum_lt {n : Nat} {f g : Nat → Nat} {u : Nat} (h : ∀ i, i < n → f i ≤ g i) (hu : u < n) (hlt : f u < g u) : nsum n f < nsum n g := by
 induction n with
 | zero => omega
 | succ n ih =>
  simp only [nsum]
  by_cases e : u = n
  ·subst e; have := nsum_le (fun i hi => h i (Nat.lt_succ_of_lt hi)); omega
  have := ih (fun i hi => h i (by omega)) (by omega); have := h n (by omega); omega
theorem D_ranked (m : Nat) (h : Nat → Nat) : ∀ (N : Nat) (f : Nat → Nat), (∀ i, i < m → f i < m → h (f i) < h i) → nsum m (fun i => if f i < m then h (f i) + 1 else 0) ≤ N → D m (arrow f) = 1 := by
 intro N
 induction N with
 | zero =>
  intro f hf hN
  have hall : ∀ i, i < m → m ≤ f i := by
   intro i hi
   rcases Nat.lt_or_ge (f i) m with h2 | h2
   ·exfalso
    have := nsum_lt (n := m) (f := fun _ => 0) (g := fun i => if f i < m then h (f i) + 1 else 0) (u := i) (fun _ _ => Nat.zero_le _) hi (by simp only [if_pos h2]; omega)
    omega
   ·exact h2
  rw [← D_one m]
  refine D_congr (fun i hi j hj => ?_)
  have := hall i hi
  simp only [arrow]; rw [if_neg (show ¬ f i = j by omega)]; omega
 | succ N ih =>
  intro f hf hN
  by_cases hall : ∀ i, i < m → m ≤ f i
  ·rw [← D_one m]
   refine D_congr (fun i hi j hj => ?_)
   have := hall i hi
   simp only [arrow]; rw [if_neg (show ¬ f i = j by omega)]; omega
  obtain ⟨u, hu, hw⟩ : ∃ u, u < m ∧ f u < m := by
   apply Classical.byContradiction
   intro hn
   exact hall (fun i hi => by
    rcases Nat.lt_or_ge (f i) m with h2 | h2
    ·exact absurd ⟨i, hi, h2⟩ hn
    ·exact h2)
  have huw := hf u hu hw
  have hne : u ≠ f u := fun e => by rw [← e] at huw; omega
  have e1 : D m (arrow fun i => if i = u then f (f u) else f i) = D m (arrow f) := by
   have l := D_row_lin m u hu (arrow f) 1 1 (arrow f u) (arrow f (f u))
   rw [DetKit.setRow_self, D_rows_eq' m (setRow (arrow f) u (arrow f (f u))) u (f u) hu hw hne (fun c _ => by simp only [setRow]; rw [if_pos trivial, if_neg (Ne.symm hne)])] at l
   rw [← show D m (setRow (arrow f) u (fun j => 1 * arrow f u j + 1 * arrow f (f u) j)) = D m (arrow fun i => if i = u then f (f u) else f i) from D_congr (fun i hi j hj => by
    simp only [setRow]
    by_cases e : i = u
    ·subst e
     simp only [arrow, if_pos]
     omega
    ·simp only [arrow, if_neg e])]
   omega
  rw [← e1]
  refine ih _ (fun i hi h2 => ?_) ?_
  ·by_cases e : i = u
   ·subst e; rw [if_pos rfl] at h2 ⊢; have := hf (f i) hw h2; omega
   rw [if_neg e] at h2 ⊢; exact hf i hi h2
  ·have := nsum_lt (n := m) (f := fun i => if (if i = u then f (f u) else f i) < m then h (if i = u then f (f u) else f i) + 1 else 0) (g := fun i => if f i < m then h (f i) + 1 else 0) (u := u) (fun i hi => by
    by_cases e : i = u
    ·subst e; simp only [if_pos, if_pos hw]
     split
     ·rename_i h3; have := hf (f i) hw h3; omega
     ·omega
    ·simp only [if_neg e]; exact Nat.le_refl _) hu (by
    simp only [if_pos, if_pos hw]
    split
    ·rename_i h3; have := hf (f u) hw h3; omega
    ·omega)
   omega
theorem D_kernel {m : Nat} {A : Nat → Nat → Int} {x : Nat → Int} {c : Nat} (hc : c < m) (hx : x c = 1) (h : ∀ i, i < m → sm m (fun t => x t * A i t) = 0) : D m A = 0 := by
 have l := D_col_sum m c hc A m x (fun t i => A i t)
 have e0 : D m (setCol A c (fun i => sm m (fun t => x t * A i t))) = 0 := by
  rw [← D_transpose]
  refine D_row_zero m c hc _ (fun j hj => ?_)
  simp only [setCol, if_pos]; exact h j hj
 rw [e0, sm_one hc (fun t ht hn => by
  rw [D_cols_eq m _ t c ht hc hn (fun r _ => by simp only [setCol, if_neg hn, if_pos]), Int.mul_zero]), hx, Int.one_mul] at l
 rw [l]
 refine D_congr (fun i hi j hj => ?_)
 simp only [setCol]; split
 ·rename_i e; subst e; rfl
 ·rfl
def usk (s p : Nat) : Nat := if p < s then p else p - 1
theorem skip_usk {s p : Nat} (h : p ≠ s) : skip s (usk s p) = p := by unfold skip usk; (repeat' split) <;> omega
theorem usk_skip (s i : Nat) : usk s (skip s i) = i := by unfold skip usk; (repeat' split) <;> omega
theorem skip_eq {s i j : Nat} : skip s i = skip s j ↔ i = j := ⟨fun h => by rw [← usk_skip s i, h, usk_skip], fun h => by rw [h]⟩
theorem usk_lt {s p n : Nat} (hp : p < n) (hs : s < n) (h : p ≠ s) : usk s p < n - 1 := by unfold usk; split <;> omega
theorem skip_lt' {s i n : Nat} (h : i < n - 1) : skip s i < n := by have := skip_lt (k := s) h; omega
def Lp (g : List (List Int)) (p q : Nat) : Int := sm (rd_L1 g (p : Int)).length (fun k => 1 * ((if p = q then 1 else 0) - (if rd (rd_L1 g (p : Int)) (k : Int) = (q : Int) then 1 else 0)))
theorem rd_cons_succ (x : Int) (row : List Int) (k : Nat) : rd (x :: row) ((k + 1 : Nat) : Int) = rd row (k : Int) := by
 by_cases h : k < row.length
 ·rw [rd_at (by simpa using h), rd_at h, List.getElem_cons_succ]
 simp [rd, h]
theorem decr_rd {q : Nat} : ∀ (row c : List Int), (∀ x ∈ row, 0 ≤ x ∧ x < (c.length : Int)) → q < c.length → rd (decr row c) (q : Int) = rd c (q : Int) - sm row.length (fun k => if rd row (k : Int) = (q : Int) then 1 else 0) := by
 intro row
 induction row with
 | nil => intro c _ _; simp [decr, sm]
 | cons x row ih =>
  intro c h hq
  have hx := h x (by simp)
  simp only [decr]
  rw [ih _ (fun y hy => by have := h y (by simp [hy]); simpa using this) (by simpa using hq), List.length_cons, sm_head]
  have e1 : rd (c.set x.toNat (rd c x - 1)) (q : Int) = if x = (q : Int) then rd c (q : Int) - 1 else rd c (q : Int) := by
   rw [rd_at (by simpa using hq), List.getElem_set, rd_at hq]
   by_cases e : x = (q : Int)
   ·rw [if_pos (by omega), if_pos e, e, rd_at hq]
   rw [if_neg (by omega), if_neg e]
  rw [e1, sm_congr (f := fun i => if rd (x :: row) ((i + 1 : Nat) : Int) = (q : Int) then 1 else 0) (g := fun k => if rd row (k : Int) = (q : Int) then 1 else 0) (fun i _ => by rw [rd_cons_succ])]
  have e2 : rd (x :: row) ((0 : Nat) : Int) = x := by rw [rd_at (by simp)]; rfl
  rw [e2]
  split <;> omega
theorem sm_const (n : Nat) (c : Int) : sm n (fun _ => c) = (n : Int) * c := by
 induction n with
 | zero => simp [sm]
 | succ n ih => simp only [sm]; rw [ih, show ((n + 1 : Nat) : Int) = (n : Int) + 1 by omega, Int.add_mul]; omega
theorem lapRow_rd {g : List (List Int)} (hg : goodG g = true) {p q : Nat} (hp : p < g.length) (hq : q < g.length) : rd (lapRow g p) (q : Int) = Lp g p q := by
 have hrow := (good_iff hg).2 (rd_L1 g (p : Int)) (by rw [rdL_at hp]; exact List.getElem_mem _)
 unfold lapRow Lp
 rw [decr_rd _ _ (fun x hx => by have := hrow.2 x hx; simpa using this) (by simpa using hq)]
 have e : sm (rd_L1 g (p : Int)).length (fun k => 1 * ((if p = q then (1 : Int) else 0) - (if rd (rd_L1 g (p : Int)) (k : Int) = (q : Int) then 1 else 0))) = ((rd_L1 g (p : Int)).length : Int) * (if p = q then (1 : Int) else 0) + (-1) * sm (rd_L1 g (p : Int)).length (fun k => if rd (rd_L1 g (p : Int)) (k : Int) = (q : Int) then 1 else 0) := by
  rw [← sm_const, ← sm_mul, ← sm_add]
  exact sm_congr (fun k _ => by omega)
 rw [e, rd_at (by simpa using hq), List.getElem_set, List.getElem_replicate]
 by_cases h : p = q
 ·rw [if_pos h, if_pos h]; omega
 rw [if_neg h, if_neg h]; omega
theorem lapFrom_row (g : List (List Int)) (s : Nat) : ∀ (d i : Nat) (acc : List (List Int)), acc.length = (if s < i then i - 1 else i) → (∀ t, t < acc.length → rd_L1 acc (t : Int) = (lapRow g (skip s t)).eraseIdx s) → ∀ t, t < (lapFrom g s d i acc).length → rd_L1 (lapFrom g s d i acc) (t : Int) = (lapRow g (skip s t)).eraseIdx s := by
 intro d
 induction d with
 | zero => intro i acc _ ha; simp only [lapFrom]; exact ha
 | succ d ih =>
  intro i acc hl ha
  simp only [lapFrom]
  by_cases h : i = s
  ·rw [if_pos h]
   refine ih (i + 1) acc ?_ ha
   rw [hl]; split <;> split <;> omega
  rw [if_neg h]
  refine ih (i + 1) _ ?_ (fun t ht => ?_)
  ·rw [List.length_append, hl]; simp only [List.length_singleton]; split <;> split <;> omega
  ·rw [List.length_append, List.length_singleton] at ht
   rw [rdL_at (by simp; omega)]
   rcases Nat.lt_or_ge t acc.length with h2 | h2
   ·rw [List.getElem_append_left h2, ← ha t h2, rdL_at h2]
   ·have e : t = acc.length := by omega
    subst e
    rw [List.getElem_append_right (Nat.le_refl _)]
    simp only [Nat.sub_self, List.getElem_cons_zero]
    rw [hl, show skip s (if s < i then i - 1 else i) = i by unfold skip; split <;> split <;> omega]
theorem mat_lap {g : List (List Int)} (hg : goodG g = true) {s i j : Nat} (hs : s < g.length) (hi : i < g.length - 1) (hj : j < g.length - 1) : mat (lap g s) i j = Lp g (skip s i) (skip s j) := by
 have hi2 : skip s i < g.length := skip_lt' hi
 have hj2 : skip s j < g.length := skip_lt' hj
 rw [← lapRow_rd hg hi2 hj2]
 unfold mat
 have hl := (lap_sq hg hs).len
 have := lapFrom_row g s g.length 0 [] (by simp) (fun t ht => by simp at ht) i (by have : (lapFrom g s g.length 0 []).length = _ := hl; omega)
 have e : rd_L1 (lap g s) (i : Int) = (lapRow g (skip s i)).eraseIdx s := this
 rw [e]
 have hlen := lapRow_len g (skip s i)
 rw [rd_at (by rw [List.length_eraseIdx_of_lt (by omega)]; omega), rd_at (by omega), List.getElem_eraseIdx]
 unfold skip
 split <;> rfl
def Nrow (g : List (List Int)) (r : List Int) (p q : Nat) : Int := if nx g r (p : Int) < 0 then 0 else (if p = q then 1 else 0) - (if nx g r (p : Int) = (q : Int) then 1 else 0)
def fx (g : List (List Int)) (r : List Int) (s : Nat) (i : Nat) : Nat := if nx g r (skip s i : Int) = (s : Int) then g.length - 1 else usk s (nx g r (skip s i : Int)).toNat
theorem nrow_arrow {g : List (List Int)} {r : List Int} {s i j : Nat} (hs : s < g.length) (hj : j < g.length - 1) (h : 0 ≤ nx g r (skip s i : Int)) : Nrow g r (skip s i) (skip s j) = arrow (fx g r s) i j := by
 unfold Nrow arrow
 rw [if_neg (by omega)]
 simp only [skip_eq]
 congr 1
 unfold fx
 by_cases e : nx g r (skip s i : Int) = (s : Int)
 ·rw [if_pos e, if_neg (show ¬ g.length - 1 = j by omega), if_neg]
  intro h2; rw [e] at h2; exact skip_ne s j (by omega)
 rw [if_neg e]
 have hk : skip s (usk s (nx g r (skip s i : Int)).toNat) = (nx g r (skip s i : Int)).toNat := skip_usk (by omega)
 by_cases e2 : usk s (nx g r (skip s i : Int)).toNat = j
 ·rw [if_pos e2, if_pos]; rw [← e2, hk]; omega
 rw [if_neg e2, if_neg]
 intro h2
 refine e2 ?_
 rw [h2, Int.toNat_natCast, usk_skip]
theorem Hit.tail {f : Int → Int} {s p : Int} {m : Nat} (h : Hit f s p (m + 1)) : Hit f s (f p) m ∧ 0 ≤ f p := by
 refine ⟨⟨h.at_, fun j hj => ?_⟩, (h.on 0 (by omega)).2⟩
 exact h.on (j + 1) (by omega)
theorem Hit.head {f : Int → Int} {s p : Int} {m : Nat} (h : Hit f s (f p) m) (hp : p ≠ s) (h0 : 0 ≤ f p) : Hit f s p (m + 1) := by
 refine ⟨h.at_, fun j hj => ?_⟩
 cases j with
 | zero => exact ⟨hp, h0⟩
 | succ j => exact h.on j (by omega)
theorem D_tree {g : List (List Int)} {r : List Int} {s : Nat} (hs : s < g.length) (hr : Rot g r) (ht : treeB g r (s : Int) = true) : D (g.length - 1) (fun i j => Nrow g r (skip s i) (skip s j)) = 1 := by
 have ht := treeB_iff.1 ht
 have hc : ∀ i, ∃ m, i < g.length - 1 → Hit (nx g r) (s : Int) (skip s i : Int) m := fun i => by
  by_cases hi : i < g.length - 1
  rotate_left
  ·exact ⟨0, fun h => absurd h hi⟩
  obtain ⟨m, hm⟩ := ht (skip s i) (skip_lt' hi)
  exact ⟨m, fun _ => hm⟩
 obtain ⟨h, hh⟩ := Classical.axiomOfChoice hc
 have hne : ∀ i : Nat, ((skip s i : Nat) : Int) ≠ (s : Int) := fun i e => skip_ne s i (by omega)
 have hpos : ∀ i, i < g.length - 1 → ∃ k, h i = k + 1 ∧ Hit (nx g r) (s : Int) (nx g r (skip s i : Int)) k ∧ 0 ≤ nx g r (skip s i : Int) := by
  intro i hi
  have := hh i hi
  cases e : h i with
  | zero => rw [e] at this; exact absurd this.at_ (hne i)
  | succ k => rw [e] at this; exact ⟨k, rfl, this.tail⟩
 rw [D_congr (B := arrow (fx g r s)) (fun i hi j hj => nrow_arrow hs hj (hpos i hi).choose_spec.2.2)]
 refine D_ranked (g.length - 1) h _ _ (fun i hi hf => ?_) (Nat.le_refl _)
 obtain ⟨k, e, hk, h0⟩ := hpos i hi
 have hns : ¬ nx g r (skip s i : Int) = (s : Int) := by
  intro e2
  unfold fx at hf
  rw [if_pos e2] at hf; omega
 have e3 : fx g r s i = usk s (nx g r (skip s i : Int)).toNat := by unfold fx; rw [if_neg hns]
 have h4 := hh (fx g r s i) hf
 rw [e3, skip_usk (by omega), Int.toNat_of_nonneg h0] at h4
 have := h4.uniq hk
 rw [e3, this, e]; omega
theorem D_notree {g : List (List Int)} {r : List Int} {s : Nat} (hs : s < g.length) (hr : Rot g r) (ht : ¬ treeB g r (s : Int) = true) : D (g.length - 1) (fun i j => Nrow g r (skip s i) (skip s j)) = 0 := by
 obtain ⟨p, hp, hn⟩ : ∃ p, p < g.length ∧ ¬ ∃ m, Hit (nx g r) (s : Int) ((p : Nat) : Int) m := by
  apply Classical.byContradiction
  intro hc
  refine ht (treeB_iff.2 fun j hj => ?_)
  apply Classical.byContradiction
  intro h; exact hc ⟨j, hj, h⟩
 have hps : p ≠ s := fun e => hn ⟨0, by subst e; rfl, fun i hi => by omega⟩
 obtain ⟨x, hx1, hx0⟩ : ∃ x : Nat → Int, (∀ t : Nat, (¬ ∃ m, Hit (nx g r) (s : Int) ((skip s t : Nat) : Int) m) → x t = 1) ∧ (∀ t : Nat, (∃ m, Hit (nx g r) (s : Int) ((skip s t : Nat) : Int) m) → x t = 0) :=
  ⟨fun t => @ite _ (∃ m, Hit (nx g r) (s : Int) ((skip s t : Nat) : Int) m) (Classical.propDecidable _) 0 1, fun t h => if_neg h, fun t h => if_pos h⟩
 refine D_kernel (x := x) (c := usk s p) (usk_lt hp hs hps) (hx1 _ (by rw [skip_usk hps]; exact hn)) (fun i hi => ?_)
 have hne : ((skip s i : Nat) : Int) ≠ (s : Int) := fun e => skip_ne s i (by omega)
 by_cases h0 : nx g r (skip s i : Int) < 0
 ·refine sm_zero (fun t _ => ?_)
  unfold Nrow; rw [if_pos h0, Int.mul_zero]
 rw [sm_congr (g := fun t => x t * (if t = i then 1 else 0) + (-1) * (if fx g r s i = t then x t else 0)) (fun t htl => by
  rw [nrow_arrow hs htl (by omega)]
  unfold arrow
  by_cases e1 : i = t
  ·subst e1; simp only [if_pos]; split <;> simp <;> omega
  ·rw [if_neg e1, if_neg (show ¬ t = i from fun e => e1 e.symm)]; split <;> simp), sm_add, sm_mul, sm_unit _ _ _ hi]
 have hlt := nx_lt hr.good hr.rb hr.len (p := (skip s i : Int)) (by omega) (by have := skip_lt' (s := s) hi; omega)
 by_cases e : nx g r (skip s i : Int) = (s : Int)
 ·rw [hx0 i ⟨1, Hit.head (m := 0) ⟨e, fun j hj => by omega⟩ hne (by omega)⟩, sm_zero (fun t htl => by
   unfold fx; rw [if_pos e, if_neg (by omega)])]
  rfl
 have e3 : fx g r s i = usk s (nx g r (skip s i : Int)).toNat := by unfold fx; rw [if_neg e]
 have hk : skip s (fx g r s i) = (nx g r (skip s i : Int)).toNat := by rw [e3]; exact skip_usk (by omega)
 have hk2 : ((skip s (fx g r s i) : Nat) : Int) = nx g r (skip s i : Int) := by rw [hk]; omega
 have hf : fx g r s i < g.length - 1 := by rw [e3]; exact usk_lt (by omega) hs (by omega)
 rw [sm_one hf (fun t _ hn => if_neg (fun e => hn e.symm)), if_pos rfl]
 have : x i = x (fx g r s i) := by
  by_cases hm : ∃ m, Hit (nx g r) (s : Int) ((skip s i : Nat) : Int) m
  rotate_left
  ·rw [hx1 i hm, hx1 _]
   rintro ⟨m, h2⟩
   rw [hk2] at h2
   exact hm ⟨m + 1, h2.head hne (by omega)⟩
  rw [hx0 i hm]
  obtain ⟨m, hm⟩ := hm
  cases m with
  | zero => exact absurd hm.at_ hne
  | succ m => rw [hx0 _ ⟨m, by rw [hk2]; exact hm.tail.1⟩]
 omega
def St (g : List (List Int)) (s p : Nat) (r : List Int) : Nat → Nat → Int := fun i j => if skip s i < p then Nrow g r (skip s i) (skip s j) else Lp g (skip s i) (skip s j)
theorem flat_len {α : Type} (F : Nat → List α) (n : Nat) : (((List.range n).flatMap F).length : Int) = sm n (fun k => ((F k).length : Int)) := by
 induction n with
 | zero => rfl
 | succ n ih => rw [List.range_succ, List.flatMap_append, List.length_append]; simp only [sm]; rw [← ih]; simp
theorem D_stage {g : List (List Int)} {s : Nat} (hs : s < g.length) : ∀ (d p : Nat) (r : List Int), p + d = g.length → Rot g r → D (g.length - 1) (St g s p r) = (((lexL g (s : Int) d p r).filter (fun r => treeB g r (s : Int))).length : Int) := by
 intro d
 induction d with
 | zero =>
  intro p r hp hr
  simp only [lexL]
  rw [D_congr (B := fun i j => Nrow g r (skip s i) (skip s j)) (fun i hi j hj => by
   simp only [St]; rw [if_pos (by have := skip_lt' (s := s) hi; omega)])]
  by_cases h : treeB g r (s : Int) = true
  ·rw [D_tree hs hr h, List.filter_cons_of_pos (by exact h)]; rfl
  rw [D_notree hs hr h, List.filter_cons_of_neg (by exact h)]; rfl
 | succ d ih =>
  intro p r hp hr
  simp only [lexL]
  by_cases hps : (p : Int) = (s : Int)
  ·rw [if_pos hps, ← ih (p + 1) r (by omega) hr]
   refine D_congr (fun i hi j hj => ?_)
   have := skip_ne s i
   simp only [St]
   by_cases h : skip s i < p
   ·rw [if_pos h, if_pos (by omega)]
   rw [if_neg h, if_neg (by omega)]
  rw [if_neg hps, filter_flat]
  have hps2 : p ≠ s := by omega
  have hu : usk s p < g.length - 1 := usk_lt (by omega) hs hps2
  have hl := hr.len
  by_cases hlen : (rd_L1 g (p : Int)).length = 0
  ·rw [hlen, D_row_zero _ (usk s p) hu _ (fun j hj => by
    simp only [St]; rw [skip_usk hps2, if_neg (by omega)]; unfold Lp; rw [hlen]; rfl)]
   show (0 : Int) = (((List.range 1).flatMap _).length : Int)
   rw [show List.range 1 = [0] from rfl, List.flatMap_cons, List.flatMap_nil, List.append_nil]
   have : ((lexL g (s : Int) d (p + 1) (r.set p ((0 : Nat) : Int))).filter (fun r => treeB g r (s : Int))) = [] := by
    rw [List.filter_eq_nil_iff]
    intro r2 hm hT
    obtain ⟨m, hh⟩ := treeB_iff.1 hT p (by omega)
    cases m with
    | zero => exact hps hh.at_
    | succ m =>
     have := (hh.on 0 (by omega)).2
     simp only [it] at this
     unfold nx at this
     rw [if_pos (by omega)] at this
     omega
   rw [this]; rfl
  rw [show max 1 (rd_L1 g (p : Int)).length = (rd_L1 g (p : Int)).length by omega, flat_len]
  have hrow := (good_iff hr.good).2 (rd_L1 g (p : Int)) (by rw [rdL_at (by omega)]; exact List.getElem_mem _)
  rw [sm_congr (g := fun k => D (g.length - 1) (St g s (p + 1) (r.set p (k : Int)))) (fun k hk => (ih (p + 1) _ (by omega) (hr.set (p := p) (by omega) (k := (k : Int)) (by omega) (.inl (by omega)))).symm)]
  have l := D_row_sum (g.length - 1) (usk s p) hu (St g s p r) (rd_L1 g (p : Int)).length (fun _ => 1) (fun k j => (if p = skip s j then 1 else 0) - (if rd (rd_L1 g (p : Int)) (k : Int) = ((skip s j : Nat) : Int) then 1 else 0))
  rw [← show D (g.length - 1) (setRow (St g s p r) (usk s p) (fun j => sm (rd_L1 g (p : Int)).length (fun k => 1 * ((if p = skip s j then 1 else 0) - (if rd (rd_L1 g (p : Int)) (k : Int) = ((skip s j : Nat) : Int) then 1 else 0))))) = D (g.length - 1) (St g s p r) from D_congr (fun i hi j hj => by
   simp only [setRow]
   by_cases e : i = usk s p
   ·rw [if_pos e]; subst e; simp only [St]; rw [skip_usk hps2, if_neg (Nat.lt_irrefl p)]; rfl
   ·rw [if_neg e]), l]
  refine sm_congr (fun k hk => ?_)
  rw [Int.one_mul]
  refine D_congr (fun i hi j hj => ?_)
  simp only [setRow]
  by_cases e : i = usk s p
  ·rw [if_pos e]; subst e
   simp only [St]
   rw [skip_usk hps2, if_pos (Nat.lt_succ_self p)]
   have e1 : nx g (r.set p (k : Int)) (p : Int) = rd (rd_L1 g (p : Int)) (k : Int) := by
    unfold nx; rw [if_neg (by omega), rd_set_nat (by omega) (by omega), if_pos rfl]
   have := hrow.2 (rd (rd_L1 g (p : Int)) (k : Int)) (by rw [rd_at hk]; exact List.getElem_mem _)
   unfold Nrow
   rw [e1, if_neg (show ¬ rd (rd_L1 g (p : Int)) (k : Int) < 0 by omega)]
  rw [if_neg e]
  have hne : skip s i ≠ p := fun e2 => e (by rw [← e2, usk_skip])
  simp only [St]
  by_cases h : skip s i < p
  rotate_left
  ·rw [if_neg h, if_neg (by omega)]
  rw [if_pos h, if_pos (by omega)]
  unfold Nrow
  rw [nx_congr (r := r.set p (k : Int)) (r2 := r) (by rw [rd_set_nat (by omega) (by omega), if_neg (by omega)])]
theorem trees_det {g : List (List Int)} (hg : goodG g = true) {s : Int} (h0 : 0 ≤ s) (h1 : s < (g.length : Int)) : D (g.length - 1) (mat (lap g s.toNat)) = ((trL g s g.length 0 (List.replicate g.length 0)).length : Int) := by
 have e : ((s.toNat : Nat) : Int) = s := Int.toNat_of_nonneg h0
 have hs : s.toNat < g.length := by omega
 rw [← filter_lexL h0 h1 g.length 0 (List.replicate g.length 0) (by omega) (rot0 hg) (inv0 g s _)]
 have := D_stage hs g.length 0 (List.replicate g.length 0) (by omega) (rot0 hg)
 rw [e] at this
 rw [← this]
 refine D_congr (fun i hi j hj => ?_)
 rw [mat_lap hg hs hi hj]
 simp only [St]
 rw [if_neg (by omega)]
theorem Goes.nodup {f : Int → Int} {s p q : Int} {m : Nat} (h : Goes f s p q m) : (orb f q (m + 1)).Nodup := by
 unfold orb
 rw [List.nodup_iff_pairwise_ne, List.pairwise_map]
 refine List.Pairwise.imp_of_mem ?_ (List.pairwise_lt_range (n := m + 1))
 intro i j hi hj hlt he
 have hj2 : j < m + 1 := List.mem_range.1 hj
 have e : it f (i + (m - j)) q = it f m q := by
  rw [it_add, he, ← it_add, show j + (m - j) = m by omega]
 have := h.on (i + (m - j)) (by omega)
 rw [e] at this
 rcases h.at_ with h2 | h2
 ·exact this.1 h2
 ·omega
theorem Goes.lt {g : List (List Int)} {rot : List Int} (hr : Rot g rot) {s p q : Int} (h0 : 0 ≤ q) (h1 : q < (g.length : Int)) {m : Nat} (h : Goes (nx g rot) s p q m) : m < g.length := by
 have := pigeon g.length _ h.nodup (hr.orb_ok h0 h1 (fun j hj => (h.on j (by omega)).2.2))
 rw [orb_len] at this; omega
theorem loopsL_ev {g : List (List Int)} {rot : List Int} (hr : Rot g rot) {s p : Int} (h0 : 0 ≤ p) (h1 : p < (g.length : Int)) : ∀ (d i : Nat), g.length + 1 - i = d → i ≤ g.length + 1 → (∀ j, j < i → it (nx g rot) j p ≠ s ∧ it (nx g rot) j p ≤ p ∧ 0 ≤ nx g rot (it (nx g rot) j p)) →
  Ev (fun k => loopsL g rot s p k (it (nx g rot) i p) (i : Int)) (loopsB g rot s p) := by
 have h8 := (good_iff hr.good).1.2
 have hno : (¬ ∃ m, Goes (nx g rot) s p p m) → loopsB g rot s p = true := fun h => by unfold loopsB; simp [h]
 have hyes : (∃ m, Goes (nx g rot) s p p m) → loopsB g rot s p = false := fun h => by unfold loopsB; simp [h]
 intro d
 induction d with
 | zero =>
  intro i hd hi ha
  refine Ev.succ ?_
  simp only [loopsL]
  refine Ev.neg (by omega) ((Ev.now _).val ?_)
  symm; apply hno
  rintro ⟨m, hm⟩
  have hlt := hm.lt hr h0 h1
  have := ha m (by omega)
  rcases hm.at_ with e | e
  ·exact this.1 e
  ·omega
 | succ d ih =>
  intro i hd hi ha
  have hp := hr.it_ok h0 h1 i (fun j hj => (ha j hj).2.2)
  refine Ev.succ ?_
  simp only [loopsL]
  refine Ev.pos (by omega) ?_
  by_cases hs : it (nx g rot) i p = s
  ·exact Ev.pos hs ((Ev.now _).val (hyes ⟨i, .inl hs, ha⟩).symm)
  refine Ev.neg hs ?_
  by_cases hq : p < it (nx g rot) i p
  ·exact Ev.pos hq ((Ev.now _).val (hyes ⟨i, .inr hq, ha⟩).symm)
  refine Ev.neg hq (Ev.bind0 (trNext_eq hr.rb hr.len hp.1 hp.2) ?_)
  by_cases hneg : nx g rot (it (nx g rot) i p) < 0
  rotate_left
  ·refine Ev.neg hneg ?_
   rw [← it_succ (nx g rot) i p, wrap_nat (by omega)]
   exact ih (i + 1) (by omega) (by omega) (fun j hj => by
    rcases Nat.lt_or_ge j i with h2 | h2
    ·exact ha j h2
    ·obtain rfl : j = i := by omega
     exact ⟨hs, by omega, by omega⟩)
  refine Ev.pos hneg ((Ev.now _).val ?_)
  symm; apply hno
  rintro ⟨m, hm⟩
  rcases Nat.lt_trichotomy m i with h2 | h2 | h2
  ·have := ha m h2
   rcases hm.at_ with e | e
   ·exact this.1 e
   ·omega
  ·subst h2
   rcases hm.at_ with e | e
   ·exact hs e
   ·omega
  ·have := (hm.on i h2).2.2; omega
theorem own_lk (l : List Int) (h : l.length ≤ 1048576) : yf1.f l = some l := by
 unfold yf1.f
 show (if ([] : List Int).length + l.length < 17592186044416 then some ([] ++ l) else none) = some l
 rw [if_pos (by simp; omega)]; rfl
def Zr (r : List Int) (p : Nat) : Prop := ∀ i : Nat, p ≤ i → i < r.length → rd r (i : Int) = 0
theorem Zr.set0 {r : List Int} {p : Nat} (h : Zr r p) (hp : p < r.length) : r.set p 0 = r := by
 have := h p (Nat.le_refl p) hp
 rw [rd_at hp] at this
 apply List.ext_getElem (by simp)
 intro i h1 h2
 rw [List.getElem_set]
 split
 ·rename_i e; subst e; exact this.symm
 ·rfl
theorem Zr.up {r : List Int} {p : Nat} (h : Zr r p) (hp : p < r.length) (k : Int) : Zr (r.set p k) (p + 1) := by
 intro i h1 h2
 rw [rd_set_nat hp (by omega), if_neg (by omega)]
 exact h i (by omega) (by simpa using h2)
theorem lookF_ev {g : List (List Int)} {s : Int} (most : Nat) (hm : most ≤ 1000) : ∀ (d p : Nat) (r : List Int) (found : List (List Int)), p + d = g.length → Rot g r → Zr r p → found.length ≤ most + 1 →
  Ev (fun k => lookF g s most k none (p : Int) r found) (r, (found ++ trL g s d p r).take (most + 1)) := by
 intro d
 induction d with
 | zero =>
  intro p r found hp hr hz hf
  have h8 := (good_iff hr.good).1.2
  have hl := hr.len
  refine Ev.succ ?_
  simp only [lookF]
  by_cases h : (most : Int) < (found.length : Int)
  ·refine Ev.pos h ((Ev.now _).val ?_)
   rw [List.take_append_of_le_length (by omega), List.take_of_length_le (by omega)]
  refine Ev.neg h (Ev.pos (by omega) (Ev.bind0 (own_lk r (by omega)) (Ev.pos (by omega) ((Ev.now _).val ?_))))
  simp only [trL]
  rw [List.take_of_length_le (by simp; omega)]
 | succ d ih =>
  intro p r found hp hr hz hf
  have h8 := (good_iff hr.good).1.2
  have hl := hr.len
  refine Ev.succ ?_
  simp only [lookF]
  by_cases h : (most : Int) < (found.length : Int)
  ·refine Ev.pos h ((Ev.now _).val ?_)
   rw [List.take_append_of_le_length (by omega), List.take_of_length_le (by omega)]
  refine Ev.neg h (Ev.neg (by omega) ?_)
  simp only [trL]
  by_cases hs : (p : Int) = s
  ·rw [if_pos hs]
   refine Ev.pos hs ?_
   rw [wrap_nat (by omega)]
   exact ih (p + 1) r found (by omega) hr (fun i h1 h2 => hz i (by omega) h2) hf
  rw [if_neg hs]
  refine Ev.neg hs (Ev.pos (by omega) (Ev.pos (by omega) ?_))
  have h5 := ((good_iff hr.good).2 (rd_L1 g (p : Int)) (by rw [rdL_at (by omega)]; exact List.getElem_mem _)).1
  have key : ∀ e j (x : Int) (found : List (List Int)), (rd_L1 g (p : Int)).length - j = e → j ≤ (rd_L1 g (p : Int)).length → (x = 0 ∨ x < ((rd_L1 g (p : Int)).length : Int)) → 0 ≤ x → found.length ≤ most + 1 →
    Ev (fun k => lookF g s most k (some (j : Int)) (p : Int) (r.set p x) found) (r, (found ++ ((List.range (rd_L1 g (p : Int)).length).drop j).flatMap fun (k : Nat) => if loopsB g (r.set p (k : Int)) s p then [] else trL g s d (p + 1) (r.set p (k : Int))).take (most + 1)) := by
   intro e
   induction e with
   | zero =>
    intro j x found he hj hx hx0 hf
    refine Ev.succ ?_
    simp only [lookF]
    refine Ev.neg (by omega) (Ev.pos (by simp; omega) ((Ev.now _).val ?_))
    rw [Int.toNat_natCast, List.set_set, hz.set0 (by omega), List.drop_eq_nil_of_le (by simp; omega), List.flatMap_nil, List.append_nil, List.take_of_length_le hf]
   | succ e ihe =>
    intro j x found he hj hx hx0 hf
    have hd : (List.range (rd_L1 g (p : Int)).length).drop j = j :: (List.range (rd_L1 g (p : Int)).length).drop (j + 1) := by
     rw [List.drop_eq_getElem_cons (by simp; omega)]; simp
    rw [hd, List.flatMap_cons]
    have hrj : Rot g (r.set p (j : Int)) := hr.set (by omega) (by omega) (.inl (by omega))
    refine Ev.succ ?_
    simp only [lookF]
    refine Ev.pos (by omega) (Ev.pos (by simp; omega) ?_)
    rw [Int.toNat_natCast, List.set_set, wrap_nat (by omega)]
    have hlo := loopsL_ev hrj (s := s) (p := (p : Int)) (by omega) (by omega) (g.length + 1) 0 (by omega) (by omega) (fun j hj => by omega)
    refine Ev.bind hlo ?_
    by_cases hb : loopsB g (r.set p (j : Int)) s p = true
    ·rw [if_pos hb, List.nil_append]
     exact Ev.pos hb (ihe (j + 1) _ found (by omega) (by omega) (.inr (by omega)) (by omega) hf)
    rw [if_neg hb]
    refine Ev.neg hb ?_
    rw [wrap_nat (by omega)]
    refine Ev.bind (ih (p + 1) (r.set p (j : Int)) found (by omega) hrj (hz.up (by omega) _) hf) ?_
    refine (ihe (j + 1) _ _ (by omega) (by omega) (.inr (by omega)) (by omega) (by rw [List.length_take]; omega)).val ?_
    rw [← List.append_assoc, List.take_append (l₁ := found ++ trL g s d (p + 1) (r.set p (j : Int)))]
    rw [List.take_append (l₁ := (found ++ trL g s d (p + 1) (r.set p (j : Int))).take (most + 1)), List.take_take, Nat.min_self]
    congr 3
    rw [List.length_take]
    omega
  have := key (rd_L1 g (p : Int)).length 0 0 found (by omega) (by omega) (.inl rfl) (by omega) hf
  rw [hz.set0 (by omega)] at this
  simpa using this
theorem zr0 (n : Nat) : Zr (List.replicate n 0) 0 := by
 intro i _ h
 rw [rd_at h]
 simp
theorem trAll_ev {g : List (List Int)} (hg : goodG g = true) (s : Int) (most : Nat) (hm : most ≤ 1000) : Ev (fun k => yh1.f k g s most) ((trL g s g.length 0 (List.replicate g.length 0)).take (most + 1)) := by
 have h8 := (good_iff hg).1
 unfold yh1.f
 refine Ev.pos (by omega) (Ev.pos (by omega) (Ev.bind (lookF_ev most hm g.length 0 _ [] (by omega) (rot0 hg) (zr0 _) (by simp)) ((Ev.now _).val ?_)))
 rw [List.nil_append]
end Go.Proofs.Ytlbgajpbdbgmkaa.M
