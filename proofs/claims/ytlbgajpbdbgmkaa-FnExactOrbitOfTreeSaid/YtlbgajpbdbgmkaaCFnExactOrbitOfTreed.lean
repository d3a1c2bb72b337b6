/- Texts of this session on the way to the law FnExactOrbitOfTree, part 4: words of the print, walks, plain laws; only what the law's proof uses. -/
import Derived.Test.YtlbgajpbdbgmkaaCFnExactOrbitOfTreea
import Derived.Test.YtlbgajpbdbgmkaaCFnExactOrbitOfTreec
import Derived.Test.YtlbgajpbdbgmkaaCFnExactOrbitOfTreeb
namespace Go.Proofs.Ytlbgajpbdbgmkaa.P
set_option maxHeartbeats 8000000
set_option maxRecDepth 100000
open Go.RowKit Go.Proofs.YtlbgajpbdbgmkaaW.PrintWords Go.Proofs.YtlbgajpbdbgmkaaW.PrintLast Go.Proofs.YtlbgajpbdbgmkaaW.PrintMore
attribute [local go_sem] zw0 zv0 zz0 zy0 zs0 zq0 zu0 zx0
set_option linter.unusedVariables false
set_option linter.unusedSimpArgs false
structure PtSt (w0 w1 w : World) (Ba B nb n cap : Nat) (A0 : Option Addr) (m c0 : Nat) (s : Int) (rot : List Int) (p : Int) (v : Value) (out : List Int) : Prop where
 wk : WkSt w0 w w B nb n cap rot p
 hk : Kept w1 w (fun k => k = nb)
 hB : w1.heap.size ≤ B
 ba : w.heap[Ba]? = some (.cells #[.slice A0 m c0, .int .i64 s] 71 (0, 0))
 ot : Kd.R (Kd.int .i64) 3 w w0.heap.size (fun k => k ≠ nb ∧ w1.heap.size ≤ k) v out
section
variable {w0 w1 w w2 : World} {Ba B nb n cap : Nat} {A0 : Option Addr} {m c0 : Nat} {s : Int} {rot rot2 : List Int} {p p2 : Int} {v v2 : Value} {out out2 : List Int}
theorem PtSt.drew (h : PtSt w0 w1 w Ba B nb n cap A0 m c0 s rot p v out) : PtSt w0 w1 w.drew Ba B nb n cap A0 m c0 s rot p v out :=
 ⟨⟨below_drew h.wk.hb, Kept.refl _ _, h.wk.hn, h.wk.cap_, h.wk.bk, Kd.R_drew h.wk.rt, h.wk.ge⟩, h.hk.drew, h.hB, h.ba, Kd.R_drew h.ot⟩
theorem PtSt.ne (h : PtSt w0 w1 w Ba B nb n cap A0 m c0 s rot p v out) : Ba ≠ nb ∧ Ba ≠ B :=
 ⟨fun e => Kd.R_ne h.wk.rt h.ba (by decide) (by rw [e]; rfl), blk_ne h.ba h.wk.bk (by decide)⟩
theorem PtSt.step (h : PtSt w0 w1 w Ba B nb n cap A0 m c0 s rot p v out) (k : WkSt w0 w w2 B nb n cap rot2 p2) : PtSt w0 w1 w2 Ba B nb n cap A0 m c0 s rot2 p2 v out :=
 ⟨⟨k.hb, Kept.refl _ _, k.hn, k.cap_, k.bk, k.rt, k.ge⟩, h.hk.then_ k.hk (fun j hj => hj.elim .inl (fun e => .inr (by rw [e]; exact h.hB))), h.hB, blk_kept h.ba k.hk (fun e => e.elim h.ne.1 h.ne.2),
  Kd.R_mono (Kd.R_kept (Kd.R_types h.ot h.wk.bk (by decide)) k.hk (fun j hj e => e.elim hj.1.1 hj.2)) (fun _ hj => hj.1)⟩
theorem PtSt.grow (h : PtSt w0 w1 w Ba B nb n cap A0 m c0 s rot p v out) (hb : Below w0.heap.size w0 w2) (hg : w.grownBy w2 v.ownBlock) (hat : v2.ownBlock = v.ownBlock ∨ ∃ b, v2.ownBlock = some b ∧ w.heap.size ≤ b)
  (ot : Kd.R (Kd.int .i64) 3 w2 w0.heap.size (fun k => k ≠ nb ∧ w1.heap.size ≤ k) v2 out2) : PtSt w0 w1 w2 Ba B nb n cap A0 m c0 s rot p v2 out2 :=
 ⟨⟨hb, Kept.refl _ _, h.wk.hn, h.wk.cap_, blk_grown h.wk.bk hg (Kd.R_ne h.ot h.wk.bk (by decide)), Kd.R_grown h.wk.rt hg (fun k hk e => (h.ot.1 k e.symm).1 hk), h.wk.ge⟩,
  Kept.of_grown hg h.hk (fun k hk => .inr (h.ot.1 k hk).2), h.hB, blk_grown h.ba hg (Kd.R_ne h.ot h.ba (by decide)), ot⟩
end
def pathL (l : List (List Int)) (s most : Int) : Nat → List Int → Int → List Int → Option (List Int × List Int × Bool)
 | 0, _, _, _ => none
 | k + 1, rot, p, out => if p = s then some (rot, out, true) else (if most < (out.length : Int) then some (rot, [], false) else ((stepL l rot p).bind fun t => if out.length < 17592186044416 then pathL l s most k t.1 t.2 (out ++ [t.2]) else none))
theorem ym2.calls (k : Nat) (l : List (List Int)) (A0 : Option Addr) (c0 Ba nb n cap : Nat) (s : Int) (rot : List Int) (p most : Int) (r1 r2 : List Int) (r3 : Bool) (w0 w : World) (hr0 : Kd.C (Kd.slice 3 (Kd.int .i64)) w0 A0 l.length l) (hc0 : l.length ≤ c0)
  (hb : Below w0.heap.size w0 w) (ba : w.heap[Ba]? = some (.cells #[.slice A0 l.length c0, .int .i64 s] 71 (0, 0))) (hn : n = rot.length) (hcap : n ≤ cap) (rt : Kd.R (Kd.int .i64) 3 w w0.heap.size (fun k => k = nb) (.slice (some ⟨nb, 0, none⟩) n cap) rot) (h : pathL l s most k rot p [p] = some (r1, r2, r3)) :
  Calls Try.prog 34 #[.pointer (some ⟨Ba, 0, none⟩), .slice (some ⟨nb, 0, none⟩) n cap, .int .i64 p, .int .i64 most] w fun e w' => ∃ v, e = .returned (.tuple #[v, .bool r3]) ∧ Kd.R (Kd.int .i64) 3 w' w0.heap.size (fun k => k ≠ nb ∧ w.heap.size ≤ k) v r2 ∧
   Kd.R (Kd.int .i64) 3 w' w0.heap.size (fun k => k = nb) (.slice (some ⟨nb, 0, none⟩) n cap) r1 ∧ Below w0.heap.size w0 w' ∧ Kept w w' (fun k => k = nb) := by
 have hu1 := Try.underlying29
 have hu2 := Try.underlying63
 have hu3 := Try.underlying71
 subst hn
 have HR0 := za0.mk hr0
 have HC0 := za0.mk hc0
 have H' := za0.mk h
 have HB := za0.mk hb
 have BA := za0.mk ba
 have RT := za0.mk rt
 have HCP := za0.mk hcap
 have HNB := za0.mk (Kd.R_lt rt nb rfl)
 clear hr0 hc0 h hb ba rt hcap
 go_enter Try.func34, Try.ntmps34
 go_wp2_with (first | ((with_reducible refine zo0 (N := 16) rfl ?_); refine Kd.R_lit (Kd.int .i64) _ 3 ?hg (N := 16) ?hd (xs := ([p] : List Int)) (inner := [.int .i64 p]) (ok := fun _ => True) (okp := fun _ => True) ?hr ?hp (fun _ hk => hk) trivial (Below.refl _ _) (Nat.le_refl _) (by simp) ?_; (case hd | hg => rfl); (case hr => go_simp <;> rfl); (case hp => exact (Reps.one (show Kd.M (Kd.int .i64) _ _ _ p [.int .i64 p] from rfl) (Reps.none _ _))); intro v16 w16 ho hb hg_ hnew_; clear hg_ hnew_; have OT := za0.mk (Kd.R_lower (Kd.R_mono (ok' := fun k => k ≠ nb ∧ w.heap.size ≤ k) (Kd.R_bound ho) (fun k hk => ⟨fun e => by have h1 := hk.2.1; have h2 := HNB.1; rw [e] at h1; exact absurd h1 (Nat.not_le.2 h2), hk.2.1⟩)) HB.1.size); have n0_ := za0.mk (zi0 HB.1 hb); have n1_ := za0.mk (zm0 BA.1 hb); have n2_ := za0.mk (Kd.R_below RT.1 hb); have HK := za0.mk (Kept.of_below hb (fun k => k = nb)); have HSZ := za0.mk hb.size; clear HB BA RT ho hb; have HB := n0_; have BA := n1_; have RT := n2_; clear n0_ n1_ n2_) | ((with_reducible refine zo0 (N := 10) rfl ?_); refine zp0 ?hg (N := 10) ?hd (cs := #[.slice none 0 0, .int .i64 0]) (t := 63) ?hr ?_; (case hd | hg => rfl); (case hr => go_simp <;> rfl); intro B hg w17 hbox hb; have GE := za0.mk (show w.heap.size ≤ B ∧ w0.heap.size ≤ B from ⟨by rw [hg]; exact HSZ.1, by rw [hg]; exact HB.1.size⟩); have BX := za0.mk hbox; have n0_ := za0.mk (zi0 HB.1 hb); have n1_ := za0.mk (zm0 BA.1 hb); have n2_ := za0.mk (Kd.R_below RT.1 hb); have n3_ := za0.mk (Kd.R_below OT.1 hb); have n4_ := za0.mk (HK.1.below hb); clear HB BA RT OT HK HSZ hbox hb hg; have HB := n0_; have BA := n1_; have RT := n2_; have OT := n3_; have HK := n4_; clear n0_ n1_ n2_ n3_ n4_; have hcz0 : w17.cell? ⟨B, 0, none⟩ = some (.slice none 0 0) := (zl0 BX.1 0).trans rfl; have hcz1 : w17.cell? ⟨B, 1, none⟩ = some (.int .i64 0) := (zl0 BX.1 1).trans rfl; have hfz0 := zk0 BX.1 0; have hfz1 := zk0 BX.1 1))
 have WK := za0.mk (show WkSt w0 w ((w17.setCell ⟨B, 0, none⟩ (.slice (some ⟨nb, 0, none⟩) rot.length cap)).setCell ⟨B, 1, none⟩ (.int .i64 p)) B nb rot.length cap rot p from ⟨ze0 (ze0 HB.1 GE.1.2) GE.1.2, ((HK.1.mono (fun _ h_ => .inl h_)).setCell (.inl (.inr rfl)) _).setCell (.inl (.inr rfl)) _, rfl, HCP.1, (blk_putA ((blk_putA BX.1).trans rfl)).trans rfl, Kd.R_set (Kd.R_set RT.1 BX.1 (by decide) 0 _) ((blk_putA BX.1).trans rfl) (by decide) 1 _, GE.1.2⟩)
 have NEB := za0.mk (blk_ne BA.1 BX.1 (by decide))
 have ST := za0.mk (show PtSt w0 w ((w17.setCell ⟨B, 0, none⟩ (.slice (some ⟨nb, 0, none⟩) rot.length cap)).setCell ⟨B, 1, none⟩ (.int .i64 p)) Ba B nb rot.length cap A0 l.length c0 s rot p v16 [p] from
  ⟨⟨WK.1.hb, Kept.refl _ _, rfl, HCP.1, WK.1.bk, WK.1.rt, GE.1.2⟩, ((HK.1.setCell (.inr GE.1.1) _).setCell (.inr GE.1.1) _), GE.1.1, (Below.heap_setCell _ ⟨B, 1, none⟩ _ Ba NEB.1).trans ((Below.heap_setCell _ ⟨B, 0, none⟩ _ Ba NEB.1).trans BA.1), Kd.R_set (Kd.R_set OT.1 BX.1 (by decide) 0 _) ((blk_putA BX.1).trans rfl) (by decide) 1 _⟩)
 clear WK NEB OT BX BA RT HB HK hcz0 hcz1 hfz0 hfz1
 go_loopg [11] k (fun kq v11 w' => ∃ (rot' : List Int) (p' : Int) (out' : List Int), za0 (pathL l s most kq rot' p' out' = some (r1, r2, r3)) ∧ za0 (kq ≤ k) ∧ za0 (PtSt w0 w w' Ba B nb rot.length cap A0 l.length c0 s rot' p' v11 out'))
 case atStart => exact ⟨rot, p, [p], H', ⟨Nat.le_refl _⟩, ST⟩
 case round =>
  clear H' ST
  obtain ⟨rt, p, out, HA, HK1, ST0⟩ := hrel
  have HN := za0.mk ST0.1.wk.hn
  obtain ⟨Ao, co, eo⟩ := Kd.R_slice ST0.1.ot
  subst eo
  obtain _ | k1 := gk
  ·exact absurd HA.1 (by simp [pathL])
  have H := HA.1
  clear HA
  simp only [pathL] at H
  have ST := za0.mk ST0.1.drew
  have hcp : wr.drew.cell? ⟨B, 1, none⟩ = some (.int .i64 p) := (zl0 ST.1.wk.bk 1).trans rfl
  have hcs : wr.drew.cell? ⟨Ba, 1, none⟩ = some (.int .i64 s) := (zl0 ST.1.ba 1).trans rfl
  clear ST0
  by_cases c1 : p = s
  ·rw [if_pos c1] at H
   have c1b0 : (p == s) = true := beq_iff_eq.mpr c1
   have c1b1 : (p != s) = false := bne_eq_false_iff_eq.mpr c1
   clear c1
   simp only [Option.some.injEq, Prod.mk.injEq] at H
   obtain ⟨rfl, rfl, rfl⟩ := H
   go_wp2
   refine start_ (n := 7) (S := fun w' => w'.cell? ⟨B, 1, none⟩ = some (.int .i64 p) ∧ w'.cell? ⟨Ba, 1, none⟩ = some (.int .i64 s)) (ds := []) #[false, false, false, false, false, false, false] (by kernel_rfl) rfl rfl ⟨hcp, hcs⟩ (fun hHeld => ?_)
   generalize wr.drew = w3 at ST hcp hcs hHeld ⊢
   refine pu 0 (some 17) (v := ?_) (a' := ?_) (bf 7 1) ?_ ?_ ?_
   rotate_left
   ·intro w'; go_simp; with_reducible rfl
   rotate_left
   ·simp only [Act.put, zA, zB, zC, i64_w, i32_w]; rfl
   refine take_ (i := 1) (N := some 18) (v := ?_) (a' := ?_) (bf 7 3) rfl rfl (by kernel_rfl) (fun _ _ _ h => h) (Or.inl ⟨by rfl, ?_⟩) hHeld ?_ ?_
   rotate_left
   ·rintro w' ⟨s0, s1⟩; go_simp; with_reducible rfl
   rotate_left
   ·simp only [Act.put, zA, zB, zC, i64_w, i32_w]; rfl
   refine pu 2 (some 19) (v := ?_) (a' := ?_) (bf 7 7) ?_ ?_ ?_
   rotate_left
   ·intro w'; go_simp; with_reducible rfl
   rotate_left
   ·simp only [Act.put, zA, zB, zC, i64_w, i32_w]; rfl
   refine pu 3 (some 20) (v := ?_) (a' := ?_) (bf 7 15) ?_ ?_ ?_
   rotate_left
   ·intro w'; go_simp; with_reducible rfl
   rotate_left
   ·simp only [Act.put, zA, zB, zC, i64_w, i32_w]; rfl
   refine pu 4 (some 21) (v := ?_) (a' := ?_) (bf 7 31) ?_ ?_ ?_
   rotate_left
   ·intro w'; go_simp; with_reducible rfl
   rotate_left
   ·simp only [Act.put, zA, zB, zC, i64_w, i32_w]; rfl
   refine take_ (i := 5) (N := some 22) (v := ?_) (a' := ?_) (bf 7 63) rfl rfl (by kernel_rfl) (fun _ _ _ h => h) (Or.inl ⟨by rfl, ?_⟩) hHeld ?_ ?_
   rotate_left
   ·rintro w' ⟨s0, s1⟩; go_simp; with_reducible rfl
   rotate_left
   ·simp only [Act.put, zA, zB, zC, i64_w, i32_w]; rfl
   refine pu 6 (some 23) (v := ?_) (a' := ?_) (bf 7 127) ?_ ?_ ?_
   rotate_left
   ·intro w'; go_simp; with_reducible rfl
   rotate_left
   ·simp only [Act.put, zA, zB, zC, i64_w, i32_w]; rfl
   refine done_ (by kernel_rfl) ?_
   go_wp2
   go_ret2
   exact ⟨_, by first | rfl | (simp; done), ST.1.ot, ST.1.wk.rt, ST.1.wk.hb, ST.1.hk⟩
  rw [if_neg c1] at H
  have c1b0 : (p == s) = false := beq_eq_false_iff_ne.mpr c1
  have c1b1 : (p != s) = true := bne_iff_ne.mpr c1
  clear c1
  by_cases c2 : most < (out.length : Int)
  ·rw [if_pos c2] at H
   have c2b0 : decide (most < (out.length : Int)) = true := decide_eq_true c2
   clear c2
   simp only [Option.some.injEq, Prod.mk.injEq] at H
   obtain ⟨rfl, rfl, rfl⟩ := H
   go_wp2
   refine start_ (n := 7) (S := fun w' => w'.cell? ⟨B, 1, none⟩ = some (.int .i64 p) ∧ w'.cell? ⟨Ba, 1, none⟩ = some (.int .i64 s)) (ds := []) #[false, false, false, false, false, false, false] (by kernel_rfl) rfl rfl ⟨hcp, hcs⟩ (fun hHeld => ?_)
   generalize wr.drew = w3 at ST hcp hcs hHeld ⊢
   refine pu 0 (some 17) (v := ?_) (a' := ?_) (bf 7 1) ?_ ?_ ?_
   rotate_left
   ·intro w'; go_simp; with_reducible rfl
   rotate_left
   ·simp only [Act.put, zA, zB, zC, i64_w, i32_w]; rfl
   refine take_ (i := 1) (N := some 18) (v := ?_) (a' := ?_) (bf 7 3) rfl rfl (by kernel_rfl) (fun _ _ _ h => h) (Or.inl ⟨by rfl, ?_⟩) hHeld ?_ ?_
   rotate_left
   ·rintro w' ⟨s0, s1⟩; go_simp; with_reducible rfl
   rotate_left
   ·simp only [Act.put, zA, zB, zC, i64_w, i32_w]; rfl
   refine pu 2 (some 19) (v := ?_) (a' := ?_) (bf 7 7) ?_ ?_ ?_
   rotate_left
   ·intro w'; go_simp; with_reducible rfl
   rotate_left
   ·simp only [Act.put, zA, zB, zC, i64_w, i32_w]; rfl
   refine pu 3 (some 20) (v := ?_) (a' := ?_) (bf 7 15) ?_ ?_ ?_
   rotate_left
   ·intro w'; go_simp; with_reducible rfl
   rotate_left
   ·simp only [Act.put, zA, zB, zC, i64_w, i32_w]; rfl
   refine pu 4 (some 21) (v := ?_) (a' := ?_) (bf 7 31) ?_ ?_ ?_
   rotate_left
   ·intro w'; go_simp; with_reducible rfl
   rotate_left
   ·simp only [Act.put, zA, zB, zC, i64_w, i32_w]; rfl
   refine take_ (i := 5) (N := some 22) (v := ?_) (a' := ?_) (bf 7 63) rfl rfl (by kernel_rfl) (fun _ _ _ h => h) (Or.inl ⟨by rfl, ?_⟩) hHeld ?_ ?_
   rotate_left
   ·rintro w' ⟨s0, s1⟩; go_simp; with_reducible rfl
   rotate_left
   ·simp only [Act.put, zA, zB, zC, i64_w, i32_w]; rfl
   refine pu 6 (some 23) (v := ?_) (a' := ?_) (bf 7 127) ?_ ?_ ?_
   rotate_left
   ·intro w'; go_simp; with_reducible rfl
   rotate_left
   ·simp only [Act.put, zA, zB, zC, i64_w, i32_w]; rfl
   refine done_ (by kernel_rfl) ?_
   go_wp2
   go_ret2
   exact ⟨_, by first | rfl | (simp; done), Kd.R_nil _ _ _ _ _, ST.1.wk.rt, ST.1.wk.hb, ST.1.hk⟩
  rw [if_neg c2] at H
  have c2b0 : decide (most < (out.length : Int)) = false := decide_eq_false c2
  clear c2
  replace H := Option.bind_eq_some_iff.mp H
  obtain ⟨⟨rt2, p2⟩, A90, H⟩ := H
  have A9 := za0.mk A90
  clear A90
  replace H : (if out.length < 17592186044416 then pathL l s most k1 rt2 p2 (out ++ [p2]) else none) = some (r1, r2, r3) := H
  by_cases c3 : out.length < 17592186044416
  rotate_left
  ·rw [if_neg c3] at H; exact absurd H (by simp)
  rw [if_pos c3] at H
  have LM := za0.mk c3
  have H' := za0.mk H
  clear H c3
  go_wp2
  refine start_ (n := 7) (S := fun w' => w'.cell? ⟨B, 1, none⟩ = some (.int .i64 p) ∧ w'.cell? ⟨Ba, 1, none⟩ = some (.int .i64 s)) (ds := []) #[false, false, false, false, false, false, false] (by kernel_rfl) rfl rfl ⟨hcp, hcs⟩ (fun hHeld => ?_)
  generalize wr.drew = w3 at ST hcp hcs hHeld ⊢
  refine pu 0 (some 17) (v := ?_) (a' := ?_) (bf 7 1) ?_ ?_ ?_
  rotate_left
  ·intro w'; go_simp; with_reducible rfl
  rotate_left
  ·simp only [Act.put, zA, zB, zC, i64_w, i32_w]; rfl
  refine take_ (i := 1) (N := some 18) (v := ?_) (a' := ?_) (bf 7 3) rfl rfl (by kernel_rfl) (fun _ _ _ h => h) (Or.inl ⟨by rfl, ?_⟩) hHeld ?_ ?_
  rotate_left
  ·rintro w' ⟨s0, s1⟩; go_simp; with_reducible rfl
  rotate_left
  ·simp only [Act.put, zA, zB, zC, i64_w, i32_w]; rfl
  refine pu 2 (some 19) (v := ?_) (a' := ?_) (bf 7 7) ?_ ?_ ?_
  rotate_left
  ·intro w'; go_simp; with_reducible rfl
  rotate_left
  ·simp only [Act.put, zA, zB, zC, i64_w, i32_w]; rfl
  refine pu 3 (some 20) (v := ?_) (a' := ?_) (bf 7 15) ?_ ?_ ?_
  rotate_left
  ·intro w'; go_simp; with_reducible rfl
  rotate_left
  ·simp only [Act.put, zA, zB, zC, i64_w, i32_w]; rfl
  refine pu 4 (some 21) (v := ?_) (a' := ?_) (bf 7 31) ?_ ?_ ?_
  rotate_left
  ·intro w'; go_simp; with_reducible rfl
  rotate_left
  ·simp only [Act.put, zA, zB, zC, i64_w, i32_w]; rfl
  refine take_ (i := 5) (N := some 22) (v := ?_) (a' := ?_) (bf 7 63) rfl rfl (by kernel_rfl) (fun _ _ _ h => h) (Or.inl ⟨by rfl, ?_⟩) hHeld ?_ ?_
  rotate_left
  ·rintro w' ⟨s0, s1⟩; go_simp; with_reducible rfl
  rotate_left
  ·simp only [Act.put, zA, zB, zC, i64_w, i32_w]; rfl
  refine pu 6 (some 23) (v := ?_) (a' := ?_) (bf 7 127) ?_ ?_ ?_
  rotate_left
  ·intro w'; go_simp; with_reducible rfl
  rotate_left
  ·simp only [Act.put, zA, zB, zC, i64_w, i32_w]; rfl
  refine done_ (by kernel_rfl) ?_
  have hcg : w3.cell? ⟨Ba, 0, none⟩ = some (.slice A0 l.length c0) := (zl0 ST.1.ba 0).trans rfl
  go_wp2_with (first | (go_at_call 56; refine (yp2.calls l A0 c0 B nb rot.length cap rt rt2 p p2 w0 w3 w3 HR0.1 HC0.1 ST.1.wk A9.1).mono ?_; rintro e w4 ⟨rfl, st2⟩; have ST4 := za0.mk (ST.1.step st2); clear st2 ST hcp hcs hcg hHeld; have hcq : w4.cell? ⟨B, 1, none⟩ = some (.int .i64 p2) := (zl0 ST4.1.wk.bk 1).trans rfl) | ((with_reducible refine gate_builtin (b := .append) (xs := #[.tmp 33, .tmp 36]) rfl ?_); at_builtin; refine Kd.R_append (Kd.int .i64) (w0 := w0) w0.heap.size rfl (.tmp 33) (.tmp 36) 25 3 (.int .i64 0) 8 rfl Try.underlying25 info3 rfl (by decide) (by omega) (.slice Ao out.length co) out p2 [.int .i64 p2] (fun k => k ≠ nb ∧ w.heap.size ≤ k) (fun _ => False) rfl (by first | (go_simp; done) | (go_simp; rfl)) ?aP (fun _ hk => hk.elim) ?aF ?aO ?aB ?aS ?aL ?_; (case aP => exact rfl); (case aB => exact ST4.1.wk.hb); (case aF => exact fun k hk => ⟨fun e => absurd (Kd.R_lt ST4.1.wk.rt nb rfl) (by omega), by have := ST4.1.hk.1; omega⟩); (case aO => exact ST4.1.ot); (case aS => exact zh0 ST4.1.wk.hb); (case aL => have := LM.1; omega); intro v5 w5 ho hb hg hat; have ST5 := za0.mk (ST4.1.grow hb hg hat ho); clear ho hb hg hat ST4))
  go_roundg k1
  case measure => have := HK1.1; omega
  case rel => exact ⟨rt2, p2, out ++ [p2], H', ⟨by have := HK1.1; omega⟩, ST5⟩
theorem pathL_mono (l : List (List Int)) (s most : Int) : ∀ k rot p out, LeO (pathL l s most k rot p out) (pathL l s most (k + 1) rot p out) := by
 intro k
 induction k with
 | zero => intro rot p out; exact LeO.none _
 | succ k ih =>
  intro rot p out
  rw [pathL.eq_2, pathL.eq_2]
  exact LeO.ite (LeO.refl _) (LeO.ite (LeO.refl _) (LeO.bind (LeO.refl _) (fun t => LeO.ite (ih _ _ _) (LeO.refl _))))
def actL (l : List (List Int)) (s : Int) (chips : List Int) : Nat → Option Int → Int → List Int → Int → Option (List Int × Bool)
 | 0, _, _, _, _ => none
 | k + 1, none, i, rot, left => if i < (chips.length : Int) then (if 0 ≤ i then actL l s chips k (some 0) i rot left else none) else some (rot, true)
 | k + 1, some j, i, rot, left => if j < rd chips i then ((pathL l s left k rot i [i]).bind fun t => if t.2.2 = true then actL l s chips k (some (wrap64 (j + 1))) i t.1 (wrap64 (left - wrap64 ((t.2.1.length : Int) - 1))) else some ([], false)) else actL l s chips k none (wrap64 (i + 1)) rot left
theorem actL_mono (l : List (List Int)) (s : Int) (chips : List Int) : ∀ k j i rot left, LeO (actL l s chips k j i rot left) (actL l s chips (k + 1) j i rot left) := by
 intro k
 induction k with
 | zero => intro j i rot left; exact LeO.none _
 | succ k ih =>
  intro j i rot left
  cases j with
  | none => rw [actL.eq_2, actL.eq_2]; exact LeO.ite (LeO.ite (ih _ _ _ _) (LeO.refl _)) (LeO.refl _)
  | some j => rw [actL.eq_3, actL.eq_3]; exact LeO.ite (LeO.bind (pathL_mono _ _ _ _ _ _ _) (fun t => LeO.ite (ih _ _ _ _) (LeO.refl _))) (ih _ _ _ _)
def yv1.f (k : Nat) (l : List (List Int)) (s : Int) (rot chips : List Int) : Option (List Int × Bool) := if 0 < rot.length then (yj1.f rot).bind fun t => if t.length = rot.length then actL l s chips k none 0 t 4000 else none else none
theorem yv1.mono (l : List (List Int)) (s : Int) (rot chips : List Int) (k : Nat) : LeO (yv1.f k l s rot chips) (yv1.f (k + 1) l s rot chips) := by
 unfold yv1.f
 exact LeO.ite (LeO.bind (LeO.refl _) (fun t => LeO.ite (actL_mono _ _ _ _ _ _ _ _) (LeO.refl _))) (LeO.refl _)
structure ActSt (w0 w : World) (Ba nb n cap : Nat) (A0 : Option Addr) (m c0 : Nat) (s : Int) (rot : List Int) : Prop where
 hb : Below w0.heap.size w0 w
 hn : n = rot.length
 cap_ : n ≤ cap
 ba : w.heap[Ba]? = some (.cells #[.slice A0 m c0, .int .i64 s] 71 (0, 0))
 rt : Kd.R (Kd.int .i64) 3 w w0.heap.size (fun k => k = nb) (.slice (some ⟨nb, 0, none⟩) n cap) rot
theorem actor_ne {w : World} {Ba nb n cap base : Nat} {cs : Array Value} {rot : List Int} (ba : w.heap[Ba]? = some (.cells cs 71 (0, 0))) (rt : Kd.R (Kd.int .i64) 3 w base (fun k => k = nb) (.slice (some ⟨nb, 0, none⟩) n cap) rot) : Ba ≠ nb :=
 fun e => Kd.R_ne rt ba (by decide) (by rw [e]; rfl)
theorem yv1.calls (k : Nat) (l : List (List Int)) (s : Int) (A0 : Option Addr) (c0 Ba : Nat) (A1 : Option Addr) (c1 : Nat) (rot : List Int) (A2 : Option Addr) (c2 : Nat) (chips : List Int) (r1 : List Int) (r2 : Bool) (w : World) (hr0 : Kd.C (Kd.slice 3 (Kd.int .i64)) w A0 l.length l) (hc0 : l.length ≤ c0)
  (ba : w.heap[Ba]? = some (.cells #[.slice A0 l.length c0, .int .i64 s] 71 (0, 0))) (hr1 : Kd.C (Kd.int .i64) w A1 rot.length rot) (hc1 : rot.length ≤ c1) (n2 : Nat) (hn2 : n2 = chips.length) (hr2 : Kd.C (Kd.int .i64) w A2 n2 chips) (hc2 : n2 ≤ c2) (h : yv1.f k l s rot chips = some (r1, r2)) :
  Calls Try.prog 55 #[.pointer (some ⟨Ba, 0, none⟩), .slice A1 rot.length c1, .slice A2 n2 c2] w fun e w' => ∃ v, e = .returned (.tuple #[v, .bool r2]) ∧ Kd.R (Kd.int .i64) 3 w' w.heap.size (fun _ => True) v r1 ∧ Below w.heap.size w w' := by
 have hu1 := Try.underlying29
 have hu3 := Try.underlying71
 subst hn2
 unfold yv1.f at h
 by_cases hl0 : 0 < rot.length
 rotate_left
 ·rw [if_neg hl0] at h; exact absurd h (by simp)
 rw [if_pos hl0] at h
 obtain ⟨t, h1, h⟩ := Option.bind_eq_some_iff.mp h
 by_cases htl : t.length = rot.length
 rotate_left
 ·rw [if_neg htl] at h; exact absurd h (by simp)
 rw [if_pos htl] at h
 have HR0 := za0.mk hr0
 have HC0 := za0.mk hc0
 have HR1 := za0.mk hr1
 have HC1 := za0.mk hc1
 have HR2 := za0.mk hr2
 have HC2 := za0.mk hc2
 have BA := za0.mk ba
 have A5 := za0.mk h1
 have H' := za0.mk h
 have HL := za0.mk hl0
 have HTL := za0.mk htl
 clear hr0 hc0 hr1 hc1 hr2 hc2 ba h1 h hl0 htl
 go_enter Try.func55, Try.ntmps55
 go_wp2_with (go_at_call 35; refine (yj1.calls _ _ rot t _ HR1.1 HC1.1 A5.1).mono ?_; rintro e w1 ⟨v1, rfl, ho, hb⟩; obtain ⟨nb, cap, e1, hnb, _, _⟩ := Kd.R_form ho (by have := HTL.1; have := HL.1; omega); subst e1; have ST := za0.mk (show ActSt w w1 Ba nb t.length cap A0 l.length c0 s t from ⟨hb, rfl, (Kd.R_reads' ho).2.1, zm0 BA.1 hb, Kd.R_mono (ok' := fun k => k = nb) (Kd.R_tight rfl ho) (fun k hk => by injection hk)⟩); clear ho hb hnb BA)
 go_loopg [9, 18] k (fun kq v9 v18 w' => ∃ (left i : Int) (rot' : List Int), v9 = .int .i64 left ∧ v18 = .int .i64 i ∧ za0 (actL l s chips kq none i rot' left = some (r1, r2)) ∧ za0 (kq ≤ k) ∧ za0 (ActSt w w' Ba nb t.length cap A0 l.length c0 s rot'))
 case atStart => exact ⟨4000, 0, t, rfl, rfl, H', ⟨Nat.le_refl _⟩, ST⟩
 case round =>
  clear H' ST
  obtain ⟨left, i, rt, rfl, rfl, HA, HK1, ST⟩ := hrel
  obtain _ | k1 := gk
  ·exact absurd HA.1 (by simp [actL])
  have H := HA.1
  clear HA
  simp only [actL] at H
  by_cases c1 : i < (chips.length : Int)
  rotate_left
  ·rw [if_neg c1] at H
   have c1b0 : decide (i < (chips.length : Int)) = false := decide_eq_false c1
   clear c1
   simp only [Option.some.injEq, Prod.mk.injEq] at H
   obtain ⟨rfl, rfl⟩ := H
   go_wp2
   go_ret2
   exact ⟨_, by first | rfl | (simp; done), Kd.R_mono ST.1.rt (fun _ _ => trivial), ST.1.hb⟩
  rw [if_pos c1] at H
  by_cases c2_ : 0 ≤ i
  rotate_left
  ·rw [if_neg c2_] at H; exact absurd H (by simp)
  rw [if_pos c2_] at H
  obtain ⟨adc, ec, hxc⟩ := Kd.at_int HR2.1 i c2_ c1
  cases ec
  replace hxc := (ST.1.hb.cell (World.block_lt_of_cell? _ _ hxc)).trans hxc
  have HI := za0.mk (And.intro c2_ c1)
  have c1b0 : decide (i < (chips.length : Int)) = true := decide_eq_true c1
  replace c1 := eq_true c1
  replace c2_ := eq_true c2_
  have H' := za0.mk H
  clear H
  go_wp2
  go_loopg [9, 24] k1 (fun kq v9 v24 w' => ∃ (left j : Int) (rot' : List Int), v9 = .int .i64 left ∧ v24 = .int .i64 j ∧ za0 (actL l s chips kq (some j) i rot' left = some (r1, r2)) ∧ za0 (kq ≤ k1) ∧ za0 (ActSt w w' Ba nb t.length cap (A0) l.length c0 s rot'))
  case atStart => exact ⟨left, 0, rt, rfl, rfl, H', ⟨Nat.le_refl _⟩, ST⟩
  case round =>
   clear H' ST hxc
   obtain ⟨lf, j, rt2, rfl, rfl, HA, HK2, ST⟩ := hrel
   obtain _ | k2 := gk
   ·exact absurd HA.1 (by simp [actL])
   have H := HA.1
   clear HA
   simp only [actL] at H
   by_cases c3 : j < rd chips i
   rotate_left
   ·rw [if_neg c3] at H
    have c3b0 : decide (j < rd chips i) = false := decide_eq_false c3
    clear c3
    have H' := za0.mk H
    clear H
    go_wp2
    go_roundg k2
    case measure => have := HK2.1; have := HK1.1; omega
    case rel => exact ⟨_, _, rt2, rfl, rfl, H', ⟨by have := HK2.1; have := HK1.1; omega⟩, ST⟩
   rw [if_pos c3] at H
   have c3b0 : decide (j < rd chips i) = true := decide_eq_true c3
   clear c3
   obtain ⟨⟨t1, t2, t3⟩, A90, H⟩ := Option.bind_eq_some_iff.mp H
   have A9 := za0.mk A90
   clear A90
   replace H : (if t3 = true then actL l s chips k2 (some (wrap64 (j + 1))) i t1 (wrap64 (lf - wrap64 ((t2.length : Int) - 1))) else some ([], false)) = some (r1, r2) := H
   cases t3 with
   | false =>
    rw [if_neg (by decide)] at H
    simp only [Option.some.injEq, Prod.mk.injEq] at H
    obtain ⟨rfl, rfl⟩ := H
    go_wp2_with (go_at_call 34; refine (ym2.calls k2 l A0 c0 Ba nb t.length cap s rt2 i lf t1 t2 false w wr (HR0.1) HC0.1 ST.1.hb ST.1.ba ST.1.hn ST.1.cap_ ST.1.rt A9.1).mono ?_; rintro e w5 ⟨v5, rfl, ho, hrt, hb, hkp⟩; have n0_ := za0.mk (show ActSt w w5 Ba nb t.length cap A0 l.length c0 s t1 from ⟨hb, by have := Kd.R_reads' hrt; have := Kd.R_slice hrt; obtain ⟨_, _, e_⟩ := this; injection e_, ST.1.cap_, blk_kept ST.1.ba hkp (actor_ne ST.1.ba ST.1.rt), hrt⟩); obtain ⟨A5_, c5_, e5⟩ := Kd.R_slice ho; subst e5; clear ST ho hrt hb hkp; have ST := n0_; clear n0_)
    go_ret2
    exact ⟨_, by first | rfl | (simp; done), Kd.R_nil _ _ _ _ _, ST.1.hb⟩
   | true =>
    rw [if_pos rfl] at H
    have H' := za0.mk H
    clear H
    go_wp2_with (go_at_call 34; refine (ym2.calls k2 l A0 c0 Ba nb t.length cap s rt2 i lf t1 t2 true w wr (HR0.1) HC0.1 ST.1.hb ST.1.ba ST.1.hn ST.1.cap_ ST.1.rt A9.1).mono ?_; rintro e w5 ⟨v5, rfl, ho, hrt, hb, hkp⟩; have n0_ := za0.mk (show ActSt w w5 Ba nb t.length cap A0 l.length c0 s t1 from ⟨hb, by have := Kd.R_reads' hrt; have := Kd.R_slice hrt; obtain ⟨_, _, e_⟩ := this; injection e_, ST.1.cap_, blk_kept ST.1.ba hkp (actor_ne ST.1.ba ST.1.rt), hrt⟩); obtain ⟨A5_, c5_, e5⟩ := Kd.R_slice ho; subst e5; clear ST ho hrt hb hkp; have ST := n0_; clear n0_)
    go_roundg k2
    case measure => have := HK2.1; omega
    case rel => exact ⟨_, _, t1, rfl, rfl, H', ⟨by have := HK2.1; omega⟩, ST⟩
def yk1.f (k : Nat) (l : List (List Int)) (s : Int) (rot : List Int) (p : Int) : Option (List Int × Bool) := if 0 ≤ p then (if p < (l.length : Int) then (if l.length ≤ 1000 then yv1.f k l s rot ((List.replicate l.length 0).set p.toNat 1) else none) else none) else none
theorem yk1.mono (l : List (List Int)) (s : Int) (rot : List Int) (p : Int) (k : Nat) : LeO (yk1.f k l s rot p) (yk1.f (k + 1) l s rot p) := by
 unfold yk1.f
 exact LeO.ite (LeO.ite (LeO.ite (yv1.mono _ _ _ _ _) (LeO.refl _)) (LeO.refl _)) (LeO.refl _)
theorem yk1.calls (k : Nat) (l : List (List Int)) (s : Int) (A0 : Option Addr) (c0 Ba : Nat) (A1 : Option Addr) (c1 : Nat) (rot : List Int) (p : Int) (r1 : List Int) (r2 : Bool) (w : World) (hr0 : Kd.C (Kd.slice 3 (Kd.int .i64)) w A0 l.length l) (hc0 : l.length ≤ c0)
  (ba : w.heap[Ba]? = some (.cells #[.slice A0 l.length c0, .int .i64 s] 71 (0, 0))) (hr1 : Kd.C (Kd.int .i64) w A1 rot.length rot) (hc1 : rot.length ≤ c1) (h : yk1.f k l s rot p = some (r1, r2)) :
  Calls Try.prog 33 #[.pointer (some ⟨Ba, 0, none⟩), .slice A1 rot.length c1, .int .i64 p] w fun e w' => ∃ v, e = .returned (.tuple #[v, .bool r2]) ∧ Kd.R (Kd.int .i64) 3 w' w.heap.size (fun _ => True) v r1 ∧ Below w.heap.size w w' := by
 have hu1 := Try.underlying29
 have hu3 := Try.underlying71
 unfold yk1.f at h
 by_cases p0 : 0 ≤ p
 rotate_left
 ·rw [if_neg p0] at h; exact absurd h (by simp)
 rw [if_pos p0] at h
 by_cases p1 : p < (l.length : Int)
 rotate_left
 ·rw [if_neg p1] at h; exact absurd h (by simp)
 rw [if_pos p1] at h
 by_cases hl : l.length ≤ 1000
 rotate_left
 ·rw [if_neg hl] at h; exact absurd h (by simp)
 rw [if_pos hl] at h
 have HR0 := za0.mk hr0
 have HC0 := za0.mk hc0
 have HR1 := za0.mk hr1
 have HC1 := za0.mk hc1
 have BA := za0.mk ba
 have A5 := za0.mk h
 have HL := za0.mk hl
 have HP := za0.mk (And.intro p0 p1)
 have hcg : w.cell? ⟨Ba, 0, none⟩ = some (.slice A0 l.length c0) := (zl0 BA.1 0).trans rfl
 replace p0 := eq_true p0
 replace p1 := eq_true p1
 clear hr0 hc0 hr1 hc1 ba h hl
 go_enter Try.func33, Try.ntmps33
 go_wp2_with (first | ((with_reducible refine zo0 (N := 15) rfl ?_); refine Kd.R_make (Kd.int .i64) (w0 := w) w.heap.size 3 rfl (N := 15) rfl 25 _ _ rfl (l.length : Int) rfl rfl Try.underlying25 (.int .i64 0) 8 info3 rfl (by decide) (by omega) 0 (ok := fun _ => True) (okp := fun _ => False) rfl (fun _ _ => trivial) trivial (by omega) (by have := HL.1; omega) (by repeat (first | exact Below.refl _ _ | apply zd0 | apply zb0)) (Nat.le_refl _) ?_; intro v2 w2 hr2 hb2 hg2 hnew2; rw [Int.toNat_natCast] at hr2; obtain ⟨nb, cap, e2, hnb, _, _⟩ := Kd.R_form hr2 (by rw [List.length_replicate]; have := HP.1; omega); rw [List.length_replicate] at e2; subst e2; obtain ⟨hx2, hf2⟩ := Kd.R_celln 0 hr2 p HP.1.1 HP.1.2; have HB2 := za0.mk hb2; have HR2 := za0.mk hr2; have HN := za0.mk hnb; have HG := za0.mk hg2; clear hb2 hr2 hnb hg2 hnew2 hcg) | (go_at_call 55; refine (yv1.calls k l s A0 c0 Ba _ _ rot _ _ ((List.replicate l.length 0).set p.toNat 1) r1 r2 (w2.setCell ⟨nb, p.toNat, none⟩ (.int .i64 1)) (Kd.C_below HR0.1 (ze0 HB2.1 HN.1)) HC0.1 ((Below.heap_setCell _ ⟨nb, p.toNat, none⟩ _ Ba (Nat.ne_of_lt (Nat.lt_of_lt_of_le (blk_lt BA.1) HN.1))).trans (blk_grown BA.1 HG.1 (by simp))) (Kd.C_below HR1.1 (ze0 HB2.1 HN.1)) HC1.1 l.length (by rw [List.length_set, List.length_replicate]) ?side (Kd.R_reads' HR2.1).2.1 A5.1).mono ?_; go_loud (case side => have h_ := (Kd.R_reads' (Kd.R_putg HR2.1 p 1).1).2.2; simp only [List.length_set, List.length_replicate] at h_ ⊢; exact h_); go_loud (rintro e w5 ⟨v5, rfl, ho, hb⟩; have HO := za0.mk (Kd.R_lower ho (zh0 (ze0 HB2.1 HN.1))); have HB := za0.mk (zi0 (ze0 HB2.1 HN.1) hb); clear ho hb)))
 go_ret2
 exact ⟨_, by first | rfl | (simp; done), HO.1, HB.1⟩
def yq0.l0 : Nat → List Int → List Int → Int → Int → Option (Bool)
 | 0, _, _, _, _ => none
 | k + 1, x0, x1, x12, x13 => if x13 < x12 then (if 0 ≤ x13 then (if x13 < (x0.length : Int) then (if x13 < (x1.length : Int) then (if (rd x0 x13) = (rd x1 x13) then (yq0.l0 k x0 x1 x12 (wrap64 (x13 + 1))) else (some false)) else (none)) else (none)) else (none)) else (some true)
def yq0.f (k : Nat) (l0 : List Int) (l1 : List Int) : Option (Bool) := if (l0.length : Int) = (l1.length : Int) then (yq0.l0 k l0 l1 (l0.length : Int) 0) else (some false)
theorem yq0.mono_l : ∀ k, (∀ y0 y1 y2 y3, LeO (yq0.l0 k y0 y1 y2 y3) (yq0.l0 (k + 1) y0 y1 y2 y3))
 | 0 => fun _ _ _ _ r h => by simp [yq0.l0] at h
 | k + 1 => by
  have ih0 := yq0.mono_l k
  ·intro y0 y1 y2 y3
   unfold yq0.l0
   repeat' (with_reducible first | exact ih0 _ _ _ _ | exact LeO.refl _ | exact LeO.none _ | refine LeO.ite ?_ ?_ | refine LeO.bind ?_ (fun _ => ?_))
theorem yq0.mono : ∀ a0 a1 k, LeO (yq0.f k a0 a1) (yq0.f (k + 1) a0 a1) := by
 intro a0 a1 k
 have ih0 := yq0.mono_l k
 unfold yq0.f
 repeat' (with_reducible first | exact ih0 _ _ _ _ | exact LeO.refl _ | exact LeO.none _ | refine LeO.ite ?_ ?_ | refine LeO.bind ?_ (fun _ => ?_))
theorem yq0.calls (k : Nat) (A0 : Option Addr) (c0 : Nat) (l0 : List Int) (A1 : Option Addr) (c1 : Nat) (l1 : List Int) (r : Bool) (w : World) (hr0 : Kd.C (Kd.int .i64) w A0 l0.length l0) (hc0 : l0.length ≤ c0) (hr1 : Kd.C (Kd.int .i64) w A1 l1.length l1) (hc1 : l1.length ≤ c1) (h : yq0.f k l0 l1 = some r) :
  Calls Try.prog 58 #[.slice A0 l0.length c0, .slice A1 l1.length c1] w fun e w' => e = .returned (.bool r) ∧ zt0 w w' := by
 have HR0 := za0.mk hr0
 have HC0 := za0.mk hc0
 clear hr0 hc0
 have HR1 := za0.mk hr1
 have HC1 := za0.mk hc1
 clear hr1 hc1
 have H : (if (l0.length : Int) = (l1.length : Int) then (yq0.l0 k l0 l1 (l0.length : Int) 0) else (some false)) = some r := h
 clear h
 by_cases c3 : (l0.length : Int) = (l1.length : Int)
 rotate_left
 ·rw [if_neg c3] at H
  have c3b0 : ((l0.length : Int) == (l1.length : Int)) = false := beq_eq_false_iff_ne.mpr c3
  have c3b1 : ((l0.length : Int) != (l1.length : Int)) = true := bne_iff_ne.mpr c3
  have c3b2 : (l0.length == l1.length) = false := by first | simpa using c3 | (simp at c3 ⊢; omega)
  obtain rfl := Option.some.inj H
  go_enter Try.func58, Try.ntmps58
  go_wp2
  repeat (go_quiet (fail); try go_wp2)
  go_ret
  exact ⟨by first | rfl | (simp; done) | (simp [*]; done), by repeat (first | exact zt0.refl _ | apply zt0.step)⟩
 rw [if_pos c3] at H
 have c3b0 : ((l0.length : Int) == (l1.length : Int)) = true := beq_iff_eq.mpr c3
 have c3b1 : ((l0.length : Int) != (l1.length : Int)) = false := bne_eq_false_iff_eq.mpr c3
 have c3b2 : (l0.length == l1.length) = true := by first | simpa using c3 | (simp at c3 ⊢; omega)
 clear c3
 have H' := za0.mk H
 clear H
 go_enter Try.func58, Try.ntmps58
 go_wp2
 repeat (go_quiet (fail); try go_wp2)
 go_loopg [13] k (fun kq v13 w' => ∃ (x13_1 : Int), v13 = .int .i64 x13_1 ∧ za0 (yq0.l0 kq l0 l1 (l0.length : Int) x13_1 = some r) ∧ za0 (kq ≤ k) ∧ zt0 w w')
 case atStart => exact ⟨(0), (by first | rfl | (simp; done) | (simp [*]; done)), H', ⟨Nat.le_refl _⟩, by repeat (first | exact zt0.refl _ | apply zt0.step)⟩
 case round =>
  clear H'
  try clear c1
  try clear p2
  try clear c3
  try clear c3b0
  try clear c3b1
  try clear c3b2
  obtain ⟨x13_1, rfl, HA, HK1, ⟨m1, rfl⟩⟩ := hrel
  obtain _ | k1 := gk
  ·exact absurd HA.1 (by simp [yq0.l0])
  have H := HA.1
  clear HA
  simp only [yq0.l0] at H
  by_cases c4 : x13_1 < (l0.length : Int)
  rotate_left
  ·rw [if_neg c4] at H
   have c4b0 : decide (x13_1 < (l0.length : Int)) = false := decide_eq_false c4
   clear c4
   obtain rfl := Option.some.inj H
   go_wp2
   repeat (go_quiet (fail); try go_wp2)
   go_ret
   exact ⟨by first | rfl | (simp; done) | (simp [*]; done), by repeat (first | exact zt0.refl _ | apply zt0.step)⟩
  rw [if_pos c4] at H
  have c4b0 : decide (x13_1 < (l0.length : Int)) = true := decide_eq_true c4
  clear c4
  by_cases c5 : 0 ≤ x13_1
  rotate_left
  ·rw [if_neg c5] at H
   exact absurd H (by simp)
  rw [if_pos c5] at H
  have c5b0 : decide (0 ≤ x13_1) = true := decide_eq_true c5
  clear c5
  by_cases c6 : x13_1 < (l0.length : Int)
  rotate_left
  ·rw [if_neg c6] at H
   exact absurd H (by simp)
  rw [if_pos c6] at H
  have c6b0 : decide (x13_1 < (l0.length : Int)) = true := decide_eq_true c6
  clear c6
  by_cases c7 : x13_1 < (l1.length : Int)
  rotate_left
  ·rw [if_neg c7] at H
   exact absurd H (by simp)
  rw [if_pos c7] at H
  have c7b0 : decide (x13_1 < (l1.length : Int)) = true := decide_eq_true c7
  clear c7
  by_cases c8 : (rd l0 x13_1) = (rd l1 x13_1)
  rotate_left
  ·rw [if_neg c8] at H
   have c8b0 : ((rd l0 x13_1) == (rd l1 x13_1)) = false := beq_eq_false_iff_ne.mpr c8
   have c8b1 : ((rd l0 x13_1) != (rd l1 x13_1)) = true := bne_iff_ne.mpr c8
   obtain rfl := Option.some.inj H
   have p221 : 0 ≤ (x13_1 : Int) := of_decide_eq_true (by assumption)
   have q221 : x13_1 < (l0.length : Int) := of_decide_eq_true (by assumption)
   obtain ⟨ad221, e221, hx221_0⟩ := Kd.at_int HR0.1 x13_1 p221 q221
   cases e221
   replace p221 := eq_true p221
   replace q221 := eq_true q221
   have p222 : 0 ≤ (x13_1 : Int) := of_decide_eq_true (by assumption)
   have q222 : x13_1 < (l1.length : Int) := of_decide_eq_true (by assumption)
   obtain ⟨ad222, e222, hx222_0⟩ := Kd.at_int HR1.1 x13_1 p222 q222
   cases e222
   replace p222 := eq_true p222
   replace q222 := eq_true q222
   go_wp2
   repeat (go_quiet (fail); try go_wp2)
   go_ret
   exact ⟨by first | rfl | (simp; done) | (simp [*]; done), by repeat (first | exact zt0.refl _ | apply zt0.step)⟩
  rw [if_pos c8] at H
  have c8b0 : ((rd l0 x13_1) == (rd l1 x13_1)) = true := beq_iff_eq.mpr c8
  have c8b1 : ((rd l0 x13_1) != (rd l1 x13_1)) = false := bne_eq_false_iff_eq.mpr c8
  clear c8
  have H' := za0.mk H
  clear H
  have p221 : 0 ≤ (x13_1 : Int) := of_decide_eq_true (by assumption)
  have q221 : x13_1 < (l0.length : Int) := of_decide_eq_true (by assumption)
  obtain ⟨ad221, e221, hx221_0⟩ := Kd.at_int HR0.1 x13_1 p221 q221
  cases e221
  replace p221 := eq_true p221
  replace q221 := eq_true q221
  have p222 : 0 ≤ (x13_1 : Int) := of_decide_eq_true (by assumption)
  have q222 : x13_1 < (l1.length : Int) := of_decide_eq_true (by assumption)
  obtain ⟨ad222, e222, hx222_0⟩ := Kd.at_int HR1.1 x13_1 p222 q222
  cases e222
  replace p222 := eq_true p222
  replace q222 := eq_true q222
  go_wp2
  repeat (go_quiet (fail); try go_wp2)
  go_roundg k1
  case measure => have := HK1.1; omega
  case rel => exact ⟨(wrap64 (x13_1 + 1)), (by first | rfl | (simp; done) | (simp [*]; done)), H', ⟨by have := HK1.1; omega⟩, by repeat (first | exact zt0.refl _ | apply zt0.step)⟩
def orbL (l : List (List Int)) (s : Int) (rot : List Int) (p : Int) : Nat → List (List Int) → Option (List (List Int) × Bool)
 | 0, _ => none
 | k + 1, out => if 0 ≤ wrap64 ((out.length : Int) - 1) then (if wrap64 ((out.length : Int) - 1) < (out.length : Int) then ((yk1.f k l s (rd_L1 out (wrap64 ((out.length : Int) - 1))) p).bind fun t => if t.2 = true then ((yq0.f k t.1 rot).bind fun e => if e = true then some (out, true) else (if (out.length + 1) * 24 ≤ 140737488355328 then orbL l s rot p k (out ++ [t.1]) else none)) else some ([], false)) else none) else none
theorem orbL_mono (l : List (List Int)) (s : Int) (rot : List Int) (p : Int) : ∀ k out, LeO (orbL l s rot p k out) (orbL l s rot p (k + 1) out) := by
 intro k
 induction k with
 | zero => intro out; exact LeO.none _
 | succ k ih =>
  intro out
  rw [orbL.eq_2, orbL.eq_2]
  exact LeO.ite (LeO.ite (LeO.bind (yk1.mono _ _ _ _ _) (fun t => LeO.ite (LeO.bind (yq0.mono _ _ _) (fun e => LeO.ite (LeO.refl _) (LeO.ite (ih _) (LeO.refl _)))) (LeO.refl _))) (LeO.refl _)) (LeO.refl _)
def yr1.f (k : Nat) (l : List (List Int)) (s : Int) (rot : List Int) (p : Int) : Option (List (List Int) × Bool) := (yj1.f rot).bind fun t => orbL l s rot p k [t]
theorem yr1.mono (l : List (List Int)) (s : Int) (rot : List Int) (p : Int) (k : Nat) : LeO (yr1.f k l s rot p) (yr1.f (k + 1) l s rot p) := by
 unfold yr1.f
 exact LeO.bind (LeO.refl _) (fun t => orbL_mono _ _ _ _ _ _)
structure OrbSt (w0 w : World) (Ba : Nat) (A0 : Option Addr) (m c0 : Nat) (s : Int) (v : Value) (out : List (List Int)) : Prop where
 hb : Below w0.heap.size w0 w
 ba : w.heap[Ba]? = some (.cells #[.slice A0 m c0, .int .i64 s] 71 (0, 0))
 lt : Ba < w0.heap.size
 fd : Kd.S (Kd.slice 3 (Kd.int .i64)) 25 w w0.heap.size (fun _ => True) v out
theorem OrbSt.below {w0 w w2 : World} {Ba : Nat} {A0 : Option Addr} {m c0 : Nat} {s : Int} {v : Value} {out : List (List Int)} (h : OrbSt w0 w Ba A0 m c0 s v out) (hb : Below w.heap.size w w2) : OrbSt w0 w2 Ba A0 m c0 s v out :=
 ⟨zi0 h.hb hb, zm0 h.ba hb, h.lt, Kd.S_below h.fd hb⟩
theorem yr1.calls (k : Nat) (l : List (List Int)) (s : Int) (A0 : Option Addr) (c0 Ba : Nat) (A1 : Option Addr) (c1 : Nat) (rot : List Int) (p : Int) (r1 : List (List Int)) (r2 : Bool) (w : World) (hr0 : Kd.C (Kd.slice 3 (Kd.int .i64)) w A0 l.length l) (hc0 : l.length ≤ c0)
  (ba : w.heap[Ba]? = some (.cells #[.slice A0 l.length c0, .int .i64 s] 71 (0, 0))) (hr1 : Kd.C (Kd.int .i64) w A1 rot.length rot) (hc1 : rot.length ≤ c1) (h : yr1.f k l s rot p = some (r1, r2)) :
  Calls Try.prog 37 #[.pointer (some ⟨Ba, 0, none⟩), .slice A1 rot.length c1, .int .i64 p] w fun e w' => ∃ v, e = .returned (.tuple #[v, .bool r2]) ∧ Kd.S (Kd.slice 3 (Kd.int .i64)) 25 w' w.heap.size (fun _ => True) v r1 ∧ Below w.heap.size w w' := by
 have hu1 := Try.underlying29
 have hu3 := Try.underlying71
 have hu4 := Try.underlying25
 unfold yr1.f at h
 obtain ⟨t, h1, h⟩ := Option.bind_eq_some_iff.mp h
 have HR0 := za0.mk hr0
 have HC0 := za0.mk hc0
 have HR1 := za0.mk hr1
 have HC1 := za0.mk hc1
 have BA := za0.mk ba
 have A5 := za0.mk h1
 have H' := za0.mk h
 clear hr0 hc0 hr1 hc1 ba h1 h
 go_enter Try.func37, Try.ntmps37
 go_wp2_with (first | (go_at_call 35; refine (yj1.calls _ _ rot t _ HR1.1 HC1.1 A5.1).mono ?_; rintro e w1 ⟨v1, rfl, ho, hb⟩; have HO := za0.mk ho; have HB := za0.mk hb; clear ho hb; obtain ⟨Ao, co, eo⟩ := Kd.R_slice HO.1; subst eo) | ((with_reducible refine zo0 (N := 13) rfl ?_); refine Kd.S_lits (Kd.slice 3 (Kd.int .i64)) (w0 := w) w.heap.size 25 ?hg (N := 13) ?hd (xs := ([t] : List (List Int))) (inner := [.slice Ao t.length co]) (ok := fun _ => True) (fun j k_ => j = 0 ∧ some k_ = (.slice Ao t.length co : Value).ownBlock) ?hr (by rfl) ?hp (fun i j k_ hi hj => hi.1.trans hj.1.symm) (fun _ _ _ => trivial) trivial HB.1 (zh0 HB.1) (by simp) ?_; (case hd | hg => rfl); (case hr => go_simp <;> rfl); (case hp => intro j x hj; cases j with | zero => (injection hj with hj; subst hj; exact Kd.M_row (Kd.R_mono (Kd.R_tight rfl HO.1) (fun k_ h_ => ⟨rfl, h_⟩))) | succ j => simp at hj); intro v2 w2 hs hb2 hg hat; have ST := za0.mk (show OrbSt w w2 Ba A0 l.length c0 s v2 [t] from ⟨hb2, zm0 BA.1 hb2, blk_lt BA.1, hs⟩); clear hs hb2 hg hat BA))
 go_loopg [8] k (fun kq v8 w' => ∃ (out : List (List Int)), za0 (orbL l s rot p kq out = some (r1, r2)) ∧ za0 (kq ≤ k) ∧ za0 (OrbSt w w' Ba A0 l.length c0 s v8 out))
 case atStart => exact ⟨[t], H', ⟨Nat.le_refl _⟩, ST⟩
 case round =>
  clear H' ST
  obtain ⟨out, HA, HK1, ST⟩ := hrel
  obtain _ | k1 := gk
  ·exact absurd HA.1 (by simp [orbL])
  have H := HA.1
  clear HA
  simp only [orbL] at H
  obtain ⟨j, hj⟩ : ∃ j, wrap64 ((out.length : Int) - 1) = j := ⟨_, rfl⟩
  rw [hj] at H
  obtain ⟨Af, cf, ef⟩ := Kd.S_slice ST.1.fd
  subst ef
  by_cases j0 : 0 ≤ j
  rotate_left
  ·rw [if_neg j0] at H; exact absurd H (by simp)
  rw [if_pos j0] at H
  by_cases j1 : j < (out.length : Int)
  rotate_left
  ·rw [if_neg j1] at H; exact absurd H (by simp)
  rw [if_pos j1] at H
  obtain ⟨adf, Aj, cj, ej, hxj, hlj, hij⟩ := at_L1 (Kd.S_reads' ST.1.fd).2.2 j j0 j1
  cases ej
  have HIJ := za0.mk hij
  have HLJ := za0.mk hlj
  replace j0 := eq_true j0
  replace j1 := eq_true j1
  clear hij hlj
  obtain ⟨⟨t1, t2⟩, A90, H⟩ := Option.bind_eq_some_iff.mp H
  have A9 := za0.mk A90
  clear A90
  replace H : (if t2 = true then ((yq0.f k1 t1 rot).bind fun e => if e = true then some (out, true) else (if (out.length + 1) * 24 ≤ 140737488355328 then orbL l s rot p k1 (out ++ [t1]) else none)) else some ([], false)) = some (r1, r2) := H
  cases t2 with
  | false =>
   rw [if_neg (by decide)] at H
   simp only [Option.some.injEq, Prod.mk.injEq] at H
   obtain ⟨rfl, rfl⟩ := H
   go_wp2_with ((go_at_call 33; refine (yk1.calls k1 l s A0 c0 Ba _ _ (rd_L1 out j) p t1 false wr (Kd.C_below HR0.1 ST.1.hb) HC0.1 ST.1.ba HIJ.1 HLJ.1 A9.1).mono ?_; rintro e w3 ⟨v3, rfl, ho, hb⟩; have HF := za0.mk (Kd.S_elder' ST.1.fd (Kd.R_base ho) hb); have n0_ := za0.mk (ST.1.below hb); have HW := za0.mk (Kd.R_lower ho (zh0 ST.1.hb)); clear ST ho hb hxj; have ST := n0_; clear n0_; obtain ⟨Ao3, co3, eo3⟩ := Kd.R_slice HW.1; subst eo3))
   go_ret2
   exact ⟨_, by first | rfl | (simp; done), Kd.S_nil _ _ _ _ _, ST.1.hb⟩
  | true =>
   rw [if_pos rfl] at H
   obtain ⟨b, A80, H⟩ := Option.bind_eq_some_iff.mp H
   have A8 := za0.mk A80
   clear A80
   cases b with
   | true =>
    rw [if_pos rfl] at H
    simp only [Option.some.injEq, Prod.mk.injEq] at H
    obtain ⟨rfl, rfl⟩ := H
    go_wp2_with (first | (go_at_call 33; refine (yk1.calls k1 l s A0 c0 Ba _ _ (rd_L1 out j) p t1 true wr (Kd.C_below HR0.1 ST.1.hb) HC0.1 ST.1.ba HIJ.1 HLJ.1 A9.1).mono ?_; rintro e w3 ⟨v3, rfl, ho, hb⟩; have HF := za0.mk (Kd.S_elder' ST.1.fd (Kd.R_base ho) hb); have n0_ := za0.mk (ST.1.below hb); have HW := za0.mk (Kd.R_lower ho (zh0 ST.1.hb)); clear ST ho hb hxj; have ST := n0_; clear n0_; obtain ⟨Ao3, co3, eo3⟩ := Kd.R_slice HW.1; subst eo3) | (go_at_call 58; refine (yq0.calls k1 _ _ t1 _ _ rot true _ (Kd.R_reads' HW.1).2.2 (Kd.R_reads' HW.1).2.1 (Kd.C_below HR1.1 ST.1.hb) HC1.1 A8.1).mono ?_; rintro e w4 ⟨rfl, hd⟩; have n0_ := za0.mk (ST.1.below hd.below); have n1_ := za0.mk (Kd.R_below HW.1 hd.below); have n2_ := za0.mk (Kd.S_below HF.1 hd.below); clear ST HW HF hd; have ST := n0_; have HW := n1_; have HF := n2_; clear n0_ n1_ n2_))
    go_ret2
    exact ⟨_, by first | rfl | (simp; done), ST.1.fd, ST.1.hb⟩
   | false =>
    rw [if_neg (by decide)] at H
    by_cases hlm : (out.length + 1) * 24 ≤ 140737488355328
    rotate_left
    ·rw [if_neg hlm] at H; exact absurd H (by simp)
    rw [if_pos hlm] at H
    have LM := za0.mk hlm
    have H' := za0.mk H
    clear H hlm
    go_wp2_with (first | (go_at_call 33; refine (yk1.calls k1 l s A0 c0 Ba _ _ (rd_L1 out j) p t1 true wr (Kd.C_below HR0.1 ST.1.hb) HC0.1 ST.1.ba HIJ.1 HLJ.1 A9.1).mono ?_; rintro e w3 ⟨v3, rfl, ho, hb⟩; have HF := za0.mk (Kd.S_elder' ST.1.fd (Kd.R_base ho) hb); have n0_ := za0.mk (ST.1.below hb); have HW := za0.mk (Kd.R_lower ho (zh0 ST.1.hb)); clear ST ho hb hxj; have ST := n0_; clear n0_; obtain ⟨Ao3, co3, eo3⟩ := Kd.R_slice HW.1; subst eo3) | (go_at_call 58; refine (yq0.calls k1 _ _ t1 _ _ rot false _ (Kd.R_reads' HW.1).2.2 (Kd.R_reads' HW.1).2.1 (Kd.C_below HR1.1 ST.1.hb) HC1.1 A8.1).mono ?_; rintro e w4 ⟨rfl, hd⟩; have n0_ := za0.mk (ST.1.below hd.below); have n1_ := za0.mk (Kd.R_below HW.1 hd.below); have n2_ := za0.mk (Kd.S_below HF.1 hd.below); clear ST HW HF hd; have ST := n0_; have HW := n1_; have HF := n2_; clear n0_ n1_ n2_) | ((with_reducible refine gate_builtin (b := .append) (xs := #[.tmp 32, .tmp 34]) rfl ?_); at_builtin; refine Kd.S_append (Kd.slice 3 (Kd.int .i64)) (w0 := w) w.heap.size rfl (.tmp 32) (.tmp 34) 22 25 (.slice none 0 0) 24 rfl Try.underlying22 info25 rfl (by decide) (by omega) (.slice (some adf) out.length cf) out t1 [.slice Ao3 t1.length co3] (fun _ => True) (fun k_ => some k_ = (.slice Ao3 t1.length co3 : Value).ownBlock) rfl (by first | (go_simp; done) | (go_simp; rfl)) ?aP ?aK (fun _ _ => trivial) ?aO ?aB ?aS ?aL ?_; (case aP => exact Kd.M_row (Kd.R_mono (Kd.R_tight rfl HW.1) (fun _ h_ => h_))); (case aK => exact fun k_ hk_ => ⟨trivial, ((Kd.R_apart' HW.1 (Kd.S_typed ST.1.fd) (by decide)).1 k_ hk_.symm).2⟩); (case aB => exact ST.1.hb); (case aO => exact Kd.S_mono HF.1 (fun k_ hk => ⟨trivial, fun e_ => hk.2 e_⟩)); (case aS => exact zh0 ST.1.hb); (case aL => exact LM.1); intro v9 w9 ho hb hg hat; have n0_ := za0.mk (show OrbSt w w9 Ba A0 l.length c0 s v9 (out ++ [t1]) from ⟨hb, blk_grown ST.1.ba hg (Kd.S_ne ST.1.fd ST.1.ba (by decide)), ST.1.lt, ho⟩); clear ST HW HF ho hb hg hat; have ST := n0_; clear n0_))
    go_roundg k1
    case measure => have := HK1.1; omega
    case rel => exact ⟨out ++ [t1], H', ⟨by have := HK1.1; omega⟩, ST⟩
def ye1.f (k : Nat) (l : List (List Int)) (s : Int) (rot : List Int) (p : Int) : Option (List (List Int) × Bool) := (onL k l s rot).bind fun b => if b = true then ((yb1.f l [p]).bind fun h => if h = true then yr1.f k l s rot p else some ([], false)) else some ([], false)
theorem ye1.mono (l : List (List Int)) (s : Int) (rot : List Int) (p : Int) (k : Nat) : LeO (ye1.f k l s rot p) (ye1.f (k + 1) l s rot p) := by
 unfold ye1.f
 exact LeO.bind (onL_mono _ _ _ _) (fun b => LeO.ite (LeO.bind (LeO.refl _) (fun h => LeO.ite (yr1.mono _ _ _ _ _) (LeO.refl _))) (LeO.refl _))
theorem ye1.calls0 (k : Nat) (A0 : Option Addr) (c0 : Nat) (l : List (List Int)) (s : Int) (A2 : Option Addr) (c2 : Nat) (rot : List Int) (p : Int) (r1 : List (List Int)) (r2 : Bool) (w : World) (hr0 : Kd.C (Kd.slice 3 (Kd.int .i64)) w A0 l.length l) (hc0 : l.length ≤ c0) (hr2 : Kd.C (Kd.int .i64) w A2 rot.length rot) (hc2 : rot.length ≤ c2) (h : ye1.f k l s rot p = some (r1, r2)) :
  Calls Try.prog 20 #[.agg #[.slice A0 l.length c0], .int .i64 s, .slice A2 rot.length c2, .int .i64 p] w fun e w' => ∃ v, e = .returned (.tuple #[v, .bool r2]) ∧ Kd.S (Kd.slice 3 (Kd.int .i64)) 25 w' w.heap.size (fun _ => True) v r1 ∧ Below w.heap.size w w' := by
 have hu1 := Try.underlying29
 have hu3 := Try.underlying71
 have hu4 := Try.underlying25
 have HR0 := za0.mk hr0
 have HC0 := za0.mk hc0
 have HR2 := za0.mk hr2
 have HC2 := za0.mk hc2
 unfold ye1.f at h
 obtain ⟨b, h1, h⟩ := Option.bind_eq_some_iff.mp h
 have A1 := za0.mk h1
 clear hr0 hc0 hr2 hc2 h1
 cases b with
 | false =>
  rw [if_neg (by decide)] at h
  simp only [Option.some.injEq, Prod.mk.injEq] at h
  obtain ⟨rfl, rfl⟩ := h
  go_enter Try.func20, Try.ntmps20
  go_wp2_with (first | ((with_reducible refine zo0 (N := 4) rfl ?_); refine zp0 ?hg (N := 4) ?hd (cs := #[.slice A0 l.length c0]) (t := 29) ?hr ?_; (case hd | hg => rfl); (case hr => go_simp <;> rfl); intro gb hg w2 hbox hb; have HB := za0.mk (hb); have BG := za0.mk hbox; clear hb hbox hg; have hcg : w2.cell? ⟨gb, 0, none⟩ = some (.slice A0 l.length c0) := (zl0 BG.1 0).trans rfl) | (go_at_call 31; refine (yl2.calls k l s _ _ _ _ rot false _ (Kd.C_alloc (Kd.C_below HR0.1 HB.1) _) HC0.1 (lit_row (Kd.C_below HR2.1 HB.1) HC2.1) A1.1).mono ?_; rintro e w3 ⟨Ba, rfl, hba, hb⟩; have n0_ := za0.mk (zi0 (zc0 HB.1 _) hb); have n1_ := za0.mk (zm0 (zf0 BG.1 _) hb); clear HB BG hcg hb; have HB := n0_; have BG := n1_; clear n0_ n1_; have hcg : w3.cell? ⟨gb, 0, none⟩ = some (.slice A0 l.length c0) := (zl0 BG.1 0).trans rfl; clear hba))
  go_ret2
  exact ⟨_, by first | rfl | (simp; done), Kd.S_nil _ _ _ _ _, HB.1⟩
 | true =>
  rw [if_pos rfl] at h
  obtain ⟨hb, h2, h⟩ := Option.bind_eq_some_iff.mp h
  have A2' := za0.mk h2
  clear h2
  cases hb with
  | false =>
   rw [if_neg (by decide)] at h
   simp only [Option.some.injEq, Prod.mk.injEq] at h
   obtain ⟨rfl, rfl⟩ := h
   go_enter Try.func20, Try.ntmps20
   go_wp2_with (first | ((with_reducible refine zo0 (N := 4) rfl ?_); refine zp0 ?hg (N := 4) ?hd (cs := #[.slice A0 l.length c0]) (t := 29) ?hr ?_; (case hd | hg => rfl); (case hr => go_simp <;> rfl); intro gb hg w2 hbox hb; have HB := za0.mk (hb); have BG := za0.mk hbox; clear hb hbox hg; have hcg : w2.cell? ⟨gb, 0, none⟩ = some (.slice A0 l.length c0) := (zl0 BG.1 0).trans rfl) | (go_at_call 31; refine (yl2.calls k l s _ _ _ _ rot true _ (Kd.C_alloc (Kd.C_below HR0.1 HB.1) _) HC0.1 (lit_row (Kd.C_below HR2.1 HB.1) HC2.1) A1.1).mono ?_; rintro e w3 ⟨Ba, rfl, hba, hb⟩; have n0_ := za0.mk (zi0 (zc0 HB.1 _) hb); have n1_ := za0.mk (zm0 (zf0 BG.1 _) hb); clear HB BG hcg hb; have HB := n0_; have BG := n1_; clear n0_ n1_; have hcg : w3.cell? ⟨gb, 0, none⟩ = some (.slice A0 l.length c0) := (zl0 BG.1 0).trans rfl; have BA := za0.mk (hba rfl).2; clear hba) | ((with_reducible refine zo0 (N := 25) rfl ?_); refine gate_guard (by rfl) ?_; refine Kd.R_lit (Kd.int .i64) _ 3 ?hg (N := 25) ?hd (xs := ([p] : List Int)) (inner := [.int .i64 p]) (ok := fun _ => True) (okp := fun _ => True) ?hr ?hp (fun _ hk => hk) trivial (Below.refl _ _) (Nat.le_refl _) (by simp) ?_; (case hd | hg => rfl); (case hr => go_simp <;> rfl); (case hp => exact (Reps.one (show Kd.M (Kd.int .i64) _ _ _ p [.int .i64 p] from rfl) (Reps.none _ _))); intro v4 w4 ho hb hg_ hnew_; clear hg_ hnew_; have HP := za0.mk ho; have n0_ := za0.mk (zi0 HB.1 hb); have n1_ := za0.mk (zm0 BA.1 hb); clear HB BA BG hcg hb ho; have HB := n0_; have BA := n1_; clear n0_ n1_; obtain ⟨Ap, cp, ep⟩ := Kd.R_slice HP.1; subst ep) | (go_at_call 32; refine (yb1.calls _ _ l _ _ [p] false _ (Kd.C_below HR0.1 HB.1) HC0.1 (Kd.R_reads' HP.1).2.2 (Kd.R_reads' HP.1).2.1 A2'.1).mono ?_; rintro e w5 ⟨rfl, hb⟩; have n0_ := za0.mk (zi0 HB.1 hb); have n1_ := za0.mk (zm0 BA.1 hb); clear HB BA hb HP; have HB := n0_; have BA := n1_; clear n0_ n1_))
   go_ret2
   exact ⟨_, by first | rfl | (simp; done), Kd.S_nil _ _ _ _ _, HB.1⟩
  | true =>
   rw [if_pos rfl] at h
   have A3 := za0.mk h
   clear h
   go_enter Try.func20, Try.ntmps20
   go_wp2_with (first | ((with_reducible refine zo0 (N := 4) rfl ?_); refine zp0 ?hg (N := 4) ?hd (cs := #[.slice A0 l.length c0]) (t := 29) ?hr ?_; (case hd | hg => rfl); (case hr => go_simp <;> rfl); intro gb hg w2 hbox hb; have HB := za0.mk (hb); have BG := za0.mk hbox; clear hb hbox hg; have hcg : w2.cell? ⟨gb, 0, none⟩ = some (.slice A0 l.length c0) := (zl0 BG.1 0).trans rfl) | (go_at_call 31; refine (yl2.calls k l s _ _ _ _ rot true _ (Kd.C_alloc (Kd.C_below HR0.1 HB.1) _) HC0.1 (lit_row (Kd.C_below HR2.1 HB.1) HC2.1) A1.1).mono ?_; rintro e w3 ⟨Ba, rfl, hba, hb⟩; have n0_ := za0.mk (zi0 (zc0 HB.1 _) hb); have n1_ := za0.mk (zm0 (zf0 BG.1 _) hb); clear HB BG hcg hb; have HB := n0_; have BG := n1_; clear n0_ n1_; have hcg : w3.cell? ⟨gb, 0, none⟩ = some (.slice A0 l.length c0) := (zl0 BG.1 0).trans rfl; have BA := za0.mk (hba rfl).2; clear hba) | ((with_reducible refine zo0 (N := 25) rfl ?_); refine gate_guard (by rfl) ?_; refine Kd.R_lit (Kd.int .i64) _ 3 ?hg (N := 25) ?hd (xs := ([p] : List Int)) (inner := [.int .i64 p]) (ok := fun _ => True) (okp := fun _ => True) ?hr ?hp (fun _ hk => hk) trivial (Below.refl _ _) (Nat.le_refl _) (by simp) ?_; (case hd | hg => rfl); (case hr => go_simp <;> rfl); (case hp => exact (Reps.one (show Kd.M (Kd.int .i64) _ _ _ p [.int .i64 p] from rfl) (Reps.none _ _))); intro v4 w4 ho hb hg_ hnew_; clear hg_ hnew_; have HP := za0.mk ho; have n0_ := za0.mk (zi0 HB.1 hb); have n1_ := za0.mk (zm0 BA.1 hb); clear HB BA BG hcg hb ho; have HB := n0_; have BA := n1_; clear n0_ n1_; obtain ⟨Ap, cp, ep⟩ := Kd.R_slice HP.1; subst ep) | (go_at_call 32; refine (yb1.calls _ _ l _ _ [p] true _ (Kd.C_below HR0.1 HB.1) HC0.1 (Kd.R_reads' HP.1).2.2 (Kd.R_reads' HP.1).2.1 A2'.1).mono ?_; rintro e w5 ⟨rfl, hb⟩; have n0_ := za0.mk (zi0 HB.1 hb); have n1_ := za0.mk (zm0 BA.1 hb); clear HB BA hb HP; have HB := n0_; have BA := n1_; clear n0_ n1_) | (go_at_call 37; refine (yr1.calls k l s A0 c0 Ba _ _ rot p r1 r2 w5 (Kd.C_below HR0.1 HB.1) HC0.1 BA.1 (Kd.C_below HR2.1 HB.1) HC2.1 A3.1).mono ?_; rintro e w6 ⟨v6, rfl, ho, hb⟩; have HO := za0.mk (Kd.S_lower ho (zh0 HB.1)); have n0_ := za0.mk (zi0 HB.1 hb); clear HB hb ho; have HB := n0_; clear n0_))
   go_ret2
   exact ⟨_, by first | rfl | (simp; done), HO.1, HB.1⟩
theorem ye1.calls (k : Nat) (A0_0 : Option Addr) (c0_0 : Nat) (l0_0 : List (List Int)) (a1 : Int) (A2 : Option Addr) (c2 : Nat) (l2 : List Int) (a3 : Int) (r1 : List (List Int)) (r2 : Bool) (w : World) (hr0_0 : Kd.C (Kd.slice 3 (Kd.int .i64)) w A0_0 l0_0.length l0_0) (hc0_0 : l0_0.length ≤ c0_0) (hr2 : Kd.C (Kd.int .i64) w A2 l2.length l2) (hc2 : l2.length ≤ c2) (h : ye1.f k l0_0 a1 l2 a3 = some (r1, r2)) :
  Calls Try.prog 20 #[.agg #[.slice A0_0 l0_0.length c0_0], .int .i64 a1, .slice A2 l2.length c2, .int .i64 a3] w fun e w' => ∃ v0_ : Value, e = .returned (.tuple #[v0_, .bool r2]) ∧ Kd.S (Kd.slice 3 (Kd.int .i64)) 25 w' w.heap.size (fun _ => True) v0_ r1 ∧ Below w.heap.size w w' := by
 exact ye1.calls0 k A0_0 c0_0 l0_0 a1 A2 c2 l2 a3 r1 r2 w hr0_0 hc0_0 hr2 hc2 h
def yi0.l0 : Nat → List Int → List Int → Int → Option (Bool)
 | 0, _, _, _ => none
 | k + 1, x0, x1, x5 => if x5 < (x0.length : Int) then (if 0 ≤ x5 then (if x5 < (x1.length : Int) then (if (rd x0 x5) = (rd x1 x5) then (yi0.l0 k x0 x1 (wrap64 (x5 + 1))) else (some false)) else (none)) else (none)) else (some true)
def yi0.f (k : Nat) (l0 : List Int) (l1 : List Int) : Option (Bool) := if (l0.length : Int) = (l1.length : Int) then (yi0.l0 k l0 l1 0) else (some false)
theorem yi0.mono_l : ∀ k, (∀ y0 y1 y2, LeO (yi0.l0 k y0 y1 y2) (yi0.l0 (k + 1) y0 y1 y2))
 | 0 => fun _ _ _ r h => by simp [yi0.l0] at h
 | k + 1 => by
  have ih0 := yi0.mono_l k
  ·intro y0 y1 y2
   unfold yi0.l0
   repeat' (with_reducible first | exact ih0 _ _ _ | exact LeO.refl _ | exact LeO.none _ | refine LeO.ite ?_ ?_ | refine LeO.bind ?_ (fun _ => ?_))
theorem yi0.mono : ∀ a0 a1 k, LeO (yi0.f k a0 a1) (yi0.f (k + 1) a0 a1) := by
 intro a0 a1 k
 have ih0 := yi0.mono_l k
 unfold yi0.f
 repeat' (with_reducible first | exact ih0 _ _ _ | exact LeO.refl _ | exact LeO.none _ | refine LeO.ite ?_ ?_ | refine LeO.bind ?_ (fun _ => ?_))
theorem yi0.calls (k : Nat) (A0 : Option Addr) (c0 : Nat) (l0 : List Int) (A1 : Option Addr) (c1 : Nat) (l1 : List Int) (r : Bool) (w : World) (hr0 : Kd.C (Kd.int .i64) w A0 l0.length l0) (hc0 : l0.length ≤ c0) (hr1 : Kd.C (Kd.int .i64) w A1 l1.length l1) (hc1 : l1.length ≤ c1) (h : yi0.f k l0 l1 = some r) :
  Calls Try.prog 12 #[.slice A0 l0.length c0, .slice A1 l1.length c1] w fun e w' => e = .returned (.bool r) ∧ zt0 w w' := by
 have HR0 := za0.mk hr0
 have HC0 := za0.mk hc0
 clear hr0 hc0
 have HR1 := za0.mk hr1
 have HC1 := za0.mk hc1
 clear hr1 hc1
 have H : (if (l0.length : Int) = (l1.length : Int) then (yi0.l0 k l0 l1 0) else (some false)) = some r := h
 clear h
 by_cases c3 : (l0.length : Int) = (l1.length : Int)
 rotate_left
 ·rw [if_neg c3] at H
  have c3b0 : ((l0.length : Int) == (l1.length : Int)) = false := beq_eq_false_iff_ne.mpr c3
  have c3b1 : ((l0.length : Int) != (l1.length : Int)) = true := bne_iff_ne.mpr c3
  have c3b2 : (l0.length == l1.length) = false := by first | simpa using c3 | (simp at c3 ⊢; omega)
  obtain rfl := Option.some.inj H
  go_enter Try.func12, Try.ntmps12
  go_wp2
  repeat (go_quiet (fail); try go_wp2)
  go_ret
  exact ⟨by first | rfl | (simp; done) | (simp [*]; done), by repeat (first | exact zt0.refl _ | apply zt0.step)⟩
 rw [if_pos c3] at H
 have c3b0 : ((l0.length : Int) == (l1.length : Int)) = true := beq_iff_eq.mpr c3
 have c3b1 : ((l0.length : Int) != (l1.length : Int)) = false := bne_eq_false_iff_eq.mpr c3
 have c3b2 : (l0.length == l1.length) = true := by first | simpa using c3 | (simp at c3 ⊢; omega)
 clear c3
 have H' := za0.mk H
 clear H
 go_enter Try.func12, Try.ntmps12
 go_wp2
 repeat (go_quiet (fail); try go_wp2)
 go_loopg [5] k (fun kq v5 w' => ∃ (x5_1 : Int), v5 = .int .i64 x5_1 ∧ za0 (yi0.l0 kq l0 l1 x5_1 = some r) ∧ za0 (kq ≤ k) ∧ zt0 w w')
 case atStart => exact ⟨(0), (by first | rfl | (simp; done) | (simp [*]; done)), H', ⟨Nat.le_refl _⟩, by repeat (first | exact zt0.refl _ | apply zt0.step)⟩
 case round =>
  clear H'
  try clear c1
  try clear p2
  try clear c3
  try clear c3b0
  try clear c3b1
  try clear c3b2
  obtain ⟨x5_1, rfl, HA, HK1, ⟨m1, rfl⟩⟩ := hrel
  obtain _ | k1 := gk
  ·exact absurd HA.1 (by simp [yi0.l0])
  have H := HA.1
  clear HA
  simp only [yi0.l0] at H
  by_cases c4 : x5_1 < (l0.length : Int)
  rotate_left
  ·rw [if_neg c4] at H
   have c4b0 : decide (x5_1 < (l0.length : Int)) = false := decide_eq_false c4
   clear c4
   obtain rfl := Option.some.inj H
   go_wp2
   repeat (go_quiet (fail); try go_wp2)
   go_ret
   exact ⟨by first | rfl | (simp; done) | (simp [*]; done), by repeat (first | exact zt0.refl _ | apply zt0.step)⟩
  rw [if_pos c4] at H
  have c4b0 : decide (x5_1 < (l0.length : Int)) = true := decide_eq_true c4
  clear c4
  by_cases c5 : 0 ≤ x5_1
  rotate_left
  ·rw [if_neg c5] at H
   exact absurd H (by simp)
  rw [if_pos c5] at H
  have c5b0 : decide (0 ≤ x5_1) = true := decide_eq_true c5
  clear c5
  by_cases c6 : x5_1 < (l1.length : Int)
  rotate_left
  ·rw [if_neg c6] at H
   exact absurd H (by simp)
  rw [if_pos c6] at H
  have c6b0 : decide (x5_1 < (l1.length : Int)) = true := decide_eq_true c6
  clear c6
  by_cases c7 : (rd l0 x5_1) = (rd l1 x5_1)
  rotate_left
  ·rw [if_neg c7] at H
   have c7b0 : ((rd l0 x5_1) == (rd l1 x5_1)) = false := beq_eq_false_iff_ne.mpr c7
   have c7b1 : ((rd l0 x5_1) != (rd l1 x5_1)) = true := bne_iff_ne.mpr c7
   obtain rfl := Option.some.inj H
   have p401 : 0 ≤ (x5_1 : Int) := of_decide_eq_true (by assumption)
   have q401 : x5_1 < (l0.length : Int) := of_decide_eq_true (by assumption)
   obtain ⟨ad401, e401, hx401_0⟩ := Kd.at_int HR0.1 x5_1 p401 q401
   cases e401
   replace p401 := eq_true p401
   replace q401 := eq_true q401
   have p402 : 0 ≤ (x5_1 : Int) := of_decide_eq_true (by assumption)
   have q402 : x5_1 < (l1.length : Int) := of_decide_eq_true (by assumption)
   obtain ⟨ad402, e402, hx402_0⟩ := Kd.at_int HR1.1 x5_1 p402 q402
   cases e402
   replace p402 := eq_true p402
   replace q402 := eq_true q402
   go_wp2
   repeat (go_quiet (fail); try go_wp2)
   go_ret
   exact ⟨by first | rfl | (simp; done) | (simp [*]; done), by repeat (first | exact zt0.refl _ | apply zt0.step)⟩
  rw [if_pos c7] at H
  have c7b0 : ((rd l0 x5_1) == (rd l1 x5_1)) = true := beq_iff_eq.mpr c7
  have c7b1 : ((rd l0 x5_1) != (rd l1 x5_1)) = false := bne_eq_false_iff_eq.mpr c7
  clear c7
  have H' := za0.mk H
  clear H
  have p401 : 0 ≤ (x5_1 : Int) := of_decide_eq_true (by assumption)
  have q401 : x5_1 < (l0.length : Int) := of_decide_eq_true (by assumption)
  obtain ⟨ad401, e401, hx401_0⟩ := Kd.at_int HR0.1 x5_1 p401 q401
  cases e401
  replace p401 := eq_true p401
  replace q401 := eq_true q401
  have p402 : 0 ≤ (x5_1 : Int) := of_decide_eq_true (by assumption)
  have q402 : x5_1 < (l1.length : Int) := of_decide_eq_true (by assumption)
  obtain ⟨ad402, e402, hx402_0⟩ := Kd.at_int HR1.1 x5_1 p402 q402
  cases e402
  replace p402 := eq_true p402
  replace q402 := eq_true q402
  go_wp2
  repeat (go_quiet (fail); try go_wp2)
  go_roundg k1
  case measure => have := HK1.1; omega
  case rel => exact ⟨(wrap64 (x5_1 + 1)), (by first | rfl | (simp; done) | (simp [*]; done)), H', ⟨by have := HK1.1; omega⟩, by repeat (first | exact zt0.refl _ | apply zt0.step)⟩
def yk0.l0 : Nat → List (List Int) → List (List Int) → Int → Option (Bool)
 | 0, _, _, _ => none
 | k + 1, x0, x1, x5 => if x5 < (x0.length : Int) then (if 0 ≤ x5 then (if x5 < (x1.length : Int) then ((yi0.f k (rd_L1 x0 x5) (rd_L1 x1 x5)).bind fun t405 => (if t405 = true then (yk0.l0 k x0 x1 (wrap64 (x5 + 1))) else (some false))) else (none)) else (none)) else (some true)
def yk0.f (k : Nat) (l0 : List (List Int)) (l1 : List (List Int)) : Option (Bool) := if (l0.length : Int) = (l1.length : Int) then (yk0.l0 k l0 l1 0) else (some false)
theorem yk0.mono_l : ∀ k, (∀ y0 y1 y2, LeO (yk0.l0 k y0 y1 y2) (yk0.l0 (k + 1) y0 y1 y2))
 | 0 => fun _ _ _ r h => by simp [yk0.l0] at h
 | k + 1 => by
  have ih0 := yk0.mono_l k
  ·intro y0 y1 y2
   unfold yk0.l0
   repeat' (with_reducible first | exact ih0 _ _ _ | exact yi0.mono _ _ _ | exact LeO.refl _ | exact LeO.none _ | refine LeO.ite ?_ ?_ | refine LeO.bind ?_ (fun _ => ?_))
theorem yk0.mono : ∀ a0 a1 k, LeO (yk0.f k a0 a1) (yk0.f (k + 1) a0 a1) := by
 intro a0 a1 k
 have ih0 := yk0.mono_l k
 unfold yk0.f
 repeat' (with_reducible first | exact ih0 _ _ _ | exact yi0.mono _ _ _ | exact LeO.refl _ | exact LeO.none _ | refine LeO.ite ?_ ?_ | refine LeO.bind ?_ (fun _ => ?_))
theorem yk0.calls (k : Nat) (A0 : Option Addr) (c0 : Nat) (l0 : List (List Int)) (A1 : Option Addr) (c1 : Nat) (l1 : List (List Int)) (r : Bool) (w : World) (hr0 : Kd.C (Kd.slice 3 (Kd.int .i64)) w A0 l0.length l0) (hc0 : l0.length ≤ c0) (hr1 : Kd.C (Kd.slice 3 (Kd.int .i64)) w A1 l1.length l1) (hc1 : l1.length ≤ c1) (h : yk0.f k l0 l1 = some r) :
  Calls Try.prog 21 #[.slice A0 l0.length c0, .slice A1 l1.length c1] w fun e w' => e = .returned (.bool r) ∧ zt0 w w' := by
 have HR0 := za0.mk hr0
 have HC0 := za0.mk hc0
 clear hr0 hc0
 have HR1 := za0.mk hr1
 have HC1 := za0.mk hc1
 clear hr1 hc1
 have H : (if (l0.length : Int) = (l1.length : Int) then (yk0.l0 k l0 l1 0) else (some false)) = some r := h
 clear h
 by_cases c3 : (l0.length : Int) = (l1.length : Int)
 rotate_left
 ·rw [if_neg c3] at H
  have c3b0 : ((l0.length : Int) == (l1.length : Int)) = false := beq_eq_false_iff_ne.mpr c3
  have c3b1 : ((l0.length : Int) != (l1.length : Int)) = true := bne_iff_ne.mpr c3
  have c3b2 : (l0.length == l1.length) = false := by first | simpa using c3 | (simp at c3 ⊢; omega)
  obtain rfl := Option.some.inj H
  go_enter Try.func21, Try.ntmps21
  go_wp2
  repeat (go_quiet (fail); try go_wp2)
  go_ret
  exact ⟨by first | rfl | (simp; done) | (simp [*]; done), by repeat (first | exact zt0.refl _ | apply zt0.step)⟩
 rw [if_pos c3] at H
 have c3b0 : ((l0.length : Int) == (l1.length : Int)) = true := beq_iff_eq.mpr c3
 have c3b1 : ((l0.length : Int) != (l1.length : Int)) = false := bne_eq_false_iff_eq.mpr c3
 have c3b2 : (l0.length == l1.length) = true := by first | simpa using c3 | (simp at c3 ⊢; omega)
 clear c3
 have H' := za0.mk H
 clear H
 go_enter Try.func21, Try.ntmps21
 go_wp2
 repeat (go_quiet (fail); try go_wp2)
 go_loopg [5] k (fun kq v5 w' => ∃ (x5_1 : Int), v5 = .int .i64 x5_1 ∧ za0 (yk0.l0 kq l0 l1 x5_1 = some r) ∧ za0 (kq ≤ k) ∧ zt0 w w')
 case atStart => exact ⟨(0), (by first | rfl | (simp; done) | (simp [*]; done)), H', ⟨Nat.le_refl _⟩, by repeat (first | exact zt0.refl _ | apply zt0.step)⟩
 case round =>
  clear H'
  try clear c1
  try clear c2
  try clear p2
  try clear c3
  try clear c3b0
  try clear c3b1
  try clear c3b2
  obtain ⟨x5_1, rfl, HA, HK1, ⟨m1, rfl⟩⟩ := hrel
  obtain _ | k1 := gk
  ·exact absurd HA.1 (by simp [yk0.l0])
  have H := HA.1
  clear HA
  simp only [yk0.l0] at H
  by_cases c4 : x5_1 < (l0.length : Int)
  rotate_left
  ·rw [if_neg c4] at H
   have c4b0 : decide (x5_1 < (l0.length : Int)) = false := decide_eq_false c4
   clear c4
   obtain rfl := Option.some.inj H
   go_wp2
   repeat (go_quiet (fail); try go_wp2)
   go_ret
   exact ⟨by first | rfl | (simp; done) | (simp [*]; done), by repeat (first | exact zt0.refl _ | apply zt0.step)⟩
  rw [if_pos c4] at H
  have c4b0 : decide (x5_1 < (l0.length : Int)) = true := decide_eq_true c4
  clear c4
  by_cases c5 : 0 ≤ x5_1
  rotate_left
  ·rw [if_neg c5] at H
   exact absurd H (by simp)
  rw [if_pos c5] at H
  have c5b0 : decide (0 ≤ x5_1) = true := decide_eq_true c5
  clear c5
  by_cases c6 : x5_1 < (l1.length : Int)
  rotate_left
  ·rw [if_neg c6] at H
   exact absurd H (by simp)
  rw [if_pos c6] at H
  have c6b0 : decide (x5_1 < (l1.length : Int)) = true := decide_eq_true c6
  clear c6
  replace H := Option.bind_eq_some_iff.mp H
  obtain ⟨t405, A70, H⟩ := H
  replace H : (if t405 = true then (yk0.l0 k1 l0 l1 (wrap64 (x5_1 + 1))) else (some false)) = some r := H
  have A7 := za0.mk A70
  clear A70
  by_cases c8 : t405 = true
  rotate_left
  ·replace c8 := Bool.eq_false_iff.mpr c8
   subst c8
   have H1 : (some false) = some r := by rw [if_neg (show ¬ (false = true) by decide)] at H; exact H
   clear H
   have H := H1
   clear H1
   obtain rfl := Option.some.inj H
   have p403 : 0 ≤ (x5_1 : Int) := of_decide_eq_true (by assumption)
   have q403 : x5_1 < (l0.length : Int) := of_decide_eq_true (by assumption)
   obtain ⟨ad403, A403_0, c403_0, e403, hx403_0, hl403_0, hi403_0⟩ := at_L1 HR0.1 x5_1 p403 q403
   cases e403
   have HR403_0 := za0.mk hi403_0
   have HC403_0 := za0.mk hl403_0
   clear hi403_0 hl403_0
   replace p403 := eq_true p403
   replace q403 := eq_true q403
   have p404 : 0 ≤ (x5_1 : Int) := of_decide_eq_true (by assumption)
   have q404 : x5_1 < (l1.length : Int) := of_decide_eq_true (by assumption)
   obtain ⟨ad404, A404_0, c404_0, e404, hx404_0, hl404_0, hi404_0⟩ := at_L1 HR1.1 x5_1 p404 q404
   cases e404
   have HR404_0 := za0.mk hi404_0
   have HC404_0 := za0.mk hl404_0
   clear hi404_0 hl404_0
   replace p404 := eq_true p404
   replace q404 := eq_true q404
   go_wp2_with (first | (go_at_call 12; (with_reducible refine (yi0.calls k1 _ _ (rd_L1 l0 x5_1) _ _ (rd_L1 l1 x5_1) false _ ?side1 ?side2 ?side3 ?side4 A7.1).mono ?_); (case side1 => repeat (first | exact HR403_0.1 | (with_reducible refine Kd.C_alloc ?_ _) | (with_reducible refine Kd.C_drewN ?_ _) | (with_reducible refine Kd.C_drew ?_))); (case side2 => exact HC403_0.1); (case side3 => repeat (first | exact HR404_0.1 | (with_reducible refine Kd.C_alloc ?_ _) | (with_reducible refine Kd.C_drewN ?_ _) | (with_reducible refine Kd.C_drew ?_))); (case side4 => exact HC404_0.1); rintro e w' ⟨rfl, ⟨nd, rfl⟩⟩; (try first | exact ⟨rfl, _, World.drewN_drewN _ _ _⟩ | exact ⟨rfl, _, Eq.trans (World.drewN_drewN _ _ _) (congrArg (World.drewN _) (Nat.add_assoc _ _ _))⟩)))
   repeat (go_quiet (first | (go_at_call 12; (with_reducible refine (yi0.calls k1 _ _ (rd_L1 l0 x5_1) _ _ (rd_L1 l1 x5_1) false _ ?side1 ?side2 ?side3 ?side4 A7.1).mono ?_); (case side1 => repeat (first | exact HR403_0.1 | (with_reducible refine Kd.C_alloc ?_ _) | (with_reducible refine Kd.C_drewN ?_ _) | (with_reducible refine Kd.C_drew ?_))); (case side2 => exact HC403_0.1); (case side3 => repeat (first | exact HR404_0.1 | (with_reducible refine Kd.C_alloc ?_ _) | (with_reducible refine Kd.C_drewN ?_ _) | (with_reducible refine Kd.C_drew ?_))); (case side4 => exact HC404_0.1); rintro e w' ⟨rfl, ⟨nd, rfl⟩⟩; (try first | exact ⟨rfl, _, World.drewN_drewN _ _ _⟩ | exact ⟨rfl, _, Eq.trans (World.drewN_drewN _ _ _) (congrArg (World.drewN _) (Nat.add_assoc _ _ _))⟩))); try go_wp2_with (first | (go_at_call 12; (with_reducible refine (yi0.calls k1 _ _ (rd_L1 l0 x5_1) _ _ (rd_L1 l1 x5_1) false _ ?side1 ?side2 ?side3 ?side4 A7.1).mono ?_); (case side1 => repeat (first | exact HR403_0.1 | (with_reducible refine Kd.C_alloc ?_ _) | (with_reducible refine Kd.C_drewN ?_ _) | (with_reducible refine Kd.C_drew ?_))); (case side2 => exact HC403_0.1); (case side3 => repeat (first | exact HR404_0.1 | (with_reducible refine Kd.C_alloc ?_ _) | (with_reducible refine Kd.C_drewN ?_ _) | (with_reducible refine Kd.C_drew ?_))); (case side4 => exact HC404_0.1); rintro e w' ⟨rfl, ⟨nd, rfl⟩⟩; (try first | exact ⟨rfl, _, World.drewN_drewN _ _ _⟩ | exact ⟨rfl, _, Eq.trans (World.drewN_drewN _ _ _) (congrArg (World.drewN _) (Nat.add_assoc _ _ _))⟩))))
   go_ret
   exact ⟨by first | rfl | (simp; done) | (simp [*]; done), by repeat (first | exact zt0.refl _ | apply zt0.step)⟩
  subst c8
  have H1 : (yk0.l0 k1 l0 l1 (wrap64 (x5_1 + 1))) = some r := by rw [if_pos rfl] at H; exact H
  clear H
  have H := H1
  clear H1
  have H' := za0.mk H
  clear H
  have p403 : 0 ≤ (x5_1 : Int) := of_decide_eq_true (by assumption)
  have q403 : x5_1 < (l0.length : Int) := of_decide_eq_true (by assumption)
  obtain ⟨ad403, A403_0, c403_0, e403, hx403_0, hl403_0, hi403_0⟩ := at_L1 HR0.1 x5_1 p403 q403
  cases e403
  have HR403_0 := za0.mk hi403_0
  have HC403_0 := za0.mk hl403_0
  clear hi403_0 hl403_0
  replace p403 := eq_true p403
  replace q403 := eq_true q403
  have p404 : 0 ≤ (x5_1 : Int) := of_decide_eq_true (by assumption)
  have q404 : x5_1 < (l1.length : Int) := of_decide_eq_true (by assumption)
  obtain ⟨ad404, A404_0, c404_0, e404, hx404_0, hl404_0, hi404_0⟩ := at_L1 HR1.1 x5_1 p404 q404
  cases e404
  have HR404_0 := za0.mk hi404_0
  have HC404_0 := za0.mk hl404_0
  clear hi404_0 hl404_0
  replace p404 := eq_true p404
  replace q404 := eq_true q404
  go_wp2_with (first | (go_at_call 12; (with_reducible refine (yi0.calls k1 _ _ (rd_L1 l0 x5_1) _ _ (rd_L1 l1 x5_1) true _ ?side1 ?side2 ?side3 ?side4 A7.1).mono ?_); (case side1 => repeat (first | exact HR403_0.1 | (with_reducible refine Kd.C_alloc ?_ _) | (with_reducible refine Kd.C_drewN ?_ _) | (with_reducible refine Kd.C_drew ?_))); (case side2 => exact HC403_0.1); (case side3 => repeat (first | exact HR404_0.1 | (with_reducible refine Kd.C_alloc ?_ _) | (with_reducible refine Kd.C_drewN ?_ _) | (with_reducible refine Kd.C_drew ?_))); (case side4 => exact HC404_0.1); rintro e w' ⟨rfl, ⟨nd, rfl⟩⟩; (try first | exact ⟨rfl, _, World.drewN_drewN _ _ _⟩ | exact ⟨rfl, _, Eq.trans (World.drewN_drewN _ _ _) (congrArg (World.drewN _) (Nat.add_assoc _ _ _))⟩)))
  repeat (go_quiet (first | (go_at_call 12; (with_reducible refine (yi0.calls k1 _ _ (rd_L1 l0 x5_1) _ _ (rd_L1 l1 x5_1) true _ ?side1 ?side2 ?side3 ?side4 A7.1).mono ?_); (case side1 => repeat (first | exact HR403_0.1 | (with_reducible refine Kd.C_alloc ?_ _) | (with_reducible refine Kd.C_drewN ?_ _) | (with_reducible refine Kd.C_drew ?_))); (case side2 => exact HC403_0.1); (case side3 => repeat (first | exact HR404_0.1 | (with_reducible refine Kd.C_alloc ?_ _) | (with_reducible refine Kd.C_drewN ?_ _) | (with_reducible refine Kd.C_drew ?_))); (case side4 => exact HC404_0.1); rintro e w' ⟨rfl, ⟨nd, rfl⟩⟩; (try first | exact ⟨rfl, _, World.drewN_drewN _ _ _⟩ | exact ⟨rfl, _, Eq.trans (World.drewN_drewN _ _ _) (congrArg (World.drewN _) (Nat.add_assoc _ _ _))⟩))); try go_wp2_with (first | (go_at_call 12; (with_reducible refine (yi0.calls k1 _ _ (rd_L1 l0 x5_1) _ _ (rd_L1 l1 x5_1) true _ ?side1 ?side2 ?side3 ?side4 A7.1).mono ?_); (case side1 => repeat (first | exact HR403_0.1 | (with_reducible refine Kd.C_alloc ?_ _) | (with_reducible refine Kd.C_drewN ?_ _) | (with_reducible refine Kd.C_drew ?_))); (case side2 => exact HC403_0.1); (case side3 => repeat (first | exact HR404_0.1 | (with_reducible refine Kd.C_alloc ?_ _) | (with_reducible refine Kd.C_drewN ?_ _) | (with_reducible refine Kd.C_drew ?_))); (case side4 => exact HC404_0.1); rintro e w' ⟨rfl, ⟨nd, rfl⟩⟩; (try first | exact ⟨rfl, _, World.drewN_drewN _ _ _⟩ | exact ⟨rfl, _, Eq.trans (World.drewN_drewN _ _ _) (congrArg (World.drewN _) (Nat.add_assoc _ _ _))⟩))))
  go_roundg k1
  case measure => have := HK1.1; omega
  case rel => exact ⟨(wrap64 (x5_1 + 1)), (by first | rfl | (simp; done) | (simp [*]; done)), H', ⟨by have := HK1.1; omega⟩, by repeat (first | exact zt0.refl _ | apply zt0.step)⟩
def yw1.f (k : Nat) (l0_0 : List (List Int)) (l1_0 : List (List Int)) : Option (Bool) := (yk0.f k l0_0 l1_0).bind fun t408 => (if t408 = true then (some true) else (some false))
theorem yw1.mono : ∀ a0 a1 k, LeO (yw1.f k a0 a1) (yw1.f (k + 1) a0 a1) := by
 intro a0 a1 k
 unfold yw1.f
 repeat' (with_reducible first | exact yk0.mono _ _ _ | exact LeO.refl _ | exact LeO.none _ | refine LeO.ite ?_ ?_ | refine LeO.bind ?_ (fun _ => ?_))
theorem yw1.calls (k : Nat) (A0_0 : Option Addr) (c0_0 : Nat) (l0_0 : List (List Int)) (A1_0 : Option Addr) (c1_0 : Nat) (l1_0 : List (List Int)) (r : Bool) (w : World) (hr0_0 : Kd.C (Kd.slice 3 (Kd.int .i64)) w A0_0 l0_0.length l0_0) (hc0_0 : l0_0.length ≤ c0_0) (hr1_0 : Kd.C (Kd.slice 3 (Kd.int .i64)) w A1_0 l1_0.length l1_0) (hc1_0 : l1_0.length ≤ c1_0) (h : yw1.f k l0_0 l1_0 = some r) :
  Calls Try.prog 13 #[.agg #[.slice A0_0 l0_0.length c0_0], .agg #[.slice A1_0 l1_0.length c1_0]] w fun e w' => e = .returned (.bool r) ∧ Below w.heap.size w w' := by
 have hu29 := Try.underlying29
 have HR0_0 := za0.mk hr0_0
 have HC0_0 := za0.mk hc0_0
 clear hr0_0 hc0_0
 have HR1_0 := za0.mk hr1_0
 have HC1_0 := za0.mk hc1_0
 clear hr1_0 hc1_0
 have HB := za0.mk (Below.refl w.heap.size w)
 have H : ((yk0.f k l0_0 l1_0).bind fun t408 => (if t408 = true then (some true) else (some false))) = some r := h
 clear h
 replace H := Option.bind_eq_some_iff.mp H
 obtain ⟨t408, A30, H⟩ := H
 replace H : (if t408 = true then (some true) else (some false)) = some r := H
 have A3 := za0.mk A30
 clear A30
 by_cases c4 : t408 = true
 ·subst c4
  have H1 : (some true) = some r := by rw [if_pos rfl] at H; exact H
  clear H
  have H := H1
  clear H1
  obtain rfl := Option.some.inj H
  go_enter Try.func13, Try.ntmps13
  go_wp2_with (first | ((with_reducible refine zo0 (N := 2) rfl ?_); refine zp0 ?hg (N := 2) ?hd (cs := #[.slice A0_0 l0_0.length c0_0]) (t := 29) ?hr ?_; (case hd | hg => rfl); (case hr => go_simp <;> rfl); intro gb406 hg w5 hbox hb; have n0_ := za0.mk (zi0 (by repeat (first | exact HB.1 | apply zc0 | apply zb0 | apply zd0)) hb); have n1_ := za0.mk (hbox); have n2_ := za0.mk ((by rw [hg]; exact (zh0 (by repeat (first | exact HB.1 | apply zc0 | apply zb0 | apply zd0))) : w.heap.size ≤ gb406)); have n3_ := za0.mk ((by rw [hg]; exact (zh0 (by repeat (first | exact HB.1 | apply zc0 | apply zb0 | apply zd0))) : w.heap.size ≤ gb406)); clear HB; have HB := n0_; have BK406 := n1_; have GW406 := n2_; have GE406 := n3_; clear n0_ n1_ n2_ n3_; clear hb hbox hg) | ((with_reducible refine zo0 (N := 3) rfl ?_); refine zp0 ?hg (N := 3) ?hd (cs := #[.slice A1_0 l1_0.length c1_0]) (t := 29) ?hr ?_; (case hd | hg => rfl); (case hr => go_simp <;> rfl); intro gb407 hg w6 hbox hb; have n0_ := za0.mk (zm0 (g := gb406) (o := .cells #[.slice A0_0 l0_0.length c0_0] 29 (0, 0)) (by (with_reducible repeat (first | refine zg0 ?_ _ | refine zj0 ?_ | refine zf0 ?_ _)); exact BK406.1) hb); have n1_ := za0.mk (zi0 (by repeat (first | exact HB.1 | apply zc0 | apply zb0 | apply zd0 | refine ze0 ?_ GE406.1)) hb); have n2_ := za0.mk (hbox); have n3_ := za0.mk ((by rw [hg]; exact (zh0 (by repeat (first | exact HB.1 | apply zc0 | apply zb0 | apply zd0 | refine ze0 ?_ GE406.1))) : w.heap.size ≤ gb407)); have n4_ := za0.mk ((by rw [hg]; exact (zh0 (by repeat (first | exact HB.1 | apply zc0 | apply zb0 | apply zd0 | refine ze0 ?_ GE406.1))) : w.heap.size ≤ gb407)); have n5_ := za0.mk ((by rw [hg]; exact Nat.ne_of_lt (blk_lt (g := gb406) (o := .cells #[.slice A0_0 l0_0.length c0_0] 29 (0, 0)) (by (with_reducible repeat (first | refine zg0 ?_ _ | refine zj0 ?_ | refine zf0 ?_ _)); exact BK406.1)) : gb406 ≠ gb407)); have n6_ := za0.mk ((by rw [hg]; exact Nat.ne_of_gt (blk_lt (g := gb406) (o := .cells #[.slice A0_0 l0_0.length c0_0] 29 (0, 0)) (by (with_reducible repeat (first | refine zg0 ?_ _ | refine zj0 ?_ | refine zf0 ?_ _)); exact BK406.1)) : gb407 ≠ gb406)); clear BK406; clear HB; have BK406 := n0_; have HB := n1_; have BK407 := n2_; have GW407 := n3_; have GE407 := n4_; have NB406_407 := n5_; have NB407_406 := n6_; clear n0_ n1_ n2_ n3_ n4_ n5_ n6_; clear hb hbox hg; have hnb7 := NB406_407.1; have hnc7 := NB407_406.1; have hcz8_0 : w6.cell? ⟨gb406, 0, none⟩ = some (.slice A0_0 l0_0.length c0_0) := (zl0 BK406.1 0).trans rfl; have hfz8_0 := zk0 BK406.1 0; have hcz9_0 : w6.cell? ⟨gb407, 0, none⟩ = some (.slice A1_0 l1_0.length c1_0) := (zl0 BK407.1 0).trans rfl; have hfz9_0 := zk0 BK407.1 0) | ((with_reducible refine zn0 (f := 21) rfl ?_); refine za1 (some 9) rfl rfl Try.func21 (by kernel_rfl) rfl #[.slice A0_0 l0_0.length c0_0, .slice A1_0 l1_0.length c1_0] rfl (by (try simp only [List.map_toArray, List.map_cons, List.map_nil]); first | done | rfl | (simp only [List.length_drop, List.length_take]; rfl)) ?_; (with_reducible refine (yk0.calls k _ _ l0_0 _ _ l1_0 true _ ?side1 ?side2 ?side3 ?side4 A3.1).mono ?_); (case side1 => repeat (first | exact (Kd.C_below HR0_0.1 HB.1) | with_reducible first | refine Kd.C_alloc ?_ _ | refine Kd.C_drewN ?_ _ | refine Kd.C_drew ?_)); (case side2 => exact HC0_0.1); (case side3 => repeat (first | exact (Kd.C_below HR1_0.1 HB.1) | with_reducible first | refine Kd.C_alloc ?_ _ | refine Kd.C_drewN ?_ _ | refine Kd.C_drew ?_)); (case side4 => exact HC1_0.1); rintro e w' ⟨rfl, ⟨nd, rfl⟩⟩; refine ⟨_, rfl, ?_⟩))
  go_ret
  exact ⟨by first | rfl | (simp [errW_none, errW_some] <;> rfl) | (simp [*, errW_none, errW_some] <;> rfl), by repeat (first | exact HB.1 | apply zc0 | apply zb0 | apply zd0 | refine ze0 ?_ GE406.1 | refine ze0 ?_ GE407.1)⟩
 replace c4 := Bool.eq_false_iff.mpr c4
 subst c4
 have H1 : (some false) = some r := by rw [if_neg (show ¬ (false = true) by decide)] at H; exact H
 clear H
 have H := H1
 clear H1
 obtain rfl := Option.some.inj H
 go_enter Try.func13, Try.ntmps13
 go_wp2_with (first | ((with_reducible refine zo0 (N := 2) rfl ?_); refine zp0 ?hg (N := 2) ?hd (cs := #[.slice A0_0 l0_0.length c0_0]) (t := 29) ?hr ?_; (case hd | hg => rfl); (case hr => go_simp <;> rfl); intro gb406 hg w10 hbox hb; have n0_ := za0.mk (zi0 (by repeat (first | exact HB.1 | apply zc0 | apply zb0 | apply zd0)) hb); have n1_ := za0.mk (hbox); have n2_ := za0.mk ((by rw [hg]; exact (zh0 (by repeat (first | exact HB.1 | apply zc0 | apply zb0 | apply zd0))) : w.heap.size ≤ gb406)); have n3_ := za0.mk ((by rw [hg]; exact (zh0 (by repeat (first | exact HB.1 | apply zc0 | apply zb0 | apply zd0))) : w.heap.size ≤ gb406)); clear HB; have HB := n0_; have BK406 := n1_; have GW406 := n2_; have GE406 := n3_; clear n0_ n1_ n2_ n3_; clear hb hbox hg) | ((with_reducible refine zo0 (N := 3) rfl ?_); refine zp0 ?hg (N := 3) ?hd (cs := #[.slice A1_0 l1_0.length c1_0]) (t := 29) ?hr ?_; (case hd | hg => rfl); (case hr => go_simp <;> rfl); intro gb407 hg w11 hbox hb; have n0_ := za0.mk (zm0 (g := gb406) (o := .cells #[.slice A0_0 l0_0.length c0_0] 29 (0, 0)) (by (with_reducible repeat (first | refine zg0 ?_ _ | refine zj0 ?_ | refine zf0 ?_ _)); exact BK406.1) hb); have n1_ := za0.mk (zi0 (by repeat (first | exact HB.1 | apply zc0 | apply zb0 | apply zd0 | refine ze0 ?_ GE406.1)) hb); have n2_ := za0.mk (hbox); have n3_ := za0.mk ((by rw [hg]; exact (zh0 (by repeat (first | exact HB.1 | apply zc0 | apply zb0 | apply zd0 | refine ze0 ?_ GE406.1))) : w.heap.size ≤ gb407)); have n4_ := za0.mk ((by rw [hg]; exact (zh0 (by repeat (first | exact HB.1 | apply zc0 | apply zb0 | apply zd0 | refine ze0 ?_ GE406.1))) : w.heap.size ≤ gb407)); have n5_ := za0.mk ((by rw [hg]; exact Nat.ne_of_lt (blk_lt (g := gb406) (o := .cells #[.slice A0_0 l0_0.length c0_0] 29 (0, 0)) (by (with_reducible repeat (first | refine zg0 ?_ _ | refine zj0 ?_ | refine zf0 ?_ _)); exact BK406.1)) : gb406 ≠ gb407)); have n6_ := za0.mk ((by rw [hg]; exact Nat.ne_of_gt (blk_lt (g := gb406) (o := .cells #[.slice A0_0 l0_0.length c0_0] 29 (0, 0)) (by (with_reducible repeat (first | refine zg0 ?_ _ | refine zj0 ?_ | refine zf0 ?_ _)); exact BK406.1)) : gb407 ≠ gb406)); clear BK406; clear HB; have BK406 := n0_; have HB := n1_; have BK407 := n2_; have GW407 := n3_; have GE407 := n4_; have NB406_407 := n5_; have NB407_406 := n6_; clear n0_ n1_ n2_ n3_ n4_ n5_ n6_; clear hb hbox hg; have hnb12 := NB406_407.1; have hnc12 := NB407_406.1; have hcz13_0 : w11.cell? ⟨gb406, 0, none⟩ = some (.slice A0_0 l0_0.length c0_0) := (zl0 BK406.1 0).trans rfl; have hfz13_0 := zk0 BK406.1 0; have hcz14_0 : w11.cell? ⟨gb407, 0, none⟩ = some (.slice A1_0 l1_0.length c1_0) := (zl0 BK407.1 0).trans rfl; have hfz14_0 := zk0 BK407.1 0) | ((with_reducible refine zn0 (f := 21) rfl ?_); refine za1 (some 9) rfl rfl Try.func21 (by kernel_rfl) rfl #[.slice A0_0 l0_0.length c0_0, .slice A1_0 l1_0.length c1_0] rfl (by (try simp only [List.map_toArray, List.map_cons, List.map_nil]); first | done | rfl | (simp only [List.length_drop, List.length_take]; rfl)) ?_; (with_reducible refine (yk0.calls k _ _ l0_0 _ _ l1_0 false _ ?side1 ?side2 ?side3 ?side4 A3.1).mono ?_); (case side1 => repeat (first | exact (Kd.C_below HR0_0.1 HB.1) | with_reducible first | refine Kd.C_alloc ?_ _ | refine Kd.C_drewN ?_ _ | refine Kd.C_drew ?_)); (case side2 => exact HC0_0.1); (case side3 => repeat (first | exact (Kd.C_below HR1_0.1 HB.1) | with_reducible first | refine Kd.C_alloc ?_ _ | refine Kd.C_drewN ?_ _ | refine Kd.C_drew ?_)); (case side4 => exact HC1_0.1); rintro e w' ⟨rfl, ⟨nd, rfl⟩⟩; refine ⟨_, rfl, ?_⟩))
 go_ret
 exact ⟨by first | rfl | (simp [errW_none, errW_some] <;> rfl) | (simp [*, errW_none, errW_some] <;> rfl), by repeat (first | exact HB.1 | apply zc0 | apply zb0 | apply zd0 | refine ze0 ?_ GE406.1 | refine ze0 ?_ GE407.1)⟩
def yy0.l0 : Nat → List Int → Int → Int → Option (Int)
 | 0, _, _, _ => none
 | k + 1, x0, x1, x5 => if x5 < (x0.length : Int) then (if 0 ≤ x5 then (if (rd x0 x5) = x1 then (yy0.l0 k x0 (wrap64 (x1 + 1)) (wrap64 (x5 + 1))) else (some (-1))) else (none)) else (some x1)
def yy0.f (k : Nat) (l0 : List Int) (a1 : Int) : Option (Int) := yy0.l0 k l0 a1 0
theorem yy0.mono_l : ∀ k, (∀ y0 y1 y2, LeO (yy0.l0 k y0 y1 y2) (yy0.l0 (k + 1) y0 y1 y2))
 | 0 => fun _ _ _ r h => by simp [yy0.l0] at h
 | k + 1 => by
  have ih0 := yy0.mono_l k
  ·intro y0 y1 y2
   unfold yy0.l0
   repeat' (with_reducible first | exact ih0 _ _ _ | exact LeO.refl _ | exact LeO.none _ | refine LeO.ite ?_ ?_ | refine LeO.bind ?_ (fun _ => ?_))
theorem yy0.mono : ∀ a0 a1 k, LeO (yy0.f k a0 a1) (yy0.f (k + 1) a0 a1) := by
 intro a0 a1 k
 have ih0 := yy0.mono_l k
 unfold yy0.f
 repeat' (with_reducible first | exact ih0 _ _ _ | exact LeO.refl _ | exact LeO.none _ | refine LeO.ite ?_ ?_ | refine LeO.bind ?_ (fun _ => ?_))
theorem yy0.calls (k : Nat) (A0 : Option Addr) (c0 : Nat) (l0 : List Int) (a1 : Int) (r : Int) (w : World) (hr0 : Kd.C (Kd.int .i64) w A0 l0.length l0) (hc0 : l0.length ≤ c0) (h : yy0.f k l0 a1 = some r) :
  Calls Try.prog 16 #[.slice A0 l0.length c0, .int .i64 a1] w fun e w' => e = .returned (.int .i64 r) ∧ zt0 w w' := by
 have HR0 := za0.mk hr0
 have HC0 := za0.mk hc0
 clear hr0 hc0
 have H : (yy0.l0 k l0 a1 0) = some r := h
 clear h
 have H' := za0.mk H
 clear H
 go_enter Try.func16, Try.ntmps16
 go_wp2
 go_loopg [1, 5] k (fun kq v1 v5 w' => ∃ (x1_1 : Int) (x5_1 : Int), v1 = .int .i64 x1_1 ∧ v5 = .int .i64 x5_1 ∧ za0 (yy0.l0 kq l0 x1_1 x5_1 = some r) ∧ za0 (kq ≤ k) ∧ zt0 w w')
 case atStart => exact ⟨(a1), (0), (by first | rfl | (simp; done) | (simp [*]; done)), (by first | rfl | (simp; done) | (simp [*]; done)), H', ⟨Nat.le_refl _⟩, by repeat (first | exact zt0.refl _ | apply zt0.step)⟩
 case round =>
  clear H'
  try clear c1
  try clear p2
  obtain ⟨x1_1, x5_1, rfl, rfl, HA, HK1, ⟨m1, rfl⟩⟩ := hrel
  obtain _ | k1 := gk
  ·exact absurd HA.1 (by simp [yy0.l0])
  have H := HA.1
  clear HA
  simp only [yy0.l0] at H
  by_cases c3 : x5_1 < (l0.length : Int)
  rotate_left
  ·rw [if_neg c3] at H
   have c3b0 : decide (x5_1 < (l0.length : Int)) = false := decide_eq_false c3
   clear c3
   obtain rfl := Option.some.inj H
   go_wp2
   go_ret
   exact ⟨by first | rfl | (simp; done) | (simp [*]; done), by repeat (first | exact zt0.refl _ | apply zt0.step)⟩
  rw [if_pos c3] at H
  have c3b0 : decide (x5_1 < (l0.length : Int)) = true := decide_eq_true c3
  clear c3
  by_cases c4 : 0 ≤ x5_1
  rotate_left
  ·rw [if_neg c4] at H
   exact absurd H (by simp)
  rw [if_pos c4] at H
  have c4b0 : decide (0 ≤ x5_1) = true := decide_eq_true c4
  clear c4
  by_cases c5 : (rd l0 x5_1) = x1_1
  rotate_left
  ·rw [if_neg c5] at H
   have c5b0 : ((rd l0 x5_1) == x1_1) = false := beq_eq_false_iff_ne.mpr c5
   have c5b1 : ((rd l0 x5_1) != x1_1) = true := bne_iff_ne.mpr c5
   obtain rfl := Option.some.inj H
   have p410 : 0 ≤ (x5_1 : Int) := of_decide_eq_true (by assumption)
   have q410 : x5_1 < (l0.length : Int) := of_decide_eq_true (by assumption)
   obtain ⟨ad410, e410, hx410_0⟩ := Kd.at_int HR0.1 x5_1 p410 q410
   cases e410
   replace p410 := eq_true p410
   replace q410 := eq_true q410
   go_wp2
   go_ret
   exact ⟨by first | rfl | (simp; done) | (simp [*]; done), by repeat (first | exact zt0.refl _ | apply zt0.step)⟩
  rw [if_pos c5] at H
  have c5b0 : ((rd l0 x5_1) == x1_1) = true := beq_iff_eq.mpr c5
  have c5b1 : ((rd l0 x5_1) != x1_1) = false := bne_eq_false_iff_eq.mpr c5
  clear c5
  have H' := za0.mk H
  clear H
  have p410 : 0 ≤ (x5_1 : Int) := of_decide_eq_true (by assumption)
  have q410 : x5_1 < (l0.length : Int) := of_decide_eq_true (by assumption)
  obtain ⟨ad410, e410, hx410_0⟩ := Kd.at_int HR0.1 x5_1 p410 q410
  cases e410
  replace p410 := eq_true p410
  replace q410 := eq_true q410
  go_wp2
  go_roundg k1
  case measure => have := HK1.1; omega
  case rel => exact ⟨(wrap64 (x1_1 + 1)), (wrap64 (x5_1 + 1)), (by first | rfl | (simp; done) | (simp [*]; done)), (by first | rfl | (simp; done) | (simp [*]; done)), H', ⟨by have := HK1.1; omega⟩, by repeat (first | exact zt0.refl _ | apply zt0.step)⟩
def yz0.l0 : Nat → List (List Int) → Int → Int → Option (Int)
 | 0, _, _, _ => none
 | k + 1, x0, x1, x5 => if x5 < (x0.length : Int) then (if 0 ≤ x5 then ((yy0.f k (rd_L1 x0 x5) x1).bind fun t412 => (if t412 < 0 then (some (-1)) else (yz0.l0 k x0 t412 (wrap64 (x5 + 1))))) else (none)) else (some x1)
def yz0.f (k : Nat) (l0 : List (List Int)) (a1 : Int) : Option (Int) := yz0.l0 k l0 a1 0
theorem yz0.mono_l : ∀ k, (∀ y0 y1 y2, LeO (yz0.l0 k y0 y1 y2) (yz0.l0 (k + 1) y0 y1 y2))
 | 0 => fun _ _ _ r h => by simp [yz0.l0] at h
 | k + 1 => by
  have ih0 := yz0.mono_l k
  ·intro y0 y1 y2
   unfold yz0.l0
   repeat' (with_reducible first | exact ih0 _ _ _ | exact yy0.mono _ _ _ | exact LeO.refl _ | exact LeO.none _ | refine LeO.ite ?_ ?_ | refine LeO.bind ?_ (fun _ => ?_))
theorem yz0.mono : ∀ a0 a1 k, LeO (yz0.f k a0 a1) (yz0.f (k + 1) a0 a1) := by
 intro a0 a1 k
 have ih0 := yz0.mono_l k
 unfold yz0.f
 repeat' (with_reducible first | exact ih0 _ _ _ | exact yy0.mono _ _ _ | exact LeO.refl _ | exact LeO.none _ | refine LeO.ite ?_ ?_ | refine LeO.bind ?_ (fun _ => ?_))
theorem yz0.calls (k : Nat) (A0 : Option Addr) (c0 : Nat) (l0 : List (List Int)) (a1 : Int) (r : Int) (w : World) (hr0 : Kd.C (Kd.slice 3 (Kd.int .i64)) w A0 l0.length l0) (hc0 : l0.length ≤ c0) (h : yz0.f k l0 a1 = some r) :
  Calls Try.prog 23 #[.slice A0 l0.length c0, .int .i64 a1] w fun e w' => e = .returned (.int .i64 r) ∧ zt0 w w' := by
 have HR0 := za0.mk hr0
 have HC0 := za0.mk hc0
 clear hr0 hc0
 have H : (yz0.l0 k l0 a1 0) = some r := h
 clear h
 have H' := za0.mk H
 clear H
 go_enter Try.func23, Try.ntmps23
 go_wp2
 go_loopg [1, 5] k (fun kq v1 v5 w' => ∃ (x1_1 : Int) (x5_1 : Int), v1 = .int .i64 x1_1 ∧ v5 = .int .i64 x5_1 ∧ za0 (yz0.l0 kq l0 x1_1 x5_1 = some r) ∧ za0 (kq ≤ k) ∧ zt0 w w')
 case atStart => exact ⟨(a1), (0), (by first | rfl | (simp; done) | (simp [*]; done)), (by first | rfl | (simp; done) | (simp [*]; done)), H', ⟨Nat.le_refl _⟩, by repeat (first | exact zt0.refl _ | apply zt0.step)⟩
 case round =>
  clear H'
  try clear c2
  try clear p2
  obtain ⟨x1_1, x5_1, rfl, rfl, HA, HK1, ⟨m1, rfl⟩⟩ := hrel
  obtain _ | k1 := gk
  ·exact absurd HA.1 (by simp [yz0.l0])
  have H := HA.1
  clear HA
  simp only [yz0.l0] at H
  by_cases c3 : x5_1 < (l0.length : Int)
  rotate_left
  ·rw [if_neg c3] at H
   have c3b0 : decide (x5_1 < (l0.length : Int)) = false := decide_eq_false c3
   clear c3
   obtain rfl := Option.some.inj H
   go_wp2
   go_ret
   exact ⟨by first | rfl | (simp; done) | (simp [*]; done), by repeat (first | exact zt0.refl _ | apply zt0.step)⟩
  rw [if_pos c3] at H
  have c3b0 : decide (x5_1 < (l0.length : Int)) = true := decide_eq_true c3
  clear c3
  by_cases c4 : 0 ≤ x5_1
  rotate_left
  ·rw [if_neg c4] at H
   exact absurd H (by simp)
  rw [if_pos c4] at H
  have c4b0 : decide (0 ≤ x5_1) = true := decide_eq_true c4
  clear c4
  replace H := Option.bind_eq_some_iff.mp H
  obtain ⟨t412, A50, H⟩ := H
  replace H : (if t412 < 0 then (some (-1)) else (yz0.l0 k1 l0 t412 (wrap64 (x5_1 + 1)))) = some r := H
  have A5 := za0.mk A50
  clear A50
  by_cases c6 : t412 < 0
  ·rw [if_pos c6] at H
   have c6b0 : decide (t412 < 0) = true := decide_eq_true c6
   clear c6
   obtain rfl := Option.some.inj H
   have p411 : 0 ≤ (x5_1 : Int) := of_decide_eq_true (by assumption)
   have q411 : x5_1 < (l0.length : Int) := of_decide_eq_true (by assumption)
   obtain ⟨ad411, A411_0, c411_0, e411, hx411_0, hl411_0, hi411_0⟩ := at_L1 HR0.1 x5_1 p411 q411
   cases e411
   have HR411_0 := za0.mk hi411_0
   have HC411_0 := za0.mk hl411_0
   clear hi411_0 hl411_0
   replace p411 := eq_true p411
   replace q411 := eq_true q411
   go_wp2_with (first | ((with_reducible refine zn0 (f := 16) rfl ?_); refine za1 (some 17) rfl rfl Try.func16 (by kernel_rfl) rfl #[.slice A411_0 (rd_L1 l0 x5_1).length c411_0, .int .i64 x1_1] rfl (by (try simp only [List.map_toArray, List.map_cons, List.map_nil]); first | done | rfl | (simp only [List.length_drop, List.length_take]; rfl)) ?_; (with_reducible refine (yy0.calls k1 _ _ (rd_L1 l0 x5_1) x1_1 t412 _ ?side1 ?side2 A5.1).mono ?_); (case side1 => repeat (first | exact HR411_0.1 | (with_reducible refine Kd.C_alloc ?_ _) | (with_reducible refine Kd.C_drewN ?_ _) | (with_reducible refine Kd.C_drew ?_))); (case side2 => exact HC411_0.1); rintro e w' ⟨rfl, ⟨nd, rfl⟩⟩; refine ⟨_, rfl, ?_⟩))
   go_ret
   exact ⟨by first | rfl | (simp; done) | (simp [*]; done), by repeat (first | exact zt0.refl _ | apply zt0.step)⟩
  rw [if_neg c6] at H
  have c6b0 : decide (t412 < 0) = false := decide_eq_false c6
  clear c6
  have H' := za0.mk H
  clear H
  have p411 : 0 ≤ (x5_1 : Int) := of_decide_eq_true (by assumption)
  have q411 : x5_1 < (l0.length : Int) := of_decide_eq_true (by assumption)
  obtain ⟨ad411, A411_0, c411_0, e411, hx411_0, hl411_0, hi411_0⟩ := at_L1 HR0.1 x5_1 p411 q411
  cases e411
  have HR411_0 := za0.mk hi411_0
  have HC411_0 := za0.mk hl411_0
  clear hi411_0 hl411_0
  replace p411 := eq_true p411
  replace q411 := eq_true q411
  go_wp2_with (first | ((with_reducible refine zn0 (f := 16) rfl ?_); refine za1 (some 17) rfl rfl Try.func16 (by kernel_rfl) rfl #[.slice A411_0 (rd_L1 l0 x5_1).length c411_0, .int .i64 x1_1] rfl (by (try simp only [List.map_toArray, List.map_cons, List.map_nil]); first | done | rfl | (simp only [List.length_drop, List.length_take]; rfl)) ?_; (with_reducible refine (yy0.calls k1 _ _ (rd_L1 l0 x5_1) x1_1 t412 _ ?side1 ?side2 A5.1).mono ?_); (case side1 => repeat (first | exact HR411_0.1 | (with_reducible refine Kd.C_alloc ?_ _) | (with_reducible refine Kd.C_drewN ?_ _) | (with_reducible refine Kd.C_drew ?_))); (case side2 => exact HC411_0.1); rintro e w' ⟨rfl, ⟨nd, rfl⟩⟩; refine ⟨_, rfl, ?_⟩))
  go_roundg k1
  case measure => have := HK1.1; omega
  case rel => exact ⟨(t412), (wrap64 (x5_1 + 1)), (by first | rfl | (simp; done) | (simp [*]; done)), (by first | rfl | (simp; done) | (simp [*]; done)), H', ⟨by have := HK1.1; omega⟩, by repeat (first | exact zt0.refl _ | apply zt0.step)⟩
def yw0.l0 : Nat → List Int → Int → Int → Option (Int × List Int)
 | 0, _, _, _ => none
 | k + 1, x0, x1, x5 => if x5 < (x0.length : Int) then (if 0 ≤ x5 then (yw0.l0 k (x0.set (x5 : Int).toNat x1) (wrap64 (x1 + 1)) (wrap64 (x5 + 1))) else (none)) else (some (x1, x0))
def yw0.f (k : Nat) (l0 : List Int) (a1 : Int) : Option (Int × List Int) := yw0.l0 k l0 a1 0
theorem yw0.mono_l : ∀ k, (∀ y0 y1 y2, LeO (yw0.l0 k y0 y1 y2) (yw0.l0 (k + 1) y0 y1 y2))
 | 0 => fun _ _ _ r h => by simp [yw0.l0] at h
 | k + 1 => by
  have ih0 := yw0.mono_l k
  ·intro y0 y1 y2
   unfold yw0.l0
   repeat' (with_reducible first | exact ih0 _ _ _ | exact LeO.refl _ | exact LeO.none _ | refine LeO.ite ?_ ?_ | refine LeO.bind ?_ (fun _ => ?_))
theorem yw0.mono : ∀ a0 a1 k, LeO (yw0.f k a0 a1) (yw0.f (k + 1) a0 a1) := by
 intro a0 a1 k
 have ih0 := yw0.mono_l k
 unfold yw0.f
 repeat' (with_reducible first | exact ih0 _ _ _ | exact LeO.refl _ | exact LeO.none _ | refine LeO.ite ?_ ?_ | refine LeO.bind ?_ (fun _ => ?_))
theorem yw0.calls (k : Nat) (P0_ : Nat → Prop) (u9000_ : Value) (l0 : List Int) (a1 : Int) (r1 : Int) (r2 : List Int) (w0 w : World) (hB : Below w0.heap.size w0 w) (ho0 : Kd.R (Kd.int .i64) 3 w w0.heap.size P0_ u9000_ l0) (h : yw0.f k l0 a1 = some (r1, r2)) :
  Calls Try.prog 15 #[u9000_, .int .i64 a1] w fun e w' => e = .returned (.int .i64 r1) ∧ Kd.R (Kd.int .i64) 3 w' w0.heap.size (fun k_ => (P0_ k_ ∨ w.heap.size ≤ k_)) u9000_ r2 ∧ Below w0.heap.size w0 w' ∧ Kept w w' (fun k_ => P0_ k_) := by
 have HO0 := za0.mk (show Kd.R (Kd.int .i64) 3 w w0.heap.size (fun k_ => (P0_ k_ ∨ w.heap.size ≤ k_)) u9000_ l0 from Kd.R_mono ho0 (fun k_ hk => (.inl hk)))
 have HK := za0.mk (Kept.refl w (fun k_ => P0_ k_))
 have HW0 := za0.mk hB.size
 have HB := za0.mk hB
 clear hB
 have H : (yw0.l0 k l0 a1 0) = some (r1, r2) := h
 clear h
 have H' := za0.mk H
 clear H
 go_enter Try.func15, Try.ntmps15
 go_wp2
 go_loopg [1, 5] k (fun kq v1 v5 w' => ∃ (x0_1 : List Int) (x1_1 : Int) (x5_1 : Int), v1 = .int .i64 x1_1 ∧ v5 = .int .i64 x5_1 ∧ za0 (yw0.l0 kq x0_1 x1_1 x5_1 = some (r1, r2)) ∧ za0 (kq ≤ k) ∧ za0 (Kd.R (Kd.int .i64) 3 w' w0.heap.size (fun k_ => (P0_ k_ ∨ w.heap.size ≤ k_)) u9000_ x0_1) ∧ za0 (Kept w w' (fun k_ => P0_ k_)) ∧ za0 (Below w0.heap.size w0 w'))
 case atStart => exact ⟨(l0), (a1), (0), (by first | rfl | (simp; done) | (simp [*]; done)), (by first | rfl | (simp; done) | (simp [*]; done)), H', ⟨Nat.le_refl _⟩, ⟨by (with_reducible repeat (first | apply Kd.R_alloc | apply Kd.R_drewN | apply Kd.R_drew)); exact HO0.1⟩, ⟨by repeat (first | exact HK.1 | apply Kept.alloc | apply Kept.drewN | apply Kept.drew)⟩, ⟨by repeat (first | exact HB.1 | apply zc0 | apply zb0 | apply zd0)⟩⟩
 case round =>
  clear H'
  try clear c1
  try clear p2
  obtain ⟨x0_1, x1_1, x5_1, rfl, rfl, HA, HK1, HO_0, HK, HB⟩ := hrel
  obtain _ | k1 := gk
  ·exact absurd HA.1 (by simp [yw0.l0])
  have H := HA.1
  clear HA
  simp only [yw0.l0] at H
  by_cases c3 : x5_1 < (x0_1.length : Int)
  rotate_left
  ·rw [if_neg c3] at H
   have c3b0 : decide (x5_1 < (x0_1.length : Int)) = false := decide_eq_false c3
   clear c3
   simp only [Option.some.injEq, Prod.mk.injEq] at H
   obtain ⟨rfl, rfl⟩ := H
   obtain ⟨Ao9, co9, eo9⟩ := Kd.R_slice HO_0.1
   subst eo9
   go_wp2
   go_ret
   exact ⟨by first | rfl | (simp [errW_none, errW_some] <;> rfl) | (simp [*, errW_none, errW_some] <;> rfl), by (with_reducible repeat (first | apply Kd.R_alloc | apply Kd.R_drewN | apply Kd.R_drew)); exact HO_0.1, by repeat (first | exact HB.1 | apply zc0 | apply zb0 | apply zd0), by repeat (first | exact HK.1 | apply Kept.alloc | apply Kept.drewN | apply Kept.drew)⟩
  rw [if_pos c3] at H
  have c3b0 : decide (x5_1 < (x0_1.length : Int)) = true := decide_eq_true c3
  clear c3
  by_cases c4 : 0 ≤ x5_1
  rotate_left
  ·rw [if_neg c4] at H
   exact absurd H (by simp)
  rw [if_pos c4] at H
  have c4b0 : decide (0 ≤ x5_1) = true := decide_eq_true c4
  clear c4
  obtain ⟨y409, hy409⟩ : ∃ y_ : List Int, y_ = (x0_1.set (x5_1 : Int).toNat x1_1) := ⟨_, rfl⟩
  replace H : (yw0.l0 k1 y409 (wrap64 (x1_1 + 1)) (wrap64 (x5_1 + 1))) = some (r1, r2) := by first | (rw [hy409]; with_reducible exact H) | (have H2_ := (Option.bind_some _ _).symm.trans H; rw [hy409]; with_reducible exact H2_) | (have H2_ := (Option.bind_some _ _).symm.trans H; with_reducible exact H2_) | with_reducible exact H | (rw [hy409]; exact H) | exact H
  have Ny409 := za0.mk hy409
  clear hy409
  have H' := za0.mk H
  clear H
  obtain ⟨Ao6, co6, eo6⟩ := Kd.R_slice HO_0.1
  subst eo6
  have p5 : 0 ≤ (x5_1 : Int) := of_decide_eq_true (by assumption)
  have q5 : (x5_1 : Int) < ((x0_1.length : Int) : Int) := of_decide_eq_true (by assumption)
  obtain ⟨go5, co5, eo5, gb5, gl5, cl5, HG5⟩ := Kd.R_form HO_0.1 (by omega)
  (first | cases eo5 | (injection eo5 with ea_ en_ ec_; (first | subst ea_ | (injection ea_ with ea_; subst ea_)); subst ec_; clear en_))
  have GB5 := za0.mk gb5
  have GG5 := za0.mk HG5
  clear gb5 gl5 HG5
  have HMgo5 := za0.mk (show (P0_ go5 ∨ w.heap.size ≤ go5) from (HO_0.1.1 _ rfl))
  obtain ⟨hx5_0, hf5_0⟩ := Kd.R_celln 0 HO_0.1 (x5_1 : Int) p5 q5
  replace p5 := eq_true p5
  replace q5 := eq_true q5
  have HP7 := Kd.R_putg HO_0.1 (x5_1 : Int) x1_1
  go_wp2_with (first | ((with_reducible refine gate_store (t := 3) (p := 15) rfl ?_); refine store_event (t := 3) (p := 15) (v := ?vo_w8) (w1 := (wr.setCell ⟨go5, (x5_1 : Int).toNat, none⟩ (.int .i64 x1_1))) ?hg ?ho ?hn ?hr ?_; (case ho => rfl); (case hg => rfl); (case hn => rfl); (case hr => go_simp <;> rfl); intro w8 hw; have hg : wr.grownBy w8 (some go5) := (by rw [hw]; exact HP7.2); have hp_ : Kd.R (Kd.int .i64) 3 w8 w0.heap.size (fun k_ => (P0_ k_ ∨ w.heap.size ≤ k_)) (.slice (some ⟨go5, 0, none⟩) x0_1.length co6) y409 := (by rw [hw, Ny409.1]; exact HP7.1); clear HP7; have n0_ := za0.mk (hp_); have n1_ := za0.mk ((by rw [hw]; exact ze0 (HB.1) GB5.1 : Below w0.heap.size w0 w8)); have n2_ := za0.mk (Kept.of_grown (S := (fun k_ => P0_ k_)) hg (by repeat (first | exact HK.1 | apply Kept.alloc | apply Kept.drewN | apply Kept.drew)) (fun k_ e_ => (HO_0.1.1 k_ e_))); clear HO_0; clear HB; clear HK; have HO_0 := n0_; have HB := n1_; have HK := n2_; clear n0_ n1_ n2_; clear hg hw hp_))
  go_roundg k1
  case measure => have := HK1.1; omega
  case rel => exact ⟨(y409), (wrap64 (x1_1 + 1)), (wrap64 (x5_1 + 1)), (by first | rfl | (simp; done) | (simp [*]; done)), (by first | rfl | (simp; done) | (simp [*]; done)), H', ⟨by have := HK1.1; omega⟩, ⟨by (with_reducible repeat (first | apply Kd.R_alloc | apply Kd.R_drewN | apply Kd.R_drew)); exact HO_0.1⟩, ⟨by repeat (first | exact HK.1 | apply Kept.alloc | apply Kept.drewN | apply Kept.drew)⟩, ⟨by repeat (first | exact HB.1 | apply zc0 | apply zb0 | apply zd0)⟩⟩
def yd1.l0 : Nat → List (List Int) → Int → Int → Option (Int × List (List Int))
 | 0, _, _, _ => none
 | k + 1, xs, a, i => if i < (xs.length : Int) then (if 0 ≤ i then ((yw0.f k (rd_L1 xs i) a).bind fun t => yd1.l0 k (xs.set i.toNat t.2) t.1 (wrap64 (i + 1))) else none) else some (a, xs)
def yd1.f (k : Nat) (l0 : List (List Int)) (a1 : Int) : Option (Int × List (List Int)) := yd1.l0 k l0 a1 0
theorem yd1.calls (k : Nat) (P0_ : Nat → Prop) (u0_ : Value) (l0 : List (List Int)) (a1 : Int) (r1 : Int) (r2 : List (List Int)) (w0 w : World) (hB : Below w0.heap.size w0 w) (ho0 : Kd.S (Kd.slice 3 (Kd.int .i64)) 25 w w0.heap.size P0_ u0_ l0) (h : yd1.f k l0 a1 = some (r1, r2)) :
  Calls Try.prog 22 #[u0_, .int .i64 a1] w fun e w' => e = .returned (.int .i64 r1) ∧ Kd.S (Kd.slice 3 (Kd.int .i64)) 25 w' w0.heap.size P0_ u0_ r2 ∧ Below w0.heap.size w0 w' ∧ Kept w w' P0_ := by
 obtain ⟨A, c, rfl⟩ := Kd.S_slice ho0
 have HO0 := za0.mk ho0
 have HB := za0.mk hB
 have HK := za0.mk (Kept.refl w P0_)
 clear ho0 hB
 have H' := za0.mk (show yd1.l0 k l0 a1 0 = some (r1, r2) from h)
 clear h
 go_enter Try.func22, Try.ntmps22
 go_wp2
 go_loopg [1, 5] k (fun kq v1 v5 w' => ∃ (xs : List (List Int)) (x1 : Int) (x5 : Int), v1 = .int .i64 x1 ∧ v5 = .int .i64 x5 ∧ za0 (yd1.l0 kq xs x1 x5 = some (r1, r2)) ∧ za0 (kq ≤ k) ∧ za0 (xs.length = l0.length) ∧ za0 (Kd.S (Kd.slice 3 (Kd.int .i64)) 25 w' w0.heap.size P0_ (.slice A l0.length c) xs) ∧ za0 (Kept w w' P0_) ∧ za0 (Below w0.heap.size w0 w'))
 case atStart => exact ⟨l0, a1, 0, rfl, rfl, H', ⟨Nat.le_refl _⟩, ⟨rfl⟩, ⟨by (with_reducible repeat (first | apply Kd.S_alloc | apply Kd.S_drewN | apply Kd.S_drew)); exact HO0.1⟩, ⟨by repeat (first | exact HK.1 | apply Kept.alloc | apply Kept.drewN | apply Kept.drew)⟩, ⟨by repeat (first | exact HB.1 | apply zc0 | apply zb0 | apply zd0)⟩⟩
 case round =>
  clear H' HO0 HB HK
  obtain ⟨xs, x1, x5, rfl, rfl, HA, HK1, HL, HO, HK, HB⟩ := hrel
  obtain _ | k1 := gk
  ·exact absurd HA.1 (by simp [yd1.l0])
  have H := HA.1
  clear HA
  simp only [yd1.l0] at H
  by_cases c3 : x5 < (xs.length : Int)
  rotate_left
  ·rw [if_neg c3] at H
   rw [HL.1] at c3
   have c3b0 : decide (x5 < (l0.length : Int)) = false := decide_eq_false c3
   simp only [Option.some.injEq, Prod.mk.injEq] at H
   obtain ⟨rfl, rfl⟩ := H
   go_wp2
   go_ret
   exact ⟨by first | rfl | (simp; done), by (with_reducible repeat (first | apply Kd.S_alloc | apply Kd.S_drewN | apply Kd.S_drew)); exact HO.1, by repeat (first | exact HB.1 | apply zc0 | apply zb0 | apply zd0), by repeat (first | exact HK.1 | apply Kept.alloc | apply Kept.drewN | apply Kept.drew)⟩
  rw [if_pos c3] at H
  rw [HL.1] at c3
  have c3b0 : decide (x5 < (l0.length : Int)) = true := decide_eq_true c3
  by_cases c4 : 0 ≤ x5
  rotate_left
  ·rw [if_neg c4] at H
   exact absurd H (by simp)
  rw [if_pos c4] at H
  have c4b0 : decide (0 ≤ x5) = true := decide_eq_true c4
  replace H := Option.bind_eq_some_iff.mp H
  obtain ⟨⟨t1, t2⟩, A5, H⟩ := H
  have A5 := za0.mk A5
  have H' := za0.mk H
  clear H
  obtain ⟨g, cc, eo, gb, gl, cl, HG⟩ := Kd.S_form HO.1 (by have := HL.1; omega)
  (first | cases eo | (injection eo with ea_ en_ ec_; (first | subst ea_ | (injection ea_ with ea_; subst ea_)); subst ec_; clear en_))
  clear gb gl HG
  obtain ⟨oki, cs, hcl, hM, hcc, hoki, hH⟩ := Kd.S_lend HO.1 ([] : List Int) x5 c4 c3
  obtain ⟨ev, rfl, hR⟩ := hM
  have hx0 : wr.cell? ⟨g, x5.toNat, none⟩ = some ev := by have := hcc 0 ev rfl; simpa [Kd.slice] using this
  have hfr : wr.frozen? ⟨g, x5.toNat, none⟩ = false := by
   obtain ⟨_, _, _, _, hfr⟩ := Kd.R_elem (Kd.S_R HO.1) ([] : List Int) x5 c4 c3
   have := hfr 0; simpa [Kd.slice] using this
  have HR := za0.mk (show Kd.R (Kd.int .i64) 3 wr w0.heap.size oki ev (rd_L1 xs x5) from hR)
  have HH := za0.mk hH
  have HI := za0.mk hoki
  clear hH hR hcc hcl HO
  obtain ⟨Ae, ce, ee⟩ := Kd.R_slice HR.1
  subst ee
  go_wp2_with (first | ((with_reducible refine zn0 (f := 15) rfl ?_); refine za1 (some 17) rfl rfl Try.func15 (by kernel_rfl) rfl #[.slice Ae (rd_L1 xs x5).length ce, .int .i64 x1] rfl (by (try simp only [List.map_toArray, List.map_cons, List.map_nil]); first | done | rfl | (simp only [List.length_drop, List.length_take]; rfl)) ?_; (with_reducible refine (yw0.calls k1 oki _ (rd_L1 xs x5) x1 t1 t2 w0 _ ?side1 ?side2 A5.1).mono ?_); (case side1 => repeat (first | exact HB.1 | apply zc0 | apply zb0 | apply zd0)); (case side2 => (with_reducible repeat (first | apply Kd.R_alloc | apply Kd.R_drewN | apply Kd.R_drew)); exact HR.1); rintro e w5 ⟨rfl, ho, hb, hk⟩; refine ⟨_, rfl, ?_⟩; have hk2 : Kept wr w5 oki := Kept.then_ (by repeat (first | exact Kept.refl _ _ | apply Kept.alloc | apply Kept.drewN | apply Kept.drew)) hk (fun _ h => .inl h); have n0_ := za0.mk (Kd.H_back (Kd.H_kept HH.1 hk2 (fun _ _ hn hs => hn hs)) (okp := oki) (x' := t2) ⟨_, rfl, Kd.R_mono (Kd.R_tight rfl ho) (fun k_ hk_ => HR.1.1 k_ hk_.symm)⟩ (fun _ h => h)); have n1_ := za0.mk hb; have n2_ := za0.mk (show Kept w w5 P0_ from Kept.then_ HK.1 hk2 (fun k_ h_ => .inl (HI.1 k_ h_).1)); clear HB HK HH HR; have HO := n0_; have HB := n1_; have HK := n2_; clear n0_ n1_ n2_; clear hk2 hk hb ho))
  go_roundg k1
  case measure => have := HK1.1; omega
  case rel => exact ⟨_, t1, (wrap64 (x5 + 1)), (by first | rfl | (simp; done) | (simp [*]; done)), (by first | rfl | (simp; done) | (simp [*]; done)), H', ⟨by have := HK1.1; omega⟩, ⟨by rw [List.length_set]; exact HL.1⟩, ⟨by (with_reducible repeat (first | apply Kd.S_alloc | apply Kd.S_drewN | apply Kd.S_drew)); exact HO.1⟩, ⟨by repeat (first | exact HK.1 | apply Kept.alloc | apply Kept.drewN | apply Kept.drew)⟩, ⟨by repeat (first | exact HB.1 | apply zc0 | apply zb0 | apply zd0)⟩⟩
def yh2.f (k : Nat) (l0 : List (List Int)) (a1 : Int) : Option (Int × List (List Int)) := yd1.f k l0 a1
theorem yh2.calls (k : Nat) (P0_ : Nat → Prop) (u0_ : Value) (l0 : List (List Int)) (a1 : Int) (r1 : Int) (r2 : List (List Int)) (w0 w : World) (hB : Below w0.heap.size w0 w) (ho0 : Kd.S (Kd.slice 3 (Kd.int .i64)) 25 w w0.heap.size P0_ u0_ l0) (h : yh2.f k l0 a1 = some (r1, r2)) :
  Calls Try.prog 14 #[.agg #[u0_], .int .i64 a1] w fun e w' => e = .returned (.int .i64 r1) ∧ Kd.S (Kd.slice 3 (Kd.int .i64)) 25 w' w0.heap.size P0_ u0_ r2 ∧ Below w0.heap.size w0 w' ∧ Kept w w' P0_ := by
 have hu := Try.underlying29
 obtain ⟨A, c, rfl⟩ := Kd.S_slice ho0
 have HO0 := za0.mk ho0
 have HB := za0.mk hB
 clear ho0 hB
 have HA := za0.mk (show yd1.f k l0 a1 = some (r1, r2) from h)
 clear h
 go_enter Try.func14, Try.ntmps14
 go_wp2_with ((with_reducible refine zn0 (f := 22) rfl ?_); refine za1 (some 8) rfl rfl Try.func22 (by kernel_rfl) rfl #[.slice A l0.length c, .int .i64 a1] rfl (by (try simp only [List.map_toArray, List.map_cons, List.map_nil]); first | done | rfl) ?_; (with_reducible refine (yd1.calls k P0_ _ l0 a1 r1 r2 w0 _ ?side1 ?side2 HA.1).mono ?_); (case side1 => repeat (first | exact HB.1 | apply zc0 | apply zb0 | apply zd0)); (case side2 => (with_reducible repeat (first | apply Kd.S_alloc | apply Kd.S_drewN | apply Kd.S_drew)); exact HO0.1); rintro e w5 ⟨rfl, ho, hb, hk⟩; refine ⟨_, rfl, ?_⟩; have n0_ := za0.mk ho; have n1_ := za0.mk hb; have n2_ := za0.mk (show Kept w w5 P0_ from Kept.then_ (by repeat (first | exact Kept.refl _ _ | apply Kept.alloc | apply Kept.drewN | apply Kept.drew)) hk (fun _ h => .inl h)); clear ho hb hk HB HO0)
 go_ret
 exact ⟨by first | rfl | (simp; done), by (with_reducible repeat (first | apply Kd.S_alloc | apply Kd.S_drewN | apply Kd.S_drew)); exact n0_.out, by repeat (first | exact n1_.out | apply zc0 | apply zb0 | apply zd0), by repeat (first | exact n2_.out | apply Kept.alloc | apply Kept.drewN | apply Kept.drew)⟩
def ye2.f (l0 : List Int) (a1 : Int) : Option (Int) := if (wrap64 (a1 - (l0.length : Int))) < 0 then (some (-1)) else (some (wrap64 (a1 - (l0.length : Int))))
theorem ye2.calls (A0 : Option Addr) (c0 : Nat) (l0 : List Int) (a1 : Int) (r : Int) (w : World) (hr0 : Kd.C (Kd.int .i64) w A0 l0.length l0) (hc0 : l0.length ≤ c0) (h : ye2.f l0 a1 = some r) :
  Calls Try.prog 41 #[.slice A0 l0.length c0, .int .i64 a1] w fun e w' => e = .returned (.int .i64 r) ∧ zt0 w w' := by
 have HR0 := za0.mk hr0
 have HC0 := za0.mk hc0
 clear hr0 hc0
 have H : (if (wrap64 (a1 - (l0.length : Int))) < 0 then (some (-1)) else (some (wrap64 (a1 - (l0.length : Int))))) = some r := h
 clear h
 by_cases c3 : (wrap64 (a1 - (l0.length : Int))) < 0
 ·rw [if_pos c3] at H
  have c3b0 : decide ((wrap64 (a1 - (l0.length : Int))) < 0) = true := decide_eq_true c3
  clear c3
  obtain rfl := Option.some.inj H
  go_enter Try.func41, Try.ntmps41
  go_wp2
  go_ret
  exact ⟨by first | rfl | (simp; done) | (simp [*]; done), by repeat (first | exact zt0.refl _ | apply zt0.step)⟩
 rw [if_neg c3] at H
 have c3b0 : decide ((wrap64 (a1 - (l0.length : Int))) < 0) = false := decide_eq_false c3
 clear c3
 obtain rfl := Option.some.inj H
 go_enter Try.func41, Try.ntmps41
 go_wp2
 go_ret
 exact ⟨by first | rfl | (simp; done) | (simp [*]; done), by repeat (first | exact zt0.refl _ | apply zt0.step)⟩
def yu0.l0 : Nat → List (List Int) → Int → Int → Option (Int)
 | 0, _, _, _ => none
 | k + 1, x0, x1, x5 => if x5 < (x0.length : Int) then (if 0 ≤ x5 then ((ye2.f (rd_L1 x0 x5) x1).bind fun t379 => (if t379 < 0 then (some (-1)) else (yu0.l0 k x0 t379 (wrap64 (x5 + 1))))) else (none)) else (some x1)
def yu0.f (k : Nat) (l0 : List (List Int)) (a1 : Int) : Option (Int) := if (wrap64 (a1 - (l0.length : Int))) < 0 then (some (-1)) else (yu0.l0 k l0 (wrap64 (a1 - (l0.length : Int))) 0)
theorem yu0.mono_l : ∀ k, (∀ y0 y1 y2, LeO (yu0.l0 k y0 y1 y2) (yu0.l0 (k + 1) y0 y1 y2))
 | 0 => fun _ _ _ r h => by simp [yu0.l0] at h
 | k + 1 => by
  have ih0 := yu0.mono_l k
  ·intro y0 y1 y2
   unfold yu0.l0
   repeat' (with_reducible first | exact ih0 _ _ _ | exact LeO.refl _ | exact LeO.none _ | refine LeO.ite ?_ ?_ | refine LeO.bind ?_ (fun _ => ?_))
theorem yu0.mono : ∀ a0 a1 k, LeO (yu0.f k a0 a1) (yu0.f (k + 1) a0 a1) := by
 intro a0 a1 k
 have ih0 := yu0.mono_l k
 unfold yu0.f
 repeat' (with_reducible first | exact ih0 _ _ _ | exact LeO.refl _ | exact LeO.none _ | refine LeO.ite ?_ ?_ | refine LeO.bind ?_ (fun _ => ?_))
theorem yu0.calls (k : Nat) (A0 : Option Addr) (c0 : Nat) (l0 : List (List Int)) (a1 : Int) (r : Int) (w : World) (hr0 : Kd.C (Kd.slice 3 (Kd.int .i64)) w A0 l0.length l0) (hc0 : l0.length ≤ c0) (h : yu0.f k l0 a1 = some r) :
  Calls Try.prog 26 #[.slice A0 l0.length c0, .int .i64 a1] w fun e w' => e = .returned (.int .i64 r) ∧ zt0 w w' := by
 have HR0 := za0.mk hr0
 have HC0 := za0.mk hc0
 clear hr0 hc0
 have H : (if (wrap64 (a1 - (l0.length : Int))) < 0 then (some (-1)) else (yu0.l0 k l0 (wrap64 (a1 - (l0.length : Int))) 0)) = some r := h
 clear h
 by_cases c3 : (wrap64 (a1 - (l0.length : Int))) < 0
 ·rw [if_pos c3] at H
  have c3b0 : decide ((wrap64 (a1 - (l0.length : Int))) < 0) = true := decide_eq_true c3
  clear c3
  obtain rfl := Option.some.inj H
  go_enter Try.func26, Try.ntmps26
  go_wp2
  go_ret
  exact ⟨by first | rfl | (simp; done) | (simp [*]; done), by repeat (first | exact zt0.refl _ | apply zt0.step)⟩
 rw [if_neg c3] at H
 have c3b0 : decide ((wrap64 (a1 - (l0.length : Int))) < 0) = false := decide_eq_false c3
 clear c3
 have H' := za0.mk H
 clear H
 go_enter Try.func26, Try.ntmps26
 go_wp2
 go_loopg [1, 5] k (fun kq v1 v5 w' => ∃ (x1_1 : Int) (x5_1 : Int), v1 = .int .i64 x1_1 ∧ v5 = .int .i64 x5_1 ∧ za0 (yu0.l0 kq l0 x1_1 x5_1 = some r) ∧ za0 (kq ≤ k) ∧ zt0 w w')
 case atStart => exact ⟨(wrap64 (a1 - (l0.length : Int))), (0), (by first | rfl | (simp; done) | (simp [*]; done)), (by first | rfl | (simp; done) | (simp [*]; done)), H', ⟨Nat.le_refl _⟩, by repeat (first | exact zt0.refl _ | apply zt0.step)⟩
 case round =>
  clear H'
  try clear c2
  try clear p2
  try clear c3
  try clear c3b0
  obtain ⟨x1_1, x5_1, rfl, rfl, HA, HK1, ⟨m1, rfl⟩⟩ := hrel
  obtain _ | k1 := gk
  ·exact absurd HA.1 (by simp [yu0.l0])
  have H := HA.1
  clear HA
  simp only [yu0.l0] at H
  by_cases c4 : x5_1 < (l0.length : Int)
  rotate_left
  ·rw [if_neg c4] at H
   have c4b0 : decide (x5_1 < (l0.length : Int)) = false := decide_eq_false c4
   clear c4
   obtain rfl := Option.some.inj H
   go_wp2
   go_ret
   exact ⟨by first | rfl | (simp; done) | (simp [*]; done), by repeat (first | exact zt0.refl _ | apply zt0.step)⟩
  rw [if_pos c4] at H
  have c4b0 : decide (x5_1 < (l0.length : Int)) = true := decide_eq_true c4
  clear c4
  by_cases c5 : 0 ≤ x5_1
  rotate_left
  ·rw [if_neg c5] at H
   exact absurd H (by simp)
  rw [if_pos c5] at H
  have c5b0 : decide (0 ≤ x5_1) = true := decide_eq_true c5
  clear c5
  replace H := Option.bind_eq_some_iff.mp H
  obtain ⟨t379, A60, H⟩ := H
  replace H : (if t379 < 0 then (some (-1)) else (yu0.l0 k1 l0 t379 (wrap64 (x5_1 + 1)))) = some r := H
  have A6 := za0.mk A60
  clear A60
  by_cases c7 : t379 < 0
  ·rw [if_pos c7] at H
   have c7b0 : decide (t379 < 0) = true := decide_eq_true c7
   clear c7
   obtain rfl := Option.some.inj H
   have p378 : 0 ≤ (x5_1 : Int) := of_decide_eq_true (by assumption)
   have q378 : x5_1 < (l0.length : Int) := of_decide_eq_true (by assumption)
   obtain ⟨ad378, A378_0, c378_0, e378, hx378_0, hl378_0, hi378_0⟩ := at_L1 HR0.1 x5_1 p378 q378
   cases e378
   have HR378_0 := za0.mk hi378_0
   have HC378_0 := za0.mk hl378_0
   clear hi378_0 hl378_0
   replace p378 := eq_true p378
   replace q378 := eq_true q378
   go_wp2_with (first | ((with_reducible refine zn0 (f := 41) rfl ?_); refine za1 (some 23) rfl rfl Try.func41 (by kernel_rfl) rfl #[.slice A378_0 (rd_L1 l0 x5_1).length c378_0, .int .i64 x1_1] rfl (by (try simp only [List.map_toArray, List.map_cons, List.map_nil]); first | done | rfl | (simp only [List.length_drop, List.length_take]; rfl)) ?_; (with_reducible refine (ye2.calls _ _ (rd_L1 l0 x5_1) x1_1 t379 _ ?side1 ?side2 A6.1).mono ?_); (case side1 => repeat (first | exact HR378_0.1 | (with_reducible refine Kd.C_alloc ?_ _) | (with_reducible refine Kd.C_drewN ?_ _) | (with_reducible refine Kd.C_drew ?_))); (case side2 => exact HC378_0.1); rintro e w' ⟨rfl, ⟨nd, rfl⟩⟩; refine ⟨_, rfl, ?_⟩))
   go_ret
   exact ⟨by first | rfl | (simp; done) | (simp [*]; done), by repeat (first | exact zt0.refl _ | apply zt0.step)⟩
  rw [if_neg c7] at H
  have c7b0 : decide (t379 < 0) = false := decide_eq_false c7
  clear c7
  have H' := za0.mk H
  clear H
  have p378 : 0 ≤ (x5_1 : Int) := of_decide_eq_true (by assumption)
  have q378 : x5_1 < (l0.length : Int) := of_decide_eq_true (by assumption)
  obtain ⟨ad378, A378_0, c378_0, e378, hx378_0, hl378_0, hi378_0⟩ := at_L1 HR0.1 x5_1 p378 q378
  cases e378
  have HR378_0 := za0.mk hi378_0
  have HC378_0 := za0.mk hl378_0
  clear hi378_0 hl378_0
  replace p378 := eq_true p378
  replace q378 := eq_true q378
  go_wp2_with (first | ((with_reducible refine zn0 (f := 41) rfl ?_); refine za1 (some 23) rfl rfl Try.func41 (by kernel_rfl) rfl #[.slice A378_0 (rd_L1 l0 x5_1).length c378_0, .int .i64 x1_1] rfl (by (try simp only [List.map_toArray, List.map_cons, List.map_nil]); first | done | rfl | (simp only [List.length_drop, List.length_take]; rfl)) ?_; (with_reducible refine (ye2.calls _ _ (rd_L1 l0 x5_1) x1_1 t379 _ ?side1 ?side2 A6.1).mono ?_); (case side1 => repeat (first | exact HR378_0.1 | (with_reducible refine Kd.C_alloc ?_ _) | (with_reducible refine Kd.C_drewN ?_ _) | (with_reducible refine Kd.C_drew ?_))); (case side2 => exact HC378_0.1); rintro e w' ⟨rfl, ⟨nd, rfl⟩⟩; refine ⟨_, rfl, ?_⟩))
  go_roundg k1
  case measure => have := HK1.1; omega
  case rel => exact ⟨(t379), (wrap64 (x5_1 + 1)), (by first | rfl | (simp; done) | (simp [*]; done)), (by first | rfl | (simp; done) | (simp [*]; done)), H', ⟨by have := HK1.1; omega⟩, by repeat (first | exact zt0.refl _ | apply zt0.step)⟩
def yx1.f (k : Nat) (l0_0 : List (List Int)) (a1 : Int) : Option (Int) := (yu0.f k l0_0 a1).bind fun t381 => (if t381 < 0 then (some (-1)) else (some t381))
theorem yx1.mono : ∀ a0 a1 k, LeO (yx1.f k a0 a1) (yx1.f (k + 1) a0 a1) := by
 intro a0 a1 k
 unfold yx1.f
 repeat' (with_reducible first | exact yu0.mono _ _ _ | exact LeO.refl _ | exact LeO.none _ | refine LeO.ite ?_ ?_ | refine LeO.bind ?_ (fun _ => ?_))
theorem yx1.calls (k : Nat) (A0_0 : Option Addr) (c0_0 : Nat) (l0_0 : List (List Int)) (a1 : Int) (r : Int) (w : World) (hr0_0 : Kd.C (Kd.slice 3 (Kd.int .i64)) w A0_0 l0_0.length l0_0) (hc0_0 : l0_0.length ≤ c0_0) (h : yx1.f k l0_0 a1 = some r) :
  Calls Try.prog 7 #[.agg #[.slice A0_0 l0_0.length c0_0], .int .i64 a1] w fun e w' => e = .returned (.int .i64 r) ∧ Below w.heap.size w w' := by
 have hu24 := Try.underlying24
 have HR0_0 := za0.mk hr0_0
 have HC0_0 := za0.mk hc0_0
 clear hr0_0 hc0_0
 have HB := za0.mk (Below.refl w.heap.size w)
 have H : ((yu0.f k l0_0 a1).bind fun t381 => (if t381 < 0 then (some (-1)) else (some t381))) = some r := h
 clear h
 replace H := Option.bind_eq_some_iff.mp H
 obtain ⟨t381, A30, H⟩ := H
 replace H : (if t381 < 0 then (some (-1)) else (some t381)) = some r := H
 have A3 := za0.mk A30
 clear A30
 by_cases c4 : t381 < 0
 ·rw [if_pos c4] at H
  have c4b0 : decide (t381 < 0) = true := decide_eq_true c4
  clear c4
  obtain rfl := Option.some.inj H
  go_enter Try.func7, Try.ntmps7
  go_wp2_with (first | ((with_reducible refine zo0 (N := 2) rfl ?_); refine zp0 ?hg (N := 2) ?hd (cs := #[.slice A0_0 l0_0.length c0_0]) (t := 24) ?hr ?_; (case hd | hg => rfl); (case hr => go_simp <;> rfl); intro gb380 hg w5 hbox hb; have n0_ := za0.mk (zi0 (by repeat (first | exact HB.1 | apply zc0 | apply zb0 | apply zd0)) hb); have n1_ := za0.mk (hbox); have n2_ := za0.mk ((by rw [hg]; exact (zh0 (by repeat (first | exact HB.1 | apply zc0 | apply zb0 | apply zd0))) : w.heap.size ≤ gb380)); have n3_ := za0.mk ((by rw [hg]; exact (zh0 (by repeat (first | exact HB.1 | apply zc0 | apply zb0 | apply zd0))) : w.heap.size ≤ gb380)); clear HB; have HB := n0_; have BK380 := n1_; have GW380 := n2_; have GE380 := n3_; clear n0_ n1_ n2_ n3_; clear hb hbox hg; have hcz6_0 : w5.cell? ⟨gb380, 0, none⟩ = some (.slice A0_0 l0_0.length c0_0) := (zl0 BK380.1 0).trans rfl; have hfz6_0 := zk0 BK380.1 0) | ((with_reducible refine zn0 (f := 26) rfl ?_); refine za1 (some 8) rfl rfl Try.func26 (by kernel_rfl) rfl #[.slice A0_0 l0_0.length c0_0, .int .i64 a1] rfl (by (try simp only [List.map_toArray, List.map_cons, List.map_nil]); first | done | rfl | (simp only [List.length_drop, List.length_take]; rfl)) ?_; (with_reducible refine (yu0.calls k _ _ l0_0 a1 t381 _ ?side1 ?side2 A3.1).mono ?_); (case side1 => repeat (first | exact (Kd.C_below HR0_0.1 HB.1) | with_reducible first | refine Kd.C_alloc ?_ _ | refine Kd.C_drewN ?_ _ | refine Kd.C_drew ?_)); (case side2 => exact HC0_0.1); rintro e w' ⟨rfl, ⟨nd, rfl⟩⟩; refine ⟨_, rfl, ?_⟩))
  go_ret
  exact ⟨by first | rfl | (simp [errW_none, errW_some] <;> rfl) | (simp [*, errW_none, errW_some] <;> rfl), by repeat (first | exact HB.1 | apply zc0 | apply zb0 | apply zd0 | refine ze0 ?_ GE380.1)⟩
 rw [if_neg c4] at H
 have c4b0 : decide (t381 < 0) = false := decide_eq_false c4
 clear c4
 obtain rfl := Option.some.inj H
 go_enter Try.func7, Try.ntmps7
 go_wp2_with (first | ((with_reducible refine zo0 (N := 2) rfl ?_); refine zp0 ?hg (N := 2) ?hd (cs := #[.slice A0_0 l0_0.length c0_0]) (t := 24) ?hr ?_; (case hd | hg => rfl); (case hr => go_simp <;> rfl); intro gb380 hg w7 hbox hb; have n0_ := za0.mk (zi0 (by repeat (first | exact HB.1 | apply zc0 | apply zb0 | apply zd0)) hb); have n1_ := za0.mk (hbox); have n2_ := za0.mk ((by rw [hg]; exact (zh0 (by repeat (first | exact HB.1 | apply zc0 | apply zb0 | apply zd0))) : w.heap.size ≤ gb380)); have n3_ := za0.mk ((by rw [hg]; exact (zh0 (by repeat (first | exact HB.1 | apply zc0 | apply zb0 | apply zd0))) : w.heap.size ≤ gb380)); clear HB; have HB := n0_; have BK380 := n1_; have GW380 := n2_; have GE380 := n3_; clear n0_ n1_ n2_ n3_; clear hb hbox hg; have hcz8_0 : w7.cell? ⟨gb380, 0, none⟩ = some (.slice A0_0 l0_0.length c0_0) := (zl0 BK380.1 0).trans rfl; have hfz8_0 := zk0 BK380.1 0) | ((with_reducible refine zn0 (f := 26) rfl ?_); refine za1 (some 8) rfl rfl Try.func26 (by kernel_rfl) rfl #[.slice A0_0 l0_0.length c0_0, .int .i64 a1] rfl (by (try simp only [List.map_toArray, List.map_cons, List.map_nil]); first | done | rfl | (simp only [List.length_drop, List.length_take]; rfl)) ?_; (with_reducible refine (yu0.calls k _ _ l0_0 a1 t381 _ ?side1 ?side2 A3.1).mono ?_); (case side1 => repeat (first | exact (Kd.C_below HR0_0.1 HB.1) | with_reducible first | refine Kd.C_alloc ?_ _ | refine Kd.C_drewN ?_ _ | refine Kd.C_drew ?_)); (case side2 => exact HC0_0.1); rintro e w' ⟨rfl, ⟨nd, rfl⟩⟩; refine ⟨_, rfl, ?_⟩))
 go_ret
 exact ⟨by first | rfl | (simp [errW_none, errW_some] <;> rfl) | (simp [*, errW_none, errW_some] <;> rfl), by repeat (first | exact HB.1 | apply zc0 | apply zb0 | apply zd0 | refine ze0 ?_ GE380.1)⟩
def yj0.l0 : Nat → List Int → List Int → Int → Option (List Int)
 | 0, _, _, _ => none
 | k + 1, x0, x3, x4 => if x4 < (x0.length : Int) then (if 0 ≤ x4 then (if x4 < (x3.length : Int) then (yj0.l0 k x0 (x3.set (x4 : Int).toNat (rd x0 x4)) (wrap64 (x4 + 1))) else (none)) else (none)) else (some x3)
def yj0.f (k : Nat) (l0 : List Int) : Option (List Int) := if 0 ≤ (l0.length : Int) then (if ((l0.length : Int) : Int).toNat ≤ 35184372088832 then (yj0.l0 k l0 (List.replicate ((l0.length : Int) : Int).toNat 0) 0) else (none)) else (none)
theorem yj0.mono_l : ∀ k, (∀ y0 y1 y2, LeO (yj0.l0 k y0 y1 y2) (yj0.l0 (k + 1) y0 y1 y2))
 | 0 => fun _ _ _ r h => by simp [yj0.l0] at h
 | k + 1 => by
  have ih0 := yj0.mono_l k
  ·intro y0 y1 y2
   unfold yj0.l0
   repeat' (with_reducible first | exact ih0 _ _ _ | exact LeO.refl _ | exact LeO.none _ | refine LeO.ite ?_ ?_ | refine LeO.bind ?_ (fun _ => ?_))
theorem yj0.mono : ∀ a0 k, LeO (yj0.f k a0) (yj0.f (k + 1) a0) := by
 intro a0 k
 have ih0 := yj0.mono_l k
 unfold yj0.f
 repeat' (with_reducible first | exact ih0 _ _ _ | exact LeO.refl _ | exact LeO.none _ | refine LeO.ite ?_ ?_ | refine LeO.bind ?_ (fun _ => ?_))
theorem yj0.calls (k : Nat) (A0 : Option Addr) (c0 : Nat) (l0 : List Int) (r : List Int) (w : World) (hr0 : Kd.C (Kd.int .i64) w A0 l0.length l0) (hc0 : l0.length ≤ c0) (h : yj0.f k l0 = some r) :
  Calls Try.prog 10 #[.slice A0 l0.length c0] w fun e w' => ∃ v0_ : Value, e = .returned (v0_) ∧ Kd.R (Kd.int .i64) 3 w' w.heap.size (fun _ => True) v0_ r ∧ Below w.heap.size w w' := by
 have HR0 := za0.mk hr0
 have HC0 := za0.mk hc0
 clear hr0 hc0
 have HB := za0.mk (Below.refl w.heap.size w)
 have H : (if 0 ≤ (l0.length : Int) then (if ((l0.length : Int) : Int).toNat ≤ 35184372088832 then (yj0.l0 k l0 (List.replicate ((l0.length : Int) : Int).toNat 0) 0) else (none)) else (none)) = some r := h
 clear h
 by_cases c2 : 0 ≤ (l0.length : Int)
 rotate_left
 ·rw [if_neg c2] at H
  exact absurd H (by simp)
 rw [if_pos c2] at H
 have c2b0 := eq_true c2
 have c2b1 : decide (0 ≤ (l0.length : Int)) = true := decide_eq_true c2
 clear c2
 by_cases c3 : ((l0.length : Int) : Int).toNat ≤ 35184372088832
 rotate_left
 ·rw [if_neg c3] at H
  exact absurd H (by simp)
 rw [if_pos c3] at H
 have c3b0 := eq_true c3
 have c3b1 : decide (((l0.length : Int) : Int).toNat ≤ 35184372088832) = true := decide_eq_true c3
 clear c3
 obtain ⟨y382, hy382⟩ : ∃ y_ : List Int, y_ = (List.replicate ((l0.length : Int) : Int).toNat 0) := ⟨_, rfl⟩
 replace H : (yj0.l0 k l0 y382 0) = some r := by first | (rw [hy382]; with_reducible exact H) | (have H2_ := (Option.bind_some _ _).symm.trans H; rw [hy382]; with_reducible exact H2_) | (have H2_ := (Option.bind_some _ _).symm.trans H; with_reducible exact H2_) | with_reducible exact H | (rw [hy382]; exact H) | exact H
 have Ny382 := za0.mk hy382
 clear hy382
 have H' := za0.mk H
 clear H
 go_enter Try.func10, Try.ntmps10
 go_wp2_with (first | ((with_reducible refine zo0 (N := 7) rfl ?_); refine Kd.R_make (Kd.int .i64) _ 3 rfl (N := 7) rfl 25 _ _ rfl (l0.length : Int) rfl rfl Try.underlying25 (.int .i64 0) 8 info3 rfl (by decide) (by omega) 0 (ok := fun _ => True) (okp := fun _ => True) rfl (fun _ hk => hk) trivial (of_decide_eq_true (by assumption)) (Nat.le_trans (Nat.mul_le_mul_right _ (of_decide_eq_true (by assumption) : (l0.length : Int).toNat ≤ 35184372088832)) (by omega)) (Below.refl _ _) (Nat.le_refl _) ?_; intro v383 w4 ho5 hb hg_ hnew_; clear hg_ hnew_; (first | rw [← Ny382.1] at ho5 | (simp only [Int.reduceToNat] at ho5; rw [← Ny382.1] at ho5)); have n0_ := za0.mk (Kd.R_lower ho5 (zh0 (by repeat (first | exact HB.1 | apply zc0 | apply zb0 | apply zd0)))); have n1_ := za0.mk (zi0 (by repeat (first | exact HB.1 | apply zc0 | apply zb0 | apply zd0)) hb); clear HB; have HO384 := n0_; have HB := n1_; clear n0_ n1_; clear hb ho5))
 go_loopg [4] k (fun kq v4 w' => ∃ (x3_1 : List Int) (x4_1 : Int), v4 = .int .i64 x4_1 ∧ za0 (yj0.l0 kq l0 x3_1 x4_1 = some r) ∧ za0 (kq ≤ k) ∧ za0 (Kd.R (Kd.int .i64) 3 w' w.heap.size (fun _ => True) v383 x3_1) ∧ za0 (Below w.heap.size w w'))
 case atStart => exact ⟨(y382), (0), (by first | rfl | (simp; done) | (simp [*]; done)), H', ⟨Nat.le_refl _⟩, ⟨by (with_reducible repeat (first | apply Kd.R_alloc | apply Kd.R_drewN | apply Kd.R_drew)); exact HO384.1⟩, ⟨by repeat (first | exact HB.1 | apply zc0 | apply zb0 | apply zd0)⟩⟩
 case round =>
  clear H'
  try clear c1
  try clear c2
  try clear c2b0
  try clear c2b1
  try clear p2
  try clear c3
  try clear c3b0
  try clear c3b1
  obtain ⟨x3_1, x4_1, rfl, HA, HK1, HO_3, HB⟩ := hrel
  obtain _ | k1 := gk
  ·exact absurd HA.1 (by simp [yj0.l0])
  have H := HA.1
  clear HA
  simp only [yj0.l0] at H
  by_cases c6 : x4_1 < (l0.length : Int)
  rotate_left
  ·rw [if_neg c6] at H
   have c6b0 : decide (x4_1 < (l0.length : Int)) = false := decide_eq_false c6
   clear c6
   obtain rfl := Option.some.inj H
   go_wp2
   go_ret
   exact ⟨_, by first | rfl | (simp [errW_none, errW_some] <;> rfl) | (simp [*, errW_none, errW_some] <;> rfl), by (with_reducible repeat (first | apply Kd.R_alloc | apply Kd.R_drewN | apply Kd.R_drew)); exact HO_3.1, by repeat (first | exact HB.1 | apply zc0 | apply zb0 | apply zd0)⟩
  rw [if_pos c6] at H
  have c6b0 : decide (x4_1 < (l0.length : Int)) = true := decide_eq_true c6
  clear c6
  by_cases c7 : 0 ≤ x4_1
  rotate_left
  ·rw [if_neg c7] at H
   exact absurd H (by simp)
  rw [if_pos c7] at H
  have c7b0 : decide (0 ≤ x4_1) = true := decide_eq_true c7
  clear c7
  by_cases c8 : x4_1 < (x3_1.length : Int)
  rotate_left
  ·rw [if_neg c8] at H
   exact absurd H (by simp)
  rw [if_pos c8] at H
  have c8b0 : decide (x4_1 < (x3_1.length : Int)) = true := decide_eq_true c8
  clear c8
  obtain ⟨y386, hy386⟩ : ∃ y_ : List Int, y_ = (x3_1.set (x4_1 : Int).toNat (rd l0 x4_1)) := ⟨_, rfl⟩
  replace H : (yj0.l0 k1 l0 y386 (wrap64 (x4_1 + 1))) = some r := by first | (rw [hy386]; with_reducible exact H) | (have H2_ := (Option.bind_some _ _).symm.trans H; rw [hy386]; with_reducible exact H2_) | (have H2_ := (Option.bind_some _ _).symm.trans H; with_reducible exact H2_) | with_reducible exact H | (rw [hy386]; exact H) | exact H
  have Ny386 := za0.mk hy386
  clear hy386
  have H' := za0.mk H
  clear H
  have p385 : 0 ≤ (x4_1 : Int) := of_decide_eq_true (by assumption)
  have q385 : x4_1 < (l0.length : Int) := of_decide_eq_true (by assumption)
  obtain ⟨ad385, e385, hx385_0⟩ := Kd.at_int HR0.1 x4_1 p385 q385
  cases e385
  replace hx385_0 := (HB.1.cell (World.block_lt_of_cell? w _ hx385_0)).trans hx385_0
  replace p385 := eq_true p385
  replace q385 := eq_true q385
  have p9 : 0 ≤ (x4_1 : Int) := of_decide_eq_true (by assumption)
  have q9 : (x4_1 : Int) < ((x3_1.length : Int) : Int) := of_decide_eq_true (by assumption)
  obtain ⟨go9, co9, eo9, gb9, gl9, cl9, HG9⟩ := Kd.R_form HO_3.1 (by omega)
  (first | cases eo9 | (injection eo9 with ea_ en_ ec_; (first | subst ea_ | (injection ea_ with ea_; subst ea_)); subst ec_; clear en_))
  have GB9 := za0.mk gb9
  have GG9 := za0.mk HG9
  clear gb9 gl9 HG9
  obtain ⟨hx9_0, hf9_0⟩ := Kd.R_celln 0 HO_3.1 (x4_1 : Int) p9 q9
  replace p9 := eq_true p9
  replace q9 := eq_true q9
  have HP10 := Kd.R_putg HO_3.1 (x4_1 : Int) (rd l0 x4_1)
  go_wp2_with (first | ((with_reducible refine gate_store (t := 3) (p := 20) rfl ?_); refine store_event (t := 3) (p := 20) (v := ?vo_w11) (w1 := (wr.setCell ⟨go9, (x4_1 : Int).toNat, none⟩ (.int .i64 (rd l0 x4_1)))) ?hg ?ho ?hn ?hr ?_; (case ho => rfl); (case hg => rfl); (case hn => rfl); (case hr => go_simp <;> rfl); intro w11 hw; have hg : wr.grownBy w11 (some go9) := (by rw [hw]; exact HP10.2); have hp_ : Kd.R (Kd.int .i64) 3 w11 w.heap.size (fun _ => True) (.slice (some ⟨go9, 0, none⟩) x3_1.length co9) y386 := (by rw [hw, Ny386.1]; exact HP10.1); clear HP10; have n0_ := za0.mk (hp_); have n1_ := za0.mk ((by rw [hw]; exact ze0 (HB.1) GB9.1 : Below w.heap.size w w11)); clear HO_3; clear HB; have HO_3 := n0_; have HB := n1_; clear n0_ n1_; clear hg hw hp_))
  go_roundg k1
  case measure => have := HK1.1; omega
  case rel => exact ⟨(y386), (wrap64 (x4_1 + 1)), (by first | rfl | (simp; done) | (simp [*]; done)), H', ⟨by have := HK1.1; omega⟩, ⟨by (with_reducible repeat (first | apply Kd.R_alloc | apply Kd.R_drewN | apply Kd.R_drew)); exact HO_3.1⟩, ⟨by repeat (first | exact HB.1 | apply zc0 | apply zb0 | apply zd0)⟩⟩
def yr0.l0 : Nat → List (List Int) → List (List Int) → Int → Option ((List (List Int)))
 | 0, _, _, _ => none
 | k + 1, x0, x3, x4 => if x4 < (x0.length : Int) then (if 0 ≤ x4 then ((yj0.f k (rd_L1 x0 x4)).bind fun t391 => (if x4 < (x3.length : Int) then (yr0.l0 k x0 (x3.set (x4 : Int).toNat t391) (wrap64 (x4 + 1))) else (none))) else (none)) else (some x3)
def yr0.f (k : Nat) (l0 : List (List Int)) : Option ((List (List Int))) := if 0 ≤ (l0.length : Int) then (if ((l0.length : Int) : Int).toNat ≤ 11728124029610 then (yr0.l0 k l0 (List.replicate ((l0.length : Int) : Int).toNat []) 0) else (none)) else (none)
theorem yr0.mono_l : ∀ k, (∀ y0 y1 y2, LeO (yr0.l0 k y0 y1 y2) (yr0.l0 (k + 1) y0 y1 y2))
 | 0 => fun _ _ _ r h => by simp [yr0.l0] at h
 | k + 1 => by
  have ih0 := yr0.mono_l k
  ·intro y0 y1 y2
   unfold yr0.l0
   repeat' (with_reducible first | exact ih0 _ _ _ | exact yj0.mono _ _ | exact LeO.refl _ | exact LeO.none _ | refine LeO.ite ?_ ?_ | refine LeO.bind ?_ (fun _ => ?_))
theorem yr0.mono : ∀ a0 k, LeO (yr0.f k a0) (yr0.f (k + 1) a0) := by
 intro a0 k
 have ih0 := yr0.mono_l k
 unfold yr0.f
 repeat' (with_reducible first | exact ih0 _ _ _ | exact yj0.mono _ _ | exact LeO.refl _ | exact LeO.none _ | refine LeO.ite ?_ ?_ | refine LeO.bind ?_ (fun _ => ?_))
theorem yr0.calls (k : Nat) (A0 : Option Addr) (c0 : Nat) (l0 : List (List Int)) (r : List (List Int)) (w : World) (hr0 : Kd.C (Kd.slice 3 (Kd.int .i64)) w A0 l0.length l0) (hc0 : l0.length ≤ c0) (h : yr0.f k l0 = some r) :
  Calls Try.prog 30 #[.slice A0 l0.length c0] w fun e w' => ∃ v0_ : Value, e = .returned (v0_) ∧ Kd.S (Kd.slice 3 (Kd.int .i64)) 25 w' w.heap.size (fun _ => True) v0_ r ∧ Below w.heap.size w w' := by
 have HR0 := za0.mk hr0
 have HC0 := za0.mk hc0
 clear hr0 hc0
 have HB := za0.mk (Below.refl w.heap.size w)
 have H : (if 0 ≤ (l0.length : Int) then (if ((l0.length : Int) : Int).toNat ≤ 11728124029610 then (yr0.l0 k l0 (List.replicate ((l0.length : Int) : Int).toNat []) 0) else (none)) else (none)) = some r := h
 clear h
 by_cases c2 : 0 ≤ (l0.length : Int)
 rotate_left
 ·rw [if_neg c2] at H
  exact absurd H (by simp)
 rw [if_pos c2] at H
 have c2b0 := eq_true c2
 have c2b1 : decide (0 ≤ (l0.length : Int)) = true := decide_eq_true c2
 clear c2
 by_cases c3 : ((l0.length : Int) : Int).toNat ≤ 11728124029610
 rotate_left
 ·rw [if_neg c3] at H
  exact absurd H (by simp)
 rw [if_pos c3] at H
 have c3b0 := eq_true c3
 have c3b1 : decide (((l0.length : Int) : Int).toNat ≤ 11728124029610) = true := decide_eq_true c3
 clear c3
 obtain ⟨y387, hy387⟩ : ∃ y_ : List (List Int), y_ = (List.replicate ((l0.length : Int) : Int).toNat []) := ⟨_, rfl⟩
 replace H : (yr0.l0 k l0 y387 0) = some r := by first | (rw [hy387]; with_reducible exact H) | (have H2_ := (Option.bind_some _ _).symm.trans H; rw [hy387]; with_reducible exact H2_) | (have H2_ := (Option.bind_some _ _).symm.trans H; with_reducible exact H2_) | with_reducible exact H | (rw [hy387]; exact H) | exact H
 have Ny387 := za0.mk hy387
 clear hy387
 have H' := za0.mk H
 clear H
 go_enter Try.func30, Try.ntmps30
 go_wp2_with (first | ((with_reducible refine zo0 (N := 7) rfl ?_); refine Kd.S_make (Kd.slice 3 (Kd.int .i64)) _ 25 rfl (N := 7) rfl 22 _ _ rfl (l0.length : Int) rfl rfl Try.underlying22 (.slice none 0 0) 24 info25 rfl (by decide) (by omega) [] (ok := fun _ => True) (okp := fun _ => True) ⟨_, rfl, Kd.R_nil _ _ _ _ _⟩ (fun _ hk => hk) trivial (of_decide_eq_true (by assumption)) (Nat.le_trans (Nat.mul_le_mul_right _ (of_decide_eq_true (by assumption) : (l0.length : Int).toNat ≤ 11728124029610)) (by omega)) (Below.refl _ _) (Nat.le_refl _) ?_; intro v388 w4 ho5 hb hg_ hnew_; clear hg_ hnew_; (first | rw [← Ny387.1] at ho5 | (simp only [Int.reduceToNat] at ho5; rw [← Ny387.1] at ho5)); have n0_ := za0.mk (Kd.S_lower ho5 (zh0 (by repeat (first | exact HB.1 | apply zc0 | apply zb0 | apply zd0)))); have n1_ := za0.mk (zi0 (by repeat (first | exact HB.1 | apply zc0 | apply zb0 | apply zd0)) hb); clear HB; have HO389 := n0_; have HB := n1_; clear n0_ n1_; clear hb ho5))
 go_loopg [4] k (fun kq v4 w' => ∃ (x3_1 : List (List Int)) (x4_1 : Int), v4 = .int .i64 x4_1 ∧ za0 (yr0.l0 kq l0 x3_1 x4_1 = some r) ∧ za0 (kq ≤ k) ∧ za0 (Kd.S (Kd.slice 3 (Kd.int .i64)) 25 w' w.heap.size (fun _ => True) v388 x3_1) ∧ za0 (Below w.heap.size w w'))
 case atStart => exact ⟨(y387), (0), (by first | rfl | (simp; done) | (simp [*]; done)), H', ⟨Nat.le_refl _⟩, ⟨by (with_reducible repeat (first | apply Kd.S_alloc | apply Kd.S_drewN | apply Kd.S_drew)); exact HO389.1⟩, ⟨by repeat (first | exact HB.1 | apply zc0 | apply zb0 | apply zd0)⟩⟩
 case round =>
  clear H'
  try clear c2
  try clear c2b0
  try clear c2b1
  try clear p2
  try clear c3
  try clear c3b0
  try clear c3b1
  obtain ⟨x3_1, x4_1, rfl, HA, HK1, HO_3, HB⟩ := hrel
  obtain _ | k1 := gk
  ·exact absurd HA.1 (by simp [yr0.l0])
  have H := HA.1
  clear HA
  simp only [yr0.l0] at H
  by_cases c6 : x4_1 < (l0.length : Int)
  rotate_left
  ·rw [if_neg c6] at H
   have c6b0 : decide (x4_1 < (l0.length : Int)) = false := decide_eq_false c6
   clear c6
   obtain rfl := Option.some.inj H
   go_wp2
   go_ret
   exact ⟨_, by first | rfl | (simp [errW_none, errW_some] <;> rfl) | (simp [*, errW_none, errW_some] <;> rfl), by (with_reducible repeat (first | apply Kd.S_alloc | apply Kd.S_drewN | apply Kd.S_drew)); exact HO_3.1, by repeat (first | exact HB.1 | apply zc0 | apply zb0 | apply zd0)⟩
  rw [if_pos c6] at H
  have c6b0 : decide (x4_1 < (l0.length : Int)) = true := decide_eq_true c6
  clear c6
  by_cases c7 : 0 ≤ x4_1
  rotate_left
  ·rw [if_neg c7] at H
   exact absurd H (by simp)
  rw [if_pos c7] at H
  have c7b0 : decide (0 ≤ x4_1) = true := decide_eq_true c7
  clear c7
  replace H := Option.bind_eq_some_iff.mp H
  obtain ⟨t391, A80, H⟩ := H
  replace H : (if x4_1 < (x3_1.length : Int) then (yr0.l0 k1 l0 (x3_1.set (x4_1 : Int).toNat t391) (wrap64 (x4_1 + 1))) else (none)) = some r := H
  have A8 := za0.mk A80
  clear A80
  by_cases c9 : x4_1 < (x3_1.length : Int)
  rotate_left
  ·rw [if_neg c9] at H
   exact absurd H (by simp)
  rw [if_pos c9] at H
  have c9b0 : decide (x4_1 < (x3_1.length : Int)) = true := decide_eq_true c9
  clear c9
  obtain ⟨y394, hy394⟩ : ∃ y_ : List (List Int), y_ = (x3_1.set (x4_1 : Int).toNat t391) := ⟨_, rfl⟩
  replace H : (yr0.l0 k1 l0 y394 (wrap64 (x4_1 + 1))) = some r := by first | (rw [hy394]; with_reducible exact H) | (have H2_ := (Option.bind_some _ _).symm.trans H; rw [hy394]; with_reducible exact H2_) | (have H2_ := (Option.bind_some _ _).symm.trans H; with_reducible exact H2_) | with_reducible exact H | (rw [hy394]; exact H) | exact H
  have Ny394 := za0.mk hy394
  clear hy394
  have H' := za0.mk H
  clear H
  have p390 : 0 ≤ (x4_1 : Int) := of_decide_eq_true (by assumption)
  have q390 : x4_1 < (l0.length : Int) := of_decide_eq_true (by assumption)
  obtain ⟨ad390, A390_0, c390_0, e390, hx390_0, hl390_0, hi390_0⟩ := at_L1 HR0.1 x4_1 p390 q390
  cases e390
  replace hx390_0 := (HB.1.cell (World.block_lt_of_cell? w _ hx390_0)).trans hx390_0
  have HR390_0 := za0.mk hi390_0
  have HC390_0 := za0.mk hl390_0
  clear hi390_0 hl390_0
  replace p390 := eq_true p390
  replace q390 := eq_true q390
  go_wp2_with (first | ((with_reducible refine zn0 (f := 10) rfl ?_); refine za1 (some 20) rfl rfl Try.func10 (by kernel_rfl) rfl #[.slice A390_0 (rd_L1 l0 x4_1).length c390_0] rfl (by (try simp only [List.map_toArray, List.map_cons, List.map_nil]); first | done | rfl | (simp only [List.length_drop, List.length_take]; rfl)) ?_; (with_reducible refine (yj0.calls k1 _ _ (rd_L1 l0 x4_1) t391 _ ?side1 ?side2 A8.1).mono ?_); (case side1 => repeat (first | exact (Kd.C_below HR390_0.1 HB.1) | with_reducible first | refine Kd.C_alloc ?_ _ | refine Kd.C_drewN ?_ _ | refine Kd.C_drew ?_)); (case side2 => exact HC390_0.1); rintro e w11 ⟨v392, rfl, ho0, hb⟩; refine ⟨_, rfl, ?_⟩; have n0_ := za0.mk (Kd.S_elder' (by (with_reducible repeat (first | apply Kd.S_alloc | apply Kd.S_drewN | apply Kd.S_drew)); exact HO_3.1) (Kd.R_base ho0) hb); have n1_ := za0.mk (Kd.R_lower ho0 (zh0 (by repeat (first | exact HB.1 | apply zc0 | apply zb0 | apply zd0)))); have n2_ := za0.mk (zi0 (by repeat (first | exact HB.1 | apply zc0 | apply zb0 | apply zd0)) hb); clear HO_3; clear HB; have HO_3 := n0_; have HO393 := n1_; have HB := n2_; clear n0_ n1_ n2_; (try clear hb); (try clear hb2); (try clear hk); (try clear hi); (try clear ho0); have p10 : 0 ≤ (x4_1 : Int) := of_decide_eq_true (by assumption); have q10 : (x4_1 : Int) < ((x3_1.length : Int) : Int) := of_decide_eq_true (by assumption); obtain ⟨go10, co10, eo10, gb10, gl10, cl10, HG10⟩ := Kd.S_form HO_3.1 (by omega); (first | cases eo10 | (injection eo10 with ea_ en_ ec_; (first | subst ea_ | (injection ea_ with ea_; subst ea_)); subst ec_; clear en_)); have GB10 := za0.mk gb10; have GG10 := za0.mk HG10; clear gb10 gl10 HG10; obtain ⟨_, ce10, hcl10, hM10, hcc10, hfr10, _, _⟩ := Kd.S_elem HO_3.1 [] (x4_1 : Int) p10 q10; obtain ⟨ve10_0, rfl, ge10_0⟩ := hM10; have hx10_0 := hcc10 0 _ rfl; have hf10_0 := hfr10 0; (try simp only [show ((Kd.slice 3 (Kd.int .i64))).sz = 1 from rfl, Nat.mul_one, Nat.add_zero] at hx10_0); (try simp only [show ((Kd.slice 3 (Kd.int .i64))).sz = 1 from rfl, Nat.mul_one, Nat.add_zero] at hf10_0); (try clear hcl10); (try clear hcc10); (try clear hfr10); (try clear hM10); replace p10 := eq_true p10; replace q10 := eq_true q10; obtain ⟨Ao12, co12, eo12⟩ := Kd.R_slice HO393.1; subst eo12; have n_ := za0.mk (Kd.S_mono (ok' := (fun k_ => some k_ ≠ (.slice Ao12 t391.length co12 : Value).ownBlock)) HO_3.1 (fun k_ hk => hk.2)); clear HO_3; have HO_3 := n_; clear n_; have HX13 := za0.mk (show Kd.S (Kd.slice 3 (Kd.int .i64)) 25 w11 w.heap.size (fun k_ => ((fun _ => True)) k_ ∧ ¬ ((fun k_ => some k_ = (.slice Ao12 t391.length co12 : Value).ownBlock)) k_) (.slice (some ⟨go10, 0, none⟩) x3_1.length co10) x3_1 from (by (with_reducible repeat (first | apply Kd.S_alloc | apply Kd.S_drewN | apply Kd.S_drew)); exact Kd.S_mono HO_3.1 (fun k_ hk => ⟨trivial, fun e_ => hk e_⟩))); obtain ⟨oki13, ce13, hcl13, hM13, hcc13, hfr13, hoki13, hH13⟩ := Kd.S_elem HX13.1 [] (x4_1 : Int) (of_decide_eq_true (by assumption)) (by have h_ : (x4_1 : Int) < ((x3_1.length : Int) : Int) := of_decide_eq_true (by assumption); first | exact h_ | (have e_ := (Kd.S_reads' HO_3.1).1; omega) | simpa using h_); obtain ⟨ve13_0, rfl, ge13_0⟩ := hM13; have HP13 := Kd.S_seg hH13 (of_decide_eq_true (by assumption)) (by have h_ : (x4_1 : Int) < ((x3_1.length : Int) : Int) := of_decide_eq_true (by assumption); first | exact h_ | (have e_ := (Kd.S_reads' HO_3.1).1; omega) | simpa using h_) (seg := [.slice Ao12 t391.length co12]) (j := 0) (show 1 ≤ 1 from by decide) (x' := t391) (Kd.M_row (Kd.R_mono (Kd.R_tight rfl (Kd.R_mono (ok' := fun k_ => ((fun _ => True)) k_ ∧ k_ ≠ go10) (Kd.R_apart' (HO393.1) (Kd.S_typed HO_3.1) (by decide)) (fun k_ hk => ⟨trivial, fun e_ => (hk.2) (by rw [e_]; rfl)⟩))) (fun _ h_ => Or.inr (h_)))) (fun _ hk => hk) (fun k_ hk_ => ((Kd.R_mono (ok' := fun k_ => ((fun _ => True)) k_ ∧ k_ ≠ go10) (Kd.R_apart' (HO393.1) (Kd.S_typed HO_3.1) (by decide)) (fun k_ hk => ⟨trivial, fun e_ => (hk.2) (by rw [e_]; rfl)⟩))).1 k_ hk_.symm); have hx13_0 := hcc13 0 _ rfl; (try simp only [show ((Kd.slice 3 (Kd.int .i64))).sz = 1 from rfl, Nat.mul_one, Nat.add_zero] at hx13_0); have hf13_0 := hfr13 0; (try simp only [show ((Kd.slice 3 (Kd.int .i64))).sz = 1 from rfl, Nat.mul_one, Nat.add_zero] at hf13_0); (try clear hcl13); (try clear hcc13); (try clear hfr13); (try clear hM13); (try clear hoki13); (try clear hH13); (try simp only [show ((Kd.slice 3 (Kd.int .i64))).sz = 1 from rfl, Nat.mul_one, Nat.add_zero] at HP13)) | ((with_reducible refine gate_store (t := 25) (p := 21) rfl ?_); refine store_event (t := 25) (p := 21) (v := ?vo_w14) (w1 := (w11.setCell ⟨go10, (x4_1 : Int).toNat, none⟩ (.slice Ao12 t391.length co12))) ?hg ?ho ?hn ?hr ?_; (case ho => rfl); (case hg => rfl); (case hn => rfl); (case hr => go_simp <;> rfl); intro w14 hw; have hg : w11.grownBy w14 (some go10) := (by rw [hw]; exact HP13.2); have hp_ : Kd.S (Kd.slice 3 (Kd.int .i64)) 25 w14 w.heap.size (fun _ => True) (.slice (some ⟨go10, 0, none⟩) x3_1.length co10) y394 := (by rw [hw, Ny394.1]; exact HP13.1); clear HP13; have n0_ := za0.mk (hp_); have n1_ := za0.mk ((by rw [hw]; exact ze0 (HB.1) GB10.1 : Below w.heap.size w w14)); clear HO_3; clear HB; clear HO393; have HO_3 := n0_; have HB := n1_; clear n0_ n1_; clear hg hw hp_))
  go_roundg k1
  case measure => have := HK1.1; omega
  case rel => exact ⟨(y394), (wrap64 (x4_1 + 1)), (by first | rfl | (simp; done) | (simp [*]; done)), H', ⟨by have := HK1.1; omega⟩, ⟨by (with_reducible repeat (first | apply Kd.S_alloc | apply Kd.S_drewN | apply Kd.S_drew)); exact HO_3.1⟩, ⟨by repeat (first | exact HB.1 | apply zc0 | apply zb0 | apply zd0)⟩⟩
def yo1.f (k : Nat) (l0_0 : List (List Int)) : Option ((List (List Int))) := (yr0.f k l0_0).bind fun t398 => (some t398)
theorem yo1.mono : ∀ a0 k, LeO (yo1.f k a0) (yo1.f (k + 1) a0) := by
 intro a0 k
 unfold yo1.f
 repeat' (with_reducible first | exact yr0.mono _ _ | exact LeO.refl _ | exact LeO.none _ | refine LeO.ite ?_ ?_ | refine LeO.bind ?_ (fun _ => ?_))
theorem yo1.calls (k : Nat) (A0_0 : Option Addr) (c0_0 : Nat) (l0_0 : List (List Int)) (r : List (List Int)) (w : World) (hr0_0 : Kd.C (Kd.slice 3 (Kd.int .i64)) w A0_0 l0_0.length l0_0) (hc0_0 : l0_0.length ≤ c0_0) (h : yo1.f k l0_0 = some r) :
  Calls Try.prog 9 #[.agg #[.slice A0_0 l0_0.length c0_0]] w fun e w' => ∃ v0_ : Value, e = .returned (.agg #[v0_]) ∧ Kd.S (Kd.slice 3 (Kd.int .i64)) 25 w' w.heap.size (fun _ => True) v0_ r ∧ Below w.heap.size w w' := by
 have hu24 := Try.underlying24
 have hu29 := Try.underlying29
 have HR0_0 := za0.mk hr0_0
 have HC0_0 := za0.mk hc0_0
 clear hr0_0 hc0_0
 have HB := za0.mk (Below.refl w.heap.size w)
 have H : ((yr0.f k l0_0).bind fun t398 => (some t398)) = some r := h
 clear h
 replace H := Option.bind_eq_some_iff.mp H
 obtain ⟨t398, A20, H⟩ := H
 replace H : (some t398) = some r := H
 have A2 := za0.mk A20
 clear A20
 obtain rfl := Option.some.inj H
 go_enter Try.func9, Try.ntmps9
 go_wp2_with (first | ((with_reducible refine zo0 (N := 1) rfl ?_); refine zp0 ?hg (N := 1) ?hd (cs := #[.slice A0_0 l0_0.length c0_0]) (t := 24) ?hr ?_; (case hd | hg => rfl); (case hr => go_simp <;> rfl); intro gb395 hg w3 hbox hb; have n0_ := za0.mk (zi0 (by repeat (first | exact HB.1 | apply zc0 | apply zb0 | apply zd0)) hb); have n1_ := za0.mk (hbox); have n2_ := za0.mk ((by rw [hg]; exact (zh0 (by repeat (first | exact HB.1 | apply zc0 | apply zb0 | apply zd0))) : w.heap.size ≤ gb395)); have n3_ := za0.mk ((by rw [hg]; exact (zh0 (by repeat (first | exact HB.1 | apply zc0 | apply zb0 | apply zd0))) : w.heap.size ≤ gb395)); clear HB; have HB := n0_; have BK395 := n1_; have GW395 := n2_; have GE395 := n3_; clear n0_ n1_ n2_ n3_; clear hb hbox hg) | ((with_reducible refine zo0 (N := 2) rfl ?_); refine zp0 ?hg (N := 2) ?hd (cs := #[.slice none 0 0]) (t := 29) ?hr ?_; (case hd | hg => rfl); (case hr => go_simp <;> rfl); intro gb396 hg w4 hbox hb; have n0_ := za0.mk (zm0 (g := gb395) (o := .cells #[.slice A0_0 l0_0.length c0_0] 24 (0, 0)) (by (with_reducible repeat (first | refine zg0 ?_ _ | refine zj0 ?_ | refine zf0 ?_ _)); exact BK395.1) hb); have n1_ := za0.mk (zi0 (by repeat (first | exact HB.1 | apply zc0 | apply zb0 | apply zd0 | refine ze0 ?_ GE395.1)) hb); have n2_ := za0.mk (hbox); have n3_ := za0.mk ((by rw [hg]; exact (zh0 (by repeat (first | exact HB.1 | apply zc0 | apply zb0 | apply zd0 | refine ze0 ?_ GE395.1))) : w.heap.size ≤ gb396)); have n4_ := za0.mk ((by rw [hg]; exact (zh0 (by repeat (first | exact HB.1 | apply zc0 | apply zb0 | apply zd0 | refine ze0 ?_ GE395.1))) : w.heap.size ≤ gb396)); have n5_ := za0.mk ((by rw [hg]; exact Nat.ne_of_lt (blk_lt (g := gb395) (o := .cells #[.slice A0_0 l0_0.length c0_0] 24 (0, 0)) (by (with_reducible repeat (first | refine zg0 ?_ _ | refine zj0 ?_ | refine zf0 ?_ _)); exact BK395.1)) : gb395 ≠ gb396)); have n6_ := za0.mk ((by rw [hg]; exact Nat.ne_of_gt (blk_lt (g := gb395) (o := .cells #[.slice A0_0 l0_0.length c0_0] 24 (0, 0)) (by (with_reducible repeat (first | refine zg0 ?_ _ | refine zj0 ?_ | refine zf0 ?_ _)); exact BK395.1)) : gb396 ≠ gb395)); clear BK395; clear HB; have BK395 := n0_; have HB := n1_; have BK396 := n2_; have GW396 := n3_; have GE396 := n4_; have NB395_396 := n5_; have NB396_395 := n6_; clear n0_ n1_ n2_ n3_ n4_ n5_ n6_; clear hb hbox hg) | ((with_reducible refine zo0 (N := 3) rfl ?_); refine zp0 ?hg (N := 3) ?hd (cs := #[.slice none 0 0]) (t := 29) ?hr ?_; (case hd | hg => rfl); (case hr => go_simp <;> rfl); intro gb397 hg w5 hbox hb; have n0_ := za0.mk (zm0 (g := gb395) (o := .cells #[.slice A0_0 l0_0.length c0_0] 24 (0, 0)) (by (with_reducible repeat (first | refine zg0 ?_ _ | refine zj0 ?_ | refine zf0 ?_ _)); exact BK395.1) hb); have n1_ := za0.mk (zm0 (g := gb396) (o := .cells #[.slice none 0 0] 29 (0, 0)) (by (with_reducible repeat (first | refine zg0 ?_ _ | refine zj0 ?_ | refine zf0 ?_ _)); exact BK396.1) hb); have n2_ := za0.mk (zi0 (by repeat (first | exact HB.1 | apply zc0 | apply zb0 | apply zd0 | refine ze0 ?_ GE395.1 | refine ze0 ?_ GE396.1)) hb); have n3_ := za0.mk (hbox); have n4_ := za0.mk ((by rw [hg]; exact (zh0 (by repeat (first | exact HB.1 | apply zc0 | apply zb0 | apply zd0 | refine ze0 ?_ GE395.1 | refine ze0 ?_ GE396.1))) : w.heap.size ≤ gb397)); have n5_ := za0.mk ((by rw [hg]; exact (zh0 (by repeat (first | exact HB.1 | apply zc0 | apply zb0 | apply zd0 | refine ze0 ?_ GE395.1 | refine ze0 ?_ GE396.1))) : w.heap.size ≤ gb397)); have n6_ := za0.mk ((by rw [hg]; exact Nat.ne_of_lt (blk_lt (g := gb395) (o := .cells #[.slice A0_0 l0_0.length c0_0] 24 (0, 0)) (by (with_reducible repeat (first | refine zg0 ?_ _ | refine zj0 ?_ | refine zf0 ?_ _)); exact BK395.1)) : gb395 ≠ gb397)); have n7_ := za0.mk ((by rw [hg]; exact Nat.ne_of_gt (blk_lt (g := gb395) (o := .cells #[.slice A0_0 l0_0.length c0_0] 24 (0, 0)) (by (with_reducible repeat (first | refine zg0 ?_ _ | refine zj0 ?_ | refine zf0 ?_ _)); exact BK395.1)) : gb397 ≠ gb395)); have n8_ := za0.mk ((by rw [hg]; exact Nat.ne_of_lt (blk_lt (g := gb396) (o := .cells #[.slice none 0 0] 29 (0, 0)) (by (with_reducible repeat (first | refine zg0 ?_ _ | refine zj0 ?_ | refine zf0 ?_ _)); exact BK396.1)) : gb396 ≠ gb397)); have n9_ := za0.mk ((by rw [hg]; exact Nat.ne_of_gt (blk_lt (g := gb396) (o := .cells #[.slice none 0 0] 29 (0, 0)) (by (with_reducible repeat (first | refine zg0 ?_ _ | refine zj0 ?_ | refine zf0 ?_ _)); exact BK396.1)) : gb397 ≠ gb396)); clear BK395; clear BK396; clear HB; have BK395 := n0_; have BK396 := n1_; have HB := n2_; have BK397 := n3_; have GW397 := n4_; have GE397 := n5_; have NB395_397 := n6_; have NB397_395 := n7_; have NB396_397 := n8_; have NB397_396 := n9_; clear n0_ n1_ n2_ n3_ n4_ n5_ n6_ n7_ n8_ n9_; clear hb hbox hg; have hnb6 := NB395_396.1; have hnc6 := NB396_395.1; have hnb7 := NB395_397.1; have hnc7 := NB397_395.1; have hcz8_0 : w5.cell? ⟨gb395, 0, none⟩ = some (.slice A0_0 l0_0.length c0_0) := (zl0 BK395.1 0).trans rfl; have hfz8_0 := zk0 BK395.1 0) | ((with_reducible refine zn0 (f := 30) rfl ?_); refine za1 (some 6) rfl rfl Try.func30 (by kernel_rfl) rfl #[.slice A0_0 l0_0.length c0_0] rfl (by (try simp only [List.map_toArray, List.map_cons, List.map_nil]); first | done | rfl | (simp only [List.length_drop, List.length_take]; rfl)) ?_; (with_reducible refine (yr0.calls k _ _ l0_0 t398 _ ?side1 ?side2 A2.1).mono ?_); (case side1 => repeat (first | exact (Kd.C_below HR0_0.1 HB.1) | with_reducible first | refine Kd.C_alloc ?_ _ | refine Kd.C_drewN ?_ _ | refine Kd.C_drew ?_)); (case side2 => exact HC0_0.1); rintro e w9 ⟨v399, rfl, ho0, hb⟩; refine ⟨_, rfl, ?_⟩; have n0_ := za0.mk (Kd.S_lower ho0 (zh0 (by repeat (first | exact HB.1 | apply zc0 | apply zb0 | apply zd0 | refine ze0 ?_ GE395.1 | refine ze0 ?_ GE396.1 | refine ze0 ?_ GE397.1)))); have n1_ := za0.mk (zm0 (g := gb395) (o := .cells #[.slice A0_0 l0_0.length c0_0] 24 (0, 0)) (by (with_reducible repeat (first | refine zg0 ?_ _ | refine zj0 ?_ | refine zf0 ?_ _)); exact BK395.1) hb); have n2_ := za0.mk (zm0 (g := gb396) (o := .cells #[.slice none 0 0] 29 (0, 0)) (by (with_reducible repeat (first | refine zg0 ?_ _ | refine zj0 ?_ | refine zf0 ?_ _)); exact BK396.1) hb); have n3_ := za0.mk (zm0 (g := gb397) (o := .cells #[.slice none 0 0] 29 (0, 0)) (by (with_reducible repeat (first | refine zg0 ?_ _ | refine zj0 ?_ | refine zf0 ?_ _)); exact BK397.1) hb); have n4_ := za0.mk (zi0 (by repeat (first | exact HB.1 | apply zc0 | apply zb0 | apply zd0 | refine ze0 ?_ GE395.1 | refine ze0 ?_ GE396.1 | refine ze0 ?_ GE397.1)) hb); clear BK395; clear BK396; clear BK397; clear HB; have HO400 := n0_; have BK395 := n1_; have BK396 := n2_; have BK397 := n3_; have HB := n4_; clear n0_ n1_ n2_ n3_ n4_; (try clear hb); (try clear hb2); (try clear hk); (try clear hi); (try clear ho0); obtain ⟨Ao10, co10, eo10⟩ := Kd.S_slice HO400.1; subst eo10; have hnb11 := NB397_396.1; have hnc11 := NB396_397.1; have hcz12_0 : w9.cell? ⟨gb397, 0, none⟩ = some (.slice none 0 0) := (zl0 BK397.1 0).trans rfl; have hfz12_0 := zk0 BK397.1 0; have hcz13_0 : w9.cell? ⟨gb396, 0, none⟩ = some (.slice none 0 0) := (zl0 BK396.1 0).trans rfl; have hfz13_0 := zk0 BK396.1 0))
 refine bodyPost_ret (results_cell_row rfl _ _ gb396 29 #[.slice Ao10 t398.length co10] (0, 0) _ rfl (by (with_reducible repeat (first | refine zg0 ?_ _ | refine zj0 ?_ | refine zf0 ?_ _)); refine blk_put (cs := #[.slice none 0 0]) ?_ 0 _ rfl; (with_reducible repeat (first | refine zg0 ?_ _ | refine zj0 ?_ | refine zf0 ?_ _)); refine blk_far ?_ NB396_397.1 _; (with_reducible repeat (first | refine zg0 ?_ _ | refine zj0 ?_ | refine zf0 ?_ _)); exact BK396.1) Try.underlying29 rfl (by kernel_rfl)) rfl ?_
 exact ⟨_, by first | rfl | (simp [errW_none, errW_some] <;> rfl) | (simp [*, errW_none, errW_some] <;> rfl), by (with_reducible repeat (first | apply Kd.S_alloc | apply Kd.S_drewN | apply Kd.S_drew)); exact Kd.S_mono (Kd.S_far (p := ⟨gb396, 0, none⟩) (Kd.S_far (p := ⟨gb397, 0, none⟩) (Kd.S_types (Kd.S_types HO400.1 BK397.1 (by decide)) BK396.1 (by decide)) (fun _ hk => hk.1.2) (.slice Ao10 t398.length co10)) (fun _ hk => hk.2) (.slice Ao10 t398.length co10)) (fun _ hk => trivial), by repeat (first | exact HB.1 | apply zc0 | apply zb0 | apply zd0 | refine ze0 ?_ GE395.1 | refine ze0 ?_ GE396.1 | refine ze0 ?_ GE397.1)⟩
def ya1.f (a0 : Int) (a1 : Int) (a2 : Int) : Option (Bool) := if a0 ≥ a1 then (some (decide (a0 ≤ a2))) else (some false)
theorem ya1.calls (a0 : Int) (a1 : Int) (a2 : Int) (r : Bool) (w : World) (h : ya1.f a0 a1 a2 = some r) :
  Calls Try.prog 45 #[.int .i64 a0, .int .i64 a1, .int .i64 a2] w fun e w' => e = .returned (.bool r) ∧ zt0 w w' := by
 have H : (if a0 ≥ a1 then (some (decide (a0 ≤ a2))) else (some false)) = some r := h
 clear h
 by_cases c4 : a0 ≥ a1
 ·rw [if_pos c4] at H
  have c4b0 : decide (a1 ≤ a0) = true := decide_eq_true c4
  clear c4
  obtain rfl := Option.some.inj H
  go_enter Try.func45, Try.ntmps45
  go_wp2
  go_ret
  exact ⟨by first | rfl | (simp; done) | (simp [*]; done), by repeat (first | exact zt0.refl _ | apply zt0.step)⟩
 rw [if_neg c4] at H
 have c4b0 : decide (a1 ≤ a0) = false := decide_eq_false c4
 clear c4
 obtain rfl := Option.some.inj H
 go_enter Try.func45, Try.ntmps45
 go_wp2
 go_ret
 exact ⟨by first | rfl | (simp; done) | (simp [*]; done), by repeat (first | exact zt0.refl _ | apply zt0.step)⟩
def yo0.l0 : Nat → Int → Int → List Int → Int → Int → Option (Bool)
 | 0, _, _, _, _, _ => none
 | k + 1, x1, x2, x9, x10, x11 => if x11 < x10 then (if 0 ≤ x11 then (if x11 < (x9.length : Int) then ((ya1.f (rd x9 x11) x1 x2).bind fun t224 => (if t224 = true then (yo0.l0 k x1 x2 x9 x10 (wrap64 (x11 + 1))) else (some false))) else (none)) else (none)) else (some true)
def yo0.f (k : Nat) (l0 : List Int) (a1 : Int) (a2 : Int) : Option (Bool) := yo0.l0 k a1 a2 l0 (l0.length : Int) 0
theorem yo0.mono_l : ∀ k, (∀ y0 y1 y2 y3 y4, LeO (yo0.l0 k y0 y1 y2 y3 y4) (yo0.l0 (k + 1) y0 y1 y2 y3 y4))
 | 0 => fun _ _ _ _ _ r h => by simp [yo0.l0] at h
 | k + 1 => by
  have ih0 := yo0.mono_l k
  ·intro y0 y1 y2 y3 y4
   unfold yo0.l0
   repeat' (with_reducible first | exact ih0 _ _ _ _ _ | exact LeO.refl _ | exact LeO.none _ | refine LeO.ite ?_ ?_ | refine LeO.bind ?_ (fun _ => ?_))
theorem yo0.mono : ∀ a0 a1 a2 k, LeO (yo0.f k a0 a1 a2) (yo0.f (k + 1) a0 a1 a2) := by
 intro a0 a1 a2 k
 have ih0 := yo0.mono_l k
 unfold yo0.f
 repeat' (with_reducible first | exact ih0 _ _ _ _ _ | exact LeO.refl _ | exact LeO.none _ | refine LeO.ite ?_ ?_ | refine LeO.bind ?_ (fun _ => ?_))
theorem yo0.calls (k : Nat) (A0 : Option Addr) (c0 : Nat) (l0 : List Int) (a1 : Int) (a2 : Int) (r : Bool) (w : World) (hr0 : Kd.C (Kd.int .i64) w A0 l0.length l0) (hc0 : l0.length ≤ c0) (h : yo0.f k l0 a1 a2 = some r) :
  Calls Try.prog 67 #[.slice A0 l0.length c0, .int .i64 a1, .int .i64 a2] w fun e w' => e = .returned (.bool r) ∧ zt0 w w' := by
 have HR0 := za0.mk hr0
 have HC0 := za0.mk hc0
 clear hr0 hc0
 have H : (yo0.l0 k a1 a2 l0 (l0.length : Int) 0) = some r := h
 clear h
 have H' := za0.mk H
 clear H
 go_enter Try.func67, Try.ntmps67
 go_wp2
 go_loopg [11] k (fun kq v11 w' => ∃ (x11_1 : Int), v11 = .int .i64 x11_1 ∧ za0 (yo0.l0 kq a1 a2 l0 (l0.length : Int) x11_1 = some r) ∧ za0 (kq ≤ k) ∧ zt0 w w')
 case atStart => exact ⟨(0), (by first | rfl | (simp; done) | (simp [*]; done)), H', ⟨Nat.le_refl _⟩, by repeat (first | exact zt0.refl _ | apply zt0.step)⟩
 case round =>
  clear H'
  try clear p2
  obtain ⟨x11_1, rfl, HA, HK1, ⟨m1, rfl⟩⟩ := hrel
  obtain _ | k1 := gk
  ·exact absurd HA.1 (by simp [yo0.l0])
  have H := HA.1
  clear HA
  simp only [yo0.l0] at H
  by_cases c4 : x11_1 < (l0.length : Int)
  rotate_left
  ·rw [if_neg c4] at H
   have c4b0 : decide (x11_1 < (l0.length : Int)) = false := decide_eq_false c4
   clear c4
   obtain rfl := Option.some.inj H
   go_wp2
   go_ret
   exact ⟨by first | rfl | (simp; done) | (simp [*]; done), by repeat (first | exact zt0.refl _ | apply zt0.step)⟩
  rw [if_pos c4] at H
  have c4b0 : decide (x11_1 < (l0.length : Int)) = true := decide_eq_true c4
  clear c4
  by_cases c5 : 0 ≤ x11_1
  rotate_left
  ·rw [if_neg c5] at H
   exact absurd H (by simp)
  rw [if_pos c5] at H
  have c5b0 : decide (0 ≤ x11_1) = true := decide_eq_true c5
  clear c5
  by_cases c6 : x11_1 < (l0.length : Int)
  rotate_left
  ·rw [if_neg c6] at H
   exact absurd H (by simp)
  rw [if_pos c6] at H
  have c6b0 : decide (x11_1 < (l0.length : Int)) = true := decide_eq_true c6
  clear c6
  replace H := Option.bind_eq_some_iff.mp H
  obtain ⟨t224, A70, H⟩ := H
  replace H : (if t224 = true then (yo0.l0 k1 a1 a2 l0 (l0.length : Int) (wrap64 (x11_1 + 1))) else (some false)) = some r := H
  have A7 := za0.mk A70
  clear A70
  by_cases c8 : t224 = true
  rotate_left
  ·replace c8 := Bool.eq_false_iff.mpr c8
   subst c8
   have H1 : (some false) = some r := by rw [if_neg (show ¬ (false = true) by decide)] at H; exact H
   clear H
   have H := H1
   clear H1
   obtain rfl := Option.some.inj H
   have p223 : 0 ≤ (x11_1 : Int) := of_decide_eq_true (by assumption)
   have q223 : x11_1 < (l0.length : Int) := of_decide_eq_true (by assumption)
   obtain ⟨ad223, e223, hx223_0⟩ := Kd.at_int HR0.1 x11_1 p223 q223
   cases e223
   replace p223 := eq_true p223
   replace q223 := eq_true q223
   go_wp2_with (first | ((with_reducible refine zn0 (f := 45) rfl ?_); refine za1 (some 18) rfl rfl Try.func45 (by kernel_rfl) rfl #[.int .i64 (rd l0 x11_1), .int .i64 a1, .int .i64 a2] rfl (by (try simp only [List.map_toArray, List.map_cons, List.map_nil]); first | done | rfl | (simp only [List.length_drop, List.length_take]; rfl)) ?_; (with_reducible refine (ya1.calls (rd l0 x11_1) a1 a2 false _ A7.1).mono ?_); rintro e w' ⟨rfl, ⟨nd, rfl⟩⟩; refine ⟨_, rfl, ?_⟩))
   go_ret
   exact ⟨by first | rfl | (simp; done) | (simp [*]; done), by repeat (first | exact zt0.refl _ | apply zt0.step)⟩
  subst c8
  have H1 : (yo0.l0 k1 a1 a2 l0 (l0.length : Int) (wrap64 (x11_1 + 1))) = some r := by rw [if_pos rfl] at H; exact H
  clear H
  have H := H1
  clear H1
  have H' := za0.mk H
  clear H
  have p223 : 0 ≤ (x11_1 : Int) := of_decide_eq_true (by assumption)
  have q223 : x11_1 < (l0.length : Int) := of_decide_eq_true (by assumption)
  obtain ⟨ad223, e223, hx223_0⟩ := Kd.at_int HR0.1 x11_1 p223 q223
  cases e223
  replace p223 := eq_true p223
  replace q223 := eq_true q223
  go_wp2_with (first | ((with_reducible refine zn0 (f := 45) rfl ?_); refine za1 (some 18) rfl rfl Try.func45 (by kernel_rfl) rfl #[.int .i64 (rd l0 x11_1), .int .i64 a1, .int .i64 a2] rfl (by (try simp only [List.map_toArray, List.map_cons, List.map_nil]); first | done | rfl | (simp only [List.length_drop, List.length_take]; rfl)) ?_; (with_reducible refine (ya1.calls (rd l0 x11_1) a1 a2 true _ A7.1).mono ?_); rintro e w' ⟨rfl, ⟨nd, rfl⟩⟩; refine ⟨_, rfl, ?_⟩))
  go_roundg k1
  case measure => have := HK1.1; omega
  case rel => exact ⟨(wrap64 (x11_1 + 1)), (by first | rfl | (simp; done) | (simp [*]; done)), H', ⟨by have := HK1.1; omega⟩, by repeat (first | exact zt0.refl _ | apply zt0.step)⟩
def ym0.l0 : Nat → Int → List (List Int) → Int → Int → Option (Bool)
 | 0, _, _, _, _ => none
 | k + 1, x3, x13, x14, x15 => if x15 < x14 then (if 0 ≤ x15 then (if x15 < (x13.length : Int) then (if ((rd_L1 x13 x15).length : Int) > 5 then (some false) else ((yo0.f k (rd_L1 x13 x15) 0 (wrap64 (x3 - 1))).bind fun t228 => (if t228 = true then (ym0.l0 k x3 x13 x14 (wrap64 (x15 + 1))) else (some false)))) else (none)) else (none)) else (some true)
def ym0.f (k : Nat) (l0_0 : List (List Int)) : Option (Bool) := (ya1.f (l0_0.length : Int) 1 8).bind fun t226 => (if t226 = true then (ym0.l0 k (l0_0.length : Int) l0_0 (l0_0.length : Int) 0) else (some false))
theorem ym0.mono_l : ∀ k, (∀ y0 y1 y2 y3, LeO (ym0.l0 k y0 y1 y2 y3) (ym0.l0 (k + 1) y0 y1 y2 y3))
 | 0 => fun _ _ _ _ r h => by simp [ym0.l0] at h
 | k + 1 => by
  have ih0 := ym0.mono_l k
  ·intro y0 y1 y2 y3
   unfold ym0.l0
   repeat' (with_reducible first | exact ih0 _ _ _ _ | exact yo0.mono _ _ _ _ | exact LeO.refl _ | exact LeO.none _ | refine LeO.ite ?_ ?_ | refine LeO.bind ?_ (fun _ => ?_))
theorem ym0.mono : ∀ a0 k, LeO (ym0.f k a0) (ym0.f (k + 1) a0) := by
 intro a0 k
 have ih0 := ym0.mono_l k
 unfold ym0.f
 repeat' (with_reducible first | exact ih0 _ _ _ _ | exact yo0.mono _ _ _ _ | exact LeO.refl _ | exact LeO.none _ | refine LeO.ite ?_ ?_ | refine LeO.bind ?_ (fun _ => ?_))
theorem ym0.calls (k : Nat) (A0_0 : Option Addr) (c0_0 : Nat) (l0_0 : List (List Int)) (r : Bool) (w : World) (hr0_0 : Kd.C (Kd.slice 3 (Kd.int .i64)) w A0_0 l0_0.length l0_0) (hc0_0 : l0_0.length ≤ c0_0) (h : ym0.f k l0_0 = some r) :
  Calls Try.prog 44 #[.agg #[.slice A0_0 l0_0.length c0_0]] w fun e w' => e = .returned (.bool r) ∧ Below w.heap.size w w' := by
 have hu29 := Try.underlying29
 have HR0_0 := za0.mk hr0_0
 have HC0_0 := za0.mk hc0_0
 clear hr0_0 hc0_0
 have HB := za0.mk (Below.refl w.heap.size w)
 have H : ((ya1.f (l0_0.length : Int) 1 8).bind fun t226 => (if t226 = true then (ym0.l0 k (l0_0.length : Int) l0_0 (l0_0.length : Int) 0) else (some false))) = some r := h
 clear h
 replace H := Option.bind_eq_some_iff.mp H
 obtain ⟨t226, A20, H⟩ := H
 replace H : (if t226 = true then (ym0.l0 k (l0_0.length : Int) l0_0 (l0_0.length : Int) 0) else (some false)) = some r := H
 have A2 := za0.mk A20
 clear A20
 by_cases c3 : t226 = true
 rotate_left
 ·replace c3 := Bool.eq_false_iff.mpr c3
  subst c3
  have H1 : (some false) = some r := by rw [if_neg (show ¬ (false = true) by decide)] at H; exact H
  clear H
  have H := H1
  clear H1
  obtain rfl := Option.some.inj H
  go_enter Try.func44, Try.ntmps44
  go_wp2_with (first | ((with_reducible refine zo0 (N := 1) rfl ?_); refine zp0 ?hg (N := 1) ?hd (cs := #[.slice A0_0 l0_0.length c0_0]) (t := 29) ?hr ?_; (case hd | hg => rfl); (case hr => go_simp <;> rfl); intro gb225 hg w12 hbox hb; have n0_ := za0.mk (zi0 (by repeat (first | exact HB.1 | apply zc0 | apply zb0 | apply zd0)) hb); have n1_ := za0.mk (hbox); have n2_ := za0.mk ((by rw [hg]; exact (zh0 (by repeat (first | exact HB.1 | apply zc0 | apply zb0 | apply zd0))) : w.heap.size ≤ gb225)); have n3_ := za0.mk ((by rw [hg]; exact (zh0 (by repeat (first | exact HB.1 | apply zc0 | apply zb0 | apply zd0))) : w.heap.size ≤ gb225)); clear HB; have HB := n0_; have BK225 := n1_; have GW225 := n2_; have GE225 := n3_; clear n0_ n1_ n2_ n3_; clear hb hbox hg; have hcz13_0 : w12.cell? ⟨gb225, 0, none⟩ = some (.slice A0_0 l0_0.length c0_0) := (zl0 BK225.1 0).trans rfl; have hfz13_0 := zk0 BK225.1 0) | ((with_reducible refine zn0 (f := 45) rfl ?_); refine za1 (some 10) rfl rfl Try.func45 (by kernel_rfl) rfl #[.int .i64 (l0_0.length : Int), .int .i64 1, .int .i64 8] rfl (by (try simp only [List.map_toArray, List.map_cons, List.map_nil]); first | done | rfl | (simp only [List.length_drop, List.length_take]; rfl)) ?_; (with_reducible refine (ya1.calls (l0_0.length : Int) 1 8 false _ A2.1).mono ?_); rintro e w' ⟨rfl, ⟨nd, rfl⟩⟩; refine ⟨_, rfl, ?_⟩))
  go_ret
  exact ⟨by first | rfl | (simp [errW_none, errW_some] <;> rfl) | (simp [*, errW_none, errW_some] <;> rfl), by repeat (first | exact HB.1 | apply zc0 | apply zb0 | apply zd0 | refine ze0 ?_ GE225.1)⟩
 subst c3
 have H1 : (ym0.l0 k (l0_0.length : Int) l0_0 (l0_0.length : Int) 0) = some r := by rw [if_pos rfl] at H; exact H
 clear H
 have H := H1
 clear H1
 have H' := za0.mk H
 clear H
 go_enter Try.func44, Try.ntmps44
 go_wp2_with (first | ((with_reducible refine zo0 (N := 1) rfl ?_); refine zp0 ?hg (N := 1) ?hd (cs := #[.slice A0_0 l0_0.length c0_0]) (t := 29) ?hr ?_; (case hd | hg => rfl); (case hr => go_simp <;> rfl); intro gb225 hg w4 hbox hb; have n0_ := za0.mk (zi0 (by repeat (first | exact HB.1 | apply zc0 | apply zb0 | apply zd0)) hb); have n1_ := za0.mk (hbox); have n2_ := za0.mk ((by rw [hg]; exact (zh0 (by repeat (first | exact HB.1 | apply zc0 | apply zb0 | apply zd0))) : w.heap.size ≤ gb225)); have n3_ := za0.mk ((by rw [hg]; exact (zh0 (by repeat (first | exact HB.1 | apply zc0 | apply zb0 | apply zd0))) : w.heap.size ≤ gb225)); clear HB; have HB := n0_; have BK225 := n1_; have GW225 := n2_; have GE225 := n3_; clear n0_ n1_ n2_ n3_; clear hb hbox hg; have hcz5_0 : w4.cell? ⟨gb225, 0, none⟩ = some (.slice A0_0 l0_0.length c0_0) := (zl0 BK225.1 0).trans rfl; have hfz5_0 := zk0 BK225.1 0) | ((with_reducible refine zn0 (f := 45) rfl ?_); refine za1 (some 10) rfl rfl Try.func45 (by kernel_rfl) rfl #[.int .i64 (l0_0.length : Int), .int .i64 1, .int .i64 8] rfl (by (try simp only [List.map_toArray, List.map_cons, List.map_nil]); first | done | rfl | (simp only [List.length_drop, List.length_take]; rfl)) ?_; (with_reducible refine (ya1.calls (l0_0.length : Int) 1 8 true _ A2.1).mono ?_); rintro e w' ⟨rfl, ⟨nd, rfl⟩⟩; refine ⟨_, rfl, ?_⟩))
 go_loopg [15] k (fun kq v15 w' => ∃ (x15_1 : Int), v15 = .int .i64 x15_1 ∧ za0 (ym0.l0 kq (l0_0.length : Int) l0_0 (l0_0.length : Int) x15_1 = some r) ∧ za0 (kq ≤ k) ∧ za0 (w'.heap[gb225]? = some (.cells #[(.slice A0_0 l0_0.length c0_0)] 29 (0, 0))) ∧ za0 (Below w.heap.size w w'))
 case atStart => exact ⟨(0), (by first | rfl | (simp; done) | (simp [*]; done)), H', ⟨Nat.le_refl _⟩, ⟨by (with_reducible repeat (first | refine zg0 ?_ _ | refine zj0 ?_ | refine zf0 ?_ _)); exact BK225.1⟩, ⟨by repeat (first | exact HB.1 | apply zc0 | apply zb0 | apply zd0 | refine ze0 ?_ GE225.1)⟩⟩
 case round =>
  clear H'
  try clear p2
  try clear c3
  try clear c4
  try clear hcz5_0
  try clear hfz5_0
  obtain ⟨x15_1, rfl, HA, HK1, BK225, HB⟩ := hrel
  obtain _ | k1 := gk
  ·exact absurd HA.1 (by simp [ym0.l0])
  have H := HA.1
  clear HA
  simp only [ym0.l0] at H
  by_cases c6 : x15_1 < (l0_0.length : Int)
  rotate_left
  ·rw [if_neg c6] at H
   have c6b0 : decide (x15_1 < (l0_0.length : Int)) = false := decide_eq_false c6
   clear c6
   obtain rfl := Option.some.inj H
   go_wp2
   go_ret
   exact ⟨by first | rfl | (simp [errW_none, errW_some] <;> rfl) | (simp [*, errW_none, errW_some] <;> rfl), by repeat (first | exact HB.1 | apply zc0 | apply zb0 | apply zd0 | refine ze0 ?_ GE225.1)⟩
  rw [if_pos c6] at H
  have c6b0 : decide (x15_1 < (l0_0.length : Int)) = true := decide_eq_true c6
  clear c6
  by_cases c7 : 0 ≤ x15_1
  rotate_left
  ·rw [if_neg c7] at H
   exact absurd H (by simp)
  rw [if_pos c7] at H
  have c7b0 : decide (0 ≤ x15_1) = true := decide_eq_true c7
  clear c7
  by_cases c8 : x15_1 < (l0_0.length : Int)
  rotate_left
  ·rw [if_neg c8] at H
   exact absurd H (by simp)
  rw [if_pos c8] at H
  have c8b0 : decide (x15_1 < (l0_0.length : Int)) = true := decide_eq_true c8
  clear c8
  by_cases c9 : ((rd_L1 l0_0 x15_1).length : Int) > 5
  ·rw [if_pos c9] at H
   have c9b0 : decide (5 < ((rd_L1 l0_0 x15_1).length : Int)) = true := decide_eq_true c9
   have c9b1 : decide (5 < (rd_L1 l0_0 x15_1).length) = true := decide_eq_true (by omega)
   clear c9
   obtain rfl := Option.some.inj H
   have p227 : 0 ≤ (x15_1 : Int) := of_decide_eq_true (by assumption)
   have q227 : x15_1 < (l0_0.length : Int) := of_decide_eq_true (by assumption)
   obtain ⟨ad227, A227_0, c227_0, e227, hx227_0, hl227_0, hi227_0⟩ := at_L1 HR0_0.1 x15_1 p227 q227
   cases e227
   replace hx227_0 := (HB.1.cell (World.block_lt_of_cell? w _ hx227_0)).trans hx227_0
   have HR227_0 := za0.mk hi227_0
   have HC227_0 := za0.mk hl227_0
   clear hi227_0 hl227_0
   replace p227 := eq_true p227
   replace q227 := eq_true q227
   go_wp2
   go_ret
   exact ⟨by first | rfl | (simp [errW_none, errW_some] <;> rfl) | (simp [*, errW_none, errW_some] <;> rfl), by repeat (first | exact HB.1 | apply zc0 | apply zb0 | apply zd0 | refine ze0 ?_ GE225.1)⟩
  rw [if_neg c9] at H
  have c9b0 : decide (5 < ((rd_L1 l0_0 x15_1).length : Int)) = false := decide_eq_false c9
  have c9b1 : decide (5 < (rd_L1 l0_0 x15_1).length) = false := decide_eq_false (by omega)
  clear c9
  replace H := Option.bind_eq_some_iff.mp H
  obtain ⟨t228, A100, H⟩ := H
  replace H : (if t228 = true then (ym0.l0 k1 (l0_0.length : Int) l0_0 (l0_0.length : Int) (wrap64 (x15_1 + 1))) else (some false)) = some r := H
  have A10 := za0.mk A100
  clear A100
  by_cases c11 : t228 = true
  rotate_left
  ·replace c11 := Bool.eq_false_iff.mpr c11
   subst c11
   have H1 : (some false) = some r := by rw [if_neg (show ¬ (false = true) by decide)] at H; exact H
   clear H
   have H := H1
   clear H1
   obtain rfl := Option.some.inj H
   have p227 : 0 ≤ (x15_1 : Int) := of_decide_eq_true (by assumption)
   have q227 : x15_1 < (l0_0.length : Int) := of_decide_eq_true (by assumption)
   obtain ⟨ad227, A227_0, c227_0, e227, hx227_0, hl227_0, hi227_0⟩ := at_L1 HR0_0.1 x15_1 p227 q227
   cases e227
   replace hx227_0 := (HB.1.cell (World.block_lt_of_cell? w _ hx227_0)).trans hx227_0
   have HR227_0 := za0.mk hi227_0
   have HC227_0 := za0.mk hl227_0
   clear hi227_0 hl227_0
   replace p227 := eq_true p227
   replace q227 := eq_true q227
   go_wp2_with (first | (go_at_call 67; (with_reducible refine (yo0.calls k1 _ _ (rd_L1 l0_0 x15_1) 0 (wrap64 ((l0_0.length : Int) - 1)) false _ ?side1 ?side2 A10.1).mono ?_); (case side1 => repeat (first | exact (Kd.C_below HR227_0.1 HB.1) | with_reducible first | refine Kd.C_alloc ?_ _ | refine Kd.C_drewN ?_ _ | refine Kd.C_drew ?_)); (case side2 => exact HC227_0.1); rintro e w' ⟨rfl, ⟨nd, rfl⟩⟩))
   go_ret
   exact ⟨by first | rfl | (simp [errW_none, errW_some] <;> rfl) | (simp [*, errW_none, errW_some] <;> rfl), by repeat (first | exact HB.1 | apply zc0 | apply zb0 | apply zd0 | refine ze0 ?_ GE225.1)⟩
  subst c11
  have H1 : (ym0.l0 k1 (l0_0.length : Int) l0_0 (l0_0.length : Int) (wrap64 (x15_1 + 1))) = some r := by rw [if_pos rfl] at H; exact H
  clear H
  have H := H1
  clear H1
  have H' := za0.mk H
  clear H
  have p227 : 0 ≤ (x15_1 : Int) := of_decide_eq_true (by assumption)
  have q227 : x15_1 < (l0_0.length : Int) := of_decide_eq_true (by assumption)
  obtain ⟨ad227, A227_0, c227_0, e227, hx227_0, hl227_0, hi227_0⟩ := at_L1 HR0_0.1 x15_1 p227 q227
  cases e227
  replace hx227_0 := (HB.1.cell (World.block_lt_of_cell? w _ hx227_0)).trans hx227_0
  have HR227_0 := za0.mk hi227_0
  have HC227_0 := za0.mk hl227_0
  clear hi227_0 hl227_0
  replace p227 := eq_true p227
  replace q227 := eq_true q227
  go_wp2_with (first | (go_at_call 67; (with_reducible refine (yo0.calls k1 _ _ (rd_L1 l0_0 x15_1) 0 (wrap64 ((l0_0.length : Int) - 1)) true _ ?side1 ?side2 A10.1).mono ?_); (case side1 => repeat (first | exact (Kd.C_below HR227_0.1 HB.1) | with_reducible first | refine Kd.C_alloc ?_ _ | refine Kd.C_drewN ?_ _ | refine Kd.C_drew ?_)); (case side2 => exact HC227_0.1); rintro e w' ⟨rfl, ⟨nd, rfl⟩⟩))
  go_roundg k1
  case measure => have := HK1.1; omega
  case rel => exact ⟨(wrap64 (x15_1 + 1)), (by first | rfl | (simp; done) | (simp [*]; done)), H', ⟨by have := HK1.1; omega⟩, ⟨by (with_reducible repeat (first | refine zg0 ?_ _ | refine zj0 ?_ | refine zf0 ?_ _)); exact BK225.1⟩, ⟨by repeat (first | exact HB.1 | apply zc0 | apply zb0 | apply zd0 | refine ze0 ?_ GE225.1)⟩⟩
def yl0.f (k : Nat) (l0_0 : List (List Int)) (a1 : Int) : Option (Bool) := (ym0.f k l0_0).bind fun t230 => (if t230 = true then ((ya1.f a1 0 (wrap64 ((l0_0.length : Int) - 1))).bind fun t231 => (some t231)) else (some false))
theorem yl0.mono : ∀ a0 a1 k, LeO (yl0.f k a0 a1) (yl0.f (k + 1) a0 a1) := by
 intro a0 a1 k
 unfold yl0.f
 repeat' (with_reducible first | exact ym0.mono _ _ | exact LeO.refl _ | exact LeO.none _ | refine LeO.ite ?_ ?_ | refine LeO.bind ?_ (fun _ => ?_))
theorem yl0.calls (k : Nat) (A0_0 : Option Addr) (c0_0 : Nat) (l0_0 : List (List Int)) (a1 : Int) (r : Bool) (w : World) (hr0_0 : Kd.C (Kd.slice 3 (Kd.int .i64)) w A0_0 l0_0.length l0_0) (hc0_0 : l0_0.length ≤ c0_0) (h : yl0.f k l0_0 a1 = some r) :
  Calls Try.prog 28 #[.agg #[.slice A0_0 l0_0.length c0_0], .int .i64 a1] w fun e w' => e = .returned (.bool r) ∧ Below w.heap.size w w' := by
 have hu29 := Try.underlying29
 have HR0_0 := za0.mk hr0_0
 have HC0_0 := za0.mk hc0_0
 clear hr0_0 hc0_0
 have HB := za0.mk (Below.refl w.heap.size w)
 have H : ((ym0.f k l0_0).bind fun t230 => (if t230 = true then ((ya1.f a1 0 (wrap64 ((l0_0.length : Int) - 1))).bind fun t231 => (some t231)) else (some false))) = some r := h
 clear h
 replace H := Option.bind_eq_some_iff.mp H
 obtain ⟨t230, A30, H⟩ := H
 replace H : (if t230 = true then ((ya1.f a1 0 (wrap64 ((l0_0.length : Int) - 1))).bind fun t231 => (some t231)) else (some false)) = some r := H
 have A3 := za0.mk A30
 clear A30
 by_cases c4 : t230 = true
 rotate_left
 ·replace c4 := Bool.eq_false_iff.mpr c4
  subst c4
  have H1 : (some false) = some r := by rw [if_neg (show ¬ (false = true) by decide)] at H; exact H
  clear H
  have H := H1
  clear H1
  obtain rfl := Option.some.inj H
  go_enter Try.func28, Try.ntmps28
  go_wp2_with (first | ((with_reducible refine zo0 (N := 2) rfl ?_); (try (refine gate_guard (by rfl) ?_; dsimp only)); refine zp0 ?hg (N := 2) ?hd (cs := #[.slice A0_0 l0_0.length c0_0]) (t := 29) ?hr ?_; (case hd | hg => rfl); (case hr => go_simp <;> rfl); intro gb229 hg w10 hbox hb; have n0_ := za0.mk (zi0 (by repeat (first | exact HB.1 | apply zc0 | apply zb0 | apply zd0)) hb); have n1_ := za0.mk (hbox); have n2_ := za0.mk ((by rw [hg]; exact (zh0 (by repeat (first | exact HB.1 | apply zc0 | apply zb0 | apply zd0))) : w.heap.size ≤ gb229)); have n3_ := za0.mk ((by rw [hg]; exact (zh0 (by repeat (first | exact HB.1 | apply zc0 | apply zb0 | apply zd0))) : w.heap.size ≤ gb229)); clear HB; have HB := n0_; have BK229 := n1_; have GW229 := n2_; have GE229 := n3_; clear n0_ n1_ n2_ n3_; clear hb hbox hg; have hcz11_0 : w10.cell? ⟨gb229, 0, none⟩ = some (.slice A0_0 l0_0.length c0_0) := (zl0 BK229.1 0).trans rfl; have hfz11_0 := zk0 BK229.1 0) | ((with_reducible refine zn0 (f := 44) rfl ?_); refine za1 (some 6) rfl rfl Try.func44 (by kernel_rfl) rfl #[.agg #[.slice A0_0 l0_0.length c0_0]] rfl (by (try simp only [List.map_toArray, List.map_cons, List.map_nil]); first | done | rfl | (simp only [List.length_drop, List.length_take]; rfl)) ?_; (with_reducible refine (ym0.calls k _ _ l0_0 false _ ?side1 ?side2 A3.1).mono ?_); (case side1 => repeat (first | exact (Kd.C_below HR0_0.1 HB.1) | with_reducible first | refine Kd.C_alloc ?_ _ | refine Kd.C_drewN ?_ _ | refine Kd.C_drew ?_)); (case side2 => exact HC0_0.1); rintro e w12 ⟨rfl, hb⟩; refine ⟨_, rfl, ?_⟩; have n0_ := za0.mk (zm0 (g := gb229) (o := .cells #[.slice A0_0 l0_0.length c0_0] 29 (0, 0)) (by (with_reducible repeat (first | refine zg0 ?_ _ | refine zj0 ?_ | refine zf0 ?_ _)); exact BK229.1) hb); have n1_ := za0.mk (zi0 (by repeat (first | exact HB.1 | apply zc0 | apply zb0 | apply zd0 | refine ze0 ?_ GE229.1)) hb); clear BK229; clear HB; have BK229 := n0_; have HB := n1_; clear n0_ n1_; (try clear hb); (try clear hb2); (try clear hk); (try clear hi)))
  go_ret
  exact ⟨by first | rfl | (simp [errW_none, errW_some] <;> rfl) | (simp [*, errW_none, errW_some] <;> rfl), by repeat (first | exact HB.1 | apply zc0 | apply zb0 | apply zd0 | refine ze0 ?_ GE229.1)⟩
 subst c4
 have H1 : ((ya1.f a1 0 (wrap64 ((l0_0.length : Int) - 1))).bind fun t231 => (some t231)) = some r := by rw [if_pos rfl] at H; exact H
 clear H
 have H := H1
 clear H1
 replace H := Option.bind_eq_some_iff.mp H
 obtain ⟨t231, A50, H⟩ := H
 replace H : (some t231) = some r := H
 have A5 := za0.mk A50
 clear A50
 obtain rfl := Option.some.inj H
 go_enter Try.func28, Try.ntmps28
 go_wp2_with (first | ((with_reducible refine zo0 (N := 2) rfl ?_); (try (refine gate_guard (by rfl) ?_; dsimp only)); refine zp0 ?hg (N := 2) ?hd (cs := #[.slice A0_0 l0_0.length c0_0]) (t := 29) ?hr ?_; (case hd | hg => rfl); (case hr => go_simp <;> rfl); intro gb229 hg w6 hbox hb; have n0_ := za0.mk (zi0 (by repeat (first | exact HB.1 | apply zc0 | apply zb0 | apply zd0)) hb); have n1_ := za0.mk (hbox); have n2_ := za0.mk ((by rw [hg]; exact (zh0 (by repeat (first | exact HB.1 | apply zc0 | apply zb0 | apply zd0))) : w.heap.size ≤ gb229)); have n3_ := za0.mk ((by rw [hg]; exact (zh0 (by repeat (first | exact HB.1 | apply zc0 | apply zb0 | apply zd0))) : w.heap.size ≤ gb229)); clear HB; have HB := n0_; have BK229 := n1_; have GW229 := n2_; have GE229 := n3_; clear n0_ n1_ n2_ n3_; clear hb hbox hg; have hcz7_0 : w6.cell? ⟨gb229, 0, none⟩ = some (.slice A0_0 l0_0.length c0_0) := (zl0 BK229.1 0).trans rfl; have hfz7_0 := zk0 BK229.1 0) | ((with_reducible refine zn0 (f := 44) rfl ?_); refine za1 (some 6) rfl rfl Try.func44 (by kernel_rfl) rfl #[.agg #[.slice A0_0 l0_0.length c0_0]] rfl (by (try simp only [List.map_toArray, List.map_cons, List.map_nil]); first | done | rfl | (simp only [List.length_drop, List.length_take]; rfl)) ?_; (with_reducible refine (ym0.calls k _ _ l0_0 true _ ?side1 ?side2 A3.1).mono ?_); (case side1 => repeat (first | exact (Kd.C_below HR0_0.1 HB.1) | with_reducible first | refine Kd.C_alloc ?_ _ | refine Kd.C_drewN ?_ _ | refine Kd.C_drew ?_)); (case side2 => exact HC0_0.1); rintro e w8 ⟨rfl, hb⟩; refine ⟨_, rfl, ?_⟩; have n0_ := za0.mk (zm0 (g := gb229) (o := .cells #[.slice A0_0 l0_0.length c0_0] 29 (0, 0)) (by (with_reducible repeat (first | refine zg0 ?_ _ | refine zj0 ?_ | refine zf0 ?_ _)); exact BK229.1) hb); have n1_ := za0.mk (zi0 (by repeat (first | exact HB.1 | apply zc0 | apply zb0 | apply zd0 | refine ze0 ?_ GE229.1)) hb); clear BK229; clear HB; have BK229 := n0_; have HB := n1_; clear n0_ n1_; (try clear hb); (try clear hb2); (try clear hk); (try clear hi); have hcz9_0 : w8.cell? ⟨gb229, 0, none⟩ = some (.slice A0_0 l0_0.length c0_0) := (zl0 BK229.1 0).trans rfl; have hfz9_0 := zk0 BK229.1 0) | (go_at_call 45; (with_reducible refine (ya1.calls a1 0 (wrap64 ((l0_0.length : Int) - 1)) t231 _ A5.1).mono ?_); rintro e w' ⟨rfl, ⟨nd, rfl⟩⟩))
 go_ret
 exact ⟨by first | rfl | (simp [errW_none, errW_some] <;> rfl) | (simp [*, errW_none, errW_some] <;> rfl), by repeat (first | exact HB.1 | apply zc0 | apply zb0 | apply zd0 | refine ze0 ?_ GE229.1)⟩
end Go.Proofs.Ytlbgajpbdbgmkaa.P
