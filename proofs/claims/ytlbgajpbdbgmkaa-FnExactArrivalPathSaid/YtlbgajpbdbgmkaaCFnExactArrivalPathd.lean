/- Texts of this session on the way to the law FnExactArrivalPath, part 4: words of the print, walks, plain laws; only what the law's proof uses. -/
import Derived.Test.YtlbgajpbdbgmkaaCFnExactArrivalPatha
import Derived.Test.YtlbgajpbdbgmkaaCFnExactArrivalPathc
namespace Go.Proofs.Ytlbgajpbdbgmkaa.P
open Go.RowKit Go.Proofs.YtlbgajpbdbgmkaaW.PrintWords Go.Proofs.YtlbgajpbdbgmkaaW.PrintLast Go.Proofs.YtlbgajpbdbgmkaaW.PrintMore
attribute [local go_sem] zu0 zw0 zz0 zy0 zs0 zq0 zv0 zt0
set_option linter.unusedVariables false
set_option linter.unusedSimpArgs false
structure WkSt (w0 w1 w : World) (B nb n cap : Nat) (rot : List Int) (p : Int) : Prop where
 hb : Below w0.heap.size w0 w
 hk : Kept w1 w (fun k => k = nb ∨ k = B)
 hn : n = rot.length
 cap_ : n ≤ cap
 bk : w.heap[B]? = some (.cells #[.slice (some ⟨nb, 0, none⟩) n cap, .int .i64 p] 63 (0, 0))
 rt : Kd.R (Kd.int .i64) 3 w w0.heap.size (fun k => k = nb) (.slice (some ⟨nb, 0, none⟩) n cap) rot
 ge : w0.heap.size ≤ B
section
variable {w0 w1 w w2 : World} {B nb n cap : Nat} {rot : List Int} {p : Int}
theorem WkSt.ne (h : WkSt w0 w1 w B nb n cap rot p) : B ≠ nb := fun e => Kd.R_ne h.rt h.bk (by decide) (by rw [e]; rfl)
theorem WkSt.below (h : WkSt w0 w1 w B nb n cap rot p) (hb : Below w.heap.size w w2) : WkSt w0 w1 w2 B nb n cap rot p :=
 ⟨zh0 h.hb hb, h.hk.below hb, h.hn, h.cap_, zm0 h.bk hb, Kd.R_below h.rt hb, h.ge⟩
theorem WkSt.drew (h : WkSt w0 w1 w B nb n cap rot p) : WkSt w0 w1 w.drew B nb n cap rot p := h.below (below_drew (Below.refl _ _))
theorem WkSt.put (h : WkSt w0 w1 w B nb n cap rot p) (i x : Int) : WkSt w0 w1 (w.setCell ⟨nb, i.toNat, none⟩ (.int .i64 x)) B nb n cap (rot.set i.toNat x) p :=
 ⟨ze0 h.hb (Kd.R_base h.rt nb rfl), h.hk.setCell (.inl (.inl rfl)) _, by rw [List.length_set]; exact h.hn, h.cap_, (Below.heap_setCell w ⟨nb, i.toNat, none⟩ _ B h.ne).trans h.bk, (Kd.R_putg h.rt i x).1, h.ge⟩
theorem blk_putA {w : World} {B j t : Nat} {cs : Array Value} {u : Value} (h : w.heap[B]? = some (.cells cs t (0, 0))) : (w.setCell ⟨B, j, none⟩ u).heap[B]? = some (.cells (cs.setIfInBounds j u) t (0, 0)) := by
 simp only [World.setCell, Array.getElem?_modify, if_true, h, Option.map_some]
 rfl
theorem WkSt.at_ (h : WkSt w0 w1 w B nb n cap rot p) (q : Int) : WkSt w0 w1 (w.setCell ⟨B, 1, none⟩ (.int .i64 q)) B nb n cap rot q :=
 ⟨ze0 h.hb h.ge, h.hk.setCell (.inl (.inr rfl)) _, h.hn, h.cap_, (blk_putA h.bk).trans rfl, Kd.R_set h.rt h.bk (by decide) 1 _, h.ge⟩
end
theorem rd_set_self {o : List Int} {p x : Int} (h0 : 0 ≤ p) (h1 : p < (o.length : Int)) : rd (o.set p.toNat x) p = x := by
 simp only [rd, List.getD_eq_getElem?_getD]
 rw [List.getElem?_set_self (by omega)]; rfl
def stepL (l : List (List Int)) (rot : List Int) (p : Int) : Option (List Int × Int) :=
 if 0 ≤ p then (if p < (l.length : Int) then (if ((rd_L1 l p).length : Int) = 0 then none else (if p < (rot.length : Int) then (if 0 ≤ Int.tmod (wrap64 (rd rot p + 1)) ((rd_L1 l p).length : Int) then (if Int.tmod (wrap64 (rd rot p + 1)) ((rd_L1 l p).length : Int) < ((rd_L1 l p).length : Int) then some (rot.set p.toNat (Int.tmod (wrap64 (rd rot p + 1)) ((rd_L1 l p).length : Int)), rd (rd_L1 l p) (Int.tmod (wrap64 (rd rot p + 1)) ((rd_L1 l p).length : Int))) else none) else none) else none)) else none) else none
set_option maxHeartbeats 8000000 in
set_option maxRecDepth 100000 in
theorem impl_Graph_step.calls (l : List (List Int)) (A0 : Option Addr) (c0 B nb n cap : Nat) (rot rot2 : List Int) (p p2 : Int) (w0 w1 w : World) (hr0 : Kd.C (Kd.slice 3 (Kd.int .i64)) w0 A0 l.length l) (hc0 : l.length ≤ c0) (st : WkSt w0 w1 w B nb n cap rot p) (h : stepL l rot p = some (rot2, p2)) :
  Calls Try.prog 56 #[.agg #[.slice A0 l.length c0], .pointer (some ⟨B, 0, none⟩)] w fun e w' => e = .returned (.bool true) ∧ WkSt w0 w1 w' B nb n cap rot2 p2 := by
 have hu1 := Try.underlying29
 have hu2 := Try.underlying63
 have hn := st.hn
 subst hn
 unfold stepL at h
 by_cases p0 : 0 ≤ p
 ·rw [if_pos p0] at h
  by_cases p1 : p < (l.length : Int)
  ·rw [if_pos p1] at h
   by_cases hz : ((rd_L1 l p).length : Int) = 0
   ·rw [if_pos hz] at h; exact absurd h (by simp)
   ·rw [if_neg hz] at h
    have hzb : (((rd_L1 l p).length : Int) == 0) = false := beq_eq_false_iff_ne.mpr hz
    have hzl : ¬ (rd_L1 l p) = [] := fun h_ => hz (by rw [h_]; rfl)
    by_cases p2 : p < (rot.length : Int)
    ·rw [if_pos p2] at h
     obtain ⟨t, ht⟩ : ∃ t, Int.tmod (wrap64 (rd rot p + 1)) ((rd_L1 l p).length : Int) = t := ⟨_, rfl⟩
     rw [ht] at h
     by_cases t0 : 0 ≤ t
     ·rw [if_pos t0] at h
      by_cases t1 : t < ((rd_L1 l p).length : Int)
      ·rw [if_pos t1] at h
       simp only [Option.some.injEq, Prod.mk.injEq] at h
       obtain ⟨rfl, rfl⟩ := h
       have HR0 := za0.mk hr0
       have HC0 := za0.mk hc0
       have HT := za0.mk ht
       have ST := za0.mk st
       have HZ := za0.mk hz
       obtain ⟨ad0, A1, c1_, e1, hx1, hl1, hi1⟩ := at_L1 hr0 p p0 p1
       subst e1
       obtain ⟨adr, e2, hx3⟩ := Kd.at_int hi1 t t0 t1
       subst e2
       have HX1 := za0.mk hx1
       have HX3 := za0.mk hx3
       have HL1 := za0.mk hl1
       have HP := za0.mk (And.intro p0 (And.intro p1 p2))
       have HT01 := za0.mk (And.intro t0 t1)
       replace p0 := eq_true p0
       replace p1 := eq_true p1
       replace p2 := eq_true p2
       replace t0 := eq_true t0
       replace t1 := eq_true t1
       clear st hr0 hc0 ht hx1 hx3 hl1 hi1 hz
       go_enter Try.func56, Try.ntmps56
       go_wp2_with (((with_reducible refine zo0 (N := 2) rfl ?_); refine zp0 ?hg (N := 2) ?hd (cs := #[.slice (some ad0) l.length c0]) (t := 29) ?hr ?_; (case hd => rfl); (case hg => rfl); (case hr => first | (go_simp; done) | (go_simp; rfl)); intro gb hg w6 hbox hb; have n0_ := za0.mk (ST.out.below hb); have BG := za0.mk hbox; clear ST hg hb hbox; have ST := n0_; clear n0_))
       have n0_ := za0.mk ST.out.drew
       have hcg : w6.drew.cell? ⟨gb, 0, none⟩ = some (.slice (some ad0) l.length c0) := (zl0 BG.out 0).trans rfl
       have hcr : w6.drew.cell? ⟨B, 0, none⟩ = some (.slice (some ⟨nb, 0, none⟩) rot.length cap) := (zl0 ST.out.bk 0).trans rfl
       have hcp : w6.drew.cell? ⟨B, 1, none⟩ = some (.int .i64 p) := (zl0 ST.out.bk 1).trans rfl
       have hfp : w6.drew.frozen? ⟨B, 1, none⟩ = false := zk0 n0_.out.bk 1
       have hx1 : w6.drew.cell? (ad0.add p.toNat) = some (.slice (some adr) (rd_L1 l p).length c1_) := (n0_.out.hb.cell (World.block_lt_of_cell? _ _ HX1.out)).trans HX1.out
       obtain ⟨hx2, hf2⟩ := Kd.R_celln 0 n0_.out.rt p HP.out.1 HP.out.2.2
       replace BG := za0.mk (show w6.drew.heap[gb]? = _ from BG.out)
       clear ST
       have ST := n0_
       clear n0_
       refine start_ (n := 9) (S := fun w' => w'.cell? ⟨gb, 0, none⟩ = some (.slice (some ad0) l.length c0) ∧ w'.cell? ⟨B, 1, none⟩ = some (.int .i64 p) ∧ w'.cell? (ad0.add p.toNat) = some (.slice (some adr) (rd_L1 l p).length c1_)) (ds := []) #[false, false, false, false, false, false, false, false, false] (by kernel_rfl) rfl rfl ⟨hcg, hcp, hx1⟩ (fun hHeld => ?_)
       generalize w6.drew = w7 at ST BG hcg hcp hcr hx1 hx2 hf2 hfp hHeld ⊢
       refine pure_ (i := 0) (N := some 6) (v := ?_) (a' := ?_) (bf 9 1) rfl rfl (by kernel_rfl) (fun _ _ _ h => h) (Or.inl ⟨by rfl, ?_⟩) ?_ ?_
       rotate_left
       ·intro w'; go_simp; with_reducible rfl
       rotate_left
       ·simp only [Act.put, zA, zB, zC, i64_w, i32_w]; rfl
       refine take_ (i := 1) (N := some 7) (v := ?_) (a' := ?_) (bf 9 3) rfl rfl (by kernel_rfl) (fun _ _ _ h => h) (Or.inl ⟨by rfl, ?_⟩) hHeld ?_ ?_
       rotate_left
       ·rintro w' ⟨s0, s1, s2⟩; go_simp; with_reducible rfl
       rotate_left
       ·simp only [Act.put, zA, zB, zC, i64_w, i32_w]; rfl
       refine pure_ (i := 2) (N := some 8) (v := ?_) (a' := ?_) (bf 9 7) rfl rfl (by kernel_rfl) (fun _ _ _ h => h) (Or.inl ⟨by rfl, ?_⟩) ?_ ?_
       rotate_left
       ·intro w'; go_simp; with_reducible rfl
       rotate_left
       ·simp only [Act.put, zA, zB, zC, i64_w, i32_w]; rfl
       refine pure_ (i := 3) (N := some 9) (v := ?_) (a' := ?_) (bf 9 15) rfl rfl (by kernel_rfl) (fun _ _ _ h => h) (Or.inl ⟨by rfl, ?_⟩) ?_ ?_
       rotate_left
       ·intro w'; go_simp; with_reducible rfl
       rotate_left
       ·simp only [Act.put, zA, zB, zC, i64_w, i32_w]; rfl
       refine pure_ (i := 4) (N := some 10) (v := ?_) (a' := ?_) (bf 9 31) rfl rfl (by kernel_rfl) (fun _ _ _ h => h) (Or.inl ⟨by rfl, ?_⟩) ?_ ?_
       rotate_left
       ·intro w'; go_simp; with_reducible rfl
       rotate_left
       ·simp only [Act.put, zA, zB, zC, i64_w, i32_w]; rfl
       refine take_ (i := 5) (N := some 11) (v := ?_) (a' := ?_) (bf 9 63) rfl rfl (by kernel_rfl) (fun _ _ _ h => h) (Or.inl ⟨by rfl, ?_⟩) hHeld ?_ ?_
       rotate_left
       ·rintro w' ⟨s0, s1, s2⟩; go_simp; with_reducible rfl
       rotate_left
       ·simp only [Act.put, zA, zB, zC, i64_w, i32_w]; rfl
       refine pure_ (i := 6) (N := some 12) (v := ?_) (a' := ?_) (bf 9 127) rfl rfl (by kernel_rfl) (fun _ _ _ h => h) (Or.inl ⟨by rfl, ?_⟩) ?_ ?_
       rotate_left
       ·intro w'; go_simp; with_reducible rfl
       rotate_left
       ·simp only [Act.put, zA, zB, zC, i64_w, i32_w]; rfl
       refine take_ (i := 7) (N := some 13) (v := ?_) (a' := ?_) (bf 9 255) rfl rfl (by kernel_rfl) (fun _ _ _ h => h) (Or.inl ⟨by rfl, ?_⟩) hHeld ?_ ?_
       rotate_left
       ·rintro w' ⟨s0, s1, s2⟩; go_simp; with_reducible rfl
       rotate_left
       ·simp only [Act.put, zA, zB, zC, i64_w, i32_w]; rfl
       refine pure_ (i := 8) (N := some 5) (v := ?_) (a' := ?_) (bf 9 511) rfl rfl (by kernel_rfl) (fun _ _ _ h => h) (Or.inl ⟨by rfl, ?_⟩) ?_ ?_
       rotate_left
       ·intro w'; go_simp; with_reducible rfl
       rotate_left
       ·simp only [Act.put, zA, zB, zC, i64_w, i32_w]; rfl
       refine done_ (by kernel_rfl) ?_
       go_wp2
       have n0_ := za0.mk ST.out.drew
       replace hcg := (show w7.drew.cell? _ = _ from hcg)
       replace hcr := (show w7.drew.cell? _ = _ from hcr)
       replace hcp := (show w7.drew.cell? _ = _ from hcp)
       replace hx1 := (show w7.drew.cell? _ = _ from hx1)
       replace hx2 := (show w7.drew.cell? _ = _ from hx2)
       replace hf2 := (show w7.drew.frozen? _ = _ from hf2)
       replace hfp := (show w7.drew.frozen? _ = _ from hfp)
       replace BG := za0.mk (show w7.drew.heap[gb]? = _ from BG.out)
       clear ST hHeld
       have ST := n0_
       clear n0_
       refine start_ (n := 24) (S := fun w' => w'.cell? ⟨B, 0, none⟩ = some (.slice (some ⟨nb, 0, none⟩) rot.length cap) ∧ w'.cell? ⟨B, 1, none⟩ = some (.int .i64 p) ∧ w'.cell? ⟨nb, p.toNat, none⟩ = some (.int .i64 (rd rot p))) (ds := [23]) #[false, false, false, false, false, false, false, false, false, false, false, false, false, false, false, false, false, false, false, false, false, false, false, false] (by kernel_rfl) rfl rfl ⟨hcr, hcp, hx2⟩ (fun hHeld => ?_)
       generalize w7.drew = w8 at ST BG hcg hcp hcr hx1 hx2 hf2 hfp hHeld ⊢
       refine pure_ (i := 0) (N := some 17) (v := ?_) (a' := ?_) (bf 24 1) rfl rfl (by kernel_rfl) (fun _ _ _ h => h) (Or.inl ⟨by rfl, ?_⟩) ?_ ?_
       rotate_left
       ·intro w'; go_simp; with_reducible rfl
       rotate_left
       ·simp only [Act.put, zA, zB, zC, i64_w, i32_w]; rfl
       refine pure_ (i := 1) (N := some 18) (v := ?_) (a' := ?_) (bf 24 3) rfl rfl (by kernel_rfl) (fun _ _ _ h => h) (Or.inl ⟨by rfl, ?_⟩) ?_ ?_
       rotate_left
       ·intro w'; go_simp; with_reducible rfl
       rotate_left
       ·simp only [Act.put, zA, zB, zC, i64_w, i32_w]; rfl
       refine pure_ (i := 2) (N := some 19) (v := ?_) (a' := ?_) (bf 24 7) rfl rfl (by kernel_rfl) (fun _ _ _ h => h) (Or.inl ⟨by rfl, ?_⟩) ?_ ?_
       rotate_left
       ·intro w'; go_simp; with_reducible rfl
       rotate_left
       ·simp only [Act.put, zA, zB, zC, i64_w, i32_w]; rfl
       refine take_ (i := 3) (N := some 20) (v := ?_) (a' := ?_) (bf 24 15) rfl rfl (by kernel_rfl) (fun _ _ _ h => h) (Or.inl ⟨by rfl, ?_⟩) hHeld ?_ ?_
       rotate_left
       ·rintro w' ⟨s0, s1, s2⟩; go_simp; with_reducible rfl
       rotate_left
       ·simp only [Act.put, zA, zB, zC, i64_w, i32_w]; rfl
       refine pure_ (i := 4) (N := some 21) (v := ?_) (a' := ?_) (bf 24 31) rfl rfl (by kernel_rfl) (fun _ _ _ h => h) (Or.inl ⟨by rfl, ?_⟩) ?_ ?_
       rotate_left
       ·intro w'; go_simp; with_reducible rfl
       rotate_left
       ·simp only [Act.put, zA, zB, zC, i64_w, i32_w]; rfl
       refine pure_ (i := 5) (N := some 22) (v := ?_) (a' := ?_) (bf 24 63) rfl rfl (by kernel_rfl) (fun _ _ _ h => h) (Or.inl ⟨by rfl, ?_⟩) ?_ ?_
       rotate_left
       ·intro w'; go_simp; with_reducible rfl
       rotate_left
       ·simp only [Act.put, zA, zB, zC, i64_w, i32_w]; rfl
       refine pure_ (i := 6) (N := some 23) (v := ?_) (a' := ?_) (bf 24 127) rfl rfl (by kernel_rfl) (fun _ _ _ h => h) (Or.inl ⟨by rfl, ?_⟩) ?_ ?_
       rotate_left
       ·intro w'; go_simp; with_reducible rfl
       rotate_left
       ·simp only [Act.put, zA, zB, zC, i64_w, i32_w]; rfl
       refine take_ (i := 7) (N := some 24) (v := ?_) (a' := ?_) (bf 24 255) rfl rfl (by kernel_rfl) (fun _ _ _ h => h) (Or.inl ⟨by rfl, ?_⟩) hHeld ?_ ?_
       rotate_left
       ·rintro w' ⟨s0, s1, s2⟩; go_simp; with_reducible rfl
       rotate_left
       ·simp only [Act.put, zA, zB, zC, i64_w, i32_w]; rfl
       refine pure_ (i := 8) (N := some 25) (v := ?_) (a' := ?_) (bf 24 511) rfl rfl (by kernel_rfl) (fun _ _ _ h => h) (Or.inl ⟨by rfl, ?_⟩) ?_ ?_
       rotate_left
       ·intro w'; go_simp; with_reducible rfl
       rotate_left
       ·simp only [Act.put, zA, zB, zC, i64_w, i32_w]; rfl
       refine pure_ (i := 9) (N := some 26) (v := ?_) (a' := ?_) (bf 24 1023) rfl rfl (by kernel_rfl) (fun _ _ _ h => h) (Or.inl ⟨by rfl, ?_⟩) ?_ ?_
       rotate_left
       ·intro w'; go_simp; with_reducible rfl
       rotate_left
       ·simp only [Act.put, zA, zB, zC, i64_w, i32_w]; rfl
       refine pure_ (i := 10) (N := some 27) (v := ?_) (a' := ?_) (bf 24 2047) rfl rfl (by kernel_rfl) (fun _ _ _ h => h) (Or.inl ⟨by rfl, ?_⟩) ?_ ?_
       rotate_left
       ·intro w'; go_simp; with_reducible rfl
       rotate_left
       ·simp only [Act.put, zA, zB, zC, i64_w, i32_w]; rfl
       refine take_ (i := 11) (N := some 28) (v := ?_) (a' := ?_) (bf 24 4095) rfl rfl (by kernel_rfl) (fun _ _ _ h => h) (Or.inl ⟨by rfl, ?_⟩) hHeld ?_ ?_
       rotate_left
       ·rintro w' ⟨s0, s1, s2⟩; go_simp; with_reducible rfl
       rotate_left
       ·simp only [Act.put, zA, zB, zC, i64_w, i32_w]; rfl
       refine pure_ (i := 12) (N := some 29) (v := ?_) (a' := ?_) (bf 24 8191) rfl rfl (by kernel_rfl) (fun _ _ _ h => h) (Or.inl ⟨by rfl, ?_⟩) ?_ ?_
       rotate_left
       ·intro w'; go_simp; with_reducible rfl
       rotate_left
       ·simp only [Act.put, zA, zB, zC, i64_w, i32_w]; rfl
       refine pure_ (i := 13) (N := some 30) (v := ?_) (a' := ?_) (bf 24 16383) rfl rfl (by kernel_rfl) (fun _ _ _ h => h) (Or.inl ⟨by rfl, ?_⟩) ?_ ?_
       rotate_left
       ·intro w'; go_simp; with_reducible rfl
       rotate_left
       ·simp only [Act.put, zA, zB, zC, i64_w, i32_w]; rfl
       refine pure_ (i := 14) (N := some 31) (v := ?_) (a' := ?_) (bf 24 32767) rfl rfl (by kernel_rfl) (fun _ _ _ h => h) (Or.inl ⟨by rfl, ?_⟩) ?_ ?_
       rotate_left
       ·intro w'; go_simp; with_reducible rfl
       rotate_left
       ·simp only [Act.put, zA, zB, zC, i64_w, i32_w]; rfl
       refine take_ (i := 15) (N := some 32) (v := ?_) (a' := ?_) (bf 24 65535) rfl rfl (by kernel_rfl) (fun _ _ _ h => h) (Or.inl ⟨by rfl, ?_⟩) hHeld ?_ ?_
       rotate_left
       ·rintro w' ⟨s0, s1, s2⟩; go_simp; with_reducible rfl
       rotate_left
       ·simp only [Act.put, zA, zB, zC, i64_w, i32_w]; rfl
       refine pure_ (i := 16) (N := some 33) (v := ?_) (a' := ?_) (bf 24 131071) rfl rfl (by kernel_rfl) (fun _ _ _ h => h) (Or.inl ⟨by rfl, ?_⟩) ?_ ?_
       rotate_left
       ·intro w'; go_simp; with_reducible rfl
       rotate_left
       ·simp only [Act.put, zA, zB, zC, i64_w, i32_w]; rfl
       refine take_ (i := 17) (N := some 34) (v := ?_) (a' := ?_) (bf 24 262143) rfl rfl (by kernel_rfl) (fun _ _ _ h => h) (Or.inl ⟨by rfl, ?_⟩) hHeld ?_ ?_
       rotate_left
       ·rintro w' ⟨s0, s1, s2⟩; go_simp; with_reducible rfl
       rotate_left
       ·simp only [Act.put, zA, zB, zC, i64_w, i32_w]; rfl
       refine pure_ (i := 18) (N := some 35) (v := ?_) (a' := ?_) (bf 24 524287) rfl rfl (by kernel_rfl) (fun _ _ _ h => h) (Or.inl ⟨by rfl, ?_⟩) ?_ ?_
       rotate_left
       ·intro w'; go_simp; with_reducible rfl
       rotate_left
       ·simp only [Act.put, zA, zB, zC, i64_w, i32_w]; rfl
       refine pure_ (i := 19) (N := some 36) (v := ?_) (a' := ?_) (bf 24 1048575) rfl rfl (by kernel_rfl) (fun _ _ _ h => h) (Or.inl ⟨by rfl, ?_⟩) ?_ ?_
       rotate_left
       ·intro w'; go_simp; with_reducible rfl
       rotate_left
       ·simp only [Act.put, zA, zB, zC, i64_w, i32_w]; rfl
       refine pure_ (i := 20) (N := some 37) (v := ?_) (a' := ?_) (bf 24 2097151) rfl rfl (by kernel_rfl) (fun _ _ _ h => h) (Or.inl ⟨by rfl, ?_⟩) ?_ ?_
       rotate_left
       ·intro w'; go_simp; with_reducible rfl
       rotate_left
       ·simp only [Act.put, zA, zB, zC, i64_w, i32_w]; rfl
       refine pure_ (i := 21) (N := some 38) (v := ?_) (a' := ?_) (bf 24 4194303) rfl rfl (by kernel_rfl) (fun _ _ _ h => h) (Or.inl ⟨by rfl, ?_⟩) ?_ ?_
       rotate_left
       ·intro w'; go_simp; with_reducible rfl
       rotate_left
       ·simp only [Act.put, zA, zB, zC, i64_w, i32_w]; rfl
       refine pure_ (i := 22) (N := some 39) (v := ?_) (a' := ?_) (bf 24 8388607) rfl rfl (by kernel_rfl) (fun _ _ _ h => h) (Or.inl ⟨by rfl, ?_⟩) ?_ ?_
       rotate_left
       ·intro w'; go_simp; with_reducible rfl
       rotate_left
       ·simp only [Act.put, zA, zB, zC, i64_w, i32_w]; rfl
       refine last_ (i := 23) (N := none) (bf 24 16777215) rfl rfl (by kernel_rfl) (by decide) (fun K hK => ?_)
       refine skip_ (w1 := ?_) (by rfl) rfl ?_ ?_
       rotate_left
       ·go_simp
        rfl
       refine hK.out _ _ ?_
       clear hK K
       refine done_ (by kernel_rfl) ?_
       rw [HT.out]
       have n0_ := za0.mk (ST.out.put p t)
       clear ST BG hcg hcp hcr hx1 hx2 hf2 hfp hHeld
       generalize w8.setCell ⟨nb, p.toNat, none⟩ (.int .i64 t) = w9 at n0_ ⊢
       go_wp2
       have ST := za0.mk n0_.out.drew
       have hcr : w9.drew.cell? ⟨B, 0, none⟩ = some (.slice (some ⟨nb, 0, none⟩) rot.length cap) := (zl0 ST.out.bk 0).trans rfl
       have hcp : w9.drew.cell? ⟨B, 1, none⟩ = some (.int .i64 p) := (zl0 ST.out.bk 1).trans rfl
       have hfp : w9.drew.frozen? ⟨B, 1, none⟩ = false := zk0 ST.out.bk 1
       obtain ⟨hx2, hf2⟩ := Kd.R_celln 0 ST.out.rt p HP.out.1 (by first | exact HP.out.2.2 | (rw [List.length_set]; exact HP.out.2.2))
       replace hx2 := hx2.trans (congrArg (fun z => some (Value.int .i64 z)) (show rdOf 0 (rot.set p.toNat t) p = t from rd_set_self HP.out.1 HP.out.2.2))
       have hx3 : w9.drew.cell? (adr.add t.toNat) = some (.int .i64 (rd (rd_L1 l p) t)) := (ST.out.hb.cell (World.block_lt_of_cell? _ _ HX3.out)).trans HX3.out
       clear n0_
       refine start_ (n := 17) (S := fun w' => w'.cell? ⟨B, 0, none⟩ = some (.slice (some ⟨nb, 0, none⟩) rot.length cap) ∧ w'.cell? ⟨B, 1, none⟩ = some (.int .i64 p) ∧ w'.cell? ⟨nb, p.toNat, none⟩ = some (.int .i64 t) ∧ w'.cell? (adr.add t.toNat) = some (.int .i64 (rd (rd_L1 l p) t))) (ds := [16]) #[false, false, false, false, false, false, false, false, false, false, false, false, false, false, false, false, false] (by kernel_rfl) rfl rfl ⟨hcr, hcp, hx2, hx3⟩ (fun hHeld => ?_)
       generalize w9.drew = w10 at ST hcp hcr hx2 hx3 hf2 hfp hHeld ⊢
       refine pure_ (i := 0) (N := some 40) (v := ?_) (a' := ?_) (bf 17 1) rfl rfl (by kernel_rfl) (fun _ _ _ h => h) (Or.inl ⟨by rfl, ?_⟩) ?_ ?_
       rotate_left
       ·intro w'; go_simp; with_reducible rfl
       rotate_left
       ·simp only [Act.put, zA, zB, zC, i64_w, i32_w]; rfl
       refine pure_ (i := 1) (N := some 41) (v := ?_) (a' := ?_) (bf 17 3) rfl rfl (by kernel_rfl) (fun _ _ _ h => h) (Or.inl ⟨by rfl, ?_⟩) ?_ ?_
       rotate_left
       ·intro w'; go_simp; with_reducible rfl
       rotate_left
       ·simp only [Act.put, zA, zB, zC, i64_w, i32_w]; rfl
       refine pure_ (i := 2) (N := some 42) (v := ?_) (a' := ?_) (bf 17 7) rfl rfl (by kernel_rfl) (fun _ _ _ h => h) (Or.inl ⟨by rfl, ?_⟩) ?_ ?_
       rotate_left
       ·intro w'; go_simp; with_reducible rfl
       rotate_left
       ·simp only [Act.put, zA, zB, zC, i64_w, i32_w]; rfl
       refine pure_ (i := 3) (N := some 43) (v := ?_) (a' := ?_) (bf 17 15) rfl rfl (by kernel_rfl) (fun _ _ _ h => h) (Or.inl ⟨by rfl, ?_⟩) ?_ ?_
       rotate_left
       ·intro w'; go_simp; with_reducible rfl
       rotate_left
       ·simp only [Act.put, zA, zB, zC, i64_w, i32_w]; rfl
       refine pure_ (i := 4) (N := some 44) (v := ?_) (a' := ?_) (bf 17 31) rfl rfl (by kernel_rfl) (fun _ _ _ h => h) (Or.inl ⟨by rfl, ?_⟩) ?_ ?_
       rotate_left
       ·intro w'; go_simp; with_reducible rfl
       rotate_left
       ·simp only [Act.put, zA, zB, zC, i64_w, i32_w]; rfl
       refine take_ (i := 5) (N := some 45) (v := ?_) (a' := ?_) (bf 17 63) rfl rfl (by kernel_rfl) (fun _ _ _ h => h) (Or.inl ⟨by rfl, ?_⟩) hHeld ?_ ?_
       rotate_left
       ·rintro w' ⟨s0, s1, s2, s3⟩; go_simp; with_reducible rfl
       rotate_left
       ·simp only [Act.put, zA, zB, zC, i64_w, i32_w]; rfl
       refine pure_ (i := 6) (N := some 46) (v := ?_) (a' := ?_) (bf 17 127) rfl rfl (by kernel_rfl) (fun _ _ _ h => h) (Or.inl ⟨by rfl, ?_⟩) ?_ ?_
       rotate_left
       ·intro w'; go_simp; with_reducible rfl
       rotate_left
       ·simp only [Act.put, zA, zB, zC, i64_w, i32_w]; rfl
       refine pure_ (i := 7) (N := some 47) (v := ?_) (a' := ?_) (bf 17 255) rfl rfl (by kernel_rfl) (fun _ _ _ h => h) (Or.inl ⟨by rfl, ?_⟩) ?_ ?_
       rotate_left
       ·intro w'; go_simp; with_reducible rfl
       rotate_left
       ·simp only [Act.put, zA, zB, zC, i64_w, i32_w]; rfl
       refine pure_ (i := 8) (N := some 48) (v := ?_) (a' := ?_) (bf 17 511) rfl rfl (by kernel_rfl) (fun _ _ _ h => h) (Or.inl ⟨by rfl, ?_⟩) ?_ ?_
       rotate_left
       ·intro w'; go_simp; with_reducible rfl
       rotate_left
       ·simp only [Act.put, zA, zB, zC, i64_w, i32_w]; rfl
       refine take_ (i := 9) (N := some 49) (v := ?_) (a' := ?_) (bf 17 1023) rfl rfl (by kernel_rfl) (fun _ _ _ h => h) (Or.inl ⟨by rfl, ?_⟩) hHeld ?_ ?_
       rotate_left
       ·rintro w' ⟨s0, s1, s2, s3⟩; go_simp; with_reducible rfl
       rotate_left
       ·simp only [Act.put, zA, zB, zC, i64_w, i32_w]; rfl
       refine pure_ (i := 10) (N := some 50) (v := ?_) (a' := ?_) (bf 17 2047) rfl rfl (by kernel_rfl) (fun _ _ _ h => h) (Or.inl ⟨by rfl, ?_⟩) ?_ ?_
       rotate_left
       ·intro w'; go_simp; with_reducible rfl
       rotate_left
       ·simp only [Act.put, zA, zB, zC, i64_w, i32_w]; rfl
       refine take_ (i := 11) (N := some 51) (v := ?_) (a' := ?_) (bf 17 4095) rfl rfl (by kernel_rfl) (fun _ _ _ h => h) (Or.inl ⟨by rfl, ?_⟩) hHeld ?_ ?_
       rotate_left
       ·rintro w' ⟨s0, s1, s2, s3⟩; go_simp; with_reducible rfl
       rotate_left
       ·simp only [Act.put, zA, zB, zC, i64_w, i32_w]; rfl
       refine pure_ (i := 12) (N := some 52) (v := ?_) (a' := ?_) (bf 17 8191) rfl rfl (by kernel_rfl) (fun _ _ _ h => h) (Or.inl ⟨by rfl, ?_⟩) ?_ ?_
       rotate_left
       ·intro w'; go_simp; with_reducible rfl
       rotate_left
       ·simp only [Act.put, zA, zB, zC, i64_w, i32_w]; rfl
       refine take_ (i := 13) (N := some 53) (v := ?_) (a' := ?_) (bf 17 16383) rfl rfl (by kernel_rfl) (fun _ _ _ h => h) (Or.inl ⟨by rfl, ?_⟩) hHeld ?_ ?_
       rotate_left
       ·rintro w' ⟨s0, s1, s2, s3⟩; go_simp; with_reducible rfl
       rotate_left
       ·simp only [Act.put, zA, zB, zC, i64_w, i32_w]; rfl
       refine pure_ (i := 14) (N := some 54) (v := ?_) (a' := ?_) (bf 17 32767) rfl rfl (by kernel_rfl) (fun _ _ _ h => h) (Or.inl ⟨by rfl, ?_⟩) ?_ ?_
       rotate_left
       ·intro w'; go_simp; with_reducible rfl
       rotate_left
       ·simp only [Act.put, zA, zB, zC, i64_w, i32_w]; rfl
       refine pure_ (i := 15) (N := some 55) (v := ?_) (a' := ?_) (bf 17 65535) rfl rfl (by kernel_rfl) (fun _ _ _ h => h) (Or.inl ⟨by rfl, ?_⟩) ?_ ?_
       rotate_left
       ·intro w'; go_simp; with_reducible rfl
       rotate_left
       ·simp only [Act.put, zA, zB, zC, i64_w, i32_w]; rfl
       refine last_ (i := 16) (N := none) (bf 17 131071) rfl rfl (by kernel_rfl) (by decide) (fun K hK => ?_)
       refine skip_ (w1 := ?_) (by rfl) rfl ?_ ?_
       rotate_left
       ·go_simp
        rfl
       refine hK.out _ _ ?_
       clear hK K
       refine done_ (by kernel_rfl) ?_
       have n0_ := za0.mk (ST.out.at_ (rd (rd_L1 l p) t))
       clear ST hcp hcr hx2 hx3 hf2 hfp hHeld
       go_wp2
       go_ret
       exact ⟨rfl, n0_.out⟩
      ·rw [if_neg t1] at h; exact absurd h (by simp)
     ·rw [if_neg t0] at h; exact absurd h (by simp)
    ·rw [if_neg p2] at h; exact absurd h (by simp)
  ·rw [if_neg p1] at h; exact absurd h (by simp)
 ·rw [if_neg p0] at h; exact absurd h (by simp)
theorem lit_row {w : World} {A2 : Option Addr} {c2 e : Nat} {rot : List Int} (hr2 : Kd.C (Kd.int .i64) w A2 rot.length rot) (hc2 : rot.length ≤ c2) : Kd.C (Kd.slice 3 (Kd.int .i64)) (w.alloc (.cells #[.slice A2 rot.length c2] e)) (some ⟨w.heap.size, 0, none⟩) 1 [rot] := by
 refine ⟨rfl, by omega, fun _ => ⟨_, rfl, fun j p hj => ?_⟩⟩
 cases j with
 | zero =>
  obtain rfl := Option.some.inj hj
  refine ⟨[.slice A2 rot.length c2], rfl, ⟨A2, c2, rfl, hc2, Kd.C_alloc hr2 _⟩, fun i u hi => ?_⟩
  cases i with
  | zero => obtain rfl := Option.some.inj hi; rw [add_plain]; exact (zl0 (blk_new w _) 0).trans rfl
  | succ i => simp at hi
 | succ j => simp at hj
def onL (k : Nat) (l : List (List Int)) (s : Int) (rot : List Int) : Option Bool := (actorL k l s).bind fun a => if a = true then treeL k l s rot else some false
set_option maxHeartbeats 8000000 in
set_option maxRecDepth 100000 in
theorem actorOn_1.calls (k : Nat) (l : List (List Int)) (s : Int) (A0 : Option Addr) (c0 Ba Bp : Nat) (A2 : Option Addr) (c2 : Nat) (rot : List Int) (b : Bool) (w : World) (hr0 : Kd.C (Kd.slice 3 (Kd.int .i64)) w A0 l.length l) (hc0 : l.length ≤ c0)
  (ba : w.heap[Ba]? = some (.cells #[.slice A0 l.length c0, .int .i64 s] 71 (0, 0))) (bp : w.heap[Bp]? = some (.cells #[.pointer (some ⟨Ba, 0, none⟩)] 49 (0, 0))) (hr2 : Kd.C (Kd.int .i64) w A2 rot.length rot) (hc2 : rot.length ≤ c2) (h : treeL k l s rot = some b) :
  Calls Try.prog 49 #[.slice A2 rot.length c2, .pointer (some ⟨Bp, 0, none⟩)] w fun e w' => e = .returned (.bool !b) ∧ Below w.heap.size w w' := by
 have HR0 := za0.mk hr0
 have HC0 := za0.mk hc0
 have HR2 := za0.mk hr2
 have HC2 := za0.mk hc2
 have BA := za0.mk ba
 have A1 := za0.mk h
 have hcp : w.cell? ⟨Bp, 0, none⟩ = some (.pointer (some ⟨Ba, 0, none⟩)) := (zl0 bp 0).trans rfl
 clear hr0 hc0 hr2 hc2 ba bp h
 go_enter Try.func49, Try.ntmps49
 go_wp2_with (go_at_call 50; refine (impl_actor_hasTree.calls k l s A0 c0 Ba _ _ rot b _ HR0.out HC0.out BA.out HR2.out HC2.out A1.out).mono ?_; rintro e w2 ⟨rfl, hb⟩; have HB := za0.mk hb; clear hb)
 go_ret
 exact ⟨rfl, HB.out⟩
set_option maxHeartbeats 8000000 in
set_option maxRecDepth 100000 in
theorem indexRow.calls (ad : Addr) (c : Nat) (A2 : Option Addr) (n2 c2 Bp : Nat) (b : Bool) (w : World) (hx : w.cell? ad = some (.slice A2 n2 c2)) (hp : ∀ W, Below w.heap.size w W → Calls Try.prog 49 #[.slice A2 n2 c2, .pointer (some ⟨Bp, 0, none⟩)] W fun e w' => e = .returned (.bool b) ∧ Below W.heap.size W w') :
  Calls Try.prog 68 #[.slice (some ad) 1 c, .func (.func 49) #[] #[.pointer (some ⟨Bp, 0, none⟩)]] w fun e w' => e = .returned (.int .i64 (if b then 0 else -1)) ∧ Below w.heap.size w w' := by
 have eg : ∀ args w, (callFunc 49 args).run Try.prog w = .ok (.enter 49 args) w := fun args w => rfl
 have HX := za0.mk hx
 have HP := za0.mk hp
 have HB := za0.mk (Below.refl w.heap.size w)
 clear hx hp
 go_enter Try.func68, Try.ntmps68
 go_wp2
 go_loopg [8] 1 (fun kq v8 w' => ((v8 = .int .i64 0 ∧ kq = 1) ∨ (v8 = .int .i64 1 ∧ b = false)) ∧ za0 (Below w.heap.size w w'))
 case atStart => exact ⟨.inl ⟨rfl, rfl⟩, HB⟩
 case round =>
  clear HB
  obtain ⟨hv, HB⟩ := hrel
  rcases hv with ⟨rfl, rfl⟩ | ⟨rfl, rfl⟩
  ·have hx := (HB.out.cell (World.block_lt_of_cell? _ _ HX.out)).trans HX.out
   have hcall := HP.out wr HB.out
   cases b with
   | true =>
    go_wp2_with (fail)
    refine hcall.mono ?_
    rintro e w' ⟨rfl, hb'⟩
    go_wp2
    go_ret
    exact ⟨rfl, zh0 HB.out hb'⟩
   | false =>
    go_wp2_with (fail)
    refine hcall.mono ?_
    rintro e w' ⟨rfl, hb'⟩
    go_wp2
    go_roundg 0
    case measure => omega
    case rel => exact ⟨by first | exact .inr ⟨rfl, rfl⟩ | exact .inr ⟨rfl, trivial⟩, ⟨zh0 HB.out hb'⟩⟩
  ·go_wp2
   go_ret
   exact ⟨rfl, HB.out⟩
set_option maxHeartbeats 8000000 in
set_option maxRecDepth 100000 in
theorem containsRow.calls (ad : Addr) (c : Nat) (A2 : Option Addr) (n2 c2 Bp : Nat) (b : Bool) (w : World) (hx : w.cell? ad = some (.slice A2 n2 c2)) (hp : ∀ W, Below w.heap.size w W → Calls Try.prog 49 #[.slice A2 n2 c2, .pointer (some ⟨Bp, 0, none⟩)] W fun e w' => e = .returned (.bool b) ∧ Below W.heap.size W w') :
  Calls Try.prog 48 #[.slice (some ad) 1 c, .func (.func 49) #[] #[.pointer (some ⟨Bp, 0, none⟩)]] w fun e w' => e = .returned (.bool b) ∧ Below w.heap.size w w' := by
 have HX := za0.mk hx
 have HP := za0.mk hp
 clear hx hp
 cases b with
 | true =>
  go_enter Try.func48, Try.ntmps48
  go_wp2_with (go_at_call 68; refine (indexRow.calls ad c A2 n2 c2 Bp true _ HX.out HP.out).mono ?_; rintro e w2 ⟨rfl, hb⟩; have HB := za0.mk hb; clear hb; simp only [if_true, if_false])
  go_ret
  exact ⟨rfl, HB.out⟩
 | false =>
  go_enter Try.func48, Try.ntmps48
  go_wp2_with (go_at_call 68; refine (indexRow.calls ad c A2 n2 c2 Bp false _ HX.out HP.out).mono ?_; rintro e w2 ⟨rfl, hb⟩; have HB := za0.mk hb; clear hb; simp only [Bool.false_eq_true, if_false])
  go_ret
  exact ⟨rfl, HB.out⟩
set_option maxHeartbeats 8000000 in
set_option maxRecDepth 100000 in
theorem impl_actorOn.calls (k : Nat) (l : List (List Int)) (s : Int) (A0 : Option Addr) (c0 : Nat) (AT : Option Addr) (cT : Nat) (rot : List Int) (b : Bool) (w : World) (hr0 : Kd.C (Kd.slice 3 (Kd.int .i64)) w A0 l.length l) (hc0 : l.length ≤ c0) (hrT : Kd.C (Kd.slice 3 (Kd.int .i64)) w AT 1 [rot]) (h : onL k l s rot = some b) :
  Calls Try.prog 31 #[.agg #[.slice A0 l.length c0], .int .i64 s, .slice AT 1 cT] w fun e w' => ∃ Ba, e = .returned (.tuple #[.pointer (if b then some ⟨Ba, 0, none⟩ else none), .bool b]) ∧ (b = true → w.heap.size ≤ Ba ∧ w'.heap[Ba]? = some (.cells #[.slice A0 l.length c0, .int .i64 s] 71 (0, 0))) ∧ Below w.heap.size w w' := by
 have hu1 := Try.underlying29
 have hu3 := Try.underlying71
 obtain ⟨adT, A2, c2, e1, hx, hl2, hi2⟩ := at_L1 hrT 0 (by omega) (by omega)
 subst e1
 have er : rd_L1 [rot] 0 = rot := rfl
 rw [er] at hx hl2 hi2
 have e0 : adT.add (0 : Int).toNat = adT := by simp [Addr.add]
 rw [e0] at hx
 have HX := za0.mk hx
 have HR0 := za0.mk hr0
 have HC0 := za0.mk hc0
 have HR2 := za0.mk hi2
 have HC2 := za0.mk hl2
 unfold onL at h
 obtain ⟨a, h1, h⟩ := Option.bind_eq_some_iff.mp h
 have A1 := za0.mk h1
 clear hr0 hc0 hrT h1 hx hl2 hi2 er e0
 cases a with
 | false =>
  rw [if_neg (by decide)] at h
  obtain rfl := Option.some.inj h
  go_enter Try.func31, Try.ntmps31
  go_wp2_with (first | ((with_reducible refine zo0 (N := 3) rfl ?_); refine zp0 ?hg (N := 3) ?hd (cs := #[.slice A0 l.length c0]) (t := 29) ?hr ?_; (case hd => rfl); (case hg => rfl); (case hr => first | (go_simp; done) | (go_simp; rfl)); intro gb hg w2 hbox hb; have HB := za0.mk (hb); have BG := za0.mk hbox; clear hb hbox hg; have hcg : w2.cell? ⟨gb, 0, none⟩ = some (.slice A0 l.length c0) := (zl0 BG.out 0).trans rfl) | (go_at_call 39; have HSZ := za0.mk (zj0 HB.out); refine (impl_actorOf.calls k l s _ _ false _ (Kd.C_below HR0.out HB.out) HC0.out A1.out).mono ?_; rintro e w3 ⟨Ba, rfl, hba, hb⟩; have n0_ := za0.mk (zh0 HB.out hb); have n1_ := za0.mk (zm0 BG.out hb); clear HB BG hb; have HB := n0_; have BG := n1_; clear n0_ n1_; clear hcg; clear hba) | ((with_reducible refine zo0 (N := 8) rfl ?_); refine zp0 ?hg (N := 8) ?hd (cs := #[.pointer none]) (t := 49) ?hr ?_; (case hd => rfl); (case hg => rfl); (case hr => first | (go_simp; done) | (go_simp; rfl)); intro Bp hg w4 hbox hb; have GP := za0.mk (show w.heap.size ≤ Bp from by rw [hg]; exact zj0 HB.out); have BP := za0.mk hbox; have n0_ := za0.mk (zh0 HB.out hb); clear HB; have HB := n0_; clear n0_; clear hb hbox hg; have hcp : w4.cell? ⟨Bp, 0, none⟩ = some (.pointer none) := (zl0 BP.out 0).trans rfl; have hfp := zk0 BP.out 0))
  go_ret2
  first | exact ⟨rfl, HB.out⟩ | exact ⟨0, rfl, fun h => (by cases h), HB.out⟩ | exact ⟨rfl, ze0 HB.out GP.out⟩
 | true =>
  rw [if_pos rfl] at h
  have A3 := za0.mk h
  clear h
  cases b with
  | false =>
   go_enter Try.func31, Try.ntmps31
   go_wp2_with (first | ((with_reducible refine zo0 (N := 3) rfl ?_); refine zp0 ?hg (N := 3) ?hd (cs := #[.slice A0 l.length c0]) (t := 29) ?hr ?_; (case hd => rfl); (case hg => rfl); (case hr => first | (go_simp; done) | (go_simp; rfl)); intro gb hg w2 hbox hb; have HB := za0.mk (hb); have BG := za0.mk hbox; clear hb hbox hg; have hcg : w2.cell? ⟨gb, 0, none⟩ = some (.slice A0 l.length c0) := (zl0 BG.out 0).trans rfl) | (go_at_call 39; have HSZ := za0.mk (zj0 HB.out); refine (impl_actorOf.calls k l s _ _ true _ (Kd.C_below HR0.out HB.out) HC0.out A1.out).mono ?_; rintro e w3 ⟨Ba, rfl, hba, hb⟩; have n0_ := za0.mk (zh0 HB.out hb); have n1_ := za0.mk (zm0 BG.out hb); clear HB BG hb; have HB := n0_; have BG := n1_; clear n0_ n1_; clear hcg; have BA := za0.mk (hba rfl).2; have GE := za0.mk (Nat.le_trans HSZ.out (hba rfl).1); clear hba) | ((with_reducible refine zo0 (N := 8) rfl ?_); refine zp0 ?hg (N := 8) ?hd (cs := #[.pointer none]) (t := 49) ?hr ?_; (case hd => rfl); (case hg => rfl); (case hr => first | (go_simp; done) | (go_simp; rfl)); intro Bp hg w4 hbox hb; have GP := za0.mk (show w.heap.size ≤ Bp from by rw [hg]; exact zj0 HB.out); have BP := za0.mk hbox; have n0_ := za0.mk (zh0 HB.out hb); clear HB; have HB := n0_; clear n0_; have n1_ := za0.mk (zm0 BA.out hb); clear BA; have BA := n1_; clear n1_; clear hb hbox hg; have hcp : w4.cell? ⟨Bp, 0, none⟩ = some (.pointer none) := (zl0 BP.out 0).trans rfl; have hfp := zk0 BP.out 0) | (go_at_call 48; have n0_ := za0.mk (ze0 (j := 0) (v := .pointer (some ⟨Ba, 0, none⟩)) HB.out GP.out); have n1_ := za0.mk ((Below.heap_setCell w4 ⟨Bp, 0, none⟩ (.pointer (some ⟨Ba, 0, none⟩)) Ba (blk_ne BA.out BP.out (by decide))).trans BA.out); have n2_ := za0.mk (show (w4.setCell ⟨Bp, 0, none⟩ (.pointer (some ⟨Ba, 0, none⟩))).heap[Bp]? = some (.cells #[.pointer (some ⟨Ba, 0, none⟩)] 49 (0, 0)) from (blk_putA BP.out).trans rfl); clear HB BA BP hcp hfp BG; have HB := n0_; have BA := n1_; have BP := n2_; clear n0_ n1_ n2_; generalize w4.setCell ⟨Bp, 0, none⟩ (.pointer (some ⟨Ba, 0, none⟩)) = w5 at HB BA BP ⊢; refine (containsRow.calls adT cT A2 rot.length c2 Bp (!false) w5 ((HB.out.cell (World.block_lt_of_cell? _ _ HX.out)).trans HX.out) (fun W hW => actorOn_1.calls k l s A0 c0 Ba Bp A2 c2 rot false W (Kd.C_below HR0.out (zh0 HB.out hW)) HC0.out (zm0 BA.out hW) (zm0 BP.out hW) (Kd.C_below HR2.out (zh0 HB.out hW)) HC2.out A3.out)).mono ?_; rintro e w6 ⟨rfl, hb⟩; have n0_ := za0.mk (zh0 HB.out hb); have n1_ := za0.mk (zm0 BA.out hb); have hcp : w6.cell? ⟨Bp, 0, none⟩ = some (.pointer (some ⟨Ba, 0, none⟩)) := (zl0 (zm0 BP.out hb) 0).trans rfl; clear HB BA hb; have HB := n0_; have BA := n1_; clear n0_ n1_; simp only [Bool.not_true, Bool.not_false]))
   go_ret2
   first | exact ⟨rfl, HB.out⟩ | exact ⟨0, rfl, fun h => (by cases h), HB.out⟩
  | true =>
   go_enter Try.func31, Try.ntmps31
   go_wp2_with (first | ((with_reducible refine zo0 (N := 3) rfl ?_); refine zp0 ?hg (N := 3) ?hd (cs := #[.slice A0 l.length c0]) (t := 29) ?hr ?_; (case hd => rfl); (case hg => rfl); (case hr => first | (go_simp; done) | (go_simp; rfl)); intro gb hg w2 hbox hb; have HB := za0.mk (hb); have BG := za0.mk hbox; clear hb hbox hg; have hcg : w2.cell? ⟨gb, 0, none⟩ = some (.slice A0 l.length c0) := (zl0 BG.out 0).trans rfl) | (go_at_call 39; have HSZ := za0.mk (zj0 HB.out); refine (impl_actorOf.calls k l s _ _ true _ (Kd.C_below HR0.out HB.out) HC0.out A1.out).mono ?_; rintro e w3 ⟨Ba, rfl, hba, hb⟩; have n0_ := za0.mk (zh0 HB.out hb); have n1_ := za0.mk (zm0 BG.out hb); clear HB BG hb; have HB := n0_; have BG := n1_; clear n0_ n1_; clear hcg; have BA := za0.mk (hba rfl).2; have GE := za0.mk (Nat.le_trans HSZ.out (hba rfl).1); clear hba) | ((with_reducible refine zo0 (N := 8) rfl ?_); refine zp0 ?hg (N := 8) ?hd (cs := #[.pointer none]) (t := 49) ?hr ?_; (case hd => rfl); (case hg => rfl); (case hr => first | (go_simp; done) | (go_simp; rfl)); intro Bp hg w4 hbox hb; have GP := za0.mk (show w.heap.size ≤ Bp from by rw [hg]; exact zj0 HB.out); have BP := za0.mk hbox; have n0_ := za0.mk (zh0 HB.out hb); clear HB; have HB := n0_; clear n0_; have n1_ := za0.mk (zm0 BA.out hb); clear BA; have BA := n1_; clear n1_; clear hb hbox hg; have hcp : w4.cell? ⟨Bp, 0, none⟩ = some (.pointer none) := (zl0 BP.out 0).trans rfl; have hfp := zk0 BP.out 0) | (go_at_call 48; have n0_ := za0.mk (ze0 (j := 0) (v := .pointer (some ⟨Ba, 0, none⟩)) HB.out GP.out); have n1_ := za0.mk ((Below.heap_setCell w4 ⟨Bp, 0, none⟩ (.pointer (some ⟨Ba, 0, none⟩)) Ba (blk_ne BA.out BP.out (by decide))).trans BA.out); have n2_ := za0.mk (show (w4.setCell ⟨Bp, 0, none⟩ (.pointer (some ⟨Ba, 0, none⟩))).heap[Bp]? = some (.cells #[.pointer (some ⟨Ba, 0, none⟩)] 49 (0, 0)) from (blk_putA BP.out).trans rfl); clear HB BA BP hcp hfp BG; have HB := n0_; have BA := n1_; have BP := n2_; clear n0_ n1_ n2_; generalize w4.setCell ⟨Bp, 0, none⟩ (.pointer (some ⟨Ba, 0, none⟩)) = w5 at HB BA BP ⊢; refine (containsRow.calls adT cT A2 rot.length c2 Bp (!true) w5 ((HB.out.cell (World.block_lt_of_cell? _ _ HX.out)).trans HX.out) (fun W hW => actorOn_1.calls k l s A0 c0 Ba Bp A2 c2 rot true W (Kd.C_below HR0.out (zh0 HB.out hW)) HC0.out (zm0 BA.out hW) (zm0 BP.out hW) (Kd.C_below HR2.out (zh0 HB.out hW)) HC2.out A3.out)).mono ?_; rintro e w6 ⟨rfl, hb⟩; have n0_ := za0.mk (zh0 HB.out hb); have n1_ := za0.mk (zm0 BA.out hb); have hcp : w6.cell? ⟨Bp, 0, none⟩ = some (.pointer (some ⟨Ba, 0, none⟩)) := (zl0 (zm0 BP.out hb) 0).trans rfl; clear HB BA hb; have HB := n0_; have BA := n1_; clear n0_ n1_; simp only [Bool.not_true, Bool.not_false]))
   go_ret2
   exact ⟨Ba, rfl, ⟨GE.out, BA.out⟩, HB.out⟩
structure PtSt (w0 w1 w : World) (Ba B nb n cap : Nat) (A0 : Option Addr) (m c0 : Nat) (s : Int) (rot : List Int) (p : Int) (v : Value) (out : List Int) : Prop where
 wk : WkSt w0 w w B nb n cap rot p
 hk : Kept w1 w (fun k => k = nb)
 hB : w1.heap.size ≤ B
 ba : w.heap[Ba]? = some (.cells #[.slice A0 m c0, .int .i64 s] 71 (0, 0))
 ot : Kd.R (Kd.int .i64) 3 w w0.heap.size (fun k => k ≠ nb ∧ w1.heap.size ≤ k) v out
section
variable {w0 w1 w w2 : World} {Ba B nb n cap : Nat} {A0 : Option Addr} {m c0 : Nat} {s : Int} {rot rot2 : List Int} {p p2 : Int} {v v2 : Value} {out out2 : List Int}
theorem PtSt.drew (h : PtSt w0 w1 w Ba B nb n cap A0 m c0 s rot p v out) : PtSt w0 w1 w.drew Ba B nb n cap A0 m c0 s rot p v out :=
 ⟨⟨below_drew h.wk.hb, Kept.refl _ _, h.wk.hn, h.wk.cap_, h.wk.bk, Kd.R_drew h.wk.rt, h.wk.ge⟩, h.hk.drew, h.hB, h.ba, Kd.R_drew h.ot⟩
theorem PtSt.ne (h : PtSt w0 w1 w Ba B nb n cap A0 m c0 s rot p v out) : Ba ≠ nb ∧ Ba ≠ B :=
 ⟨fun e => Kd.R_ne h.wk.rt h.ba (by decide) (by rw [e]; rfl), blk_ne h.ba h.wk.bk (by decide)⟩
theorem PtSt.step (h : PtSt w0 w1 w Ba B nb n cap A0 m c0 s rot p v out) (k : WkSt w0 w w2 B nb n cap rot2 p2) : PtSt w0 w1 w2 Ba B nb n cap A0 m c0 s rot2 p2 v out :=
 ⟨⟨k.hb, Kept.refl _ _, k.hn, k.cap_, k.bk, k.rt, k.ge⟩, h.hk.then_ k.hk (fun j hj => hj.elim .inl (fun e => .inr (by rw [e]; exact h.hB))), h.hB, blk_kept h.ba k.hk (fun e => e.elim h.ne.1 h.ne.2),
  Kd.R_mono (Kd.R_kept (Kd.R_types h.ot h.wk.bk (by decide)) k.hk (fun j hj e => e.elim hj.1.1 hj.2)) (fun _ hj => hj.1)⟩
theorem PtSt.grow (h : PtSt w0 w1 w Ba B nb n cap A0 m c0 s rot p v out) (hb : Below w0.heap.size w0 w2) (hg : w.grownBy w2 v.ownBlock) (hat : v2.ownBlock = v.ownBlock ∨ ∃ b, v2.ownBlock = some b ∧ w.heap.size ≤ b)
  (ot : Kd.R (Kd.int .i64) 3 w2 w0.heap.size (fun k => k ≠ nb ∧ w1.heap.size ≤ k) v2 out2) : PtSt w0 w1 w2 Ba B nb n cap A0 m c0 s rot p v2 out2 :=
 ⟨⟨hb, Kept.refl _ _, h.wk.hn, h.wk.cap_, blk_grown h.wk.bk hg (Kd.R_ne h.ot h.wk.bk (by decide)), Kd.R_grown h.wk.rt hg (fun k hk e => (h.ot.1 k e.symm).1 hk), h.wk.ge⟩,
  Kept.of_grown hg h.hk (fun k hk => .inr (h.ot.1 k hk).2), h.hB, blk_grown h.ba hg (Kd.R_ne h.ot h.ba (by decide)), ot⟩
end
def pathL (l : List (List Int)) (s most : Int) : Nat → List Int → Int → List Int → Option (List Int × List Int × Bool)
 | 0, _, _, _ => none
 | k + 1, rot, p, out => if p = s then some (rot, out, true) else (if most < (out.length : Int) then some (rot, [], false) else ((stepL l rot p).bind fun t => if out.length < 17592186044416 then pathL l s most k t.1 t.2 (out ++ [t.2]) else none))
set_option maxHeartbeats 8000000 in
set_option maxRecDepth 100000 in
theorem impl_actor_path.calls (k : Nat) (l : List (List Int)) (A0 : Option Addr) (c0 Ba nb n cap : Nat) (s : Int) (rot : List Int) (p most : Int) (r1 r2 : List Int) (r3 : Bool) (w0 w : World) (hr0 : Kd.C (Kd.slice 3 (Kd.int .i64)) w0 A0 l.length l) (hc0 : l.length ≤ c0)
  (hb : Below w0.heap.size w0 w) (ba : w.heap[Ba]? = some (.cells #[.slice A0 l.length c0, .int .i64 s] 71 (0, 0))) (hn : n = rot.length) (hcap : n ≤ cap) (rt : Kd.R (Kd.int .i64) 3 w w0.heap.size (fun k => k = nb) (.slice (some ⟨nb, 0, none⟩) n cap) rot) (h : pathL l s most k rot p [p] = some (r1, r2, r3)) :
  Calls Try.prog 34 #[.pointer (some ⟨Ba, 0, none⟩), .slice (some ⟨nb, 0, none⟩) n cap, .int .i64 p, .int .i64 most] w fun e w' => ∃ v, e = .returned (.tuple #[v, .bool r3]) ∧ Kd.R (Kd.int .i64) 3 w' w0.heap.size (fun k => k ≠ nb ∧ w.heap.size ≤ k) v r2 ∧
   Kd.R (Kd.int .i64) 3 w' w0.heap.size (fun k => k = nb) (.slice (some ⟨nb, 0, none⟩) n cap) r1 ∧ Below w0.heap.size w0 w' ∧ Kept w w' (fun k => k = nb) := by
 have hu1 := Try.underlying29
 have hu2 := Try.underlying63
 have hu3 := Try.underlying71
 subst hn
 have HR0 := za0.mk hr0
 have HC0 := za0.mk hc0
 have H' := za0.mk h
 have HB := za0.mk hb
 have BA := za0.mk ba
 have RT := za0.mk rt
 have HCP := za0.mk hcap
 have HNB := za0.mk (Kd.R_lt rt nb rfl)
 clear hr0 hc0 h hb ba rt hcap
 go_enter Try.func34, Try.ntmps34
 go_wp2_with (first | ((with_reducible refine zo0 (N := 16) rfl ?_); refine Kd.R_lit (Kd.int .i64) _ 3 ?hg (N := 16) ?hd (xs := ([p] : List Int)) (inner := [.int .i64 p]) (ok := fun _ => True) (okp := fun _ => True) ?hr ?hp (fun _ hk => hk) trivial (Below.refl _ _) (Nat.le_refl _) (by simp) ?_; (case hd => rfl); (case hg => rfl); (case hr => first | (go_simp; done) | (go_simp; rfl)); (case hp => exact (Reps.one (show Kd.M (Kd.int .i64) _ _ _ p [.int .i64 p] from rfl) (Reps.none _ _))); intro v16 w16 ho hb hg_ hnew_; clear hg_ hnew_; have OT := za0.mk (Kd.R_lower (Kd.R_mono (ok' := fun k => k ≠ nb ∧ w.heap.size ≤ k) (Kd.R_bound ho) (fun k hk => ⟨fun e => by have h1 := hk.2.1; have h2 := HNB.out; rw [e] at h1; exact absurd h1 (Nat.not_le.2 h2), hk.2.1⟩)) HB.out.size); have n0_ := za0.mk (zh0 HB.out hb); have n1_ := za0.mk (zm0 BA.out hb); have n2_ := za0.mk (Kd.R_below RT.out hb); have HK := za0.mk (Kept.of_below hb (fun k => k = nb)); have HSZ := za0.mk hb.size; clear HB BA RT ho hb; have HB := n0_; have BA := n1_; have RT := n2_; clear n0_ n1_ n2_) | ((with_reducible refine zo0 (N := 10) rfl ?_); refine zp0 ?hg (N := 10) ?hd (cs := #[.slice none 0 0, .int .i64 0]) (t := 63) ?hr ?_; (case hd => rfl); (case hg => rfl); (case hr => first | (go_simp; done) | (go_simp; rfl)); intro B hg w17 hbox hb; have GE := za0.mk (show w.heap.size ≤ B ∧ w0.heap.size ≤ B from ⟨by rw [hg]; exact HSZ.out, by rw [hg]; exact HB.out.size⟩); have BX := za0.mk hbox; have n0_ := za0.mk (zh0 HB.out hb); have n1_ := za0.mk (zm0 BA.out hb); have n2_ := za0.mk (Kd.R_below RT.out hb); have n3_ := za0.mk (Kd.R_below OT.out hb); have n4_ := za0.mk (HK.out.below hb); clear HB BA RT OT HK HSZ hbox hb hg; have HB := n0_; have BA := n1_; have RT := n2_; have OT := n3_; have HK := n4_; clear n0_ n1_ n2_ n3_ n4_; have hcz0 : w17.cell? ⟨B, 0, none⟩ = some (.slice none 0 0) := (zl0 BX.out 0).trans rfl; have hcz1 : w17.cell? ⟨B, 1, none⟩ = some (.int .i64 0) := (zl0 BX.out 1).trans rfl; have hfz0 := zk0 BX.out 0; have hfz1 := zk0 BX.out 1))
 have WK := za0.mk (show WkSt w0 w ((w17.setCell ⟨B, 0, none⟩ (.slice (some ⟨nb, 0, none⟩) rot.length cap)).setCell ⟨B, 1, none⟩ (.int .i64 p)) B nb rot.length cap rot p from ⟨ze0 (ze0 HB.out GE.out.2) GE.out.2, ((HK.out.mono (fun _ h_ => .inl h_)).setCell (.inl (.inr rfl)) _).setCell (.inl (.inr rfl)) _, rfl, HCP.out, (blk_putA ((blk_putA BX.out).trans rfl)).trans rfl, Kd.R_set (Kd.R_set RT.out BX.out (by decide) 0 _) ((blk_putA BX.out).trans rfl) (by decide) 1 _, GE.out.2⟩)
 have NEB := za0.mk (blk_ne BA.out BX.out (by decide))
 have ST := za0.mk (show PtSt w0 w ((w17.setCell ⟨B, 0, none⟩ (.slice (some ⟨nb, 0, none⟩) rot.length cap)).setCell ⟨B, 1, none⟩ (.int .i64 p)) Ba B nb rot.length cap A0 l.length c0 s rot p v16 [p] from
  ⟨⟨WK.out.hb, Kept.refl _ _, rfl, HCP.out, WK.out.bk, WK.out.rt, GE.out.2⟩, ((HK.out.setCell (.inr GE.out.1) _).setCell (.inr GE.out.1) _), GE.out.1, (Below.heap_setCell _ ⟨B, 1, none⟩ _ Ba NEB.out).trans ((Below.heap_setCell _ ⟨B, 0, none⟩ _ Ba NEB.out).trans BA.out), Kd.R_set (Kd.R_set OT.out BX.out (by decide) 0 _) ((blk_putA BX.out).trans rfl) (by decide) 1 _⟩)
 clear WK NEB OT BX BA RT HB HK hcz0 hcz1 hfz0 hfz1
 go_loopg [11] k (fun kq v11 w' => ∃ (rot' : List Int) (p' : Int) (out' : List Int), za0 (pathL l s most kq rot' p' out' = some (r1, r2, r3)) ∧ za0 (kq ≤ k) ∧ za0 (PtSt w0 w w' Ba B nb rot.length cap A0 l.length c0 s rot' p' v11 out'))
 case atStart => exact ⟨rot, p, [p], H', ⟨Nat.le_refl _⟩, ST⟩
 case round =>
  clear H' ST
  obtain ⟨rt, p, out, HA, HK1, ST0⟩ := hrel
  have HN := za0.mk ST0.out.wk.hn
  obtain ⟨Ao, co, eo⟩ := Kd.R_slice ST0.out.ot
  subst eo
  cases gk with
  | zero => exact absurd HA.out (by simp [pathL])
  | succ k1 =>
   have H := HA.out
   clear HA
   simp only [pathL] at H
   have ST := za0.mk ST0.out.drew
   have hcp : wr.drew.cell? ⟨B, 1, none⟩ = some (.int .i64 p) := (zl0 ST.out.wk.bk 1).trans rfl
   have hcs : wr.drew.cell? ⟨Ba, 1, none⟩ = some (.int .i64 s) := (zl0 ST.out.ba 1).trans rfl
   clear ST0
   by_cases c1 : p = s
   ·rw [if_pos c1] at H
    have c1b0 : (p == s) = true := beq_iff_eq.mpr c1
    have c1b1 : (p != s) = false := bne_eq_false_iff_eq.mpr c1
    clear c1
    simp only [Option.some.injEq, Prod.mk.injEq] at H
    obtain ⟨rfl, rfl, rfl⟩ := H
    go_wp2
    refine start_ (n := 7) (S := fun w' => w'.cell? ⟨B, 1, none⟩ = some (.int .i64 p) ∧ w'.cell? ⟨Ba, 1, none⟩ = some (.int .i64 s)) (ds := []) #[false, false, false, false, false, false, false] (by kernel_rfl) rfl rfl ⟨hcp, hcs⟩ (fun hHeld => ?_)
    generalize wr.drew = w3 at ST hcp hcs hHeld ⊢
    refine pure_ (i := 0) (N := some 17) (v := ?_) (a' := ?_) (bf 7 1) rfl rfl (by kernel_rfl) (fun _ _ _ h => h) (Or.inl ⟨by rfl, ?_⟩) ?_ ?_
    rotate_left
    ·intro w'; go_simp; with_reducible rfl
    rotate_left
    ·simp only [Act.put, zA, zB, zC, i64_w, i32_w]; rfl
    refine take_ (i := 1) (N := some 18) (v := ?_) (a' := ?_) (bf 7 3) rfl rfl (by kernel_rfl) (fun _ _ _ h => h) (Or.inl ⟨by rfl, ?_⟩) hHeld ?_ ?_
    rotate_left
    ·rintro w' ⟨s0, s1⟩; go_simp; with_reducible rfl
    rotate_left
    ·simp only [Act.put, zA, zB, zC, i64_w, i32_w]; rfl
    refine pure_ (i := 2) (N := some 19) (v := ?_) (a' := ?_) (bf 7 7) rfl rfl (by kernel_rfl) (fun _ _ _ h => h) (Or.inl ⟨by rfl, ?_⟩) ?_ ?_
    rotate_left
    ·intro w'; go_simp; with_reducible rfl
    rotate_left
    ·simp only [Act.put, zA, zB, zC, i64_w, i32_w]; rfl
    refine pure_ (i := 3) (N := some 20) (v := ?_) (a' := ?_) (bf 7 15) rfl rfl (by kernel_rfl) (fun _ _ _ h => h) (Or.inl ⟨by rfl, ?_⟩) ?_ ?_
    rotate_left
    ·intro w'; go_simp; with_reducible rfl
    rotate_left
    ·simp only [Act.put, zA, zB, zC, i64_w, i32_w]; rfl
    refine pure_ (i := 4) (N := some 21) (v := ?_) (a' := ?_) (bf 7 31) rfl rfl (by kernel_rfl) (fun _ _ _ h => h) (Or.inl ⟨by rfl, ?_⟩) ?_ ?_
    rotate_left
    ·intro w'; go_simp; with_reducible rfl
    rotate_left
    ·simp only [Act.put, zA, zB, zC, i64_w, i32_w]; rfl
    refine take_ (i := 5) (N := some 22) (v := ?_) (a' := ?_) (bf 7 63) rfl rfl (by kernel_rfl) (fun _ _ _ h => h) (Or.inl ⟨by rfl, ?_⟩) hHeld ?_ ?_
    rotate_left
    ·rintro w' ⟨s0, s1⟩; go_simp; with_reducible rfl
    rotate_left
    ·simp only [Act.put, zA, zB, zC, i64_w, i32_w]; rfl
    refine pure_ (i := 6) (N := some 23) (v := ?_) (a' := ?_) (bf 7 127) rfl rfl (by kernel_rfl) (fun _ _ _ h => h) (Or.inl ⟨by rfl, ?_⟩) ?_ ?_
    rotate_left
    ·intro w'; go_simp; with_reducible rfl
    rotate_left
    ·simp only [Act.put, zA, zB, zC, i64_w, i32_w]; rfl
    refine done_ (by kernel_rfl) ?_
    go_wp2
    go_ret2
    exact ⟨_, by first | rfl | (simp; done), ST.out.ot, ST.out.wk.rt, ST.out.wk.hb, ST.out.hk⟩
   ·rw [if_neg c1] at H
    have c1b0 : (p == s) = false := beq_eq_false_iff_ne.mpr c1
    have c1b1 : (p != s) = true := bne_iff_ne.mpr c1
    clear c1
    by_cases c2 : most < (out.length : Int)
    ·rw [if_pos c2] at H
     have c2b0 : decide (most < (out.length : Int)) = true := decide_eq_true c2
     clear c2
     simp only [Option.some.injEq, Prod.mk.injEq] at H
     obtain ⟨rfl, rfl, rfl⟩ := H
     go_wp2
     refine start_ (n := 7) (S := fun w' => w'.cell? ⟨B, 1, none⟩ = some (.int .i64 p) ∧ w'.cell? ⟨Ba, 1, none⟩ = some (.int .i64 s)) (ds := []) #[false, false, false, false, false, false, false] (by kernel_rfl) rfl rfl ⟨hcp, hcs⟩ (fun hHeld => ?_)
     generalize wr.drew = w3 at ST hcp hcs hHeld ⊢
     refine pure_ (i := 0) (N := some 17) (v := ?_) (a' := ?_) (bf 7 1) rfl rfl (by kernel_rfl) (fun _ _ _ h => h) (Or.inl ⟨by rfl, ?_⟩) ?_ ?_
     rotate_left
     ·intro w'; go_simp; with_reducible rfl
     rotate_left
     ·simp only [Act.put, zA, zB, zC, i64_w, i32_w]; rfl
     refine take_ (i := 1) (N := some 18) (v := ?_) (a' := ?_) (bf 7 3) rfl rfl (by kernel_rfl) (fun _ _ _ h => h) (Or.inl ⟨by rfl, ?_⟩) hHeld ?_ ?_
     rotate_left
     ·rintro w' ⟨s0, s1⟩; go_simp; with_reducible rfl
     rotate_left
     ·simp only [Act.put, zA, zB, zC, i64_w, i32_w]; rfl
     refine pure_ (i := 2) (N := some 19) (v := ?_) (a' := ?_) (bf 7 7) rfl rfl (by kernel_rfl) (fun _ _ _ h => h) (Or.inl ⟨by rfl, ?_⟩) ?_ ?_
     rotate_left
     ·intro w'; go_simp; with_reducible rfl
     rotate_left
     ·simp only [Act.put, zA, zB, zC, i64_w, i32_w]; rfl
     refine pure_ (i := 3) (N := some 20) (v := ?_) (a' := ?_) (bf 7 15) rfl rfl (by kernel_rfl) (fun _ _ _ h => h) (Or.inl ⟨by rfl, ?_⟩) ?_ ?_
     rotate_left
     ·intro w'; go_simp; with_reducible rfl
     rotate_left
     ·simp only [Act.put, zA, zB, zC, i64_w, i32_w]; rfl
     refine pure_ (i := 4) (N := some 21) (v := ?_) (a' := ?_) (bf 7 31) rfl rfl (by kernel_rfl) (fun _ _ _ h => h) (Or.inl ⟨by rfl, ?_⟩) ?_ ?_
     rotate_left
     ·intro w'; go_simp; with_reducible rfl
     rotate_left
     ·simp only [Act.put, zA, zB, zC, i64_w, i32_w]; rfl
     refine take_ (i := 5) (N := some 22) (v := ?_) (a' := ?_) (bf 7 63) rfl rfl (by kernel_rfl) (fun _ _ _ h => h) (Or.inl ⟨by rfl, ?_⟩) hHeld ?_ ?_
     rotate_left
     ·rintro w' ⟨s0, s1⟩; go_simp; with_reducible rfl
     rotate_left
     ·simp only [Act.put, zA, zB, zC, i64_w, i32_w]; rfl
     refine pure_ (i := 6) (N := some 23) (v := ?_) (a' := ?_) (bf 7 127) rfl rfl (by kernel_rfl) (fun _ _ _ h => h) (Or.inl ⟨by rfl, ?_⟩) ?_ ?_
     rotate_left
     ·intro w'; go_simp; with_reducible rfl
     rotate_left
     ·simp only [Act.put, zA, zB, zC, i64_w, i32_w]; rfl
     refine done_ (by kernel_rfl) ?_
     go_wp2
     go_ret2
     exact ⟨_, by first | rfl | (simp; done), Kd.R_nil _ _ _ _ _, ST.out.wk.rt, ST.out.wk.hb, ST.out.hk⟩
    ·rw [if_neg c2] at H
     have c2b0 : decide (most < (out.length : Int)) = false := decide_eq_false c2
     clear c2
     replace H := Option.bind_eq_some_iff.mp H
     obtain ⟨⟨rt2, p2⟩, A90, H⟩ := H
     have A9 := za0.mk A90
     clear A90
     replace H : (if out.length < 17592186044416 then pathL l s most k1 rt2 p2 (out ++ [p2]) else none) = some (r1, r2, r3) := H
     by_cases c3 : out.length < 17592186044416
     ·rw [if_pos c3] at H
      have LM := za0.mk c3
      have H' := za0.mk H
      clear H c3
      go_wp2
      refine start_ (n := 7) (S := fun w' => w'.cell? ⟨B, 1, none⟩ = some (.int .i64 p) ∧ w'.cell? ⟨Ba, 1, none⟩ = some (.int .i64 s)) (ds := []) #[false, false, false, false, false, false, false] (by kernel_rfl) rfl rfl ⟨hcp, hcs⟩ (fun hHeld => ?_)
      generalize wr.drew = w3 at ST hcp hcs hHeld ⊢
      refine pure_ (i := 0) (N := some 17) (v := ?_) (a' := ?_) (bf 7 1) rfl rfl (by kernel_rfl) (fun _ _ _ h => h) (Or.inl ⟨by rfl, ?_⟩) ?_ ?_
      rotate_left
      ·intro w'; go_simp; with_reducible rfl
      rotate_left
      ·simp only [Act.put, zA, zB, zC, i64_w, i32_w]; rfl
      refine take_ (i := 1) (N := some 18) (v := ?_) (a' := ?_) (bf 7 3) rfl rfl (by kernel_rfl) (fun _ _ _ h => h) (Or.inl ⟨by rfl, ?_⟩) hHeld ?_ ?_
      rotate_left
      ·rintro w' ⟨s0, s1⟩; go_simp; with_reducible rfl
      rotate_left
      ·simp only [Act.put, zA, zB, zC, i64_w, i32_w]; rfl
      refine pure_ (i := 2) (N := some 19) (v := ?_) (a' := ?_) (bf 7 7) rfl rfl (by kernel_rfl) (fun _ _ _ h => h) (Or.inl ⟨by rfl, ?_⟩) ?_ ?_
      rotate_left
      ·intro w'; go_simp; with_reducible rfl
      rotate_left
      ·simp only [Act.put, zA, zB, zC, i64_w, i32_w]; rfl
      refine pure_ (i := 3) (N := some 20) (v := ?_) (a' := ?_) (bf 7 15) rfl rfl (by kernel_rfl) (fun _ _ _ h => h) (Or.inl ⟨by rfl, ?_⟩) ?_ ?_
      rotate_left
      ·intro w'; go_simp; with_reducible rfl
      rotate_left
      ·simp only [Act.put, zA, zB, zC, i64_w, i32_w]; rfl
      refine pure_ (i := 4) (N := some 21) (v := ?_) (a' := ?_) (bf 7 31) rfl rfl (by kernel_rfl) (fun _ _ _ h => h) (Or.inl ⟨by rfl, ?_⟩) ?_ ?_
      rotate_left
      ·intro w'; go_simp; with_reducible rfl
      rotate_left
      ·simp only [Act.put, zA, zB, zC, i64_w, i32_w]; rfl
      refine take_ (i := 5) (N := some 22) (v := ?_) (a' := ?_) (bf 7 63) rfl rfl (by kernel_rfl) (fun _ _ _ h => h) (Or.inl ⟨by rfl, ?_⟩) hHeld ?_ ?_
      rotate_left
      ·rintro w' ⟨s0, s1⟩; go_simp; with_reducible rfl
      rotate_left
      ·simp only [Act.put, zA, zB, zC, i64_w, i32_w]; rfl
      refine pure_ (i := 6) (N := some 23) (v := ?_) (a' := ?_) (bf 7 127) rfl rfl (by kernel_rfl) (fun _ _ _ h => h) (Or.inl ⟨by rfl, ?_⟩) ?_ ?_
      rotate_left
      ·intro w'; go_simp; with_reducible rfl
      rotate_left
      ·simp only [Act.put, zA, zB, zC, i64_w, i32_w]; rfl
      refine done_ (by kernel_rfl) ?_
      have hcg : w3.cell? ⟨Ba, 0, none⟩ = some (.slice A0 l.length c0) := (zl0 ST.out.ba 0).trans rfl
      go_wp2_with (first | (go_at_call 56; refine (impl_Graph_step.calls l A0 c0 B nb rot.length cap rt rt2 p p2 w0 w3 w3 HR0.out HC0.out ST.out.wk A9.out).mono ?_; rintro e w4 ⟨rfl, st2⟩; have ST4 := za0.mk (ST.out.step st2); clear st2 ST hcp hcs hcg hHeld; have hcq : w4.cell? ⟨B, 1, none⟩ = some (.int .i64 p2) := (zl0 ST4.out.wk.bk 1).trans rfl) | ((with_reducible refine gate_builtin (b := .append) (xs := #[.tmp 33, .tmp 36]) rfl ?_); at_builtin; refine Kd.R_append (Kd.int .i64) (w0 := w0) w0.heap.size rfl (.tmp 33) (.tmp 36) 25 3 (.int .i64 0) 8 rfl Try.underlying25 info3 rfl (by decide) (by omega) (.slice Ao out.length co) out p2 [.int .i64 p2] (fun k => k ≠ nb ∧ w.heap.size ≤ k) (fun _ => False) rfl (by first | (go_simp; done) | (go_simp; rfl)) ?aP (fun _ hk => hk.elim) ?aF ?aO ?aB ?aS ?aL ?_; (case aP => exact rfl); (case aB => exact ST4.out.wk.hb); (case aF => exact fun k hk => ⟨fun e => absurd (Kd.R_lt ST4.out.wk.rt nb rfl) (by omega), by have := ST4.out.hk.1; omega⟩); (case aO => exact ST4.out.ot); (case aS => exact zj0 ST4.out.wk.hb); (case aL => have := LM.out; omega); intro v5 w5 ho hb hg hat; have ST5 := za0.mk (ST4.out.grow hb hg hat ho); clear ho hb hg hat ST4))
      go_roundg k1
      case measure => have := HK1.out; omega
      case rel => exact ⟨rt2, p2, out ++ [p2], H', ⟨by have := HK1.out; omega⟩, ST5⟩
     ·rw [if_neg c3] at H; exact absurd H (by simp)
def actL (l : List (List Int)) (s : Int) (chips : List Int) : Nat → Option Int → Int → List Int → Int → Option (List Int × Bool)
 | 0, _, _, _, _ => none
 | k + 1, none, i, rot, left => if i < (chips.length : Int) then (if 0 ≤ i then actL l s chips k (some 0) i rot left else none) else some (rot, true)
 | k + 1, some j, i, rot, left => if j < rd chips i then ((pathL l s left k rot i [i]).bind fun t => if t.2.2 = true then actL l s chips k (some (wrap64 (j + 1))) i t.1 (wrap64 (left - wrap64 ((t.2.1.length : Int) - 1))) else some ([], false)) else actL l s chips k none (wrap64 (i + 1)) rot left
def impl_actor_act.f (k : Nat) (l : List (List Int)) (s : Int) (rot chips : List Int) : Option (List Int × Bool) := if 0 < rot.length then (slices_Clone_int_int.f rot).bind fun t => if t.length = rot.length then actL l s chips k none 0 t 4000 else none else none
structure ActSt (w0 w : World) (Ba nb n cap : Nat) (A0 : Option Addr) (m c0 : Nat) (s : Int) (rot : List Int) : Prop where
 hb : Below w0.heap.size w0 w
 hn : n = rot.length
 cap_ : n ≤ cap
 ba : w.heap[Ba]? = some (.cells #[.slice A0 m c0, .int .i64 s] 71 (0, 0))
 rt : Kd.R (Kd.int .i64) 3 w w0.heap.size (fun k => k = nb) (.slice (some ⟨nb, 0, none⟩) n cap) rot
theorem actor_ne {w : World} {Ba nb n cap base : Nat} {cs : Array Value} {rot : List Int} (ba : w.heap[Ba]? = some (.cells cs 71 (0, 0))) (rt : Kd.R (Kd.int .i64) 3 w base (fun k => k = nb) (.slice (some ⟨nb, 0, none⟩) n cap) rot) : Ba ≠ nb :=
 fun e => Kd.R_ne rt ba (by decide) (by rw [e]; rfl)
set_option maxHeartbeats 8000000 in
set_option maxRecDepth 100000 in
theorem impl_actor_act.calls (k : Nat) (l : List (List Int)) (s : Int) (A0 : Option Addr) (c0 Ba : Nat) (A1 : Option Addr) (c1 : Nat) (rot : List Int) (A2 : Option Addr) (c2 : Nat) (chips : List Int) (r1 : List Int) (r2 : Bool) (w : World) (hr0 : Kd.C (Kd.slice 3 (Kd.int .i64)) w A0 l.length l) (hc0 : l.length ≤ c0)
  (ba : w.heap[Ba]? = some (.cells #[.slice A0 l.length c0, .int .i64 s] 71 (0, 0))) (hr1 : Kd.C (Kd.int .i64) w A1 rot.length rot) (hc1 : rot.length ≤ c1) (n2 : Nat) (hn2 : n2 = chips.length) (hr2 : Kd.C (Kd.int .i64) w A2 n2 chips) (hc2 : n2 ≤ c2) (h : impl_actor_act.f k l s rot chips = some (r1, r2)) :
  Calls Try.prog 55 #[.pointer (some ⟨Ba, 0, none⟩), .slice A1 rot.length c1, .slice A2 n2 c2] w fun e w' => ∃ v, e = .returned (.tuple #[v, .bool r2]) ∧ Kd.R (Kd.int .i64) 3 w' w.heap.size (fun _ => True) v r1 ∧ Below w.heap.size w w' := by
 have hu1 := Try.underlying29
 have hu3 := Try.underlying71
 subst hn2
 unfold impl_actor_act.f at h
 by_cases hl0 : 0 < rot.length
 ·rw [if_pos hl0] at h
  obtain ⟨t, h1, h⟩ := Option.bind_eq_some_iff.mp h
  by_cases htl : t.length = rot.length
  ·rw [if_pos htl] at h
   have HR0 := za0.mk hr0
   have HC0 := za0.mk hc0
   have HR1 := za0.mk hr1
   have HC1 := za0.mk hc1
   have HR2 := za0.mk hr2
   have HC2 := za0.mk hc2
   have BA := za0.mk ba
   have A5 := za0.mk h1
   have H' := za0.mk h
   have HL := za0.mk hl0
   have HTL := za0.mk htl
   clear hr0 hc0 hr1 hc1 hr2 hc2 ba h1 h hl0 htl
   go_enter Try.func55, Try.ntmps55
   go_wp2_with (go_at_call 35; refine (slices_Clone_int_int.calls _ _ rot t _ HR1.out HC1.out A5.out).mono ?_; rintro e w1 ⟨v1, rfl, ho, hb⟩; obtain ⟨nb, cap, e1, hnb, _, _⟩ := Kd.R_form ho (by have := HTL.out; have := HL.out; omega); subst e1; have ST := za0.mk (show ActSt w w1 Ba nb t.length cap A0 l.length c0 s t from ⟨hb, rfl, (Kd.R_reads' ho).2.1, zm0 BA.out hb, Kd.R_mono (ok' := fun k => k = nb) (Kd.R_tight rfl ho) (fun k hk => by injection hk)⟩); clear ho hb hnb BA)
   go_loopg [9, 18] k (fun kq v9 v18 w' => ∃ (left i : Int) (rot' : List Int), v9 = .int .i64 left ∧ v18 = .int .i64 i ∧ za0 (actL l s chips kq none i rot' left = some (r1, r2)) ∧ za0 (kq ≤ k) ∧ za0 (ActSt w w' Ba nb t.length cap A0 l.length c0 s rot'))
   case atStart => exact ⟨4000, 0, t, rfl, rfl, H', ⟨Nat.le_refl _⟩, ST⟩
   case round =>
    clear H' ST
    obtain ⟨left, i, rt, rfl, rfl, HA, HK1, ST⟩ := hrel
    cases gk with
    | zero => exact absurd HA.out (by simp [actL])
    | succ k1 =>
     have H := HA.out
     clear HA
     simp only [actL] at H
     by_cases c1 : i < (chips.length : Int)
     ·rw [if_pos c1] at H
      by_cases c2_ : 0 ≤ i
      ·rw [if_pos c2_] at H
       obtain ⟨adc, ec, hxc⟩ := Kd.at_int HR2.out i c2_ c1
       cases ec
       replace hxc := (ST.out.hb.cell (World.block_lt_of_cell? _ _ hxc)).trans hxc
       have HI := za0.mk (And.intro c2_ c1)
       have c1b0 : decide (i < (chips.length : Int)) = true := decide_eq_true c1
       replace c1 := eq_true c1
       replace c2_ := eq_true c2_
       have H' := za0.mk H
       clear H
       go_wp2
       go_loopg [9, 24] k1 (fun kq v9 v24 w' => ∃ (left j : Int) (rot' : List Int), v9 = .int .i64 left ∧ v24 = .int .i64 j ∧ za0 (actL l s chips kq (some j) i rot' left = some (r1, r2)) ∧ za0 (kq ≤ k1) ∧ za0 (ActSt w w' Ba nb t.length cap (A0) l.length c0 s rot'))
       case atStart => exact ⟨left, 0, rt, rfl, rfl, H', ⟨Nat.le_refl _⟩, ST⟩
       case round =>
        clear H' ST hxc
        obtain ⟨lf, j, rt2, rfl, rfl, HA, HK2, ST⟩ := hrel
        cases gk with
        | zero => exact absurd HA.out (by simp [actL])
        | succ k2 =>
         have H := HA.out
         clear HA
         simp only [actL] at H
         by_cases c3 : j < rd chips i
         ·rw [if_pos c3] at H
          have c3b0 : decide (j < rd chips i) = true := decide_eq_true c3
          clear c3
          obtain ⟨⟨t1, t2, t3⟩, A90, H⟩ := Option.bind_eq_some_iff.mp H
          have A9 := za0.mk A90
          clear A90
          replace H : (if t3 = true then actL l s chips k2 (some (wrap64 (j + 1))) i t1 (wrap64 (lf - wrap64 ((t2.length : Int) - 1))) else some ([], false)) = some (r1, r2) := H
          cases t3 with
          | false =>
           rw [if_neg (by decide)] at H
           simp only [Option.some.injEq, Prod.mk.injEq] at H
           obtain ⟨rfl, rfl⟩ := H
           go_wp2_with (go_at_call 34; refine (impl_actor_path.calls k2 l A0 c0 Ba nb t.length cap s rt2 i lf t1 t2 false w wr (HR0.out) HC0.out ST.out.hb ST.out.ba ST.out.hn ST.out.cap_ ST.out.rt A9.out).mono ?_; rintro e w5 ⟨v5, rfl, ho, hrt, hb, hkp⟩; have n0_ := za0.mk (show ActSt w w5 Ba nb t.length cap A0 l.length c0 s t1 from ⟨hb, by have := Kd.R_reads' hrt; have := Kd.R_slice hrt; obtain ⟨_, _, e_⟩ := this; injection e_, ST.out.cap_, blk_kept ST.out.ba hkp (actor_ne ST.out.ba ST.out.rt), hrt⟩); obtain ⟨A5_, c5_, e5⟩ := Kd.R_slice ho; subst e5; clear ST ho hrt hb hkp; have ST := n0_; clear n0_)
           go_ret2
           exact ⟨_, by first | rfl | (simp; done), Kd.R_nil _ _ _ _ _, ST.out.hb⟩
          | true =>
           rw [if_pos rfl] at H
           have H' := za0.mk H
           clear H
           go_wp2_with (go_at_call 34; refine (impl_actor_path.calls k2 l A0 c0 Ba nb t.length cap s rt2 i lf t1 t2 true w wr (HR0.out) HC0.out ST.out.hb ST.out.ba ST.out.hn ST.out.cap_ ST.out.rt A9.out).mono ?_; rintro e w5 ⟨v5, rfl, ho, hrt, hb, hkp⟩; have n0_ := za0.mk (show ActSt w w5 Ba nb t.length cap A0 l.length c0 s t1 from ⟨hb, by have := Kd.R_reads' hrt; have := Kd.R_slice hrt; obtain ⟨_, _, e_⟩ := this; injection e_, ST.out.cap_, blk_kept ST.out.ba hkp (actor_ne ST.out.ba ST.out.rt), hrt⟩); obtain ⟨A5_, c5_, e5⟩ := Kd.R_slice ho; subst e5; clear ST ho hrt hb hkp; have ST := n0_; clear n0_)
           go_roundg k2
           case measure => have := HK2.out; omega
           case rel => exact ⟨_, _, t1, rfl, rfl, H', ⟨by have := HK2.out; omega⟩, ST⟩
         ·rw [if_neg c3] at H
          have c3b0 : decide (j < rd chips i) = false := decide_eq_false c3
          clear c3
          have H' := za0.mk H
          clear H
          go_wp2
          go_roundg k2
          case measure => have := HK2.out; have := HK1.out; omega
          case rel => exact ⟨_, _, rt2, rfl, rfl, H', ⟨by have := HK2.out; have := HK1.out; omega⟩, ST⟩
      ·rw [if_neg c2_] at H; exact absurd H (by simp)
     ·rw [if_neg c1] at H
      have c1b0 : decide (i < (chips.length : Int)) = false := decide_eq_false c1
      clear c1
      simp only [Option.some.injEq, Prod.mk.injEq] at H
      obtain ⟨rfl, rfl⟩ := H
      go_wp2
      go_ret2
      exact ⟨_, by first | rfl | (simp; done), Kd.R_mono ST.out.rt (fun _ _ => trivial), ST.out.hb⟩
  ·rw [if_neg htl] at h; exact absurd h (by simp)
 ·rw [if_neg hl0] at h; exact absurd h (by simp)
def impl_ArrivalPath.f (k : Nat) (l : List (List Int)) (s : Int) (rot : List Int) (p : Int) : Option (List Int × Bool) := (onL k l s rot).bind fun b => if b = true then ((impl_has.f l [p]).bind fun h => if h = true then (if 0 < rot.length then (slices_Clone_int_int.f rot).bind fun t => if t.length = rot.length then ((pathL l s 4000 k t p [p]).bind fun q => some (q.2.1, q.2.2)) else none else none) else some ([], false)) else some ([], false)
set_option maxHeartbeats 8000000 in
set_option maxRecDepth 100000 in
theorem impl_ArrivalPath.calls0 (k : Nat) (A0 : Option Addr) (c0 : Nat) (l : List (List Int)) (s : Int) (A2 : Option Addr) (c2 : Nat) (rot : List Int) (p : Int) (r1 : List Int) (r2 : Bool) (w : World) (hr0 : Kd.C (Kd.slice 3 (Kd.int .i64)) w A0 l.length l) (hc0 : l.length ≤ c0) (hr2 : Kd.C (Kd.int .i64) w A2 rot.length rot) (hc2 : rot.length ≤ c2) (h : impl_ArrivalPath.f k l s rot p = some (r1, r2)) :
  Calls Try.prog 18 #[.agg #[.slice A0 l.length c0], .int .i64 s, .slice A2 rot.length c2, .int .i64 p] w fun e w' => ∃ v, e = .returned (.tuple #[v, .bool r2]) ∧ Kd.R (Kd.int .i64) 3 w' w.heap.size (fun _ => True) v r1 ∧ Below w.heap.size w w' := by
 have hu1 := Try.underlying29
 have hu3 := Try.underlying71
 have hu4 := Try.underlying25
 have HR0 := za0.mk hr0
 have HC0 := za0.mk hc0
 have HR2 := za0.mk hr2
 have HC2 := za0.mk hc2
 unfold impl_ArrivalPath.f at h
 obtain ⟨b, h1, h⟩ := Option.bind_eq_some_iff.mp h
 have A1 := za0.mk h1
 clear hr0 hc0 hr2 hc2 h1
 cases b with
 | false =>
  rw [if_neg (by decide)] at h
  simp only [Option.some.injEq, Prod.mk.injEq] at h
  obtain ⟨rfl, rfl⟩ := h
  go_enter Try.func18, Try.ntmps18
  go_wp2_with (first | ((with_reducible refine zo0 (N := 4) rfl ?_); refine zp0 ?hg (N := 4) ?hd (cs := #[.slice A0 l.length c0]) (t := 29) ?hr ?_; (case hd => rfl); (case hg => rfl); (case hr => first | (go_simp; done) | (go_simp; rfl)); intro gb hg w2 hbox hb; have HB := za0.mk (hb); have BG := za0.mk hbox; clear hb hbox hg; have hcg : w2.cell? ⟨gb, 0, none⟩ = some (.slice A0 l.length c0) := (zl0 BG.out 0).trans rfl) | (go_at_call 31; refine (impl_actorOn.calls k l s _ _ _ _ rot false _ (Kd.C_alloc (Kd.C_below HR0.out HB.out) _) HC0.out (lit_row (Kd.C_below HR2.out HB.out) HC2.out) A1.out).mono ?_; rintro e w3 ⟨Ba, rfl, hba, hb⟩; have n0_ := za0.mk (zh0 (zc0 HB.out _) hb); have n1_ := za0.mk (zm0 (zf0 BG.out _) hb); clear HB BG hcg hb; have HB := n0_; have BG := n1_; clear n0_ n1_; have hcg : w3.cell? ⟨gb, 0, none⟩ = some (.slice A0 l.length c0) := (zl0 BG.out 0).trans rfl; clear hba))
  go_ret2
  exact ⟨_, by first | rfl | (simp; done), Kd.R_nil _ _ _ _ _, HB.out⟩
 | true =>
  rw [if_pos rfl] at h
  obtain ⟨hb, h2, h⟩ := Option.bind_eq_some_iff.mp h
  have A2' := za0.mk h2
  clear h2
  cases hb with
  | false =>
   rw [if_neg (by decide)] at h
   simp only [Option.some.injEq, Prod.mk.injEq] at h
   obtain ⟨rfl, rfl⟩ := h
   go_enter Try.func18, Try.ntmps18
   go_wp2_with (first | ((with_reducible refine zo0 (N := 4) rfl ?_); refine zp0 ?hg (N := 4) ?hd (cs := #[.slice A0 l.length c0]) (t := 29) ?hr ?_; (case hd => rfl); (case hg => rfl); (case hr => first | (go_simp; done) | (go_simp; rfl)); intro gb hg w2 hbox hb; have HB := za0.mk (hb); have BG := za0.mk hbox; clear hb hbox hg; have hcg : w2.cell? ⟨gb, 0, none⟩ = some (.slice A0 l.length c0) := (zl0 BG.out 0).trans rfl) | (go_at_call 31; refine (impl_actorOn.calls k l s _ _ _ _ rot true _ (Kd.C_alloc (Kd.C_below HR0.out HB.out) _) HC0.out (lit_row (Kd.C_below HR2.out HB.out) HC2.out) A1.out).mono ?_; rintro e w3 ⟨Ba, rfl, hba, hb⟩; have n0_ := za0.mk (zh0 (zc0 HB.out _) hb); have n1_ := za0.mk (zm0 (zf0 BG.out _) hb); clear HB BG hcg hb; have HB := n0_; have BG := n1_; clear n0_ n1_; have hcg : w3.cell? ⟨gb, 0, none⟩ = some (.slice A0 l.length c0) := (zl0 BG.out 0).trans rfl; have BA := za0.mk (hba rfl).2; clear hba) | ((with_reducible refine zo0 (N := 25) rfl ?_); refine gate_guard (by rfl) ?_; refine Kd.R_lit (Kd.int .i64) _ 3 ?hg (N := 25) ?hd (xs := ([p] : List Int)) (inner := [.int .i64 p]) (ok := fun _ => True) (okp := fun _ => True) ?hr ?hp (fun _ hk => hk) trivial (Below.refl _ _) (Nat.le_refl _) (by simp) ?_; (case hd => rfl); (case hg => rfl); (case hr => first | (go_simp; done) | (go_simp; rfl)); (case hp => exact (Reps.one (show Kd.M (Kd.int .i64) _ _ _ p [.int .i64 p] from rfl) (Reps.none _ _))); intro v4 w4 ho hb hg_ hnew_; clear hg_ hnew_; have HP := za0.mk ho; have n0_ := za0.mk (zh0 HB.out hb); have n1_ := za0.mk (zm0 BA.out hb); clear HB BA BG hcg hb ho; have HB := n0_; have BA := n1_; clear n0_ n1_; obtain ⟨Ap, cp, ep⟩ := Kd.R_slice HP.out; subst ep) | (go_at_call 32; refine (impl_has.calls _ _ l _ _ [p] false _ (Kd.C_below HR0.out HB.out) HC0.out (Kd.R_reads' HP.out).2.2 (Kd.R_reads' HP.out).2.1 A2'.out).mono ?_; rintro e w5 ⟨rfl, hb⟩; have n0_ := za0.mk (zh0 HB.out hb); have n1_ := za0.mk (zm0 BA.out hb); clear HB BA hb HP; have HB := n0_; have BA := n1_; clear n0_ n1_))
   go_ret2
   exact ⟨_, by first | rfl | (simp; done), Kd.R_nil _ _ _ _ _, HB.out⟩
  | true =>
   rw [if_pos rfl] at h
   by_cases hl0 : 0 < rot.length
   ·rw [if_pos hl0] at h
    obtain ⟨t, h3, h⟩ := Option.bind_eq_some_iff.mp h
    by_cases htl : t.length = rot.length
    ·rw [if_pos htl] at h
     obtain ⟨⟨q1, q2, q3⟩, h4, h⟩ := Option.bind_eq_some_iff.mp h
     simp only [Option.some.injEq, Prod.mk.injEq] at h
     obtain ⟨rfl, rfl⟩ := h
     have A5 := za0.mk h3
     have A9 := za0.mk h4
     have HL := za0.mk hl0
     have HTL := za0.mk htl
     clear h3 h4 hl0 htl
     go_enter Try.func18, Try.ntmps18
     go_wp2_with (first | ((with_reducible refine zo0 (N := 4) rfl ?_); refine zp0 ?hg (N := 4) ?hd (cs := #[.slice A0 l.length c0]) (t := 29) ?hr ?_; (case hd => rfl); (case hg => rfl); (case hr => first | (go_simp; done) | (go_simp; rfl)); intro gb hg w2 hbox hb; have HB := za0.mk (hb); have BG := za0.mk hbox; clear hb hbox hg; have hcg : w2.cell? ⟨gb, 0, none⟩ = some (.slice A0 l.length c0) := (zl0 BG.out 0).trans rfl) | (go_at_call 31; refine (impl_actorOn.calls k l s _ _ _ _ rot true _ (Kd.C_alloc (Kd.C_below HR0.out HB.out) _) HC0.out (lit_row (Kd.C_below HR2.out HB.out) HC2.out) A1.out).mono ?_; rintro e w3 ⟨Ba, rfl, hba, hb⟩; have n0_ := za0.mk (zh0 (zc0 HB.out _) hb); have n1_ := za0.mk (zm0 (zf0 BG.out _) hb); clear HB BG hcg hb; have HB := n0_; have BG := n1_; clear n0_ n1_; have hcg : w3.cell? ⟨gb, 0, none⟩ = some (.slice A0 l.length c0) := (zl0 BG.out 0).trans rfl; have BA := za0.mk (hba rfl).2; clear hba) | ((with_reducible refine zo0 (N := 25) rfl ?_); refine gate_guard (by rfl) ?_; refine Kd.R_lit (Kd.int .i64) _ 3 ?hg (N := 25) ?hd (xs := ([p] : List Int)) (inner := [.int .i64 p]) (ok := fun _ => True) (okp := fun _ => True) ?hr ?hp (fun _ hk => hk) trivial (Below.refl _ _) (Nat.le_refl _) (by simp) ?_; (case hd => rfl); (case hg => rfl); (case hr => first | (go_simp; done) | (go_simp; rfl)); (case hp => exact (Reps.one (show Kd.M (Kd.int .i64) _ _ _ p [.int .i64 p] from rfl) (Reps.none _ _))); intro v4 w4 ho hb hg_ hnew_; clear hg_ hnew_; have HP := za0.mk ho; have n0_ := za0.mk (zh0 HB.out hb); have n1_ := za0.mk (zm0 BA.out hb); clear HB BA BG hcg hb ho; have HB := n0_; have BA := n1_; clear n0_ n1_; obtain ⟨Ap, cp, ep⟩ := Kd.R_slice HP.out; subst ep) | (go_at_call 32; refine (impl_has.calls _ _ l _ _ [p] true _ (Kd.C_below HR0.out HB.out) HC0.out (Kd.R_reads' HP.out).2.2 (Kd.R_reads' HP.out).2.1 A2'.out).mono ?_; rintro e w5 ⟨rfl, hb⟩; have n0_ := za0.mk (zh0 HB.out hb); have n1_ := za0.mk (zm0 BA.out hb); clear HB BA hb HP; have HB := n0_; have BA := n1_; clear n0_ n1_) | (go_at_call 35; refine (slices_Clone_int_int.calls _ _ rot t _ (Kd.C_below HR2.out HB.out) HC2.out A5.out).mono ?_; rintro e w6 ⟨v1, rfl, ho, hb⟩; obtain ⟨nb, cap, e1, hnb, _, _⟩ := Kd.R_form ho (by have := HTL.out; have := HL.out; omega); subst e1; have RT := za0.mk (Kd.R_lower (Kd.R_mono (ok' := fun k => k = nb) (Kd.R_tight rfl ho) (fun k hk => by injection hk)) (zj0 HB.out)); have HCAP := za0.mk (Kd.R_reads' ho).2.1; have n0_ := za0.mk (zh0 HB.out hb); have n1_ := za0.mk (zm0 BA.out hb); clear HB BA hb ho hnb; have HB := n0_; have BA := n1_; clear n0_ n1_) | (go_at_call 34; refine (impl_actor_path.calls k l A0 c0 Ba nb t.length cap s t p 4000 q1 _ _ w w6 HR0.out HC0.out HB.out BA.out rfl HCAP.out RT.out A9.out).mono ?_; rintro e w7 ⟨v7, rfl, ho, _, hb, _⟩; have HO := za0.mk (Kd.R_mono ho (fun _ _ => trivial)); clear HB; have HB := za0.mk hb; clear ho hb))
     go_ret2
     exact ⟨_, by first | rfl | (simp; done), HO.out, HB.out⟩
    ·rw [if_neg htl] at h; exact absurd h (by simp)
   ·rw [if_neg hl0] at h; exact absurd h (by simp)
theorem impl_ArrivalPath.calls (k : Nat) (A0_0 : Option Addr) (c0_0 : Nat) (l0_0 : List (List Int)) (a1 : Int) (A2 : Option Addr) (c2 : Nat) (l2 : List Int) (a3 : Int) (r1 : List Int) (r2 : Bool) (w : World) (hr0_0 : Kd.C (Kd.slice 3 (Kd.int .i64)) w A0_0 l0_0.length l0_0) (hc0_0 : l0_0.length ≤ c0_0) (hr2 : Kd.C (Kd.int .i64) w A2 l2.length l2) (hc2 : l2.length ≤ c2) (h : impl_ArrivalPath.f k l0_0 a1 l2 a3 = some (r1, r2)) :
  Calls Try.prog 18 #[.agg #[.slice A0_0 l0_0.length c0_0], .int .i64 a1, .slice A2 l2.length c2, .int .i64 a3] w fun e w' => ∃ v0_ : Value, e = .returned (.tuple #[v0_, .bool r2]) ∧ Kd.R (Kd.int .i64) 3 w' w.heap.size (fun _ => True) v0_ r1 ∧ Below w.heap.size w w' := by
 exact impl_ArrivalPath.calls0 k A0_0 c0_0 l0_0 a1 A2 c2 l2 a3 r1 r2 w hr0_0 hc0_0 hr2 hc2 h
def laws_eqIntS.l0 : Nat → List Int → List Int → Int → Option (Bool)
 | 0, _, _, _ => none
 | k + 1, x0, x1, x5 => if x5 < (x0.length : Int) then (if 0 ≤ x5 then (if x5 < (x1.length : Int) then (if (rd x0 x5) = (rd x1 x5) then (laws_eqIntS.l0 k x0 x1 (wrap64 (x5 + 1))) else (some false)) else (none)) else (none)) else (some true)
def laws_eqIntS.f (k : Nat) (l0 : List Int) (l1 : List Int) : Option (Bool) := if (l0.length : Int) = (l1.length : Int) then (laws_eqIntS.l0 k l0 l1 0) else (some false)
set_option maxHeartbeats 8000000 in
set_option maxRecDepth 100000 in
theorem laws_eqIntS.calls (k : Nat) (A0 : Option Addr) (c0 : Nat) (l0 : List Int) (A1 : Option Addr) (c1 : Nat) (l1 : List Int) (r : Bool) (w : World) (hr0 : Kd.C (Kd.int .i64) w A0 l0.length l0) (hc0 : l0.length ≤ c0) (hr1 : Kd.C (Kd.int .i64) w A1 l1.length l1) (hc1 : l1.length ≤ c1) (h : laws_eqIntS.f k l0 l1 = some r) :
  Calls Try.prog 12 #[.slice A0 l0.length c0, .slice A1 l1.length c1] w fun e w' => e = .returned (.bool r) ∧ zx0 w w' := by
 have HR0 := za0.mk hr0
 have HC0 := za0.mk hc0
 clear hr0 hc0
 have HR1 := za0.mk hr1
 have HC1 := za0.mk hc1
 clear hr1 hc1
 have H : (if (l0.length : Int) = (l1.length : Int) then (laws_eqIntS.l0 k l0 l1 0) else (some false)) = some r := h
 clear h
 by_cases c3 : (l0.length : Int) = (l1.length : Int)
 ·rw [if_pos c3] at H
  have c3b0 : ((l0.length : Int) == (l1.length : Int)) = true := beq_iff_eq.mpr c3
  have c3b1 : ((l0.length : Int) != (l1.length : Int)) = false := bne_eq_false_iff_eq.mpr c3
  have c3b2 : (l0.length == l1.length) = true := by first | simpa using c3 | (simp at c3 ⊢; omega)
  clear c3
  have H' := za0.mk H
  clear H
  go_enter Try.func12, Try.ntmps12
  go_wp2
  repeat (go_quiet (fail); try go_wp2)
  go_loopg [5] k (fun kq v5 w' => ∃ (x5_1 : Int), v5 = .int .i64 x5_1 ∧ za0 (laws_eqIntS.l0 kq l0 l1 x5_1 = some r) ∧ za0 (kq ≤ k) ∧ zx0 w w')
  case atStart => exact ⟨(0), (by first | rfl | (simp; done) | (simp [*]; done)), H', ⟨Nat.le_refl _⟩, by repeat (first | exact zx0.refl _ | apply zx0.step)⟩
  case round =>
   clear H'
   try clear c1
   try clear p2
   try clear c3
   try clear c3b0
   try clear c3b1
   try clear c3b2
   obtain ⟨x5_1, rfl, HA, HK1, ⟨m1, rfl⟩⟩ := hrel
   cases gk with
   | zero => exact absurd HA.out (by simp [laws_eqIntS.l0])
   | succ k1 =>
    have H := HA.out
    clear HA
    simp only [laws_eqIntS.l0] at H
    by_cases c4 : x5_1 < (l0.length : Int)
    ·rw [if_pos c4] at H
     have c4b0 : decide (x5_1 < (l0.length : Int)) = true := decide_eq_true c4
     clear c4
     by_cases c5 : 0 ≤ x5_1
     ·rw [if_pos c5] at H
      have c5b0 : decide (0 ≤ x5_1) = true := decide_eq_true c5
      clear c5
      by_cases c6 : x5_1 < (l1.length : Int)
      ·rw [if_pos c6] at H
       have c6b0 : decide (x5_1 < (l1.length : Int)) = true := decide_eq_true c6
       clear c6
       by_cases c7 : (rd l0 x5_1) = (rd l1 x5_1)
       ·rw [if_pos c7] at H
        have c7b0 : ((rd l0 x5_1) == (rd l1 x5_1)) = true := beq_iff_eq.mpr c7
        have c7b1 : ((rd l0 x5_1) != (rd l1 x5_1)) = false := bne_eq_false_iff_eq.mpr c7
        clear c7
        have H' := za0.mk H
        clear H
        have p401 : 0 ≤ (x5_1 : Int) := of_decide_eq_true (by first | (with_reducible assumption) | assumption)
        have q401 : x5_1 < (l0.length : Int) := of_decide_eq_true (by first | (with_reducible assumption) | assumption)
        obtain ⟨ad401, e401, hx401_0⟩ := Kd.at_int HR0.out x5_1 p401 q401
        cases e401
        replace p401 := eq_true p401
        replace q401 := eq_true q401
        have p402 : 0 ≤ (x5_1 : Int) := of_decide_eq_true (by first | (with_reducible assumption) | assumption)
        have q402 : x5_1 < (l1.length : Int) := of_decide_eq_true (by first | (with_reducible assumption) | assumption)
        obtain ⟨ad402, e402, hx402_0⟩ := Kd.at_int HR1.out x5_1 p402 q402
        cases e402
        replace p402 := eq_true p402
        replace q402 := eq_true q402
        go_wp2
        repeat (go_quiet (fail); try go_wp2)
        go_roundg k1
        case measure => have := HK1.out; omega
        case rel => exact ⟨(wrap64 (x5_1 + 1)), (by first | rfl | (simp; done) | (simp [*]; done)), H', ⟨by have := HK1.out; omega⟩, by repeat (first | exact zx0.refl _ | apply zx0.step)⟩
       ·rw [if_neg c7] at H
        have c7b0 : ((rd l0 x5_1) == (rd l1 x5_1)) = false := beq_eq_false_iff_ne.mpr c7
        have c7b1 : ((rd l0 x5_1) != (rd l1 x5_1)) = true := bne_iff_ne.mpr c7
        obtain rfl := Option.some.inj H
        have p401 : 0 ≤ (x5_1 : Int) := of_decide_eq_true (by first | (with_reducible assumption) | assumption)
        have q401 : x5_1 < (l0.length : Int) := of_decide_eq_true (by first | (with_reducible assumption) | assumption)
        obtain ⟨ad401, e401, hx401_0⟩ := Kd.at_int HR0.out x5_1 p401 q401
        cases e401
        replace p401 := eq_true p401
        replace q401 := eq_true q401
        have p402 : 0 ≤ (x5_1 : Int) := of_decide_eq_true (by first | (with_reducible assumption) | assumption)
        have q402 : x5_1 < (l1.length : Int) := of_decide_eq_true (by first | (with_reducible assumption) | assumption)
        obtain ⟨ad402, e402, hx402_0⟩ := Kd.at_int HR1.out x5_1 p402 q402
        cases e402
        replace p402 := eq_true p402
        replace q402 := eq_true q402
        go_wp2
        repeat (go_quiet (fail); try go_wp2)
        go_ret
        exact ⟨by first | rfl | (simp; done) | (simp [*]; done), by repeat (first | exact zx0.refl _ | apply zx0.step)⟩
      ·rw [if_neg c6] at H
       exact absurd H (by simp)
     ·rw [if_neg c5] at H
      exact absurd H (by simp)
    ·rw [if_neg c4] at H
     have c4b0 : decide (x5_1 < (l0.length : Int)) = false := decide_eq_false c4
     clear c4
     obtain rfl := Option.some.inj H
     go_wp2
     repeat (go_quiet (fail); try go_wp2)
     go_ret
     exact ⟨by first | rfl | (simp; done) | (simp [*]; done), by repeat (first | exact zx0.refl _ | apply zx0.step)⟩
 ·rw [if_neg c3] at H
  have c3b0 : ((l0.length : Int) == (l1.length : Int)) = false := beq_eq_false_iff_ne.mpr c3
  have c3b1 : ((l0.length : Int) != (l1.length : Int)) = true := bne_iff_ne.mpr c3
  have c3b2 : (l0.length == l1.length) = false := by first | simpa using c3 | (simp at c3 ⊢; omega)
  obtain rfl := Option.some.inj H
  go_enter Try.func12, Try.ntmps12
  go_wp2
  repeat (go_quiet (fail); try go_wp2)
  go_ret
  exact ⟨by first | rfl | (simp; done) | (simp [*]; done), by repeat (first | exact zx0.refl _ | apply zx0.step)⟩
def laws_eqIntSS.l0 : Nat → List (List Int) → List (List Int) → Int → Option (Bool)
 | 0, _, _, _ => none
 | k + 1, x0, x1, x5 => if x5 < (x0.length : Int) then (if 0 ≤ x5 then (if x5 < (x1.length : Int) then ((laws_eqIntS.f k (rd_L1 x0 x5) (rd_L1 x1 x5)).bind fun t405 => (if t405 = true then (laws_eqIntSS.l0 k x0 x1 (wrap64 (x5 + 1))) else (some false))) else (none)) else (none)) else (some true)
def laws_eqIntSS.f (k : Nat) (l0 : List (List Int)) (l1 : List (List Int)) : Option (Bool) := if (l0.length : Int) = (l1.length : Int) then (laws_eqIntSS.l0 k l0 l1 0) else (some false)
set_option maxHeartbeats 8000000 in
set_option maxRecDepth 100000 in
theorem laws_eqIntSS.calls (k : Nat) (A0 : Option Addr) (c0 : Nat) (l0 : List (List Int)) (A1 : Option Addr) (c1 : Nat) (l1 : List (List Int)) (r : Bool) (w : World) (hr0 : Kd.C (Kd.slice 3 (Kd.int .i64)) w A0 l0.length l0) (hc0 : l0.length ≤ c0) (hr1 : Kd.C (Kd.slice 3 (Kd.int .i64)) w A1 l1.length l1) (hc1 : l1.length ≤ c1) (h : laws_eqIntSS.f k l0 l1 = some r) :
  Calls Try.prog 21 #[.slice A0 l0.length c0, .slice A1 l1.length c1] w fun e w' => e = .returned (.bool r) ∧ zx0 w w' := by
 have HR0 := za0.mk hr0
 have HC0 := za0.mk hc0
 clear hr0 hc0
 have HR1 := za0.mk hr1
 have HC1 := za0.mk hc1
 clear hr1 hc1
 have H : (if (l0.length : Int) = (l1.length : Int) then (laws_eqIntSS.l0 k l0 l1 0) else (some false)) = some r := h
 clear h
 by_cases c3 : (l0.length : Int) = (l1.length : Int)
 ·rw [if_pos c3] at H
  have c3b0 : ((l0.length : Int) == (l1.length : Int)) = true := beq_iff_eq.mpr c3
  have c3b1 : ((l0.length : Int) != (l1.length : Int)) = false := bne_eq_false_iff_eq.mpr c3
  have c3b2 : (l0.length == l1.length) = true := by first | simpa using c3 | (simp at c3 ⊢; omega)
  clear c3
  have H' := za0.mk H
  clear H
  go_enter Try.func21, Try.ntmps21
  go_wp2
  repeat (go_quiet (fail); try go_wp2)
  go_loopg [5] k (fun kq v5 w' => ∃ (x5_1 : Int), v5 = .int .i64 x5_1 ∧ za0 (laws_eqIntSS.l0 kq l0 l1 x5_1 = some r) ∧ za0 (kq ≤ k) ∧ zx0 w w')
  case atStart => exact ⟨(0), (by first | rfl | (simp; done) | (simp [*]; done)), H', ⟨Nat.le_refl _⟩, by repeat (first | exact zx0.refl _ | apply zx0.step)⟩
  case round =>
   clear H'
   try clear c1
   try clear c2
   try clear p2
   try clear c3
   try clear c3b0
   try clear c3b1
   try clear c3b2
   obtain ⟨x5_1, rfl, HA, HK1, ⟨m1, rfl⟩⟩ := hrel
   cases gk with
   | zero => exact absurd HA.out (by simp [laws_eqIntSS.l0])
   | succ k1 =>
    have H := HA.out
    clear HA
    simp only [laws_eqIntSS.l0] at H
    by_cases c4 : x5_1 < (l0.length : Int)
    ·rw [if_pos c4] at H
     have c4b0 : decide (x5_1 < (l0.length : Int)) = true := decide_eq_true c4
     clear c4
     by_cases c5 : 0 ≤ x5_1
     ·rw [if_pos c5] at H
      have c5b0 : decide (0 ≤ x5_1) = true := decide_eq_true c5
      clear c5
      by_cases c6 : x5_1 < (l1.length : Int)
      ·rw [if_pos c6] at H
       have c6b0 : decide (x5_1 < (l1.length : Int)) = true := decide_eq_true c6
       clear c6
       replace H := Option.bind_eq_some_iff.mp H
       obtain ⟨t405, A70, H⟩ := H
       replace H : (if t405 = true then (laws_eqIntSS.l0 k1 l0 l1 (wrap64 (x5_1 + 1))) else (some false)) = some r := H
       have A7 := za0.mk A70
       clear A70
       by_cases c8 : t405 = true
       ·subst c8
        have H1 : (laws_eqIntSS.l0 k1 l0 l1 (wrap64 (x5_1 + 1))) = some r := by rw [if_pos rfl] at H; exact H
        clear H
        have H := H1
        clear H1
        have H' := za0.mk H
        clear H
        have p403 : 0 ≤ (x5_1 : Int) := of_decide_eq_true (by first | (with_reducible assumption) | assumption)
        have q403 : x5_1 < (l0.length : Int) := of_decide_eq_true (by first | (with_reducible assumption) | assumption)
        obtain ⟨ad403, A403_0, c403_0, e403, hx403_0, hl403_0, hi403_0⟩ := at_L1 HR0.out x5_1 p403 q403
        cases e403
        have HR403_0 := za0.mk hi403_0
        have HC403_0 := za0.mk hl403_0
        clear hi403_0 hl403_0
        replace p403 := eq_true p403
        replace q403 := eq_true q403
        have p404 : 0 ≤ (x5_1 : Int) := of_decide_eq_true (by first | (with_reducible assumption) | assumption)
        have q404 : x5_1 < (l1.length : Int) := of_decide_eq_true (by first | (with_reducible assumption) | assumption)
        obtain ⟨ad404, A404_0, c404_0, e404, hx404_0, hl404_0, hi404_0⟩ := at_L1 HR1.out x5_1 p404 q404
        cases e404
        have HR404_0 := za0.mk hi404_0
        have HC404_0 := za0.mk hl404_0
        clear hi404_0 hl404_0
        replace p404 := eq_true p404
        replace q404 := eq_true q404
        go_wp2_with (first | (go_at_call 12; (with_reducible refine (laws_eqIntS.calls k1 _ _ (rd_L1 l0 x5_1) _ _ (rd_L1 l1 x5_1) true _ ?side1 ?side2 ?side3 ?side4 A7.out).mono ?_); (case side1 => repeat (first | exact HR403_0.out | (with_reducible refine Kd.C_alloc ?_ _) | (with_reducible refine Kd.C_drewN ?_ _) | (with_reducible refine Kd.C_drew ?_))); (case side2 => exact HC403_0.out); (case side3 => repeat (first | exact HR404_0.out | (with_reducible refine Kd.C_alloc ?_ _) | (with_reducible refine Kd.C_drewN ?_ _) | (with_reducible refine Kd.C_drew ?_))); (case side4 => exact HC404_0.out); rintro e w' ⟨rfl, ⟨nd, rfl⟩⟩; (try first | exact ⟨rfl, _, World.drewN_drewN _ _ _⟩ | exact ⟨rfl, _, Eq.trans (World.drewN_drewN _ _ _) (congrArg (World.drewN _) (Nat.add_assoc _ _ _))⟩)))
        repeat (go_quiet (first | (go_at_call 12; (with_reducible refine (laws_eqIntS.calls k1 _ _ (rd_L1 l0 x5_1) _ _ (rd_L1 l1 x5_1) true _ ?side1 ?side2 ?side3 ?side4 A7.out).mono ?_); (case side1 => repeat (first | exact HR403_0.out | (with_reducible refine Kd.C_alloc ?_ _) | (with_reducible refine Kd.C_drewN ?_ _) | (with_reducible refine Kd.C_drew ?_))); (case side2 => exact HC403_0.out); (case side3 => repeat (first | exact HR404_0.out | (with_reducible refine Kd.C_alloc ?_ _) | (with_reducible refine Kd.C_drewN ?_ _) | (with_reducible refine Kd.C_drew ?_))); (case side4 => exact HC404_0.out); rintro e w' ⟨rfl, ⟨nd, rfl⟩⟩; (try first | exact ⟨rfl, _, World.drewN_drewN _ _ _⟩ | exact ⟨rfl, _, Eq.trans (World.drewN_drewN _ _ _) (congrArg (World.drewN _) (Nat.add_assoc _ _ _))⟩))); try go_wp2_with (first | (go_at_call 12; (with_reducible refine (laws_eqIntS.calls k1 _ _ (rd_L1 l0 x5_1) _ _ (rd_L1 l1 x5_1) true _ ?side1 ?side2 ?side3 ?side4 A7.out).mono ?_); (case side1 => repeat (first | exact HR403_0.out | (with_reducible refine Kd.C_alloc ?_ _) | (with_reducible refine Kd.C_drewN ?_ _) | (with_reducible refine Kd.C_drew ?_))); (case side2 => exact HC403_0.out); (case side3 => repeat (first | exact HR404_0.out | (with_reducible refine Kd.C_alloc ?_ _) | (with_reducible refine Kd.C_drewN ?_ _) | (with_reducible refine Kd.C_drew ?_))); (case side4 => exact HC404_0.out); rintro e w' ⟨rfl, ⟨nd, rfl⟩⟩; (try first | exact ⟨rfl, _, World.drewN_drewN _ _ _⟩ | exact ⟨rfl, _, Eq.trans (World.drewN_drewN _ _ _) (congrArg (World.drewN _) (Nat.add_assoc _ _ _))⟩))))
        go_roundg k1
        case measure => have := HK1.out; omega
        case rel => exact ⟨(wrap64 (x5_1 + 1)), (by first | rfl | (simp; done) | (simp [*]; done)), H', ⟨by have := HK1.out; omega⟩, by repeat (first | exact zx0.refl _ | apply zx0.step)⟩
       ·replace c8 := Bool.eq_false_iff.mpr c8
        subst c8
        have H1 : (some false) = some r := by rw [if_neg (show ¬ (false = true) by decide)] at H; exact H
        clear H
        have H := H1
        clear H1
        obtain rfl := Option.some.inj H
        have p403 : 0 ≤ (x5_1 : Int) := of_decide_eq_true (by first | (with_reducible assumption) | assumption)
        have q403 : x5_1 < (l0.length : Int) := of_decide_eq_true (by first | (with_reducible assumption) | assumption)
        obtain ⟨ad403, A403_0, c403_0, e403, hx403_0, hl403_0, hi403_0⟩ := at_L1 HR0.out x5_1 p403 q403
        cases e403
        have HR403_0 := za0.mk hi403_0
        have HC403_0 := za0.mk hl403_0
        clear hi403_0 hl403_0
        replace p403 := eq_true p403
        replace q403 := eq_true q403
        have p404 : 0 ≤ (x5_1 : Int) := of_decide_eq_true (by first | (with_reducible assumption) | assumption)
        have q404 : x5_1 < (l1.length : Int) := of_decide_eq_true (by first | (with_reducible assumption) | assumption)
        obtain ⟨ad404, A404_0, c404_0, e404, hx404_0, hl404_0, hi404_0⟩ := at_L1 HR1.out x5_1 p404 q404
        cases e404
        have HR404_0 := za0.mk hi404_0
        have HC404_0 := za0.mk hl404_0
        clear hi404_0 hl404_0
        replace p404 := eq_true p404
        replace q404 := eq_true q404
        go_wp2_with (first | (go_at_call 12; (with_reducible refine (laws_eqIntS.calls k1 _ _ (rd_L1 l0 x5_1) _ _ (rd_L1 l1 x5_1) false _ ?side1 ?side2 ?side3 ?side4 A7.out).mono ?_); (case side1 => repeat (first | exact HR403_0.out | (with_reducible refine Kd.C_alloc ?_ _) | (with_reducible refine Kd.C_drewN ?_ _) | (with_reducible refine Kd.C_drew ?_))); (case side2 => exact HC403_0.out); (case side3 => repeat (first | exact HR404_0.out | (with_reducible refine Kd.C_alloc ?_ _) | (with_reducible refine Kd.C_drewN ?_ _) | (with_reducible refine Kd.C_drew ?_))); (case side4 => exact HC404_0.out); rintro e w' ⟨rfl, ⟨nd, rfl⟩⟩; (try first | exact ⟨rfl, _, World.drewN_drewN _ _ _⟩ | exact ⟨rfl, _, Eq.trans (World.drewN_drewN _ _ _) (congrArg (World.drewN _) (Nat.add_assoc _ _ _))⟩)))
        repeat (go_quiet (first | (go_at_call 12; (with_reducible refine (laws_eqIntS.calls k1 _ _ (rd_L1 l0 x5_1) _ _ (rd_L1 l1 x5_1) false _ ?side1 ?side2 ?side3 ?side4 A7.out).mono ?_); (case side1 => repeat (first | exact HR403_0.out | (with_reducible refine Kd.C_alloc ?_ _) | (with_reducible refine Kd.C_drewN ?_ _) | (with_reducible refine Kd.C_drew ?_))); (case side2 => exact HC403_0.out); (case side3 => repeat (first | exact HR404_0.out | (with_reducible refine Kd.C_alloc ?_ _) | (with_reducible refine Kd.C_drewN ?_ _) | (with_reducible refine Kd.C_drew ?_))); (case side4 => exact HC404_0.out); rintro e w' ⟨rfl, ⟨nd, rfl⟩⟩; (try first | exact ⟨rfl, _, World.drewN_drewN _ _ _⟩ | exact ⟨rfl, _, Eq.trans (World.drewN_drewN _ _ _) (congrArg (World.drewN _) (Nat.add_assoc _ _ _))⟩))); try go_wp2_with (first | (go_at_call 12; (with_reducible refine (laws_eqIntS.calls k1 _ _ (rd_L1 l0 x5_1) _ _ (rd_L1 l1 x5_1) false _ ?side1 ?side2 ?side3 ?side4 A7.out).mono ?_); (case side1 => repeat (first | exact HR403_0.out | (with_reducible refine Kd.C_alloc ?_ _) | (with_reducible refine Kd.C_drewN ?_ _) | (with_reducible refine Kd.C_drew ?_))); (case side2 => exact HC403_0.out); (case side3 => repeat (first | exact HR404_0.out | (with_reducible refine Kd.C_alloc ?_ _) | (with_reducible refine Kd.C_drewN ?_ _) | (with_reducible refine Kd.C_drew ?_))); (case side4 => exact HC404_0.out); rintro e w' ⟨rfl, ⟨nd, rfl⟩⟩; (try first | exact ⟨rfl, _, World.drewN_drewN _ _ _⟩ | exact ⟨rfl, _, Eq.trans (World.drewN_drewN _ _ _) (congrArg (World.drewN _) (Nat.add_assoc _ _ _))⟩))))
        go_ret
        exact ⟨by first | rfl | (simp; done) | (simp [*]; done), by repeat (first | exact zx0.refl _ | apply zx0.step)⟩
      ·rw [if_neg c6] at H
       exact absurd H (by simp)
     ·rw [if_neg c5] at H
      exact absurd H (by simp)
    ·rw [if_neg c4] at H
     have c4b0 : decide (x5_1 < (l0.length : Int)) = false := decide_eq_false c4
     clear c4
     obtain rfl := Option.some.inj H
     go_wp2
     repeat (go_quiet (fail); try go_wp2)
     go_ret
     exact ⟨by first | rfl | (simp; done) | (simp [*]; done), by repeat (first | exact zx0.refl _ | apply zx0.step)⟩
 ·rw [if_neg c3] at H
  have c3b0 : ((l0.length : Int) == (l1.length : Int)) = false := beq_eq_false_iff_ne.mpr c3
  have c3b1 : ((l0.length : Int) != (l1.length : Int)) = true := bne_iff_ne.mpr c3
  have c3b2 : (l0.length == l1.length) = false := by first | simpa using c3 | (simp at c3 ⊢; omega)
  obtain rfl := Option.some.inj H
  go_enter Try.func21, Try.ntmps21
  go_wp2
  repeat (go_quiet (fail); try go_wp2)
  go_ret
  exact ⟨by first | rfl | (simp; done) | (simp [*]; done), by repeat (first | exact zx0.refl _ | apply zx0.step)⟩
def laws_eqGraph.f (k : Nat) (l0_0 : List (List Int)) (l1_0 : List (List Int)) : Option (Bool) := (laws_eqIntSS.f k l0_0 l1_0).bind fun t408 => (if t408 = true then (some true) else (some false))
set_option maxHeartbeats 8000000 in
set_option maxRecDepth 100000 in
theorem laws_eqGraph.calls (k : Nat) (A0_0 : Option Addr) (c0_0 : Nat) (l0_0 : List (List Int)) (A1_0 : Option Addr) (c1_0 : Nat) (l1_0 : List (List Int)) (r : Bool) (w : World) (hr0_0 : Kd.C (Kd.slice 3 (Kd.int .i64)) w A0_0 l0_0.length l0_0) (hc0_0 : l0_0.length ≤ c0_0) (hr1_0 : Kd.C (Kd.slice 3 (Kd.int .i64)) w A1_0 l1_0.length l1_0) (hc1_0 : l1_0.length ≤ c1_0) (h : laws_eqGraph.f k l0_0 l1_0 = some r) :
  Calls Try.prog 13 #[.agg #[.slice A0_0 l0_0.length c0_0], .agg #[.slice A1_0 l1_0.length c1_0]] w fun e w' => e = .returned (.bool r) ∧ Below w.heap.size w w' := by
 have hu29 := Try.underlying29
 have HR0_0 := za0.mk hr0_0
 have HC0_0 := za0.mk hc0_0
 clear hr0_0 hc0_0
 have HR1_0 := za0.mk hr1_0
 have HC1_0 := za0.mk hc1_0
 clear hr1_0 hc1_0
 have HB := za0.mk (Below.refl w.heap.size w)
 have H : ((laws_eqIntSS.f k l0_0 l1_0).bind fun t408 => (if t408 = true then (some true) else (some false))) = some r := h
 clear h
 replace H := Option.bind_eq_some_iff.mp H
 obtain ⟨t408, A30, H⟩ := H
 replace H : (if t408 = true then (some true) else (some false)) = some r := H
 have A3 := za0.mk A30
 clear A30
 by_cases c4 : t408 = true
 ·subst c4
  have H1 : (some true) = some r := by rw [if_pos rfl] at H; exact H
  clear H
  have H := H1
  clear H1
  obtain rfl := Option.some.inj H
  go_enter Try.func13, Try.ntmps13
  go_wp2_with (first | ((with_reducible refine zo0 (N := 2) rfl ?_); refine zp0 ?hg (N := 2) ?hd (cs := #[.slice A0_0 l0_0.length c0_0]) (t := 29) ?hr ?_; (case hd => rfl); (case hg => rfl); (case hr => first | (go_simp; done) | (go_simp; rfl)); intro gb406 hg w5 hbox hb; have n0_ := za0.mk (zh0 (by repeat (first | (with_reducible first | exact HB.out | apply zc0 | apply zb0 | apply zd0) | exact HB.out)) hb); have n1_ := za0.mk (hbox); have n2_ := za0.mk ((by rw [hg]; exact (zj0 (by repeat (first | (with_reducible first | exact HB.out | apply zc0 | apply zb0 | apply zd0) | exact HB.out))) : w.heap.size ≤ gb406)); have n3_ := za0.mk ((by rw [hg]; exact (zj0 (by repeat (first | (with_reducible first | exact HB.out | apply zc0 | apply zb0 | apply zd0) | exact HB.out))) : w.heap.size ≤ gb406)); clear HB; have HB := n0_; have BK406 := n1_; have GW406 := n2_; have GE406 := n3_; clear n0_ n1_ n2_ n3_; clear hb hbox hg) | ((with_reducible refine zo0 (N := 3) rfl ?_); refine zp0 ?hg (N := 3) ?hd (cs := #[.slice A1_0 l1_0.length c1_0]) (t := 29) ?hr ?_; (case hd => rfl); (case hg => rfl); (case hr => first | (go_simp; done) | (go_simp; rfl)); intro gb407 hg w6 hbox hb; have n0_ := za0.mk (zm0 (g := gb406) (o := .cells #[.slice A0_0 l0_0.length c0_0] 29 (0, 0)) (by (with_reducible repeat (first | refine zg0 ?_ _ | refine zi0 ?_ | refine zf0 ?_ _)); exact BK406.out) hb); have n1_ := za0.mk (zh0 (by repeat (first | (with_reducible first | exact HB.out | apply zc0 | apply zb0 | apply zd0 | refine ze0 ?_ GE406.out) | exact HB.out)) hb); have n2_ := za0.mk (hbox); have n3_ := za0.mk ((by rw [hg]; exact (zj0 (by repeat (first | (with_reducible first | exact HB.out | apply zc0 | apply zb0 | apply zd0 | refine ze0 ?_ GE406.out) | exact HB.out))) : w.heap.size ≤ gb407)); have n4_ := za0.mk ((by rw [hg]; exact (zj0 (by repeat (first | (with_reducible first | exact HB.out | apply zc0 | apply zb0 | apply zd0 | refine ze0 ?_ GE406.out) | exact HB.out))) : w.heap.size ≤ gb407)); have n5_ := za0.mk ((by rw [hg]; exact Nat.ne_of_lt (blk_lt (g := gb406) (o := .cells #[.slice A0_0 l0_0.length c0_0] 29 (0, 0)) (by (with_reducible repeat (first | refine zg0 ?_ _ | refine zi0 ?_ | refine zf0 ?_ _)); exact BK406.out)) : gb406 ≠ gb407)); have n6_ := za0.mk ((by rw [hg]; exact Nat.ne_of_gt (blk_lt (g := gb406) (o := .cells #[.slice A0_0 l0_0.length c0_0] 29 (0, 0)) (by (with_reducible repeat (first | refine zg0 ?_ _ | refine zi0 ?_ | refine zf0 ?_ _)); exact BK406.out)) : gb407 ≠ gb406)); clear BK406; clear HB; have BK406 := n0_; have HB := n1_; have BK407 := n2_; have GW407 := n3_; have GE407 := n4_; have NB406_407 := n5_; have NB407_406 := n6_; clear n0_ n1_ n2_ n3_ n4_ n5_ n6_; clear hb hbox hg; have hnb7 := NB406_407.out; have hnc7 := NB407_406.out; have hcz8_0 : w6.cell? ⟨gb406, 0, none⟩ = some (.slice A0_0 l0_0.length c0_0) := (zl0 BK406.out 0).trans rfl; have hfz8_0 := zk0 BK406.out 0; have hcz9_0 : w6.cell? ⟨gb407, 0, none⟩ = some (.slice A1_0 l1_0.length c1_0) := (zl0 BK407.out 0).trans rfl; have hfz9_0 := zk0 BK407.out 0) | ((with_reducible refine zn0 (f := 21) rfl ?_); refine goesL_ (some 9) rfl rfl Try.func21 (by kernel_rfl) rfl #[.slice A0_0 l0_0.length c0_0, .slice A1_0 l1_0.length c1_0] rfl (by (try simp only [List.map_toArray, List.map_cons, List.map_nil]); first | done | rfl | (simp only [List.length_drop, List.length_take]; rfl)) ?_; (with_reducible refine (laws_eqIntSS.calls k _ _ l0_0 _ _ l1_0 true _ ?side1 ?side2 ?side3 ?side4 A3.out).mono ?_); (case side1 => repeat (first | exact (Kd.C_below HR0_0.out HB.out) | (with_reducible refine Kd.C_alloc ?_ _) | (with_reducible refine Kd.C_drewN ?_ _) | (with_reducible refine Kd.C_drew ?_))); (case side2 => exact HC0_0.out); (case side3 => repeat (first | exact (Kd.C_below HR1_0.out HB.out) | (with_reducible refine Kd.C_alloc ?_ _) | (with_reducible refine Kd.C_drewN ?_ _) | (with_reducible refine Kd.C_drew ?_))); (case side4 => exact HC1_0.out); rintro e w' ⟨rfl, ⟨nd, rfl⟩⟩; refine ⟨_, rfl, ?_⟩))
  go_ret
  exact ⟨by first | rfl | (simp [errW_none, errW_some] <;> rfl) | (simp [*, errW_none, errW_some] <;> rfl), by repeat (first | (with_reducible first | exact HB.out | apply zc0 | apply zb0 | apply zd0 | refine ze0 ?_ GE406.out | refine ze0 ?_ GE407.out) | exact HB.out)⟩
 ·replace c4 := Bool.eq_false_iff.mpr c4
  subst c4
  have H1 : (some false) = some r := by rw [if_neg (show ¬ (false = true) by decide)] at H; exact H
  clear H
  have H := H1
  clear H1
  obtain rfl := Option.some.inj H
  go_enter Try.func13, Try.ntmps13
  go_wp2_with (first | ((with_reducible refine zo0 (N := 2) rfl ?_); refine zp0 ?hg (N := 2) ?hd (cs := #[.slice A0_0 l0_0.length c0_0]) (t := 29) ?hr ?_; (case hd => rfl); (case hg => rfl); (case hr => first | (go_simp; done) | (go_simp; rfl)); intro gb406 hg w10 hbox hb; have n0_ := za0.mk (zh0 (by repeat (first | (with_reducible first | exact HB.out | apply zc0 | apply zb0 | apply zd0) | exact HB.out)) hb); have n1_ := za0.mk (hbox); have n2_ := za0.mk ((by rw [hg]; exact (zj0 (by repeat (first | (with_reducible first | exact HB.out | apply zc0 | apply zb0 | apply zd0) | exact HB.out))) : w.heap.size ≤ gb406)); have n3_ := za0.mk ((by rw [hg]; exact (zj0 (by repeat (first | (with_reducible first | exact HB.out | apply zc0 | apply zb0 | apply zd0) | exact HB.out))) : w.heap.size ≤ gb406)); clear HB; have HB := n0_; have BK406 := n1_; have GW406 := n2_; have GE406 := n3_; clear n0_ n1_ n2_ n3_; clear hb hbox hg) | ((with_reducible refine zo0 (N := 3) rfl ?_); refine zp0 ?hg (N := 3) ?hd (cs := #[.slice A1_0 l1_0.length c1_0]) (t := 29) ?hr ?_; (case hd => rfl); (case hg => rfl); (case hr => first | (go_simp; done) | (go_simp; rfl)); intro gb407 hg w11 hbox hb; have n0_ := za0.mk (zm0 (g := gb406) (o := .cells #[.slice A0_0 l0_0.length c0_0] 29 (0, 0)) (by (with_reducible repeat (first | refine zg0 ?_ _ | refine zi0 ?_ | refine zf0 ?_ _)); exact BK406.out) hb); have n1_ := za0.mk (zh0 (by repeat (first | (with_reducible first | exact HB.out | apply zc0 | apply zb0 | apply zd0 | refine ze0 ?_ GE406.out) | exact HB.out)) hb); have n2_ := za0.mk (hbox); have n3_ := za0.mk ((by rw [hg]; exact (zj0 (by repeat (first | (with_reducible first | exact HB.out | apply zc0 | apply zb0 | apply zd0 | refine ze0 ?_ GE406.out) | exact HB.out))) : w.heap.size ≤ gb407)); have n4_ := za0.mk ((by rw [hg]; exact (zj0 (by repeat (first | (with_reducible first | exact HB.out | apply zc0 | apply zb0 | apply zd0 | refine ze0 ?_ GE406.out) | exact HB.out))) : w.heap.size ≤ gb407)); have n5_ := za0.mk ((by rw [hg]; exact Nat.ne_of_lt (blk_lt (g := gb406) (o := .cells #[.slice A0_0 l0_0.length c0_0] 29 (0, 0)) (by (with_reducible repeat (first | refine zg0 ?_ _ | refine zi0 ?_ | refine zf0 ?_ _)); exact BK406.out)) : gb406 ≠ gb407)); have n6_ := za0.mk ((by rw [hg]; exact Nat.ne_of_gt (blk_lt (g := gb406) (o := .cells #[.slice A0_0 l0_0.length c0_0] 29 (0, 0)) (by (with_reducible repeat (first | refine zg0 ?_ _ | refine zi0 ?_ | refine zf0 ?_ _)); exact BK406.out)) : gb407 ≠ gb406)); clear BK406; clear HB; have BK406 := n0_; have HB := n1_; have BK407 := n2_; have GW407 := n3_; have GE407 := n4_; have NB406_407 := n5_; have NB407_406 := n6_; clear n0_ n1_ n2_ n3_ n4_ n5_ n6_; clear hb hbox hg; have hnb12 := NB406_407.out; have hnc12 := NB407_406.out; have hcz13_0 : w11.cell? ⟨gb406, 0, none⟩ = some (.slice A0_0 l0_0.length c0_0) := (zl0 BK406.out 0).trans rfl; have hfz13_0 := zk0 BK406.out 0; have hcz14_0 : w11.cell? ⟨gb407, 0, none⟩ = some (.slice A1_0 l1_0.length c1_0) := (zl0 BK407.out 0).trans rfl; have hfz14_0 := zk0 BK407.out 0) | ((with_reducible refine zn0 (f := 21) rfl ?_); refine goesL_ (some 9) rfl rfl Try.func21 (by kernel_rfl) rfl #[.slice A0_0 l0_0.length c0_0, .slice A1_0 l1_0.length c1_0] rfl (by (try simp only [List.map_toArray, List.map_cons, List.map_nil]); first | done | rfl | (simp only [List.length_drop, List.length_take]; rfl)) ?_; (with_reducible refine (laws_eqIntSS.calls k _ _ l0_0 _ _ l1_0 false _ ?side1 ?side2 ?side3 ?side4 A3.out).mono ?_); (case side1 => repeat (first | exact (Kd.C_below HR0_0.out HB.out) | (with_reducible refine Kd.C_alloc ?_ _) | (with_reducible refine Kd.C_drewN ?_ _) | (with_reducible refine Kd.C_drew ?_))); (case side2 => exact HC0_0.out); (case side3 => repeat (first | exact (Kd.C_below HR1_0.out HB.out) | (with_reducible refine Kd.C_alloc ?_ _) | (with_reducible refine Kd.C_drewN ?_ _) | (with_reducible refine Kd.C_drew ?_))); (case side4 => exact HC1_0.out); rintro e w' ⟨rfl, ⟨nd, rfl⟩⟩; refine ⟨_, rfl, ?_⟩))
  go_ret
  exact ⟨by first | rfl | (simp [errW_none, errW_some] <;> rfl) | (simp [*, errW_none, errW_some] <;> rfl), by repeat (first | (with_reducible first | exact HB.out | apply zc0 | apply zb0 | apply zd0 | refine ze0 ?_ GE406.out | refine ze0 ?_ GE407.out) | exact HB.out)⟩
def laws_heldIntS.l0 : Nat → List Int → Int → Int → Option (Int)
 | 0, _, _, _ => none
 | k + 1, x0, x1, x5 => if x5 < (x0.length : Int) then (if 0 ≤ x5 then (if (rd x0 x5) = x1 then (laws_heldIntS.l0 k x0 (wrap64 (x1 + 1)) (wrap64 (x5 + 1))) else (some (-1))) else (none)) else (some x1)
def laws_heldIntS.f (k : Nat) (l0 : List Int) (a1 : Int) : Option (Int) := laws_heldIntS.l0 k l0 a1 0
set_option maxHeartbeats 8000000 in
set_option maxRecDepth 100000 in
theorem laws_heldIntS.calls (k : Nat) (A0 : Option Addr) (c0 : Nat) (l0 : List Int) (a1 : Int) (r : Int) (w : World) (hr0 : Kd.C (Kd.int .i64) w A0 l0.length l0) (hc0 : l0.length ≤ c0) (h : laws_heldIntS.f k l0 a1 = some r) :
  Calls Try.prog 16 #[.slice A0 l0.length c0, .int .i64 a1] w fun e w' => e = .returned (.int .i64 r) ∧ zx0 w w' := by
 have HR0 := za0.mk hr0
 have HC0 := za0.mk hc0
 clear hr0 hc0
 have H : (laws_heldIntS.l0 k l0 a1 0) = some r := h
 clear h
 have H' := za0.mk H
 clear H
 go_enter Try.func16, Try.ntmps16
 go_wp2
 go_loopg [1, 5] k (fun kq v1 v5 w' => ∃ (x1_1 : Int) (x5_1 : Int), v1 = .int .i64 x1_1 ∧ v5 = .int .i64 x5_1 ∧ za0 (laws_heldIntS.l0 kq l0 x1_1 x5_1 = some r) ∧ za0 (kq ≤ k) ∧ zx0 w w')
 case atStart => exact ⟨(a1), (0), (by first | rfl | (simp; done) | (simp [*]; done)), (by first | rfl | (simp; done) | (simp [*]; done)), H', ⟨Nat.le_refl _⟩, by repeat (first | exact zx0.refl _ | apply zx0.step)⟩
 case round =>
  clear H'
  try clear c1
  try clear p2
  obtain ⟨x1_1, x5_1, rfl, rfl, HA, HK1, ⟨m1, rfl⟩⟩ := hrel
  cases gk with
  | zero => exact absurd HA.out (by simp [laws_heldIntS.l0])
  | succ k1 =>
   have H := HA.out
   clear HA
   simp only [laws_heldIntS.l0] at H
   by_cases c3 : x5_1 < (l0.length : Int)
   ·rw [if_pos c3] at H
    have c3b0 : decide (x5_1 < (l0.length : Int)) = true := decide_eq_true c3
    clear c3
    by_cases c4 : 0 ≤ x5_1
    ·rw [if_pos c4] at H
     have c4b0 : decide (0 ≤ x5_1) = true := decide_eq_true c4
     clear c4
     by_cases c5 : (rd l0 x5_1) = x1_1
     ·rw [if_pos c5] at H
      have c5b0 : ((rd l0 x5_1) == x1_1) = true := beq_iff_eq.mpr c5
      have c5b1 : ((rd l0 x5_1) != x1_1) = false := bne_eq_false_iff_eq.mpr c5
      clear c5
      have H' := za0.mk H
      clear H
      have p410 : 0 ≤ (x5_1 : Int) := of_decide_eq_true (by first | (with_reducible assumption) | assumption)
      have q410 : x5_1 < (l0.length : Int) := of_decide_eq_true (by first | (with_reducible assumption) | assumption)
      obtain ⟨ad410, e410, hx410_0⟩ := Kd.at_int HR0.out x5_1 p410 q410
      cases e410
      replace p410 := eq_true p410
      replace q410 := eq_true q410
      go_wp2
      go_roundg k1
      case measure => have := HK1.out; omega
      case rel => exact ⟨(wrap64 (x1_1 + 1)), (wrap64 (x5_1 + 1)), (by first | rfl | (simp; done) | (simp [*]; done)), (by first | rfl | (simp; done) | (simp [*]; done)), H', ⟨by have := HK1.out; omega⟩, by repeat (first | exact zx0.refl _ | apply zx0.step)⟩
     ·rw [if_neg c5] at H
      have c5b0 : ((rd l0 x5_1) == x1_1) = false := beq_eq_false_iff_ne.mpr c5
      have c5b1 : ((rd l0 x5_1) != x1_1) = true := bne_iff_ne.mpr c5
      obtain rfl := Option.some.inj H
      have p410 : 0 ≤ (x5_1 : Int) := of_decide_eq_true (by first | (with_reducible assumption) | assumption)
      have q410 : x5_1 < (l0.length : Int) := of_decide_eq_true (by first | (with_reducible assumption) | assumption)
      obtain ⟨ad410, e410, hx410_0⟩ := Kd.at_int HR0.out x5_1 p410 q410
      cases e410
      replace p410 := eq_true p410
      replace q410 := eq_true q410
      go_wp2
      go_ret
      exact ⟨by first | rfl | (simp; done) | (simp [*]; done), by repeat (first | exact zx0.refl _ | apply zx0.step)⟩
    ·rw [if_neg c4] at H
     exact absurd H (by simp)
   ·rw [if_neg c3] at H
    have c3b0 : decide (x5_1 < (l0.length : Int)) = false := decide_eq_false c3
    clear c3
    obtain rfl := Option.some.inj H
    go_wp2
    go_ret
    exact ⟨by first | rfl | (simp; done) | (simp [*]; done), by repeat (first | exact zx0.refl _ | apply zx0.step)⟩
def laws_markIntS.l0 : Nat → List Int → Int → Int → Option (Int × List Int)
 | 0, _, _, _ => none
 | k + 1, x0, x1, x5 => if x5 < (x0.length : Int) then (if 0 ≤ x5 then (laws_markIntS.l0 k (x0.set (x5 : Int).toNat x1) (wrap64 (x1 + 1)) (wrap64 (x5 + 1))) else (none)) else (some (x1, x0))
def laws_markIntS.f (k : Nat) (l0 : List Int) (a1 : Int) : Option (Int × List Int) := laws_markIntS.l0 k l0 a1 0
set_option maxHeartbeats 8000000 in
set_option maxRecDepth 100000 in
theorem laws_markIntS.calls (k : Nat) (P0_ : Nat → Prop) (u9000_ : Value) (l0 : List Int) (a1 : Int) (r1 : Int) (r2 : List Int) (w0 w : World) (hB : Below w0.heap.size w0 w) (ho0 : Kd.R (Kd.int .i64) 3 w w0.heap.size P0_ u9000_ l0) (h : laws_markIntS.f k l0 a1 = some (r1, r2)) :
  Calls Try.prog 15 #[u9000_, .int .i64 a1] w fun e w' => e = .returned (.int .i64 r1) ∧ Kd.R (Kd.int .i64) 3 w' w0.heap.size (fun k_ => (P0_ k_ ∨ w.heap.size ≤ k_)) u9000_ r2 ∧ Below w0.heap.size w0 w' ∧ Kept w w' (fun k_ => P0_ k_) := by
 have HO0 := za0.mk (show Kd.R (Kd.int .i64) 3 w w0.heap.size (fun k_ => (P0_ k_ ∨ w.heap.size ≤ k_)) u9000_ l0 from Kd.R_mono ho0 (fun k_ hk => (.inl hk)))
 have HK := za0.mk (Kept.refl w (fun k_ => P0_ k_))
 have HW0 := za0.mk hB.size
 have HB := za0.mk hB
 clear hB
 have H : (laws_markIntS.l0 k l0 a1 0) = some (r1, r2) := h
 clear h
 have H' := za0.mk H
 clear H
 go_enter Try.func15, Try.ntmps15
 go_wp2
 go_loopg [1, 5] k (fun kq v1 v5 w' => ∃ (x0_1 : List Int) (x1_1 : Int) (x5_1 : Int), v1 = .int .i64 x1_1 ∧ v5 = .int .i64 x5_1 ∧ za0 (laws_markIntS.l0 kq x0_1 x1_1 x5_1 = some (r1, r2)) ∧ za0 (kq ≤ k) ∧ za0 (Kd.R (Kd.int .i64) 3 w' w0.heap.size (fun k_ => (P0_ k_ ∨ w.heap.size ≤ k_)) u9000_ x0_1) ∧ za0 (Kept w w' (fun k_ => P0_ k_)) ∧ za0 (Below w0.heap.size w0 w'))
 case atStart => exact ⟨(l0), (a1), (0), (by first | rfl | (simp; done) | (simp [*]; done)), (by first | rfl | (simp; done) | (simp [*]; done)), H', ⟨Nat.le_refl _⟩, ⟨by (with_reducible repeat (first | apply Kd.R_alloc | apply Kd.R_drewN | apply Kd.R_drew)); exact HO0.out⟩, ⟨by repeat (first | (with_reducible first | exact HK.out | apply Kept.alloc | apply Kept.drewN | apply Kept.drew) | exact HK.out)⟩, ⟨by repeat (first | (with_reducible first | exact HB.out | apply zc0 | apply zb0 | apply zd0) | exact HB.out)⟩⟩
 case round =>
  clear H'
  try clear c1
  try clear p2
  obtain ⟨x0_1, x1_1, x5_1, rfl, rfl, HA, HK1, HO_0, HK, HB⟩ := hrel
  cases gk with
  | zero => exact absurd HA.out (by simp [laws_markIntS.l0])
  | succ k1 =>
   have H := HA.out
   clear HA
   simp only [laws_markIntS.l0] at H
   by_cases c3 : x5_1 < (x0_1.length : Int)
   ·rw [if_pos c3] at H
    have c3b0 : decide (x5_1 < (x0_1.length : Int)) = true := decide_eq_true c3
    clear c3
    by_cases c4 : 0 ≤ x5_1
    ·rw [if_pos c4] at H
     have c4b0 : decide (0 ≤ x5_1) = true := decide_eq_true c4
     clear c4
     obtain ⟨y409, hy409⟩ : ∃ y_ : List Int, y_ = (x0_1.set (x5_1 : Int).toNat x1_1) := ⟨_, rfl⟩
     replace H : (laws_markIntS.l0 k1 y409 (wrap64 (x1_1 + 1)) (wrap64 (x5_1 + 1))) = some (r1, r2) := by first | (rw [hy409]; with_reducible exact H) | (have H2_ := (Option.bind_some _ _).symm.trans H; rw [hy409]; with_reducible exact H2_) | (have H2_ := (Option.bind_some _ _).symm.trans H; with_reducible exact H2_) | with_reducible exact H | (rw [hy409]; exact H) | exact H
     have Ny409 := za0.mk hy409
     clear hy409
     have H' := za0.mk H
     clear H
     obtain ⟨Ao6, co6, eo6⟩ := Kd.R_slice HO_0.out
     subst eo6
     have p5 : 0 ≤ (x5_1 : Int) := of_decide_eq_true (by first | (with_reducible assumption) | assumption)
     have q5 : (x5_1 : Int) < ((x0_1.length : Int) : Int) := of_decide_eq_true (by first | (with_reducible assumption) | assumption)
     obtain ⟨go5, co5, eo5, gb5, gl5, cl5, HG5⟩ := Kd.R_form HO_0.out (by omega)
     (first | cases eo5 | (injection eo5 with ea_ en_ ec_; (first | subst ea_ | (injection ea_ with ea_; subst ea_)); subst ec_; clear en_))
     have GB5 := za0.mk gb5
     have GG5 := za0.mk HG5
     clear gb5 gl5 HG5
     have HMgo5 := za0.mk (show (P0_ go5 ∨ w.heap.size ≤ go5) from (HO_0.out.1 _ rfl))
     obtain ⟨hx5_0, hf5_0⟩ := Kd.R_celln 0 HO_0.out (x5_1 : Int) p5 q5
     replace p5 := eq_true p5
     replace q5 := eq_true q5
     have HP7 := Kd.R_putg HO_0.out (x5_1 : Int) x1_1
     go_wp2_with (first | ((with_reducible refine gate_store (t := 3) (p := 15) rfl ?_); refine store_event (t := 3) (p := 15) (v := ?vo_w8) (w1 := (wr.setCell ⟨go5, (x5_1 : Int).toNat, none⟩ (.int .i64 x1_1))) ?hg ?ho ?hn ?hr ?_; (case ho => rfl); (case hg => rfl); (case hn => rfl); (case hr => first | (go_simp; done) | (go_simp; rfl)); intro w8 hw; have hg : wr.grownBy w8 (some go5) := (by rw [hw]; exact HP7.2); have hp_ : Kd.R (Kd.int .i64) 3 w8 w0.heap.size (fun k_ => (P0_ k_ ∨ w.heap.size ≤ k_)) (.slice (some ⟨go5, 0, none⟩) x0_1.length co6) y409 := (by rw [hw, Ny409.out]; exact HP7.1); clear HP7; have n0_ := za0.mk (hp_); have n1_ := za0.mk ((by rw [hw]; exact ze0 (HB.out) GB5.out : Below w0.heap.size w0 w8)); have n2_ := za0.mk (Kept.of_grown (S := (fun k_ => P0_ k_)) hg (by repeat (first | (with_reducible first | exact HK.out | apply Kept.alloc | apply Kept.drewN | apply Kept.drew) | exact HK.out)) (fun k_ e_ => (HO_0.out.1 k_ e_))); clear HO_0; clear HB; clear HK; have HO_0 := n0_; have HB := n1_; have HK := n2_; clear n0_ n1_ n2_; clear hg hw hp_))
     go_roundg k1
     case measure => have := HK1.out; omega
     case rel => exact ⟨(y409), (wrap64 (x1_1 + 1)), (wrap64 (x5_1 + 1)), (by first | rfl | (simp; done) | (simp [*]; done)), (by first | rfl | (simp; done) | (simp [*]; done)), H', ⟨by have := HK1.out; omega⟩, ⟨by (with_reducible repeat (first | apply Kd.R_alloc | apply Kd.R_drewN | apply Kd.R_drew)); exact HO_0.out⟩, ⟨by repeat (first | (with_reducible first | exact HK.out | apply Kept.alloc | apply Kept.drewN | apply Kept.drew) | exact HK.out)⟩, ⟨by repeat (first | (with_reducible first | exact HB.out | apply zc0 | apply zb0 | apply zd0) | exact HB.out)⟩⟩
    ·rw [if_neg c4] at H
     exact absurd H (by simp)
   ·rw [if_neg c3] at H
    have c3b0 : decide (x5_1 < (x0_1.length : Int)) = false := decide_eq_false c3
    clear c3
    simp only [Option.some.injEq, Prod.mk.injEq] at H
    obtain ⟨rfl, rfl⟩ := H
    obtain ⟨Ao9, co9, eo9⟩ := Kd.R_slice HO_0.out
    subst eo9
    go_wp2
    go_ret
    exact ⟨by first | rfl | (simp [errW_none, errW_some] <;> rfl) | (simp [*, errW_none, errW_some] <;> rfl), by (with_reducible repeat (first | apply Kd.R_alloc | apply Kd.R_drewN | apply Kd.R_drew)); exact HO_0.out, by repeat (first | (with_reducible first | exact HB.out | apply zc0 | apply zb0 | apply zd0) | exact HB.out), by repeat (first | (with_reducible first | exact HK.out | apply Kept.alloc | apply Kept.drewN | apply Kept.drew) | exact HK.out)⟩
def laws_markIntSS.l0 : Nat → List (List Int) → Int → Int → Option (Int × List (List Int))
 | 0, _, _, _ => none
 | k + 1, xs, a, i => if i < (xs.length : Int) then (if 0 ≤ i then ((laws_markIntS.f k (rd_L1 xs i) a).bind fun t => laws_markIntSS.l0 k (xs.set i.toNat t.2) t.1 (wrap64 (i + 1))) else none) else some (a, xs)
def laws_markIntSS.f (k : Nat) (l0 : List (List Int)) (a1 : Int) : Option (Int × List (List Int)) := laws_markIntSS.l0 k l0 a1 0
set_option maxHeartbeats 8000000 in
set_option maxRecDepth 100000 in
theorem laws_markIntSS.calls (k : Nat) (P0_ : Nat → Prop) (u0_ : Value) (l0 : List (List Int)) (a1 : Int) (r1 : Int) (r2 : List (List Int)) (w0 w : World) (hB : Below w0.heap.size w0 w) (ho0 : Kd.S (Kd.slice 3 (Kd.int .i64)) 25 w w0.heap.size P0_ u0_ l0) (h : laws_markIntSS.f k l0 a1 = some (r1, r2)) :
  Calls Try.prog 22 #[u0_, .int .i64 a1] w fun e w' => e = .returned (.int .i64 r1) ∧ Kd.S (Kd.slice 3 (Kd.int .i64)) 25 w' w0.heap.size P0_ u0_ r2 ∧ Below w0.heap.size w0 w' ∧ Kept w w' P0_ := by
 obtain ⟨A, c, rfl⟩ := Kd.S_slice ho0
 have HO0 := za0.mk ho0
 have HB := za0.mk hB
 have HK := za0.mk (Kept.refl w P0_)
 clear ho0 hB
 have H' := za0.mk (show laws_markIntSS.l0 k l0 a1 0 = some (r1, r2) from h)
 clear h
 go_enter Try.func22, Try.ntmps22
 go_wp2
 go_loopg [1, 5] k (fun kq v1 v5 w' => ∃ (xs : List (List Int)) (x1 : Int) (x5 : Int), v1 = .int .i64 x1 ∧ v5 = .int .i64 x5 ∧ za0 (laws_markIntSS.l0 kq xs x1 x5 = some (r1, r2)) ∧ za0 (kq ≤ k) ∧ za0 (xs.length = l0.length) ∧ za0 (Kd.S (Kd.slice 3 (Kd.int .i64)) 25 w' w0.heap.size P0_ (.slice A l0.length c) xs) ∧ za0 (Kept w w' P0_) ∧ za0 (Below w0.heap.size w0 w'))
 case atStart => exact ⟨l0, a1, 0, rfl, rfl, H', ⟨Nat.le_refl _⟩, ⟨rfl⟩, ⟨by (with_reducible repeat (first | apply Kd.S_alloc | apply Kd.S_drewN | apply Kd.S_drew)); exact HO0.out⟩, ⟨by repeat (first | (with_reducible first | exact HK.out | apply Kept.alloc | apply Kept.drewN | apply Kept.drew) | exact HK.out)⟩, ⟨by repeat (first | (with_reducible first | exact HB.out | apply zc0 | apply zb0 | apply zd0) | exact HB.out)⟩⟩
 case round =>
  clear H' HO0 HB HK
  obtain ⟨xs, x1, x5, rfl, rfl, HA, HK1, HL, HO, HK, HB⟩ := hrel
  cases gk with
  | zero => exact absurd HA.out (by simp [laws_markIntSS.l0])
  | succ k1 =>
   have H := HA.out
   clear HA
   simp only [laws_markIntSS.l0] at H
   by_cases c3 : x5 < (xs.length : Int)
   ·rw [if_pos c3] at H
    rw [HL.out] at c3
    have c3b0 : decide (x5 < (l0.length : Int)) = true := decide_eq_true c3
    by_cases c4 : 0 ≤ x5
    ·rw [if_pos c4] at H
     have c4b0 : decide (0 ≤ x5) = true := decide_eq_true c4
     replace H := Option.bind_eq_some_iff.mp H
     obtain ⟨⟨t1, t2⟩, A5, H⟩ := H
     have A5 := za0.mk A5
     have H' := za0.mk H
     clear H
     obtain ⟨g, cc, eo, gb, gl, cl, HG⟩ := Kd.S_form HO.out (by have := HL.out; omega)
     (first | cases eo | (injection eo with ea_ en_ ec_; (first | subst ea_ | (injection ea_ with ea_; subst ea_)); subst ec_; clear en_))
     clear gb gl HG
     obtain ⟨oki, cs, hcl, hM, hcc, hoki, hH⟩ := Kd.S_lend HO.out ([] : List Int) x5 c4 c3
     obtain ⟨ev, rfl, hR⟩ := hM
     have hx0 : wr.cell? ⟨g, x5.toNat, none⟩ = some ev := by have := hcc 0 ev rfl; simpa [Kd.slice] using this
     have hfr : wr.frozen? ⟨g, x5.toNat, none⟩ = false := by
      obtain ⟨_, _, _, _, hfr⟩ := Kd.R_elem (Kd.S_R HO.out) ([] : List Int) x5 c4 c3
      have := hfr 0; simpa [Kd.slice] using this
     have HR := za0.mk (show Kd.R (Kd.int .i64) 3 wr w0.heap.size oki ev (rd_L1 xs x5) from hR)
     have HH := za0.mk hH
     have HI := za0.mk hoki
     clear hH hR hcc hcl HO
     obtain ⟨Ae, ce, ee⟩ := Kd.R_slice HR.out
     subst ee
     go_wp2_with (first | ((with_reducible refine zn0 (f := 15) rfl ?_); refine goesL_ (some 17) rfl rfl Try.func15 (by kernel_rfl) rfl #[.slice Ae (rd_L1 xs x5).length ce, .int .i64 x1] rfl (by (try simp only [List.map_toArray, List.map_cons, List.map_nil]); first | done | rfl | (simp only [List.length_drop, List.length_take]; rfl)) ?_; (with_reducible refine (laws_markIntS.calls k1 oki _ (rd_L1 xs x5) x1 t1 t2 w0 _ ?side1 ?side2 A5.out).mono ?_); (case side1 => repeat (first | (with_reducible first | exact HB.out | apply zc0 | apply zb0 | apply zd0) | exact HB.out)); (case side2 => (with_reducible repeat (first | apply Kd.R_alloc | apply Kd.R_drewN | apply Kd.R_drew)); exact HR.out); rintro e w5 ⟨rfl, ho, hb, hk⟩; refine ⟨_, rfl, ?_⟩; have hk2 : Kept wr w5 oki := Kept.then_ (by repeat (first | (with_reducible first | exact Kept.refl _ _ | apply Kept.alloc | apply Kept.drewN | apply Kept.drew) | exact Kept.refl _ _)) hk (fun _ h => .inl h); have n0_ := za0.mk (Kd.H_back (Kd.H_kept HH.out hk2 (fun _ _ hn hs => hn hs)) (okp := oki) (x' := t2) ⟨_, rfl, Kd.R_mono (Kd.R_tight rfl ho) (fun k_ hk_ => HR.out.1 k_ hk_.symm)⟩ (fun _ h => h)); have n1_ := za0.mk hb; have n2_ := za0.mk (show Kept w w5 P0_ from Kept.then_ HK.out hk2 (fun k_ h_ => .inl (HI.out k_ h_).1)); clear HB HK HH HR; have HO := n0_; have HB := n1_; have HK := n2_; clear n0_ n1_ n2_; clear hk2 hk hb ho))
     go_roundg k1
     case measure => have := HK1.out; omega
     case rel => exact ⟨_, t1, (wrap64 (x5 + 1)), (by first | rfl | (simp; done) | (simp [*]; done)), (by first | rfl | (simp; done) | (simp [*]; done)), H', ⟨by have := HK1.out; omega⟩, ⟨by rw [List.length_set]; exact HL.out⟩, ⟨by (with_reducible repeat (first | apply Kd.S_alloc | apply Kd.S_drewN | apply Kd.S_drew)); exact HO.out⟩, ⟨by repeat (first | (with_reducible first | exact HK.out | apply Kept.alloc | apply Kept.drewN | apply Kept.drew) | exact HK.out)⟩, ⟨by repeat (first | (with_reducible first | exact HB.out | apply zc0 | apply zb0 | apply zd0) | exact HB.out)⟩⟩
    ·rw [if_neg c4] at H
     exact absurd H (by simp)
   ·rw [if_neg c3] at H
    rw [HL.out] at c3
    have c3b0 : decide (x5 < (l0.length : Int)) = false := decide_eq_false c3
    simp only [Option.some.injEq, Prod.mk.injEq] at H
    obtain ⟨rfl, rfl⟩ := H
    go_wp2
    go_ret
    exact ⟨by first | rfl | (simp; done), by (with_reducible repeat (first | apply Kd.S_alloc | apply Kd.S_drewN | apply Kd.S_drew)); exact HO.out, by repeat (first | (with_reducible first | exact HB.out | apply zc0 | apply zb0 | apply zd0) | exact HB.out), by repeat (first | (with_reducible first | exact HK.out | apply Kept.alloc | apply Kept.drewN | apply Kept.drew) | exact HK.out)⟩
def laws_markGraph.f (k : Nat) (l0 : List (List Int)) (a1 : Int) : Option (Int × List (List Int)) := laws_markIntSS.f k l0 a1
set_option maxHeartbeats 8000000 in
set_option maxRecDepth 100000 in
theorem laws_markGraph.calls (k : Nat) (P0_ : Nat → Prop) (u0_ : Value) (l0 : List (List Int)) (a1 : Int) (r1 : Int) (r2 : List (List Int)) (w0 w : World) (hB : Below w0.heap.size w0 w) (ho0 : Kd.S (Kd.slice 3 (Kd.int .i64)) 25 w w0.heap.size P0_ u0_ l0) (h : laws_markGraph.f k l0 a1 = some (r1, r2)) :
  Calls Try.prog 14 #[.agg #[u0_], .int .i64 a1] w fun e w' => e = .returned (.int .i64 r1) ∧ Kd.S (Kd.slice 3 (Kd.int .i64)) 25 w' w0.heap.size P0_ u0_ r2 ∧ Below w0.heap.size w0 w' ∧ Kept w w' P0_ := by
 have hu := Try.underlying29
 obtain ⟨A, c, rfl⟩ := Kd.S_slice ho0
 have HO0 := za0.mk ho0
 have HB := za0.mk hB
 clear ho0 hB
 have HA := za0.mk (show laws_markIntSS.f k l0 a1 = some (r1, r2) from h)
 clear h
 go_enter Try.func14, Try.ntmps14
 go_wp2_with ((with_reducible refine zn0 (f := 22) rfl ?_); refine goesL_ (some 8) rfl rfl Try.func22 (by kernel_rfl) rfl #[.slice A l0.length c, .int .i64 a1] rfl (by (try simp only [List.map_toArray, List.map_cons, List.map_nil]); first | done | rfl) ?_; (with_reducible refine (laws_markIntSS.calls k P0_ _ l0 a1 r1 r2 w0 _ ?side1 ?side2 HA.out).mono ?_); (case side1 => repeat (first | (with_reducible first | exact HB.out | apply zc0 | apply zb0 | apply zd0) | exact HB.out)); (case side2 => (with_reducible repeat (first | apply Kd.S_alloc | apply Kd.S_drewN | apply Kd.S_drew)); exact HO0.out); rintro e w5 ⟨rfl, ho, hb, hk⟩; refine ⟨_, rfl, ?_⟩; have n0_ := za0.mk ho; have n1_ := za0.mk hb; have n2_ := za0.mk (show Kept w w5 P0_ from Kept.then_ (by repeat (first | (with_reducible first | exact Kept.refl _ _ | apply Kept.alloc | apply Kept.drewN | apply Kept.drew) | exact Kept.refl _ _)) hk (fun _ h => .inl h)); clear ho hb hk HB HO0)
 go_ret
 exact ⟨by first | rfl | (simp; done), by (with_reducible repeat (first | apply Kd.S_alloc | apply Kd.S_drewN | apply Kd.S_drew)); exact n0_.out, by repeat (first | (with_reducible first | exact n1_.out | apply zc0 | apply zb0 | apply zd0) | exact n1_.out), by repeat (first | (with_reducible first | exact n2_.out | apply Kept.alloc | apply Kept.drewN | apply Kept.drew) | exact n2_.out)⟩
def laws_szIntS.f (l0 : List Int) (a1 : Int) : Option (Int) := if (wrap64 (a1 - (l0.length : Int))) < 0 then (some (-1)) else (some (wrap64 (a1 - (l0.length : Int))))
set_option maxHeartbeats 8000000 in
set_option maxRecDepth 100000 in
theorem laws_szIntS.calls (A0 : Option Addr) (c0 : Nat) (l0 : List Int) (a1 : Int) (r : Int) (w : World) (hr0 : Kd.C (Kd.int .i64) w A0 l0.length l0) (hc0 : l0.length ≤ c0) (h : laws_szIntS.f l0 a1 = some r) :
  Calls Try.prog 41 #[.slice A0 l0.length c0, .int .i64 a1] w fun e w' => e = .returned (.int .i64 r) ∧ zx0 w w' := by
 have HR0 := za0.mk hr0
 have HC0 := za0.mk hc0
 clear hr0 hc0
 have H : (if (wrap64 (a1 - (l0.length : Int))) < 0 then (some (-1)) else (some (wrap64 (a1 - (l0.length : Int))))) = some r := h
 clear h
 by_cases c3 : (wrap64 (a1 - (l0.length : Int))) < 0
 ·rw [if_pos c3] at H
  have c3b0 : decide ((wrap64 (a1 - (l0.length : Int))) < 0) = true := decide_eq_true c3
  clear c3
  obtain rfl := Option.some.inj H
  go_enter Try.func41, Try.ntmps41
  go_wp2
  go_ret
  exact ⟨by first | rfl | (simp; done) | (simp [*]; done), by repeat (first | exact zx0.refl _ | apply zx0.step)⟩
 ·rw [if_neg c3] at H
  have c3b0 : decide ((wrap64 (a1 - (l0.length : Int))) < 0) = false := decide_eq_false c3
  clear c3
  obtain rfl := Option.some.inj H
  go_enter Try.func41, Try.ntmps41
  go_wp2
  go_ret
  exact ⟨by first | rfl | (simp; done) | (simp [*]; done), by repeat (first | exact zx0.refl _ | apply zx0.step)⟩
def laws_szIntSS.l0 : Nat → List (List Int) → Int → Int → Option (Int)
 | 0, _, _, _ => none
 | k + 1, x0, x1, x5 => if x5 < (x0.length : Int) then (if 0 ≤ x5 then ((laws_szIntS.f (rd_L1 x0 x5) x1).bind fun t379 => (if t379 < 0 then (some (-1)) else (laws_szIntSS.l0 k x0 t379 (wrap64 (x5 + 1))))) else (none)) else (some x1)
def laws_szIntSS.f (k : Nat) (l0 : List (List Int)) (a1 : Int) : Option (Int) := if (wrap64 (a1 - (l0.length : Int))) < 0 then (some (-1)) else (laws_szIntSS.l0 k l0 (wrap64 (a1 - (l0.length : Int))) 0)
set_option maxHeartbeats 8000000 in
set_option maxRecDepth 100000 in
theorem laws_szIntSS.calls (k : Nat) (A0 : Option Addr) (c0 : Nat) (l0 : List (List Int)) (a1 : Int) (r : Int) (w : World) (hr0 : Kd.C (Kd.slice 3 (Kd.int .i64)) w A0 l0.length l0) (hc0 : l0.length ≤ c0) (h : laws_szIntSS.f k l0 a1 = some r) :
  Calls Try.prog 26 #[.slice A0 l0.length c0, .int .i64 a1] w fun e w' => e = .returned (.int .i64 r) ∧ zx0 w w' := by
 have HR0 := za0.mk hr0
 have HC0 := za0.mk hc0
 clear hr0 hc0
 have H : (if (wrap64 (a1 - (l0.length : Int))) < 0 then (some (-1)) else (laws_szIntSS.l0 k l0 (wrap64 (a1 - (l0.length : Int))) 0)) = some r := h
 clear h
 by_cases c3 : (wrap64 (a1 - (l0.length : Int))) < 0
 ·rw [if_pos c3] at H
  have c3b0 : decide ((wrap64 (a1 - (l0.length : Int))) < 0) = true := decide_eq_true c3
  clear c3
  obtain rfl := Option.some.inj H
  go_enter Try.func26, Try.ntmps26
  go_wp2
  go_ret
  exact ⟨by first | rfl | (simp; done) | (simp [*]; done), by repeat (first | exact zx0.refl _ | apply zx0.step)⟩
 ·rw [if_neg c3] at H
  have c3b0 : decide ((wrap64 (a1 - (l0.length : Int))) < 0) = false := decide_eq_false c3
  clear c3
  have H' := za0.mk H
  clear H
  go_enter Try.func26, Try.ntmps26
  go_wp2
  go_loopg [1, 5] k (fun kq v1 v5 w' => ∃ (x1_1 : Int) (x5_1 : Int), v1 = .int .i64 x1_1 ∧ v5 = .int .i64 x5_1 ∧ za0 (laws_szIntSS.l0 kq l0 x1_1 x5_1 = some r) ∧ za0 (kq ≤ k) ∧ zx0 w w')
  case atStart => exact ⟨(wrap64 (a1 - (l0.length : Int))), (0), (by first | rfl | (simp; done) | (simp [*]; done)), (by first | rfl | (simp; done) | (simp [*]; done)), H', ⟨Nat.le_refl _⟩, by repeat (first | exact zx0.refl _ | apply zx0.step)⟩
  case round =>
   clear H'
   try clear c2
   try clear p2
   try clear c3
   try clear c3b0
   obtain ⟨x1_1, x5_1, rfl, rfl, HA, HK1, ⟨m1, rfl⟩⟩ := hrel
   cases gk with
   | zero => exact absurd HA.out (by simp [laws_szIntSS.l0])
   | succ k1 =>
    have H := HA.out
    clear HA
    simp only [laws_szIntSS.l0] at H
    by_cases c4 : x5_1 < (l0.length : Int)
    ·rw [if_pos c4] at H
     have c4b0 : decide (x5_1 < (l0.length : Int)) = true := decide_eq_true c4
     clear c4
     by_cases c5 : 0 ≤ x5_1
     ·rw [if_pos c5] at H
      have c5b0 : decide (0 ≤ x5_1) = true := decide_eq_true c5
      clear c5
      replace H := Option.bind_eq_some_iff.mp H
      obtain ⟨t379, A60, H⟩ := H
      replace H : (if t379 < 0 then (some (-1)) else (laws_szIntSS.l0 k1 l0 t379 (wrap64 (x5_1 + 1)))) = some r := H
      have A6 := za0.mk A60
      clear A60
      by_cases c7 : t379 < 0
      ·rw [if_pos c7] at H
       have c7b0 : decide (t379 < 0) = true := decide_eq_true c7
       clear c7
       obtain rfl := Option.some.inj H
       have p378 : 0 ≤ (x5_1 : Int) := of_decide_eq_true (by first | (with_reducible assumption) | assumption)
       have q378 : x5_1 < (l0.length : Int) := of_decide_eq_true (by first | (with_reducible assumption) | assumption)
       obtain ⟨ad378, A378_0, c378_0, e378, hx378_0, hl378_0, hi378_0⟩ := at_L1 HR0.out x5_1 p378 q378
       cases e378
       have HR378_0 := za0.mk hi378_0
       have HC378_0 := za0.mk hl378_0
       clear hi378_0 hl378_0
       replace p378 := eq_true p378
       replace q378 := eq_true q378
       go_wp2_with (first | ((with_reducible refine zn0 (f := 41) rfl ?_); refine goesL_ (some 23) rfl rfl Try.func41 (by kernel_rfl) rfl #[.slice A378_0 (rd_L1 l0 x5_1).length c378_0, .int .i64 x1_1] rfl (by (try simp only [List.map_toArray, List.map_cons, List.map_nil]); first | done | rfl | (simp only [List.length_drop, List.length_take]; rfl)) ?_; (with_reducible refine (laws_szIntS.calls _ _ (rd_L1 l0 x5_1) x1_1 t379 _ ?side1 ?side2 A6.out).mono ?_); (case side1 => repeat (first | exact HR378_0.out | (with_reducible refine Kd.C_alloc ?_ _) | (with_reducible refine Kd.C_drewN ?_ _) | (with_reducible refine Kd.C_drew ?_))); (case side2 => exact HC378_0.out); rintro e w' ⟨rfl, ⟨nd, rfl⟩⟩; refine ⟨_, rfl, ?_⟩))
       go_ret
       exact ⟨by first | rfl | (simp; done) | (simp [*]; done), by repeat (first | exact zx0.refl _ | apply zx0.step)⟩
      ·rw [if_neg c7] at H
       have c7b0 : decide (t379 < 0) = false := decide_eq_false c7
       clear c7
       have H' := za0.mk H
       clear H
       have p378 : 0 ≤ (x5_1 : Int) := of_decide_eq_true (by first | (with_reducible assumption) | assumption)
       have q378 : x5_1 < (l0.length : Int) := of_decide_eq_true (by first | (with_reducible assumption) | assumption)
       obtain ⟨ad378, A378_0, c378_0, e378, hx378_0, hl378_0, hi378_0⟩ := at_L1 HR0.out x5_1 p378 q378
       cases e378
       have HR378_0 := za0.mk hi378_0
       have HC378_0 := za0.mk hl378_0
       clear hi378_0 hl378_0
       replace p378 := eq_true p378
       replace q378 := eq_true q378
       go_wp2_with (first | ((with_reducible refine zn0 (f := 41) rfl ?_); refine goesL_ (some 23) rfl rfl Try.func41 (by kernel_rfl) rfl #[.slice A378_0 (rd_L1 l0 x5_1).length c378_0, .int .i64 x1_1] rfl (by (try simp only [List.map_toArray, List.map_cons, List.map_nil]); first | done | rfl | (simp only [List.length_drop, List.length_take]; rfl)) ?_; (with_reducible refine (laws_szIntS.calls _ _ (rd_L1 l0 x5_1) x1_1 t379 _ ?side1 ?side2 A6.out).mono ?_); (case side1 => repeat (first | exact HR378_0.out | (with_reducible refine Kd.C_alloc ?_ _) | (with_reducible refine Kd.C_drewN ?_ _) | (with_reducible refine Kd.C_drew ?_))); (case side2 => exact HC378_0.out); rintro e w' ⟨rfl, ⟨nd, rfl⟩⟩; refine ⟨_, rfl, ?_⟩))
       go_roundg k1
       case measure => have := HK1.out; omega
       case rel => exact ⟨(t379), (wrap64 (x5_1 + 1)), (by first | rfl | (simp; done) | (simp [*]; done)), (by first | rfl | (simp; done) | (simp [*]; done)), H', ⟨by have := HK1.out; omega⟩, by repeat (first | exact zx0.refl _ | apply zx0.step)⟩
     ·rw [if_neg c5] at H
      exact absurd H (by simp)
    ·rw [if_neg c4] at H
     have c4b0 : decide (x5_1 < (l0.length : Int)) = false := decide_eq_false c4
     clear c4
     obtain rfl := Option.some.inj H
     go_wp2
     go_ret
     exact ⟨by first | rfl | (simp; done) | (simp [*]; done), by repeat (first | exact zx0.refl _ | apply zx0.step)⟩
def laws_szGraph.f (k : Nat) (l0_0 : List (List Int)) (a1 : Int) : Option (Int) := (laws_szIntSS.f k l0_0 a1).bind fun t381 => (if t381 < 0 then (some (-1)) else (some t381))
set_option maxHeartbeats 8000000 in
set_option maxRecDepth 100000 in
theorem laws_szGraph.calls (k : Nat) (A0_0 : Option Addr) (c0_0 : Nat) (l0_0 : List (List Int)) (a1 : Int) (r : Int) (w : World) (hr0_0 : Kd.C (Kd.slice 3 (Kd.int .i64)) w A0_0 l0_0.length l0_0) (hc0_0 : l0_0.length ≤ c0_0) (h : laws_szGraph.f k l0_0 a1 = some r) :
  Calls Try.prog 7 #[.agg #[.slice A0_0 l0_0.length c0_0], .int .i64 a1] w fun e w' => e = .returned (.int .i64 r) ∧ Below w.heap.size w w' := by
 have hu24 := Try.underlying24
 have HR0_0 := za0.mk hr0_0
 have HC0_0 := za0.mk hc0_0
 clear hr0_0 hc0_0
 have HB := za0.mk (Below.refl w.heap.size w)
 have H : ((laws_szIntSS.f k l0_0 a1).bind fun t381 => (if t381 < 0 then (some (-1)) else (some t381))) = some r := h
 clear h
 replace H := Option.bind_eq_some_iff.mp H
 obtain ⟨t381, A30, H⟩ := H
 replace H : (if t381 < 0 then (some (-1)) else (some t381)) = some r := H
 have A3 := za0.mk A30
 clear A30
 by_cases c4 : t381 < 0
 ·rw [if_pos c4] at H
  have c4b0 : decide (t381 < 0) = true := decide_eq_true c4
  clear c4
  obtain rfl := Option.some.inj H
  go_enter Try.func7, Try.ntmps7
  go_wp2_with (first | ((with_reducible refine zo0 (N := 2) rfl ?_); refine zp0 ?hg (N := 2) ?hd (cs := #[.slice A0_0 l0_0.length c0_0]) (t := 24) ?hr ?_; (case hd => rfl); (case hg => rfl); (case hr => first | (go_simp; done) | (go_simp; rfl)); intro gb380 hg w5 hbox hb; have n0_ := za0.mk (zh0 (by repeat (first | (with_reducible first | exact HB.out | apply zc0 | apply zb0 | apply zd0) | exact HB.out)) hb); have n1_ := za0.mk (hbox); have n2_ := za0.mk ((by rw [hg]; exact (zj0 (by repeat (first | (with_reducible first | exact HB.out | apply zc0 | apply zb0 | apply zd0) | exact HB.out))) : w.heap.size ≤ gb380)); have n3_ := za0.mk ((by rw [hg]; exact (zj0 (by repeat (first | (with_reducible first | exact HB.out | apply zc0 | apply zb0 | apply zd0) | exact HB.out))) : w.heap.size ≤ gb380)); clear HB; have HB := n0_; have BK380 := n1_; have GW380 := n2_; have GE380 := n3_; clear n0_ n1_ n2_ n3_; clear hb hbox hg; have hcz6_0 : w5.cell? ⟨gb380, 0, none⟩ = some (.slice A0_0 l0_0.length c0_0) := (zl0 BK380.out 0).trans rfl; have hfz6_0 := zk0 BK380.out 0) | ((with_reducible refine zn0 (f := 26) rfl ?_); refine goesL_ (some 8) rfl rfl Try.func26 (by kernel_rfl) rfl #[.slice A0_0 l0_0.length c0_0, .int .i64 a1] rfl (by (try simp only [List.map_toArray, List.map_cons, List.map_nil]); first | done | rfl | (simp only [List.length_drop, List.length_take]; rfl)) ?_; (with_reducible refine (laws_szIntSS.calls k _ _ l0_0 a1 t381 _ ?side1 ?side2 A3.out).mono ?_); (case side1 => repeat (first | exact (Kd.C_below HR0_0.out HB.out) | (with_reducible refine Kd.C_alloc ?_ _) | (with_reducible refine Kd.C_drewN ?_ _) | (with_reducible refine Kd.C_drew ?_))); (case side2 => exact HC0_0.out); rintro e w' ⟨rfl, ⟨nd, rfl⟩⟩; refine ⟨_, rfl, ?_⟩))
  go_ret
  exact ⟨by first | rfl | (simp [errW_none, errW_some] <;> rfl) | (simp [*, errW_none, errW_some] <;> rfl), by repeat (first | (with_reducible first | exact HB.out | apply zc0 | apply zb0 | apply zd0 | refine ze0 ?_ GE380.out) | exact HB.out)⟩
 ·rw [if_neg c4] at H
  have c4b0 : decide (t381 < 0) = false := decide_eq_false c4
  clear c4
  obtain rfl := Option.some.inj H
  go_enter Try.func7, Try.ntmps7
  go_wp2_with (first | ((with_reducible refine zo0 (N := 2) rfl ?_); refine zp0 ?hg (N := 2) ?hd (cs := #[.slice A0_0 l0_0.length c0_0]) (t := 24) ?hr ?_; (case hd => rfl); (case hg => rfl); (case hr => first | (go_simp; done) | (go_simp; rfl)); intro gb380 hg w7 hbox hb; have n0_ := za0.mk (zh0 (by repeat (first | (with_reducible first | exact HB.out | apply zc0 | apply zb0 | apply zd0) | exact HB.out)) hb); have n1_ := za0.mk (hbox); have n2_ := za0.mk ((by rw [hg]; exact (zj0 (by repeat (first | (with_reducible first | exact HB.out | apply zc0 | apply zb0 | apply zd0) | exact HB.out))) : w.heap.size ≤ gb380)); have n3_ := za0.mk ((by rw [hg]; exact (zj0 (by repeat (first | (with_reducible first | exact HB.out | apply zc0 | apply zb0 | apply zd0) | exact HB.out))) : w.heap.size ≤ gb380)); clear HB; have HB := n0_; have BK380 := n1_; have GW380 := n2_; have GE380 := n3_; clear n0_ n1_ n2_ n3_; clear hb hbox hg; have hcz8_0 : w7.cell? ⟨gb380, 0, none⟩ = some (.slice A0_0 l0_0.length c0_0) := (zl0 BK380.out 0).trans rfl; have hfz8_0 := zk0 BK380.out 0) | ((with_reducible refine zn0 (f := 26) rfl ?_); refine goesL_ (some 8) rfl rfl Try.func26 (by kernel_rfl) rfl #[.slice A0_0 l0_0.length c0_0, .int .i64 a1] rfl (by (try simp only [List.map_toArray, List.map_cons, List.map_nil]); first | done | rfl | (simp only [List.length_drop, List.length_take]; rfl)) ?_; (with_reducible refine (laws_szIntSS.calls k _ _ l0_0 a1 t381 _ ?side1 ?side2 A3.out).mono ?_); (case side1 => repeat (first | exact (Kd.C_below HR0_0.out HB.out) | (with_reducible refine Kd.C_alloc ?_ _) | (with_reducible refine Kd.C_drewN ?_ _) | (with_reducible refine Kd.C_drew ?_))); (case side2 => exact HC0_0.out); rintro e w' ⟨rfl, ⟨nd, rfl⟩⟩; refine ⟨_, rfl, ?_⟩))
  go_ret
  exact ⟨by first | rfl | (simp [errW_none, errW_some] <;> rfl) | (simp [*, errW_none, errW_some] <;> rfl), by repeat (first | (with_reducible first | exact HB.out | apply zc0 | apply zb0 | apply zd0 | refine ze0 ?_ GE380.out) | exact HB.out)⟩
def laws_toIntS.l0 : Nat → List Int → List Int → Int → Option (List Int)
 | 0, _, _, _ => none
 | k + 1, x0, x3, x4 => if x4 < (x0.length : Int) then (if 0 ≤ x4 then (if x4 < (x3.length : Int) then (laws_toIntS.l0 k x0 (x3.set (x4 : Int).toNat (rd x0 x4)) (wrap64 (x4 + 1))) else (none)) else (none)) else (some x3)
def laws_toIntS.f (k : Nat) (l0 : List Int) : Option (List Int) := if 0 ≤ (l0.length : Int) then (if ((l0.length : Int) : Int).toNat ≤ 35184372088832 then (laws_toIntS.l0 k l0 (List.replicate ((l0.length : Int) : Int).toNat 0) 0) else (none)) else (none)
set_option maxHeartbeats 8000000 in
set_option maxRecDepth 100000 in
theorem laws_toIntS.calls (k : Nat) (A0 : Option Addr) (c0 : Nat) (l0 : List Int) (r : List Int) (w : World) (hr0 : Kd.C (Kd.int .i64) w A0 l0.length l0) (hc0 : l0.length ≤ c0) (h : laws_toIntS.f k l0 = some r) :
  Calls Try.prog 10 #[.slice A0 l0.length c0] w fun e w' => ∃ v0_ : Value, e = .returned (v0_) ∧ Kd.R (Kd.int .i64) 3 w' w.heap.size (fun _ => True) v0_ r ∧ Below w.heap.size w w' := by
 have HR0 := za0.mk hr0
 have HC0 := za0.mk hc0
 clear hr0 hc0
 have HB := za0.mk (Below.refl w.heap.size w)
 have H : (if 0 ≤ (l0.length : Int) then (if ((l0.length : Int) : Int).toNat ≤ 35184372088832 then (laws_toIntS.l0 k l0 (List.replicate ((l0.length : Int) : Int).toNat 0) 0) else (none)) else (none)) = some r := h
 clear h
 by_cases c2 : 0 ≤ (l0.length : Int)
 ·rw [if_pos c2] at H
  have c2b0 := eq_true c2
  have c2b1 : decide (0 ≤ (l0.length : Int)) = true := decide_eq_true c2
  clear c2
  by_cases c3 : ((l0.length : Int) : Int).toNat ≤ 35184372088832
  ·rw [if_pos c3] at H
   have c3b0 := eq_true c3
   have c3b1 : decide (((l0.length : Int) : Int).toNat ≤ 35184372088832) = true := decide_eq_true c3
   clear c3
   obtain ⟨y382, hy382⟩ : ∃ y_ : List Int, y_ = (List.replicate ((l0.length : Int) : Int).toNat 0) := ⟨_, rfl⟩
   replace H : (laws_toIntS.l0 k l0 y382 0) = some r := by first | (rw [hy382]; with_reducible exact H) | (have H2_ := (Option.bind_some _ _).symm.trans H; rw [hy382]; with_reducible exact H2_) | (have H2_ := (Option.bind_some _ _).symm.trans H; with_reducible exact H2_) | with_reducible exact H | (rw [hy382]; exact H) | exact H
   have Ny382 := za0.mk hy382
   clear hy382
   have H' := za0.mk H
   clear H
   go_enter Try.func10, Try.ntmps10
   go_wp2_with (first | ((with_reducible refine zo0 (N := 7) rfl ?_); refine Kd.R_make (Kd.int .i64) _ 3 rfl (N := 7) rfl 25 _ _ rfl (l0.length : Int) rfl rfl Try.underlying25 (.int .i64 0) 8 info3 rfl (by decide) (by omega) 0 (ok := fun _ => True) (okp := fun _ => True) rfl (fun _ hk => hk) trivial (of_decide_eq_true (by first | (with_reducible assumption) | assumption)) (Nat.le_trans (Nat.mul_le_mul_right _ (of_decide_eq_true (by first | (with_reducible assumption) | assumption) : (l0.length : Int).toNat ≤ 35184372088832)) (by omega)) (Below.refl _ _) (Nat.le_refl _) ?_; intro v383 w4 ho5 hb hg_ hnew_; clear hg_ hnew_; (first | rw [← Ny382.out] at ho5 | (simp only [Int.reduceToNat] at ho5; rw [← Ny382.out] at ho5)); have n0_ := za0.mk (Kd.R_lower ho5 (zj0 (by repeat (first | (with_reducible first | exact HB.out | apply zc0 | apply zb0 | apply zd0) | exact HB.out)))); have n1_ := za0.mk (zh0 (by repeat (first | (with_reducible first | exact HB.out | apply zc0 | apply zb0 | apply zd0) | exact HB.out)) hb); clear HB; have HO384 := n0_; have HB := n1_; clear n0_ n1_; clear hb ho5))
   go_loopg [4] k (fun kq v4 w' => ∃ (x3_1 : List Int) (x4_1 : Int), v4 = .int .i64 x4_1 ∧ za0 (laws_toIntS.l0 kq l0 x3_1 x4_1 = some r) ∧ za0 (kq ≤ k) ∧ za0 (Kd.R (Kd.int .i64) 3 w' w.heap.size (fun _ => True) v383 x3_1) ∧ za0 (Below w.heap.size w w'))
   case atStart => exact ⟨(y382), (0), (by first | rfl | (simp; done) | (simp [*]; done)), H', ⟨Nat.le_refl _⟩, ⟨by (with_reducible repeat (first | apply Kd.R_alloc | apply Kd.R_drewN | apply Kd.R_drew)); exact HO384.out⟩, ⟨by repeat (first | (with_reducible first | exact HB.out | apply zc0 | apply zb0 | apply zd0) | exact HB.out)⟩⟩
   case round =>
    clear H'
    try clear c1
    try clear c2
    try clear c2b0
    try clear c2b1
    try clear p2
    try clear c3
    try clear c3b0
    try clear c3b1
    obtain ⟨x3_1, x4_1, rfl, HA, HK1, HO_3, HB⟩ := hrel
    cases gk with
    | zero => exact absurd HA.out (by simp [laws_toIntS.l0])
    | succ k1 =>
     have H := HA.out
     clear HA
     simp only [laws_toIntS.l0] at H
     by_cases c6 : x4_1 < (l0.length : Int)
     ·rw [if_pos c6] at H
      have c6b0 : decide (x4_1 < (l0.length : Int)) = true := decide_eq_true c6
      clear c6
      by_cases c7 : 0 ≤ x4_1
      ·rw [if_pos c7] at H
       have c7b0 : decide (0 ≤ x4_1) = true := decide_eq_true c7
       clear c7
       by_cases c8 : x4_1 < (x3_1.length : Int)
       ·rw [if_pos c8] at H
        have c8b0 : decide (x4_1 < (x3_1.length : Int)) = true := decide_eq_true c8
        clear c8
        obtain ⟨y386, hy386⟩ : ∃ y_ : List Int, y_ = (x3_1.set (x4_1 : Int).toNat (rd l0 x4_1)) := ⟨_, rfl⟩
        replace H : (laws_toIntS.l0 k1 l0 y386 (wrap64 (x4_1 + 1))) = some r := by first | (rw [hy386]; with_reducible exact H) | (have H2_ := (Option.bind_some _ _).symm.trans H; rw [hy386]; with_reducible exact H2_) | (have H2_ := (Option.bind_some _ _).symm.trans H; with_reducible exact H2_) | with_reducible exact H | (rw [hy386]; exact H) | exact H
        have Ny386 := za0.mk hy386
        clear hy386
        have H' := za0.mk H
        clear H
        have p385 : 0 ≤ (x4_1 : Int) := of_decide_eq_true (by first | (with_reducible assumption) | assumption)
        have q385 : x4_1 < (l0.length : Int) := of_decide_eq_true (by first | (with_reducible assumption) | assumption)
        obtain ⟨ad385, e385, hx385_0⟩ := Kd.at_int HR0.out x4_1 p385 q385
        cases e385
        replace hx385_0 := (HB.out.cell (World.block_lt_of_cell? w _ hx385_0)).trans hx385_0
        replace p385 := eq_true p385
        replace q385 := eq_true q385
        have p9 : 0 ≤ (x4_1 : Int) := of_decide_eq_true (by first | (with_reducible assumption) | assumption)
        have q9 : (x4_1 : Int) < ((x3_1.length : Int) : Int) := of_decide_eq_true (by first | (with_reducible assumption) | assumption)
        obtain ⟨go9, co9, eo9, gb9, gl9, cl9, HG9⟩ := Kd.R_form HO_3.out (by omega)
        (first | cases eo9 | (injection eo9 with ea_ en_ ec_; (first | subst ea_ | (injection ea_ with ea_; subst ea_)); subst ec_; clear en_))
        have GB9 := za0.mk gb9
        have GG9 := za0.mk HG9
        clear gb9 gl9 HG9
        obtain ⟨hx9_0, hf9_0⟩ := Kd.R_celln 0 HO_3.out (x4_1 : Int) p9 q9
        replace p9 := eq_true p9
        replace q9 := eq_true q9
        have HP10 := Kd.R_putg HO_3.out (x4_1 : Int) (rd l0 x4_1)
        go_wp2_with (first | ((with_reducible refine gate_store (t := 3) (p := 20) rfl ?_); refine store_event (t := 3) (p := 20) (v := ?vo_w11) (w1 := (wr.setCell ⟨go9, (x4_1 : Int).toNat, none⟩ (.int .i64 (rd l0 x4_1)))) ?hg ?ho ?hn ?hr ?_; (case ho => rfl); (case hg => rfl); (case hn => rfl); (case hr => first | (go_simp; done) | (go_simp; rfl)); intro w11 hw; have hg : wr.grownBy w11 (some go9) := (by rw [hw]; exact HP10.2); have hp_ : Kd.R (Kd.int .i64) 3 w11 w.heap.size (fun _ => True) (.slice (some ⟨go9, 0, none⟩) x3_1.length co9) y386 := (by rw [hw, Ny386.out]; exact HP10.1); clear HP10; have n0_ := za0.mk (hp_); have n1_ := za0.mk ((by rw [hw]; exact ze0 (HB.out) GB9.out : Below w.heap.size w w11)); clear HO_3; clear HB; have HO_3 := n0_; have HB := n1_; clear n0_ n1_; clear hg hw hp_))
        go_roundg k1
        case measure => have := HK1.out; omega
        case rel => exact ⟨(y386), (wrap64 (x4_1 + 1)), (by first | rfl | (simp; done) | (simp [*]; done)), H', ⟨by have := HK1.out; omega⟩, ⟨by (with_reducible repeat (first | apply Kd.R_alloc | apply Kd.R_drewN | apply Kd.R_drew)); exact HO_3.out⟩, ⟨by repeat (first | (with_reducible first | exact HB.out | apply zc0 | apply zb0 | apply zd0) | exact HB.out)⟩⟩
       ·rw [if_neg c8] at H
        exact absurd H (by simp)
      ·rw [if_neg c7] at H
       exact absurd H (by simp)
     ·rw [if_neg c6] at H
      have c6b0 : decide (x4_1 < (l0.length : Int)) = false := decide_eq_false c6
      clear c6
      obtain rfl := Option.some.inj H
      go_wp2
      go_ret
      exact ⟨_, by first | rfl | (simp [errW_none, errW_some] <;> rfl) | (simp [*, errW_none, errW_some] <;> rfl), by (with_reducible repeat (first | apply Kd.R_alloc | apply Kd.R_drewN | apply Kd.R_drew)); exact HO_3.out, by repeat (first | (with_reducible first | exact HB.out | apply zc0 | apply zb0 | apply zd0) | exact HB.out)⟩
  ·rw [if_neg c3] at H
   exact absurd H (by simp)
 ·rw [if_neg c2] at H
  exact absurd H (by simp)
def laws_toIntSS.l0 : Nat → List (List Int) → List (List Int) → Int → Option ((List (List Int)))
 | 0, _, _, _ => none
 | k + 1, x0, x3, x4 => if x4 < (x0.length : Int) then (if 0 ≤ x4 then ((laws_toIntS.f k (rd_L1 x0 x4)).bind fun t391 => (if x4 < (x3.length : Int) then (laws_toIntSS.l0 k x0 (x3.set (x4 : Int).toNat t391) (wrap64 (x4 + 1))) else (none))) else (none)) else (some x3)
def laws_toIntSS.f (k : Nat) (l0 : List (List Int)) : Option ((List (List Int))) := if 0 ≤ (l0.length : Int) then (if ((l0.length : Int) : Int).toNat ≤ 11728124029610 then (laws_toIntSS.l0 k l0 (List.replicate ((l0.length : Int) : Int).toNat []) 0) else (none)) else (none)
set_option maxHeartbeats 8000000 in
set_option maxRecDepth 100000 in
theorem laws_toIntSS.calls (k : Nat) (A0 : Option Addr) (c0 : Nat) (l0 : List (List Int)) (r : List (List Int)) (w : World) (hr0 : Kd.C (Kd.slice 3 (Kd.int .i64)) w A0 l0.length l0) (hc0 : l0.length ≤ c0) (h : laws_toIntSS.f k l0 = some r) :
  Calls Try.prog 30 #[.slice A0 l0.length c0] w fun e w' => ∃ v0_ : Value, e = .returned (v0_) ∧ Kd.S (Kd.slice 3 (Kd.int .i64)) 25 w' w.heap.size (fun _ => True) v0_ r ∧ Below w.heap.size w w' := by
 have HR0 := za0.mk hr0
 have HC0 := za0.mk hc0
 clear hr0 hc0
 have HB := za0.mk (Below.refl w.heap.size w)
 have H : (if 0 ≤ (l0.length : Int) then (if ((l0.length : Int) : Int).toNat ≤ 11728124029610 then (laws_toIntSS.l0 k l0 (List.replicate ((l0.length : Int) : Int).toNat []) 0) else (none)) else (none)) = some r := h
 clear h
 by_cases c2 : 0 ≤ (l0.length : Int)
 ·rw [if_pos c2] at H
  have c2b0 := eq_true c2
  have c2b1 : decide (0 ≤ (l0.length : Int)) = true := decide_eq_true c2
  clear c2
  by_cases c3 : ((l0.length : Int) : Int).toNat ≤ 11728124029610
  ·rw [if_pos c3] at H
   have c3b0 := eq_true c3
   have c3b1 : decide (((l0.length : Int) : Int).toNat ≤ 11728124029610) = true := decide_eq_true c3
   clear c3
   obtain ⟨y387, hy387⟩ : ∃ y_ : List (List Int), y_ = (List.replicate ((l0.length : Int) : Int).toNat []) := ⟨_, rfl⟩
   replace H : (laws_toIntSS.l0 k l0 y387 0) = some r := by first | (rw [hy387]; with_reducible exact H) | (have H2_ := (Option.bind_some _ _).symm.trans H; rw [hy387]; with_reducible exact H2_) | (have H2_ := (Option.bind_some _ _).symm.trans H; with_reducible exact H2_) | with_reducible exact H | (rw [hy387]; exact H) | exact H
   have Ny387 := za0.mk hy387
   clear hy387
   have H' := za0.mk H
   clear H
   go_enter Try.func30, Try.ntmps30
   go_wp2_with (first | ((with_reducible refine zo0 (N := 7) rfl ?_); refine Kd.S_make (Kd.slice 3 (Kd.int .i64)) _ 25 rfl (N := 7) rfl 22 _ _ rfl (l0.length : Int) rfl rfl Try.underlying22 (.slice none 0 0) 24 info25 rfl (by decide) (by omega) [] (ok := fun _ => True) (okp := fun _ => True) ⟨_, rfl, Kd.R_nil _ _ _ _ _⟩ (fun _ hk => hk) trivial (of_decide_eq_true (by first | (with_reducible assumption) | assumption)) (Nat.le_trans (Nat.mul_le_mul_right _ (of_decide_eq_true (by first | (with_reducible assumption) | assumption) : (l0.length : Int).toNat ≤ 11728124029610)) (by omega)) (Below.refl _ _) (Nat.le_refl _) ?_; intro v388 w4 ho5 hb hg_ hnew_; clear hg_ hnew_; (first | rw [← Ny387.out] at ho5 | (simp only [Int.reduceToNat] at ho5; rw [← Ny387.out] at ho5)); have n0_ := za0.mk (Kd.S_lower ho5 (zj0 (by repeat (first | (with_reducible first | exact HB.out | apply zc0 | apply zb0 | apply zd0) | exact HB.out)))); have n1_ := za0.mk (zh0 (by repeat (first | (with_reducible first | exact HB.out | apply zc0 | apply zb0 | apply zd0) | exact HB.out)) hb); clear HB; have HO389 := n0_; have HB := n1_; clear n0_ n1_; clear hb ho5))
   go_loopg [4] k (fun kq v4 w' => ∃ (x3_1 : List (List Int)) (x4_1 : Int), v4 = .int .i64 x4_1 ∧ za0 (laws_toIntSS.l0 kq l0 x3_1 x4_1 = some r) ∧ za0 (kq ≤ k) ∧ za0 (Kd.S (Kd.slice 3 (Kd.int .i64)) 25 w' w.heap.size (fun _ => True) v388 x3_1) ∧ za0 (Below w.heap.size w w'))
   case atStart => exact ⟨(y387), (0), (by first | rfl | (simp; done) | (simp [*]; done)), H', ⟨Nat.le_refl _⟩, ⟨by (with_reducible repeat (first | apply Kd.S_alloc | apply Kd.S_drewN | apply Kd.S_drew)); exact HO389.out⟩, ⟨by repeat (first | (with_reducible first | exact HB.out | apply zc0 | apply zb0 | apply zd0) | exact HB.out)⟩⟩
   case round =>
    clear H'
    try clear c2
    try clear c2b0
    try clear c2b1
    try clear p2
    try clear c3
    try clear c3b0
    try clear c3b1
    obtain ⟨x3_1, x4_1, rfl, HA, HK1, HO_3, HB⟩ := hrel
    cases gk with
    | zero => exact absurd HA.out (by simp [laws_toIntSS.l0])
    | succ k1 =>
     have H := HA.out
     clear HA
     simp only [laws_toIntSS.l0] at H
     by_cases c6 : x4_1 < (l0.length : Int)
     ·rw [if_pos c6] at H
      have c6b0 : decide (x4_1 < (l0.length : Int)) = true := decide_eq_true c6
      clear c6
      by_cases c7 : 0 ≤ x4_1
      ·rw [if_pos c7] at H
       have c7b0 : decide (0 ≤ x4_1) = true := decide_eq_true c7
       clear c7
       replace H := Option.bind_eq_some_iff.mp H
       obtain ⟨t391, A80, H⟩ := H
       replace H : (if x4_1 < (x3_1.length : Int) then (laws_toIntSS.l0 k1 l0 (x3_1.set (x4_1 : Int).toNat t391) (wrap64 (x4_1 + 1))) else (none)) = some r := H
       have A8 := za0.mk A80
       clear A80
       by_cases c9 : x4_1 < (x3_1.length : Int)
       ·rw [if_pos c9] at H
        have c9b0 : decide (x4_1 < (x3_1.length : Int)) = true := decide_eq_true c9
        clear c9
        obtain ⟨y394, hy394⟩ : ∃ y_ : List (List Int), y_ = (x3_1.set (x4_1 : Int).toNat t391) := ⟨_, rfl⟩
        replace H : (laws_toIntSS.l0 k1 l0 y394 (wrap64 (x4_1 + 1))) = some r := by first | (rw [hy394]; with_reducible exact H) | (have H2_ := (Option.bind_some _ _).symm.trans H; rw [hy394]; with_reducible exact H2_) | (have H2_ := (Option.bind_some _ _).symm.trans H; with_reducible exact H2_) | with_reducible exact H | (rw [hy394]; exact H) | exact H
        have Ny394 := za0.mk hy394
        clear hy394
        have H' := za0.mk H
        clear H
        have p390 : 0 ≤ (x4_1 : Int) := of_decide_eq_true (by first | (with_reducible assumption) | assumption)
        have q390 : x4_1 < (l0.length : Int) := of_decide_eq_true (by first | (with_reducible assumption) | assumption)
        obtain ⟨ad390, A390_0, c390_0, e390, hx390_0, hl390_0, hi390_0⟩ := at_L1 HR0.out x4_1 p390 q390
        cases e390
        replace hx390_0 := (HB.out.cell (World.block_lt_of_cell? w _ hx390_0)).trans hx390_0
        have HR390_0 := za0.mk hi390_0
        have HC390_0 := za0.mk hl390_0
        clear hi390_0 hl390_0
        replace p390 := eq_true p390
        replace q390 := eq_true q390
        go_wp2_with (first | ((with_reducible refine zn0 (f := 10) rfl ?_); refine goesL_ (some 20) rfl rfl Try.func10 (by kernel_rfl) rfl #[.slice A390_0 (rd_L1 l0 x4_1).length c390_0] rfl (by (try simp only [List.map_toArray, List.map_cons, List.map_nil]); first | done | rfl | (simp only [List.length_drop, List.length_take]; rfl)) ?_; (with_reducible refine (laws_toIntS.calls k1 _ _ (rd_L1 l0 x4_1) t391 _ ?side1 ?side2 A8.out).mono ?_); (case side1 => repeat (first | exact (Kd.C_below HR390_0.out HB.out) | (with_reducible refine Kd.C_alloc ?_ _) | (with_reducible refine Kd.C_drewN ?_ _) | (with_reducible refine Kd.C_drew ?_))); (case side2 => exact HC390_0.out); rintro e w11 ⟨v392, rfl, ho0, hb⟩; refine ⟨_, rfl, ?_⟩; have n0_ := za0.mk (Kd.S_elder' (by (with_reducible repeat (first | apply Kd.S_alloc | apply Kd.S_drewN | apply Kd.S_drew)); exact HO_3.out) (Kd.R_base ho0) hb); have n1_ := za0.mk (Kd.R_lower ho0 (zj0 (by repeat (first | (with_reducible first | exact HB.out | apply zc0 | apply zb0 | apply zd0) | exact HB.out)))); have n2_ := za0.mk (zh0 (by repeat (first | (with_reducible first | exact HB.out | apply zc0 | apply zb0 | apply zd0) | exact HB.out)) hb); clear HO_3; clear HB; have HO_3 := n0_; have HO393 := n1_; have HB := n2_; clear n0_ n1_ n2_; (try clear hb); (try clear hb2); (try clear hk); (try clear hi); (try clear ho0); have p10 : 0 ≤ (x4_1 : Int) := of_decide_eq_true (by first | (with_reducible assumption) | assumption); have q10 : (x4_1 : Int) < ((x3_1.length : Int) : Int) := of_decide_eq_true (by first | (with_reducible assumption) | assumption); obtain ⟨go10, co10, eo10, gb10, gl10, cl10, HG10⟩ := Kd.S_form HO_3.out (by omega); (first | cases eo10 | (injection eo10 with ea_ en_ ec_; (first | subst ea_ | (injection ea_ with ea_; subst ea_)); subst ec_; clear en_)); have GB10 := za0.mk gb10; have GG10 := za0.mk HG10; clear gb10 gl10 HG10; obtain ⟨_, ce10, hcl10, hM10, hcc10, hfr10, _, _⟩ := Kd.S_elem HO_3.out [] (x4_1 : Int) p10 q10; obtain ⟨ve10_0, rfl, ge10_0⟩ := hM10; have hx10_0 := hcc10 0 _ rfl; have hf10_0 := hfr10 0; (try simp only [show ((Kd.slice 3 (Kd.int .i64))).sz = 1 from rfl, Nat.mul_one, Nat.add_zero] at hx10_0); (try simp only [show ((Kd.slice 3 (Kd.int .i64))).sz = 1 from rfl, Nat.mul_one, Nat.add_zero] at hf10_0); (try clear hcl10); (try clear hcc10); (try clear hfr10); (try clear hM10); replace p10 := eq_true p10; replace q10 := eq_true q10; obtain ⟨Ao12, co12, eo12⟩ := Kd.R_slice HO393.out; subst eo12; have n_ := za0.mk (Kd.S_mono (ok' := (fun k_ => some k_ ≠ (.slice Ao12 t391.length co12 : Value).ownBlock)) HO_3.out (fun k_ hk => hk.2)); clear HO_3; have HO_3 := n_; clear n_; have HX13 := za0.mk (show Kd.S (Kd.slice 3 (Kd.int .i64)) 25 w11 w.heap.size (fun k_ => ((fun _ => True)) k_ ∧ ¬ ((fun k_ => some k_ = (.slice Ao12 t391.length co12 : Value).ownBlock)) k_) (.slice (some ⟨go10, 0, none⟩) x3_1.length co10) x3_1 from (by (with_reducible repeat (first | apply Kd.S_alloc | apply Kd.S_drewN | apply Kd.S_drew)); exact Kd.S_mono HO_3.out (fun k_ hk => ⟨trivial, fun e_ => hk e_⟩))); obtain ⟨oki13, ce13, hcl13, hM13, hcc13, hfr13, hoki13, hH13⟩ := Kd.S_elem HX13.out [] (x4_1 : Int) (of_decide_eq_true (by first | (with_reducible assumption) | assumption)) (by have h_ : (x4_1 : Int) < ((x3_1.length : Int) : Int) := of_decide_eq_true (by first | (with_reducible assumption) | assumption); first | exact h_ | (have e_ := (Kd.S_reads' HO_3.out).1; omega) | simpa using h_); obtain ⟨ve13_0, rfl, ge13_0⟩ := hM13; have HP13 := Kd.S_seg hH13 (of_decide_eq_true (by first | (with_reducible assumption) | assumption)) (by have h_ : (x4_1 : Int) < ((x3_1.length : Int) : Int) := of_decide_eq_true (by first | (with_reducible assumption) | assumption); first | exact h_ | (have e_ := (Kd.S_reads' HO_3.out).1; omega) | simpa using h_) (seg := [.slice Ao12 t391.length co12]) (j := 0) (show 1 ≤ 1 from by decide) (x' := t391) (Kd.M_row (Kd.R_mono (Kd.R_tight rfl (Kd.R_mono (ok' := fun k_ => ((fun _ => True)) k_ ∧ k_ ≠ go10) (Kd.R_apart' (HO393.out) (Kd.S_typed HO_3.out) (by decide)) (fun k_ hk => ⟨trivial, fun e_ => (hk.2) (by rw [e_]; rfl)⟩))) (fun _ h_ => Or.inr (h_)))) (fun _ hk => hk) (fun k_ hk_ => ((Kd.R_mono (ok' := fun k_ => ((fun _ => True)) k_ ∧ k_ ≠ go10) (Kd.R_apart' (HO393.out) (Kd.S_typed HO_3.out) (by decide)) (fun k_ hk => ⟨trivial, fun e_ => (hk.2) (by rw [e_]; rfl)⟩))).1 k_ hk_.symm); have hx13_0 := hcc13 0 _ rfl; (try simp only [show ((Kd.slice 3 (Kd.int .i64))).sz = 1 from rfl, Nat.mul_one, Nat.add_zero] at hx13_0); have hf13_0 := hfr13 0; (try simp only [show ((Kd.slice 3 (Kd.int .i64))).sz = 1 from rfl, Nat.mul_one, Nat.add_zero] at hf13_0); (try clear hcl13); (try clear hcc13); (try clear hfr13); (try clear hM13); (try clear hoki13); (try clear hH13); (try simp only [show ((Kd.slice 3 (Kd.int .i64))).sz = 1 from rfl, Nat.mul_one, Nat.add_zero] at HP13)) | ((with_reducible refine gate_store (t := 25) (p := 21) rfl ?_); refine store_event (t := 25) (p := 21) (v := ?vo_w14) (w1 := (w11.setCell ⟨go10, (x4_1 : Int).toNat, none⟩ (.slice Ao12 t391.length co12))) ?hg ?ho ?hn ?hr ?_; (case ho => rfl); (case hg => rfl); (case hn => rfl); (case hr => first | (go_simp; done) | (go_simp; rfl)); intro w14 hw; have hg : w11.grownBy w14 (some go10) := (by rw [hw]; exact HP13.2); have hp_ : Kd.S (Kd.slice 3 (Kd.int .i64)) 25 w14 w.heap.size (fun _ => True) (.slice (some ⟨go10, 0, none⟩) x3_1.length co10) y394 := (by rw [hw, Ny394.out]; exact HP13.1); clear HP13; have n0_ := za0.mk (hp_); have n1_ := za0.mk ((by rw [hw]; exact ze0 (HB.out) GB10.out : Below w.heap.size w w14)); clear HO_3; clear HB; clear HO393; have HO_3 := n0_; have HB := n1_; clear n0_ n1_; clear hg hw hp_))
        go_roundg k1
        case measure => have := HK1.out; omega
        case rel => exact ⟨(y394), (wrap64 (x4_1 + 1)), (by first | rfl | (simp; done) | (simp [*]; done)), H', ⟨by have := HK1.out; omega⟩, ⟨by (with_reducible repeat (first | apply Kd.S_alloc | apply Kd.S_drewN | apply Kd.S_drew)); exact HO_3.out⟩, ⟨by repeat (first | (with_reducible first | exact HB.out | apply zc0 | apply zb0 | apply zd0) | exact HB.out)⟩⟩
       ·rw [if_neg c9] at H
        exact absurd H (by simp)
      ·rw [if_neg c7] at H
       exact absurd H (by simp)
     ·rw [if_neg c6] at H
      have c6b0 : decide (x4_1 < (l0.length : Int)) = false := decide_eq_false c6
      clear c6
      obtain rfl := Option.some.inj H
      go_wp2
      go_ret
      exact ⟨_, by first | rfl | (simp [errW_none, errW_some] <;> rfl) | (simp [*, errW_none, errW_some] <;> rfl), by (with_reducible repeat (first | apply Kd.S_alloc | apply Kd.S_drewN | apply Kd.S_drew)); exact HO_3.out, by repeat (first | (with_reducible first | exact HB.out | apply zc0 | apply zb0 | apply zd0) | exact HB.out)⟩
  ·rw [if_neg c3] at H
   exact absurd H (by simp)
 ·rw [if_neg c2] at H
  exact absurd H (by simp)
def laws_toGraph.f (k : Nat) (l0_0 : List (List Int)) : Option ((List (List Int))) := (laws_toIntSS.f k l0_0).bind fun t398 => (some t398)
set_option maxHeartbeats 8000000 in
set_option maxRecDepth 100000 in
theorem laws_toGraph.calls (k : Nat) (A0_0 : Option Addr) (c0_0 : Nat) (l0_0 : List (List Int)) (r : List (List Int)) (w : World) (hr0_0 : Kd.C (Kd.slice 3 (Kd.int .i64)) w A0_0 l0_0.length l0_0) (hc0_0 : l0_0.length ≤ c0_0) (h : laws_toGraph.f k l0_0 = some r) :
  Calls Try.prog 9 #[.agg #[.slice A0_0 l0_0.length c0_0]] w fun e w' => ∃ v0_ : Value, e = .returned (.agg #[v0_]) ∧ Kd.S (Kd.slice 3 (Kd.int .i64)) 25 w' w.heap.size (fun _ => True) v0_ r ∧ Below w.heap.size w w' := by
 have hu24 := Try.underlying24
 have hu29 := Try.underlying29
 have HR0_0 := za0.mk hr0_0
 have HC0_0 := za0.mk hc0_0
 clear hr0_0 hc0_0
 have HB := za0.mk (Below.refl w.heap.size w)
 have H : ((laws_toIntSS.f k l0_0).bind fun t398 => (some t398)) = some r := h
 clear h
 replace H := Option.bind_eq_some_iff.mp H
 obtain ⟨t398, A20, H⟩ := H
 replace H : (some t398) = some r := H
 have A2 := za0.mk A20
 clear A20
 obtain rfl := Option.some.inj H
 go_enter Try.func9, Try.ntmps9
 go_wp2_with (first | ((with_reducible refine zo0 (N := 1) rfl ?_); refine zp0 ?hg (N := 1) ?hd (cs := #[.slice A0_0 l0_0.length c0_0]) (t := 24) ?hr ?_; (case hd => rfl); (case hg => rfl); (case hr => first | (go_simp; done) | (go_simp; rfl)); intro gb395 hg w3 hbox hb; have n0_ := za0.mk (zh0 (by repeat (first | (with_reducible first | exact HB.out | apply zc0 | apply zb0 | apply zd0) | exact HB.out)) hb); have n1_ := za0.mk (hbox); have n2_ := za0.mk ((by rw [hg]; exact (zj0 (by repeat (first | (with_reducible first | exact HB.out | apply zc0 | apply zb0 | apply zd0) | exact HB.out))) : w.heap.size ≤ gb395)); have n3_ := za0.mk ((by rw [hg]; exact (zj0 (by repeat (first | (with_reducible first | exact HB.out | apply zc0 | apply zb0 | apply zd0) | exact HB.out))) : w.heap.size ≤ gb395)); clear HB; have HB := n0_; have BK395 := n1_; have GW395 := n2_; have GE395 := n3_; clear n0_ n1_ n2_ n3_; clear hb hbox hg) | ((with_reducible refine zo0 (N := 2) rfl ?_); refine zp0 ?hg (N := 2) ?hd (cs := #[.slice none 0 0]) (t := 29) ?hr ?_; (case hd => rfl); (case hg => rfl); (case hr => first | (go_simp; done) | (go_simp; rfl)); intro gb396 hg w4 hbox hb; have n0_ := za0.mk (zm0 (g := gb395) (o := .cells #[.slice A0_0 l0_0.length c0_0] 24 (0, 0)) (by (with_reducible repeat (first | refine zg0 ?_ _ | refine zi0 ?_ | refine zf0 ?_ _)); exact BK395.out) hb); have n1_ := za0.mk (zh0 (by repeat (first | (with_reducible first | exact HB.out | apply zc0 | apply zb0 | apply zd0 | refine ze0 ?_ GE395.out) | exact HB.out)) hb); have n2_ := za0.mk (hbox); have n3_ := za0.mk ((by rw [hg]; exact (zj0 (by repeat (first | (with_reducible first | exact HB.out | apply zc0 | apply zb0 | apply zd0 | refine ze0 ?_ GE395.out) | exact HB.out))) : w.heap.size ≤ gb396)); have n4_ := za0.mk ((by rw [hg]; exact (zj0 (by repeat (first | (with_reducible first | exact HB.out | apply zc0 | apply zb0 | apply zd0 | refine ze0 ?_ GE395.out) | exact HB.out))) : w.heap.size ≤ gb396)); have n5_ := za0.mk ((by rw [hg]; exact Nat.ne_of_lt (blk_lt (g := gb395) (o := .cells #[.slice A0_0 l0_0.length c0_0] 24 (0, 0)) (by (with_reducible repeat (first | refine zg0 ?_ _ | refine zi0 ?_ | refine zf0 ?_ _)); exact BK395.out)) : gb395 ≠ gb396)); have n6_ := za0.mk ((by rw [hg]; exact Nat.ne_of_gt (blk_lt (g := gb395) (o := .cells #[.slice A0_0 l0_0.length c0_0] 24 (0, 0)) (by (with_reducible repeat (first | refine zg0 ?_ _ | refine zi0 ?_ | refine zf0 ?_ _)); exact BK395.out)) : gb396 ≠ gb395)); clear BK395; clear HB; have BK395 := n0_; have HB := n1_; have BK396 := n2_; have GW396 := n3_; have GE396 := n4_; have NB395_396 := n5_; have NB396_395 := n6_; clear n0_ n1_ n2_ n3_ n4_ n5_ n6_; clear hb hbox hg) | ((with_reducible refine zo0 (N := 3) rfl ?_); refine zp0 ?hg (N := 3) ?hd (cs := #[.slice none 0 0]) (t := 29) ?hr ?_; (case hd => rfl); (case hg => rfl); (case hr => first | (go_simp; done) | (go_simp; rfl)); intro gb397 hg w5 hbox hb; have n0_ := za0.mk (zm0 (g := gb395) (o := .cells #[.slice A0_0 l0_0.length c0_0] 24 (0, 0)) (by (with_reducible repeat (first | refine zg0 ?_ _ | refine zi0 ?_ | refine zf0 ?_ _)); exact BK395.out) hb); have n1_ := za0.mk (zm0 (g := gb396) (o := .cells #[.slice none 0 0] 29 (0, 0)) (by (with_reducible repeat (first | refine zg0 ?_ _ | refine zi0 ?_ | refine zf0 ?_ _)); exact BK396.out) hb); have n2_ := za0.mk (zh0 (by repeat (first | (with_reducible first | exact HB.out | apply zc0 | apply zb0 | apply zd0 | refine ze0 ?_ GE395.out | refine ze0 ?_ GE396.out) | exact HB.out)) hb); have n3_ := za0.mk (hbox); have n4_ := za0.mk ((by rw [hg]; exact (zj0 (by repeat (first | (with_reducible first | exact HB.out | apply zc0 | apply zb0 | apply zd0 | refine ze0 ?_ GE395.out | refine ze0 ?_ GE396.out) | exact HB.out))) : w.heap.size ≤ gb397)); have n5_ := za0.mk ((by rw [hg]; exact (zj0 (by repeat (first | (with_reducible first | exact HB.out | apply zc0 | apply zb0 | apply zd0 | refine ze0 ?_ GE395.out | refine ze0 ?_ GE396.out) | exact HB.out))) : w.heap.size ≤ gb397)); have n6_ := za0.mk ((by rw [hg]; exact Nat.ne_of_lt (blk_lt (g := gb395) (o := .cells #[.slice A0_0 l0_0.length c0_0] 24 (0, 0)) (by (with_reducible repeat (first | refine zg0 ?_ _ | refine zi0 ?_ | refine zf0 ?_ _)); exact BK395.out)) : gb395 ≠ gb397)); have n7_ := za0.mk ((by rw [hg]; exact Nat.ne_of_gt (blk_lt (g := gb395) (o := .cells #[.slice A0_0 l0_0.length c0_0] 24 (0, 0)) (by (with_reducible repeat (first | refine zg0 ?_ _ | refine zi0 ?_ | refine zf0 ?_ _)); exact BK395.out)) : gb397 ≠ gb395)); have n8_ := za0.mk ((by rw [hg]; exact Nat.ne_of_lt (blk_lt (g := gb396) (o := .cells #[.slice none 0 0] 29 (0, 0)) (by (with_reducible repeat (first | refine zg0 ?_ _ | refine zi0 ?_ | refine zf0 ?_ _)); exact BK396.out)) : gb396 ≠ gb397)); have n9_ := za0.mk ((by rw [hg]; exact Nat.ne_of_gt (blk_lt (g := gb396) (o := .cells #[.slice none 0 0] 29 (0, 0)) (by (with_reducible repeat (first | refine zg0 ?_ _ | refine zi0 ?_ | refine zf0 ?_ _)); exact BK396.out)) : gb397 ≠ gb396)); clear BK395; clear BK396; clear HB; have BK395 := n0_; have BK396 := n1_; have HB := n2_; have BK397 := n3_; have GW397 := n4_; have GE397 := n5_; have NB395_397 := n6_; have NB397_395 := n7_; have NB396_397 := n8_; have NB397_396 := n9_; clear n0_ n1_ n2_ n3_ n4_ n5_ n6_ n7_ n8_ n9_; clear hb hbox hg; have hnb6 := NB395_396.out; have hnc6 := NB396_395.out; have hnb7 := NB395_397.out; have hnc7 := NB397_395.out; have hcz8_0 : w5.cell? ⟨gb395, 0, none⟩ = some (.slice A0_0 l0_0.length c0_0) := (zl0 BK395.out 0).trans rfl; have hfz8_0 := zk0 BK395.out 0) | ((with_reducible refine zn0 (f := 30) rfl ?_); refine goesL_ (some 6) rfl rfl Try.func30 (by kernel_rfl) rfl #[.slice A0_0 l0_0.length c0_0] rfl (by (try simp only [List.map_toArray, List.map_cons, List.map_nil]); first | done | rfl | (simp only [List.length_drop, List.length_take]; rfl)) ?_; (with_reducible refine (laws_toIntSS.calls k _ _ l0_0 t398 _ ?side1 ?side2 A2.out).mono ?_); (case side1 => repeat (first | exact (Kd.C_below HR0_0.out HB.out) | (with_reducible refine Kd.C_alloc ?_ _) | (with_reducible refine Kd.C_drewN ?_ _) | (with_reducible refine Kd.C_drew ?_))); (case side2 => exact HC0_0.out); rintro e w9 ⟨v399, rfl, ho0, hb⟩; refine ⟨_, rfl, ?_⟩; have n0_ := za0.mk (Kd.S_lower ho0 (zj0 (by repeat (first | (with_reducible first | exact HB.out | apply zc0 | apply zb0 | apply zd0 | refine ze0 ?_ GE395.out | refine ze0 ?_ GE396.out | refine ze0 ?_ GE397.out) | exact HB.out)))); have n1_ := za0.mk (zm0 (g := gb395) (o := .cells #[.slice A0_0 l0_0.length c0_0] 24 (0, 0)) (by (with_reducible repeat (first | refine zg0 ?_ _ | refine zi0 ?_ | refine zf0 ?_ _)); exact BK395.out) hb); have n2_ := za0.mk (zm0 (g := gb396) (o := .cells #[.slice none 0 0] 29 (0, 0)) (by (with_reducible repeat (first | refine zg0 ?_ _ | refine zi0 ?_ | refine zf0 ?_ _)); exact BK396.out) hb); have n3_ := za0.mk (zm0 (g := gb397) (o := .cells #[.slice none 0 0] 29 (0, 0)) (by (with_reducible repeat (first | refine zg0 ?_ _ | refine zi0 ?_ | refine zf0 ?_ _)); exact BK397.out) hb); have n4_ := za0.mk (zh0 (by repeat (first | (with_reducible first | exact HB.out | apply zc0 | apply zb0 | apply zd0 | refine ze0 ?_ GE395.out | refine ze0 ?_ GE396.out | refine ze0 ?_ GE397.out) | exact HB.out)) hb); clear BK395; clear BK396; clear BK397; clear HB; have HO400 := n0_; have BK395 := n1_; have BK396 := n2_; have BK397 := n3_; have HB := n4_; clear n0_ n1_ n2_ n3_ n4_; (try clear hb); (try clear hb2); (try clear hk); (try clear hi); (try clear ho0); obtain ⟨Ao10, co10, eo10⟩ := Kd.S_slice HO400.out; subst eo10; have hnb11 := NB397_396.out; have hnc11 := NB396_397.out; have hcz12_0 : w9.cell? ⟨gb397, 0, none⟩ = some (.slice none 0 0) := (zl0 BK397.out 0).trans rfl; have hfz12_0 := zk0 BK397.out 0; have hcz13_0 : w9.cell? ⟨gb396, 0, none⟩ = some (.slice none 0 0) := (zl0 BK396.out 0).trans rfl; have hfz13_0 := zk0 BK396.out 0))
 refine bodyPost_ret (results_cell_row rfl _ _ gb396 29 #[.slice Ao10 t398.length co10] (0, 0) _ rfl (by (with_reducible repeat (first | refine zg0 ?_ _ | refine zi0 ?_ | refine zf0 ?_ _)); refine blk_put (cs := #[.slice none 0 0]) ?_ 0 _ rfl; (with_reducible repeat (first | refine zg0 ?_ _ | refine zi0 ?_ | refine zf0 ?_ _)); refine blk_far ?_ NB396_397.out _; (with_reducible repeat (first | refine zg0 ?_ _ | refine zi0 ?_ | refine zf0 ?_ _)); exact BK396.out) Try.underlying29 rfl (by kernel_rfl)) rfl ?_
 exact ⟨_, by first | rfl | (simp [errW_none, errW_some] <;> rfl) | (simp [*, errW_none, errW_some] <;> rfl), by (with_reducible repeat (first | apply Kd.S_alloc | apply Kd.S_drewN | apply Kd.S_drew)); exact Kd.S_mono (Kd.S_far (p := ⟨gb396, 0, none⟩) (Kd.S_far (p := ⟨gb397, 0, none⟩) (Kd.S_types (Kd.S_types HO400.out BK397.out (by decide)) BK396.out (by decide)) (fun _ hk => hk.1.2) (.slice Ao10 t398.length co10)) (fun _ hk => hk.2) (.slice Ao10 t398.length co10)) (fun _ hk => trivial), by repeat (first | (with_reducible first | exact HB.out | apply zc0 | apply zb0 | apply zd0 | refine ze0 ?_ GE395.out | refine ze0 ?_ GE396.out | refine ze0 ?_ GE397.out) | exact HB.out)⟩
def spec_l1In.f (a0 : Int) (a1 : Int) (a2 : Int) : Option (Bool) := if a0 ≥ a1 then (some (decide (a0 ≤ a2))) else (some false)
set_option maxHeartbeats 8000000 in
set_option maxRecDepth 100000 in
theorem spec_l1In.calls (a0 : Int) (a1 : Int) (a2 : Int) (r : Bool) (w : World) (h : spec_l1In.f a0 a1 a2 = some r) :
  Calls Try.prog 45 #[.int .i64 a0, .int .i64 a1, .int .i64 a2] w fun e w' => e = .returned (.bool r) ∧ zx0 w w' := by
 have H : (if a0 ≥ a1 then (some (decide (a0 ≤ a2))) else (some false)) = some r := h
 clear h
 by_cases c4 : a0 ≥ a1
 ·rw [if_pos c4] at H
  have c4b0 : decide (a1 ≤ a0) = true := decide_eq_true c4
  clear c4
  obtain rfl := Option.some.inj H
  go_enter Try.func45, Try.ntmps45
  go_wp2
  go_ret
  exact ⟨by first | rfl | (simp; done) | (simp [*]; done), by repeat (first | exact zx0.refl _ | apply zx0.step)⟩
 ·rw [if_neg c4] at H
  have c4b0 : decide (a1 ≤ a0) = false := decide_eq_false c4
  clear c4
  obtain rfl := Option.some.inj H
  go_enter Try.func45, Try.ntmps45
  go_wp2
  go_ret
  exact ⟨by first | rfl | (simp; done) | (simp [*]; done), by repeat (first | exact zx0.refl _ | apply zx0.step)⟩
def spec_l1All.l0 : Nat → Int → Int → List Int → Int → Int → Option (Bool)
 | 0, _, _, _, _, _ => none
 | k + 1, x1, x2, x9, x10, x11 => if x11 < x10 then (if 0 ≤ x11 then (if x11 < (x9.length : Int) then ((spec_l1In.f (rd x9 x11) x1 x2).bind fun t224 => (if t224 = true then (spec_l1All.l0 k x1 x2 x9 x10 (wrap64 (x11 + 1))) else (some false))) else (none)) else (none)) else (some true)
def spec_l1All.f (k : Nat) (l0 : List Int) (a1 : Int) (a2 : Int) : Option (Bool) := spec_l1All.l0 k a1 a2 l0 (l0.length : Int) 0
set_option maxHeartbeats 8000000 in
set_option maxRecDepth 100000 in
theorem spec_l1All.calls (k : Nat) (A0 : Option Addr) (c0 : Nat) (l0 : List Int) (a1 : Int) (a2 : Int) (r : Bool) (w : World) (hr0 : Kd.C (Kd.int .i64) w A0 l0.length l0) (hc0 : l0.length ≤ c0) (h : spec_l1All.f k l0 a1 a2 = some r) :
  Calls Try.prog 67 #[.slice A0 l0.length c0, .int .i64 a1, .int .i64 a2] w fun e w' => e = .returned (.bool r) ∧ zx0 w w' := by
 have HR0 := za0.mk hr0
 have HC0 := za0.mk hc0
 clear hr0 hc0
 have H : (spec_l1All.l0 k a1 a2 l0 (l0.length : Int) 0) = some r := h
 clear h
 have H' := za0.mk H
 clear H
 go_enter Try.func67, Try.ntmps67
 go_wp2
 go_loopg [11] k (fun kq v11 w' => ∃ (x11_1 : Int), v11 = .int .i64 x11_1 ∧ za0 (spec_l1All.l0 kq a1 a2 l0 (l0.length : Int) x11_1 = some r) ∧ za0 (kq ≤ k) ∧ zx0 w w')
 case atStart => exact ⟨(0), (by first | rfl | (simp; done) | (simp [*]; done)), H', ⟨Nat.le_refl _⟩, by repeat (first | exact zx0.refl _ | apply zx0.step)⟩
 case round =>
  clear H'
  try clear p2
  obtain ⟨x11_1, rfl, HA, HK1, ⟨m1, rfl⟩⟩ := hrel
  cases gk with
  | zero => exact absurd HA.out (by simp [spec_l1All.l0])
  | succ k1 =>
   have H := HA.out
   clear HA
   simp only [spec_l1All.l0] at H
   by_cases c4 : x11_1 < (l0.length : Int)
   ·rw [if_pos c4] at H
    have c4b0 : decide (x11_1 < (l0.length : Int)) = true := decide_eq_true c4
    clear c4
    by_cases c5 : 0 ≤ x11_1
    ·rw [if_pos c5] at H
     have c5b0 : decide (0 ≤ x11_1) = true := decide_eq_true c5
     clear c5
     by_cases c6 : x11_1 < (l0.length : Int)
     ·rw [if_pos c6] at H
      have c6b0 : decide (x11_1 < (l0.length : Int)) = true := decide_eq_true c6
      clear c6
      replace H := Option.bind_eq_some_iff.mp H
      obtain ⟨t224, A70, H⟩ := H
      replace H : (if t224 = true then (spec_l1All.l0 k1 a1 a2 l0 (l0.length : Int) (wrap64 (x11_1 + 1))) else (some false)) = some r := H
      have A7 := za0.mk A70
      clear A70
      by_cases c8 : t224 = true
      ·subst c8
       have H1 : (spec_l1All.l0 k1 a1 a2 l0 (l0.length : Int) (wrap64 (x11_1 + 1))) = some r := by rw [if_pos rfl] at H; exact H
       clear H
       have H := H1
       clear H1
       have H' := za0.mk H
       clear H
       have p223 : 0 ≤ (x11_1 : Int) := of_decide_eq_true (by first | (with_reducible assumption) | assumption)
       have q223 : x11_1 < (l0.length : Int) := of_decide_eq_true (by first | (with_reducible assumption) | assumption)
       obtain ⟨ad223, e223, hx223_0⟩ := Kd.at_int HR0.out x11_1 p223 q223
       cases e223
       replace p223 := eq_true p223
       replace q223 := eq_true q223
       go_wp2_with (first | ((with_reducible refine zn0 (f := 45) rfl ?_); refine goesL_ (some 18) rfl rfl Try.func45 (by kernel_rfl) rfl #[.int .i64 (rd l0 x11_1), .int .i64 a1, .int .i64 a2] rfl (by (try simp only [List.map_toArray, List.map_cons, List.map_nil]); first | done | rfl | (simp only [List.length_drop, List.length_take]; rfl)) ?_; (with_reducible refine (spec_l1In.calls (rd l0 x11_1) a1 a2 true _ A7.out).mono ?_); rintro e w' ⟨rfl, ⟨nd, rfl⟩⟩; refine ⟨_, rfl, ?_⟩))
       go_roundg k1
       case measure => have := HK1.out; omega
       case rel => exact ⟨(wrap64 (x11_1 + 1)), (by first | rfl | (simp; done) | (simp [*]; done)), H', ⟨by have := HK1.out; omega⟩, by repeat (first | exact zx0.refl _ | apply zx0.step)⟩
      ·replace c8 := Bool.eq_false_iff.mpr c8
       subst c8
       have H1 : (some false) = some r := by rw [if_neg (show ¬ (false = true) by decide)] at H; exact H
       clear H
       have H := H1
       clear H1
       obtain rfl := Option.some.inj H
       have p223 : 0 ≤ (x11_1 : Int) := of_decide_eq_true (by first | (with_reducible assumption) | assumption)
       have q223 : x11_1 < (l0.length : Int) := of_decide_eq_true (by first | (with_reducible assumption) | assumption)
       obtain ⟨ad223, e223, hx223_0⟩ := Kd.at_int HR0.out x11_1 p223 q223
       cases e223
       replace p223 := eq_true p223
       replace q223 := eq_true q223
       go_wp2_with (first | ((with_reducible refine zn0 (f := 45) rfl ?_); refine goesL_ (some 18) rfl rfl Try.func45 (by kernel_rfl) rfl #[.int .i64 (rd l0 x11_1), .int .i64 a1, .int .i64 a2] rfl (by (try simp only [List.map_toArray, List.map_cons, List.map_nil]); first | done | rfl | (simp only [List.length_drop, List.length_take]; rfl)) ?_; (with_reducible refine (spec_l1In.calls (rd l0 x11_1) a1 a2 false _ A7.out).mono ?_); rintro e w' ⟨rfl, ⟨nd, rfl⟩⟩; refine ⟨_, rfl, ?_⟩))
       go_ret
       exact ⟨by first | rfl | (simp; done) | (simp [*]; done), by repeat (first | exact zx0.refl _ | apply zx0.step)⟩
     ·rw [if_neg c6] at H
      exact absurd H (by simp)
    ·rw [if_neg c5] at H
     exact absurd H (by simp)
   ·rw [if_neg c4] at H
    have c4b0 : decide (x11_1 < (l0.length : Int)) = false := decide_eq_false c4
    clear c4
    obtain rfl := Option.some.inj H
    go_wp2
    go_ret
    exact ⟨by first | rfl | (simp; done) | (simp [*]; done), by repeat (first | exact zx0.refl _ | apply zx0.step)⟩
def spec_grGood.l0 : Nat → Int → List (List Int) → Int → Int → Option (Bool)
 | 0, _, _, _, _ => none
 | k + 1, x3, x13, x14, x15 => if x15 < x14 then (if 0 ≤ x15 then (if x15 < (x13.length : Int) then (if ((rd_L1 x13 x15).length : Int) > 5 then (some false) else ((spec_l1All.f k (rd_L1 x13 x15) 0 (wrap64 (x3 - 1))).bind fun t228 => (if t228 = true then (spec_grGood.l0 k x3 x13 x14 (wrap64 (x15 + 1))) else (some false)))) else (none)) else (none)) else (some true)
def spec_grGood.f (k : Nat) (l0_0 : List (List Int)) : Option (Bool) := (spec_l1In.f (l0_0.length : Int) 1 8).bind fun t226 => (if t226 = true then (spec_grGood.l0 k (l0_0.length : Int) l0_0 (l0_0.length : Int) 0) else (some false))
set_option maxHeartbeats 8000000 in
set_option maxRecDepth 100000 in
theorem spec_grGood.calls (k : Nat) (A0_0 : Option Addr) (c0_0 : Nat) (l0_0 : List (List Int)) (r : Bool) (w : World) (hr0_0 : Kd.C (Kd.slice 3 (Kd.int .i64)) w A0_0 l0_0.length l0_0) (hc0_0 : l0_0.length ≤ c0_0) (h : spec_grGood.f k l0_0 = some r) :
  Calls Try.prog 44 #[.agg #[.slice A0_0 l0_0.length c0_0]] w fun e w' => e = .returned (.bool r) ∧ Below w.heap.size w w' := by
 have hu29 := Try.underlying29
 have HR0_0 := za0.mk hr0_0
 have HC0_0 := za0.mk hc0_0
 clear hr0_0 hc0_0
 have HB := za0.mk (Below.refl w.heap.size w)
 have H : ((spec_l1In.f (l0_0.length : Int) 1 8).bind fun t226 => (if t226 = true then (spec_grGood.l0 k (l0_0.length : Int) l0_0 (l0_0.length : Int) 0) else (some false))) = some r := h
 clear h
 replace H := Option.bind_eq_some_iff.mp H
 obtain ⟨t226, A20, H⟩ := H
 replace H : (if t226 = true then (spec_grGood.l0 k (l0_0.length : Int) l0_0 (l0_0.length : Int) 0) else (some false)) = some r := H
 have A2 := za0.mk A20
 clear A20
 by_cases c3 : t226 = true
 ·subst c3
  have H1 : (spec_grGood.l0 k (l0_0.length : Int) l0_0 (l0_0.length : Int) 0) = some r := by rw [if_pos rfl] at H; exact H
  clear H
  have H := H1
  clear H1
  have H' := za0.mk H
  clear H
  go_enter Try.func44, Try.ntmps44
  go_wp2_with (first | ((with_reducible refine zo0 (N := 1) rfl ?_); refine zp0 ?hg (N := 1) ?hd (cs := #[.slice A0_0 l0_0.length c0_0]) (t := 29) ?hr ?_; (case hd => rfl); (case hg => rfl); (case hr => first | (go_simp; done) | (go_simp; rfl)); intro gb225 hg w4 hbox hb; have n0_ := za0.mk (zh0 (by repeat (first | (with_reducible first | exact HB.out | apply zc0 | apply zb0 | apply zd0) | exact HB.out)) hb); have n1_ := za0.mk (hbox); have n2_ := za0.mk ((by rw [hg]; exact (zj0 (by repeat (first | (with_reducible first | exact HB.out | apply zc0 | apply zb0 | apply zd0) | exact HB.out))) : w.heap.size ≤ gb225)); have n3_ := za0.mk ((by rw [hg]; exact (zj0 (by repeat (first | (with_reducible first | exact HB.out | apply zc0 | apply zb0 | apply zd0) | exact HB.out))) : w.heap.size ≤ gb225)); clear HB; have HB := n0_; have BK225 := n1_; have GW225 := n2_; have GE225 := n3_; clear n0_ n1_ n2_ n3_; clear hb hbox hg; have hcz5_0 : w4.cell? ⟨gb225, 0, none⟩ = some (.slice A0_0 l0_0.length c0_0) := (zl0 BK225.out 0).trans rfl; have hfz5_0 := zk0 BK225.out 0) | ((with_reducible refine zn0 (f := 45) rfl ?_); refine goesL_ (some 10) rfl rfl Try.func45 (by kernel_rfl) rfl #[.int .i64 (l0_0.length : Int), .int .i64 1, .int .i64 8] rfl (by (try simp only [List.map_toArray, List.map_cons, List.map_nil]); first | done | rfl | (simp only [List.length_drop, List.length_take]; rfl)) ?_; (with_reducible refine (spec_l1In.calls (l0_0.length : Int) 1 8 true _ A2.out).mono ?_); rintro e w' ⟨rfl, ⟨nd, rfl⟩⟩; refine ⟨_, rfl, ?_⟩))
  go_loopg [15] k (fun kq v15 w' => ∃ (x15_1 : Int), v15 = .int .i64 x15_1 ∧ za0 (spec_grGood.l0 kq (l0_0.length : Int) l0_0 (l0_0.length : Int) x15_1 = some r) ∧ za0 (kq ≤ k) ∧ za0 (w'.heap[gb225]? = some (.cells #[(.slice A0_0 l0_0.length c0_0)] 29 (0, 0))) ∧ za0 (Below w.heap.size w w'))
  case atStart => exact ⟨(0), (by first | rfl | (simp; done) | (simp [*]; done)), H', ⟨Nat.le_refl _⟩, ⟨by (with_reducible repeat (first | refine zg0 ?_ _ | refine zi0 ?_ | refine zf0 ?_ _)); exact BK225.out⟩, ⟨by repeat (first | (with_reducible first | exact HB.out | apply zc0 | apply zb0 | apply zd0 | refine ze0 ?_ GE225.out) | exact HB.out)⟩⟩
  case round =>
   clear H'
   try clear p2
   try clear c3
   try clear c4
   try clear hcz5_0
   try clear hfz5_0
   obtain ⟨x15_1, rfl, HA, HK1, BK225, HB⟩ := hrel
   cases gk with
   | zero => exact absurd HA.out (by simp [spec_grGood.l0])
   | succ k1 =>
    have H := HA.out
    clear HA
    simp only [spec_grGood.l0] at H
    by_cases c6 : x15_1 < (l0_0.length : Int)
    ·rw [if_pos c6] at H
     have c6b0 : decide (x15_1 < (l0_0.length : Int)) = true := decide_eq_true c6
     clear c6
     by_cases c7 : 0 ≤ x15_1
     ·rw [if_pos c7] at H
      have c7b0 : decide (0 ≤ x15_1) = true := decide_eq_true c7
      clear c7
      by_cases c8 : x15_1 < (l0_0.length : Int)
      ·rw [if_pos c8] at H
       have c8b0 : decide (x15_1 < (l0_0.length : Int)) = true := decide_eq_true c8
       clear c8
       by_cases c9 : ((rd_L1 l0_0 x15_1).length : Int) > 5
       ·rw [if_pos c9] at H
        have c9b0 : decide (5 < ((rd_L1 l0_0 x15_1).length : Int)) = true := decide_eq_true c9
        have c9b1 : decide (5 < (rd_L1 l0_0 x15_1).length) = true := decide_eq_true (by omega)
        clear c9
        obtain rfl := Option.some.inj H
        have p227 : 0 ≤ (x15_1 : Int) := of_decide_eq_true (by first | (with_reducible assumption) | assumption)
        have q227 : x15_1 < (l0_0.length : Int) := of_decide_eq_true (by first | (with_reducible assumption) | assumption)
        obtain ⟨ad227, A227_0, c227_0, e227, hx227_0, hl227_0, hi227_0⟩ := at_L1 HR0_0.out x15_1 p227 q227
        cases e227
        replace hx227_0 := (HB.out.cell (World.block_lt_of_cell? w _ hx227_0)).trans hx227_0
        have HR227_0 := za0.mk hi227_0
        have HC227_0 := za0.mk hl227_0
        clear hi227_0 hl227_0
        replace p227 := eq_true p227
        replace q227 := eq_true q227
        go_wp2
        go_ret
        exact ⟨by first | rfl | (simp [errW_none, errW_some] <;> rfl) | (simp [*, errW_none, errW_some] <;> rfl), by repeat (first | (with_reducible first | exact HB.out | apply zc0 | apply zb0 | apply zd0 | refine ze0 ?_ GE225.out) | exact HB.out)⟩
       ·rw [if_neg c9] at H
        have c9b0 : decide (5 < ((rd_L1 l0_0 x15_1).length : Int)) = false := decide_eq_false c9
        have c9b1 : decide (5 < (rd_L1 l0_0 x15_1).length) = false := decide_eq_false (by omega)
        clear c9
        replace H := Option.bind_eq_some_iff.mp H
        obtain ⟨t228, A100, H⟩ := H
        replace H : (if t228 = true then (spec_grGood.l0 k1 (l0_0.length : Int) l0_0 (l0_0.length : Int) (wrap64 (x15_1 + 1))) else (some false)) = some r := H
        have A10 := za0.mk A100
        clear A100
        by_cases c11 : t228 = true
        ·subst c11
         have H1 : (spec_grGood.l0 k1 (l0_0.length : Int) l0_0 (l0_0.length : Int) (wrap64 (x15_1 + 1))) = some r := by rw [if_pos rfl] at H; exact H
         clear H
         have H := H1
         clear H1
         have H' := za0.mk H
         clear H
         have p227 : 0 ≤ (x15_1 : Int) := of_decide_eq_true (by first | (with_reducible assumption) | assumption)
         have q227 : x15_1 < (l0_0.length : Int) := of_decide_eq_true (by first | (with_reducible assumption) | assumption)
         obtain ⟨ad227, A227_0, c227_0, e227, hx227_0, hl227_0, hi227_0⟩ := at_L1 HR0_0.out x15_1 p227 q227
         cases e227
         replace hx227_0 := (HB.out.cell (World.block_lt_of_cell? w _ hx227_0)).trans hx227_0
         have HR227_0 := za0.mk hi227_0
         have HC227_0 := za0.mk hl227_0
         clear hi227_0 hl227_0
         replace p227 := eq_true p227
         replace q227 := eq_true q227
         go_wp2_with (first | (go_at_call 67; (with_reducible refine (spec_l1All.calls k1 _ _ (rd_L1 l0_0 x15_1) 0 (wrap64 ((l0_0.length : Int) - 1)) true _ ?side1 ?side2 A10.out).mono ?_); (case side1 => repeat (first | exact (Kd.C_below HR227_0.out HB.out) | (with_reducible refine Kd.C_alloc ?_ _) | (with_reducible refine Kd.C_drewN ?_ _) | (with_reducible refine Kd.C_drew ?_))); (case side2 => exact HC227_0.out); rintro e w' ⟨rfl, ⟨nd, rfl⟩⟩))
         go_roundg k1
         case measure => have := HK1.out; omega
         case rel => exact ⟨(wrap64 (x15_1 + 1)), (by first | rfl | (simp; done) | (simp [*]; done)), H', ⟨by have := HK1.out; omega⟩, ⟨by (with_reducible repeat (first | refine zg0 ?_ _ | refine zi0 ?_ | refine zf0 ?_ _)); exact BK225.out⟩, ⟨by repeat (first | (with_reducible first | exact HB.out | apply zc0 | apply zb0 | apply zd0 | refine ze0 ?_ GE225.out) | exact HB.out)⟩⟩
        ·replace c11 := Bool.eq_false_iff.mpr c11
         subst c11
         have H1 : (some false) = some r := by rw [if_neg (show ¬ (false = true) by decide)] at H; exact H
         clear H
         have H := H1
         clear H1
         obtain rfl := Option.some.inj H
         have p227 : 0 ≤ (x15_1 : Int) := of_decide_eq_true (by first | (with_reducible assumption) | assumption)
         have q227 : x15_1 < (l0_0.length : Int) := of_decide_eq_true (by first | (with_reducible assumption) | assumption)
         obtain ⟨ad227, A227_0, c227_0, e227, hx227_0, hl227_0, hi227_0⟩ := at_L1 HR0_0.out x15_1 p227 q227
         cases e227
         replace hx227_0 := (HB.out.cell (World.block_lt_of_cell? w _ hx227_0)).trans hx227_0
         have HR227_0 := za0.mk hi227_0
         have HC227_0 := za0.mk hl227_0
         clear hi227_0 hl227_0
         replace p227 := eq_true p227
         replace q227 := eq_true q227
         go_wp2_with (first | (go_at_call 67; (with_reducible refine (spec_l1All.calls k1 _ _ (rd_L1 l0_0 x15_1) 0 (wrap64 ((l0_0.length : Int) - 1)) false _ ?side1 ?side2 A10.out).mono ?_); (case side1 => repeat (first | exact (Kd.C_below HR227_0.out HB.out) | (with_reducible refine Kd.C_alloc ?_ _) | (with_reducible refine Kd.C_drewN ?_ _) | (with_reducible refine Kd.C_drew ?_))); (case side2 => exact HC227_0.out); rintro e w' ⟨rfl, ⟨nd, rfl⟩⟩))
         go_ret
         exact ⟨by first | rfl | (simp [errW_none, errW_some] <;> rfl) | (simp [*, errW_none, errW_some] <;> rfl), by repeat (first | (with_reducible first | exact HB.out | apply zc0 | apply zb0 | apply zd0 | refine ze0 ?_ GE225.out) | exact HB.out)⟩
      ·rw [if_neg c8] at H
       exact absurd H (by simp)
     ·rw [if_neg c7] at H
      exact absurd H (by simp)
    ·rw [if_neg c6] at H
     have c6b0 : decide (x15_1 < (l0_0.length : Int)) = false := decide_eq_false c6
     clear c6
     obtain rfl := Option.some.inj H
     go_wp2
     go_ret
     exact ⟨by first | rfl | (simp [errW_none, errW_some] <;> rfl) | (simp [*, errW_none, errW_some] <;> rfl), by repeat (first | (with_reducible first | exact HB.out | apply zc0 | apply zb0 | apply zd0 | refine ze0 ?_ GE225.out) | exact HB.out)⟩
 ·replace c3 := Bool.eq_false_iff.mpr c3
  subst c3
  have H1 : (some false) = some r := by rw [if_neg (show ¬ (false = true) by decide)] at H; exact H
  clear H
  have H := H1
  clear H1
  obtain rfl := Option.some.inj H
  go_enter Try.func44, Try.ntmps44
  go_wp2_with (first | ((with_reducible refine zo0 (N := 1) rfl ?_); refine zp0 ?hg (N := 1) ?hd (cs := #[.slice A0_0 l0_0.length c0_0]) (t := 29) ?hr ?_; (case hd => rfl); (case hg => rfl); (case hr => first | (go_simp; done) | (go_simp; rfl)); intro gb225 hg w12 hbox hb; have n0_ := za0.mk (zh0 (by repeat (first | (with_reducible first | exact HB.out | apply zc0 | apply zb0 | apply zd0) | exact HB.out)) hb); have n1_ := za0.mk (hbox); have n2_ := za0.mk ((by rw [hg]; exact (zj0 (by repeat (first | (with_reducible first | exact HB.out | apply zc0 | apply zb0 | apply zd0) | exact HB.out))) : w.heap.size ≤ gb225)); have n3_ := za0.mk ((by rw [hg]; exact (zj0 (by repeat (first | (with_reducible first | exact HB.out | apply zc0 | apply zb0 | apply zd0) | exact HB.out))) : w.heap.size ≤ gb225)); clear HB; have HB := n0_; have BK225 := n1_; have GW225 := n2_; have GE225 := n3_; clear n0_ n1_ n2_ n3_; clear hb hbox hg; have hcz13_0 : w12.cell? ⟨gb225, 0, none⟩ = some (.slice A0_0 l0_0.length c0_0) := (zl0 BK225.out 0).trans rfl; have hfz13_0 := zk0 BK225.out 0) | ((with_reducible refine zn0 (f := 45) rfl ?_); refine goesL_ (some 10) rfl rfl Try.func45 (by kernel_rfl) rfl #[.int .i64 (l0_0.length : Int), .int .i64 1, .int .i64 8] rfl (by (try simp only [List.map_toArray, List.map_cons, List.map_nil]); first | done | rfl | (simp only [List.length_drop, List.length_take]; rfl)) ?_; (with_reducible refine (spec_l1In.calls (l0_0.length : Int) 1 8 false _ A2.out).mono ?_); rintro e w' ⟨rfl, ⟨nd, rfl⟩⟩; refine ⟨_, rfl, ?_⟩))
  go_ret
  exact ⟨by first | rfl | (simp [errW_none, errW_some] <;> rfl) | (simp [*, errW_none, errW_some] <;> rfl), by repeat (first | (with_reducible first | exact HB.out | apply zc0 | apply zb0 | apply zd0 | refine ze0 ?_ GE225.out) | exact HB.out)⟩
def spec_grPlace.f (k : Nat) (l0_0 : List (List Int)) (a1 : Int) : Option (Bool) := (spec_grGood.f k l0_0).bind fun t230 => (if t230 = true then ((spec_l1In.f a1 0 (wrap64 ((l0_0.length : Int) - 1))).bind fun t231 => (some t231)) else (some false))
set_option maxHeartbeats 8000000 in
set_option maxRecDepth 100000 in
theorem spec_grPlace.calls (k : Nat) (A0_0 : Option Addr) (c0_0 : Nat) (l0_0 : List (List Int)) (a1 : Int) (r : Bool) (w : World) (hr0_0 : Kd.C (Kd.slice 3 (Kd.int .i64)) w A0_0 l0_0.length l0_0) (hc0_0 : l0_0.length ≤ c0_0) (h : spec_grPlace.f k l0_0 a1 = some r) :
  Calls Try.prog 28 #[.agg #[.slice A0_0 l0_0.length c0_0], .int .i64 a1] w fun e w' => e = .returned (.bool r) ∧ Below w.heap.size w w' := by
 have hu29 := Try.underlying29
 have HR0_0 := za0.mk hr0_0
 have HC0_0 := za0.mk hc0_0
 clear hr0_0 hc0_0
 have HB := za0.mk (Below.refl w.heap.size w)
 have H : ((spec_grGood.f k l0_0).bind fun t230 => (if t230 = true then ((spec_l1In.f a1 0 (wrap64 ((l0_0.length : Int) - 1))).bind fun t231 => (some t231)) else (some false))) = some r := h
 clear h
 replace H := Option.bind_eq_some_iff.mp H
 obtain ⟨t230, A30, H⟩ := H
 replace H : (if t230 = true then ((spec_l1In.f a1 0 (wrap64 ((l0_0.length : Int) - 1))).bind fun t231 => (some t231)) else (some false)) = some r := H
 have A3 := za0.mk A30
 clear A30
 by_cases c4 : t230 = true
 ·subst c4
  have H1 : ((spec_l1In.f a1 0 (wrap64 ((l0_0.length : Int) - 1))).bind fun t231 => (some t231)) = some r := by rw [if_pos rfl] at H; exact H
  clear H
  have H := H1
  clear H1
  replace H := Option.bind_eq_some_iff.mp H
  obtain ⟨t231, A50, H⟩ := H
  replace H : (some t231) = some r := H
  have A5 := za0.mk A50
  clear A50
  obtain rfl := Option.some.inj H
  go_enter Try.func28, Try.ntmps28
  go_wp2_with (first | ((with_reducible refine zo0 (N := 2) rfl ?_); (try (refine gate_guard (by rfl) ?_; dsimp only)); refine zp0 ?hg (N := 2) ?hd (cs := #[.slice A0_0 l0_0.length c0_0]) (t := 29) ?hr ?_; (case hd => rfl); (case hg => rfl); (case hr => first | (go_simp; done) | (go_simp; rfl)); intro gb229 hg w6 hbox hb; have n0_ := za0.mk (zh0 (by repeat (first | (with_reducible first | exact HB.out | apply zc0 | apply zb0 | apply zd0) | exact HB.out)) hb); have n1_ := za0.mk (hbox); have n2_ := za0.mk ((by rw [hg]; exact (zj0 (by repeat (first | (with_reducible first | exact HB.out | apply zc0 | apply zb0 | apply zd0) | exact HB.out))) : w.heap.size ≤ gb229)); have n3_ := za0.mk ((by rw [hg]; exact (zj0 (by repeat (first | (with_reducible first | exact HB.out | apply zc0 | apply zb0 | apply zd0) | exact HB.out))) : w.heap.size ≤ gb229)); clear HB; have HB := n0_; have BK229 := n1_; have GW229 := n2_; have GE229 := n3_; clear n0_ n1_ n2_ n3_; clear hb hbox hg; have hcz7_0 : w6.cell? ⟨gb229, 0, none⟩ = some (.slice A0_0 l0_0.length c0_0) := (zl0 BK229.out 0).trans rfl; have hfz7_0 := zk0 BK229.out 0) | ((with_reducible refine zn0 (f := 44) rfl ?_); refine goesL_ (some 6) rfl rfl Try.func44 (by kernel_rfl) rfl #[.agg #[.slice A0_0 l0_0.length c0_0]] rfl (by (try simp only [List.map_toArray, List.map_cons, List.map_nil]); first | done | rfl | (simp only [List.length_drop, List.length_take]; rfl)) ?_; (with_reducible refine (spec_grGood.calls k _ _ l0_0 true _ ?side1 ?side2 A3.out).mono ?_); (case side1 => repeat (first | exact (Kd.C_below HR0_0.out HB.out) | (with_reducible refine Kd.C_alloc ?_ _) | (with_reducible refine Kd.C_drewN ?_ _) | (with_reducible refine Kd.C_drew ?_))); (case side2 => exact HC0_0.out); rintro e w8 ⟨rfl, hb⟩; refine ⟨_, rfl, ?_⟩; have n0_ := za0.mk (zm0 (g := gb229) (o := .cells #[.slice A0_0 l0_0.length c0_0] 29 (0, 0)) (by (with_reducible repeat (first | refine zg0 ?_ _ | refine zi0 ?_ | refine zf0 ?_ _)); exact BK229.out) hb); have n1_ := za0.mk (zh0 (by repeat (first | (with_reducible first | exact HB.out | apply zc0 | apply zb0 | apply zd0 | refine ze0 ?_ GE229.out) | exact HB.out)) hb); clear BK229; clear HB; have BK229 := n0_; have HB := n1_; clear n0_ n1_; (try clear hb); (try clear hb2); (try clear hk); (try clear hi); have hcz9_0 : w8.cell? ⟨gb229, 0, none⟩ = some (.slice A0_0 l0_0.length c0_0) := (zl0 BK229.out 0).trans rfl; have hfz9_0 := zk0 BK229.out 0) | (go_at_call 45; (with_reducible refine (spec_l1In.calls a1 0 (wrap64 ((l0_0.length : Int) - 1)) t231 _ A5.out).mono ?_); rintro e w' ⟨rfl, ⟨nd, rfl⟩⟩))
  go_ret
  exact ⟨by first | rfl | (simp [errW_none, errW_some] <;> rfl) | (simp [*, errW_none, errW_some] <;> rfl), by repeat (first | (with_reducible first | exact HB.out | apply zc0 | apply zb0 | apply zd0 | refine ze0 ?_ GE229.out) | exact HB.out)⟩
 ·replace c4 := Bool.eq_false_iff.mpr c4
  subst c4
  have H1 : (some false) = some r := by rw [if_neg (show ¬ (false = true) by decide)] at H; exact H
  clear H
  have H := H1
  clear H1
  obtain rfl := Option.some.inj H
  go_enter Try.func28, Try.ntmps28
  go_wp2_with (first | ((with_reducible refine zo0 (N := 2) rfl ?_); (try (refine gate_guard (by rfl) ?_; dsimp only)); refine zp0 ?hg (N := 2) ?hd (cs := #[.slice A0_0 l0_0.length c0_0]) (t := 29) ?hr ?_; (case hd => rfl); (case hg => rfl); (case hr => first | (go_simp; done) | (go_simp; rfl)); intro gb229 hg w10 hbox hb; have n0_ := za0.mk (zh0 (by repeat (first | (with_reducible first | exact HB.out | apply zc0 | apply zb0 | apply zd0) | exact HB.out)) hb); have n1_ := za0.mk (hbox); have n2_ := za0.mk ((by rw [hg]; exact (zj0 (by repeat (first | (with_reducible first | exact HB.out | apply zc0 | apply zb0 | apply zd0) | exact HB.out))) : w.heap.size ≤ gb229)); have n3_ := za0.mk ((by rw [hg]; exact (zj0 (by repeat (first | (with_reducible first | exact HB.out | apply zc0 | apply zb0 | apply zd0) | exact HB.out))) : w.heap.size ≤ gb229)); clear HB; have HB := n0_; have BK229 := n1_; have GW229 := n2_; have GE229 := n3_; clear n0_ n1_ n2_ n3_; clear hb hbox hg; have hcz11_0 : w10.cell? ⟨gb229, 0, none⟩ = some (.slice A0_0 l0_0.length c0_0) := (zl0 BK229.out 0).trans rfl; have hfz11_0 := zk0 BK229.out 0) | ((with_reducible refine zn0 (f := 44) rfl ?_); refine goesL_ (some 6) rfl rfl Try.func44 (by kernel_rfl) rfl #[.agg #[.slice A0_0 l0_0.length c0_0]] rfl (by (try simp only [List.map_toArray, List.map_cons, List.map_nil]); first | done | rfl | (simp only [List.length_drop, List.length_take]; rfl)) ?_; (with_reducible refine (spec_grGood.calls k _ _ l0_0 false _ ?side1 ?side2 A3.out).mono ?_); (case side1 => repeat (first | exact (Kd.C_below HR0_0.out HB.out) | (with_reducible refine Kd.C_alloc ?_ _) | (with_reducible refine Kd.C_drewN ?_ _) | (with_reducible refine Kd.C_drew ?_))); (case side2 => exact HC0_0.out); rintro e w12 ⟨rfl, hb⟩; refine ⟨_, rfl, ?_⟩; have n0_ := za0.mk (zm0 (g := gb229) (o := .cells #[.slice A0_0 l0_0.length c0_0] 29 (0, 0)) (by (with_reducible repeat (first | refine zg0 ?_ _ | refine zi0 ?_ | refine zf0 ?_ _)); exact BK229.out) hb); have n1_ := za0.mk (zh0 (by repeat (first | (with_reducible first | exact HB.out | apply zc0 | apply zb0 | apply zd0 | refine ze0 ?_ GE229.out) | exact HB.out)) hb); clear BK229; clear HB; have BK229 := n0_; have HB := n1_; clear n0_ n1_; (try clear hb); (try clear hb2); (try clear hk); (try clear hi)))
  go_ret
  exact ⟨by first | rfl | (simp [errW_none, errW_some] <;> rfl) | (simp [*, errW_none, errW_some] <;> rfl), by repeat (first | (with_reducible first | exact HB.out | apply zc0 | apply zb0 | apply zd0 | refine ze0 ?_ GE229.out) | exact HB.out)⟩
end Go.Proofs.Ytlbgajpbdbgmkaa.P
