-- Printed by a program of this session (pp.sh), out of the translation; Lean checks it.
-- (narrow)
import Derived.Test.YthjkhbfaenidpaaP0
import Derived.Test.YthjkhbfaenidpaaPslicesCloneintint
import Derived.Test.YthjkhbfaenidpaaPimplGraphisTree
namespace Go.Proofs.Ythjkhbfaenidpaa.P
open Go.RowKit Go.Proofs.YthjkhbfaenidpaaW.PrintWords Go.Proofs.YthjkhbfaenidpaaW.PrintLast Go.Proofs.YthjkhbfaenidpaaW.PrintMore
attribute [local go_sem] max2_int min2_int max_two min_two max_three min_three max_four min_four   -- for this text's walks alone
set_option linter.unusedVariables false
set_option linter.unusedSimpArgs false

/-! ### impl_allTrees: function 33 -/
theorem blk_putR {w : World} {B j t : Nat} {cs : Array Value} {u : Value} (h : w.heap[B]? = some (.cells cs t (0, 0))) : (w.setCell ⟨B, j, none⟩ u).heap[B]? = some (.cells (cs.setIfInBounds j u) t (0, 0)) := by
 simp only [World.setCell, Array.getElem?_modify, if_true, h, Option.map_some]
 rfl
/-- What the search for trees has in memory: the graph, the sink, the list, the number, the rotors; beside them a box of the graph. -/
structure RotSt (w0 w : World) (Bg Bs Bo Bm Bx nb n cap c0 : Nat) (A0 : Option Addr) (m : Nat) (s most : Int) (now : List Int) (out : List (List Int)) (Ao : Option Addr) (co : Nat) : Prop where
 hb : Below w0.heap.size w0 w
 hn : n = now.length
 cap_ : n ≤ cap
 bg : w.heap[Bg]? = some (.cells #[.slice A0 m c0] 28 (0, 0))
 bx : w.heap[Bx]? = some (.cells #[.slice A0 m c0] 28 (0, 0))
 bs : w.heap[Bs]? = some (.cells #[.int .i64 s] 3 (0, 0))
 bm : w.heap[Bm]? = some (.cells #[.int .i64 most] 3 (0, 0))
 bo : w.heap[Bo]? = some (.cells #[.slice Ao out.length co] 22 (0, 0))
 rt : Kd.R (Kd.int .i64) 3 w w0.heap.size (fun k => k = nb) (.slice (some ⟨nb, 0, none⟩) n cap) now
 fd : Kd.S (Kd.slice 3 (Kd.int .i64)) 35 w w0.heap.size (fun k => k ≠ nb ∧ k ≠ Bs ∧ k ≠ Bm) (.slice Ao out.length co) out
 ne : (Bg ≠ nb ∧ Bx ≠ nb ∧ Bs ≠ nb ∧ Bm ≠ nb ∧ Bo ≠ nb) ∧ Bg ≠ Bo ∧ Bx ≠ Bo ∧ Bs ≠ Bo ∧ Bm ≠ Bo
 ge : w0.heap.size ≤ nb ∧ w0.heap.size ≤ Bo
section
variable {w0 w w1 : World} {Bg Bs Bo Bm Bx nb n cap c0 : Nat} {A0 : Option Addr} {m : Nat} {s most : Int} {now : List Int} {out : List (List Int)} {Ao : Option Addr} {co : Nat}
theorem RotSt.below (h : RotSt w0 w Bg Bs Bo Bm Bx nb n cap c0 A0 m s most now out Ao co) (hb : Below w.heap.size w w1) : RotSt w0 w1 Bg Bs Bo Bm Bx nb n cap c0 A0 m s most now out Ao co :=
 ⟨below_step h.hb hb, h.hn, h.cap_, blk_below h.bg hb, blk_below h.bx hb, blk_below h.bs hb, blk_below h.bm hb, blk_below h.bo hb, Kd.R_below h.rt hb, Kd.S_below h.fd hb, h.ne, h.ge⟩
theorem RotSt.drew (h : RotSt w0 w Bg Bs Bo Bm Bx nb n cap c0 A0 m s most now out Ao co) : RotSt w0 w.drew Bg Bs Bo Bm Bx nb n cap c0 A0 m s most now out Ao co := h.below (below_drew (Below.refl _ _))
theorem RotSt.put (h : RotSt w0 w Bg Bs Bo Bm Bx nb n cap c0 A0 m s most now out Ao co) (i x : Int) : RotSt w0 (w.setCell ⟨nb, i.toNat, none⟩ (.int .i64 x)) Bg Bs Bo Bm Bx nb n cap c0 A0 m s most (now.set i.toNat x) out Ao co :=
 ⟨below_set h.hb h.ge.1, by rw [List.length_set]; exact h.hn, h.cap_, (Below.heap_setCell w ⟨nb, i.toNat, none⟩ _ _ h.ne.1.1).trans h.bg, (Below.heap_setCell w ⟨nb, i.toNat, none⟩ _ _ h.ne.1.2.1).trans h.bx,
  (Below.heap_setCell w ⟨nb, i.toNat, none⟩ _ _ h.ne.1.2.2.1).trans h.bs, (Below.heap_setCell w ⟨nb, i.toNat, none⟩ _ _ h.ne.1.2.2.2.1).trans h.bm, (Below.heap_setCell w ⟨nb, i.toNat, none⟩ _ _ h.ne.1.2.2.2.2).trans h.bo,
  (Kd.R_putg h.rt i x).1, Kd.S_far h.fd (fun k hk => hk.1) _, h.ne, h.ge⟩
theorem RotSt.putN (h : RotSt w0 w Bg Bs Bo Bm Bx nb n cap c0 A0 m s most now out Ao co) (i : Nat) (x : Int) : RotSt w0 (w.setCell ⟨nb, i, none⟩ (.int .i64 x)) Bg Bs Bo Bm Bx nb n cap c0 A0 m s most (now.set i x) out Ao co := by
 have := h.put (i : Int) x
 rwa [Int.toNat_natCast] at this
/-- A row more: the list has grown, its box is written. -/
theorem RotSt.grow (h : RotSt w0 w Bg Bs Bo Bm Bx nb n cap c0 A0 m s most now out Ao co) {out' : List (List Int)} {Ao' : Option Addr} {co' : Nat} (hb : Below w0.heap.size w0 w1) (hg : w.grownBy w1 (.slice Ao out.length co : Value).ownBlock)
  (fd : Kd.S (Kd.slice 3 (Kd.int .i64)) 35 w1 w0.heap.size (fun k => k ≠ nb ∧ k ≠ Bs ∧ k ≠ Bm) (.slice Ao' out'.length co') out') : RotSt w0 (w1.setCell ⟨Bo, 0, none⟩ (.slice Ao' out'.length co')) Bg Bs Bo Bm Bx nb n cap c0 A0 m s most now out' Ao' co' :=
 have bo := blk_grown h.bo hg (Kd.S_ne h.fd h.bo (by decide))
 ⟨below_set hb h.ge.2, h.hn, h.cap_, (Below.heap_setCell _ ⟨Bo, 0, none⟩ _ _ h.ne.2.1).trans (blk_grown h.bg hg (Kd.S_ne h.fd h.bg (by decide))), (Below.heap_setCell _ ⟨Bo, 0, none⟩ _ _ h.ne.2.2.1).trans (blk_grown h.bx hg (Kd.S_ne h.fd h.bx (by decide))),
  (Below.heap_setCell _ ⟨Bo, 0, none⟩ _ _ h.ne.2.2.2.1).trans (blk_grown h.bs hg (Kd.S_ne h.fd h.bs (by decide))), (Below.heap_setCell _ ⟨Bo, 0, none⟩ _ _ h.ne.2.2.2.2).trans (blk_grown h.bm hg (Kd.S_ne h.fd h.bm (by decide))),
  (blk_putR bo).trans rfl, Kd.R_set (Kd.R_over' h.rt (Kd.S_typed h.fd) (by decide) hg) bo (by decide) 0 _, Kd.S_set fd bo (by decide) 0 _, h.ne, h.ge⟩
end
set_option maxHeartbeats 8000000 in
set_option maxRecDepth 100000 in
theorem allTrees_1.calls (k : Nat) (l : List (List Int)) (s most : Int) (A0 : Option Addr) (c0 Bg Bs Bo Bm Bx nb n cap : Nat) (w0 w : World) (hr0 : Kd.C (Kd.slice 3 (Kd.int .i64)) w0 A0 l.length l) (hc0 : l.length ≤ c0) (now : List Int) (out : List (List Int)) (Ao : Option Addr) (co : Nat) (b : Bool)
  (st : RotSt w0 w Bg Bs Bo Bm Bx nb n cap c0 A0 l.length s most now out Ao co) (hT : impl_Graph_isTree.f k l s now = some b) (hl : (out.length + 1) * 24 ≤ 140737488355328) (hl2 : now.length < 17592186044416) :
  Calls Try.prog 51 #[.slice (some ⟨nb, 0, none⟩) n cap, .pointer (some ⟨Bg, 0, none⟩), .pointer (some ⟨Bs, 0, none⟩), .pointer (some ⟨Bo, 0, none⟩), .pointer (some ⟨Bm, 0, none⟩)] w fun e w' =>
   e = .returned (.bool (decide (((if b then out ++ [now] else out).length : Int) < most))) ∧ ∃ Ao' co', RotSt w0 w' Bg Bs Bo Bm Bx nb n cap c0 A0 l.length s most now (if b then out ++ [now] else out) Ao' co' := by
 have hu1 := Try.underlying28
 have hu3 := Try.underlying35
 have HR0 := Aside0.mk hr0
 have HC0 := Aside0.mk hc0
 have HT := Aside0.mk hT
 have LM := Aside0.mk hl
 have L2 := Aside0.mk hl2
 have hn := st.hn
 subst hn
 have ST := Aside0.mk st
 clear hr0 hc0 hT hl hl2 st
 have hcg : w.cell? ⟨Bg, 0, none⟩ = some (.slice A0 l.length c0) := (blk_cell ST.out.bg 0).trans rfl
 have hcs : w.cell? ⟨Bs, 0, none⟩ = some (.int .i64 s) := (blk_cell ST.out.bs 0).trans rfl
 cases b with
 | false =>
  by_cases c1 : (out.length : Int) < most
  ·have c1b : decide ((out.length : Int) < most) = true := decide_eq_true c1
   clear c1
   go_enter Try.func51, Try.ntmps51
   go_wp2_with (go_at_call 52; refine (impl_Graph_isTree.calls k A0 c0 l s (some ⟨nb, 0, none⟩) cap now false w (Kd.C_below HR0.out ST.out.hb) HC0.out (Kd.R_reads' ST.out.rt).2.2 ST.out.cap_ HT.out).mono ?_; rintro e w2 ⟨rfl, hb⟩; have ST2 := Aside0.mk (ST.out.below hb); clear hb; have hco : w2.cell? ⟨Bo, 0, none⟩ = some (.slice Ao out.length co) := (blk_cell ST2.out.bo 0).trans rfl; have hcm : w2.cell? ⟨Bm, 0, none⟩ = some (.int .i64 most) := (blk_cell ST2.out.bm 0).trans rfl)
   go_ret
   exact ⟨by simp [c1b], _, _, ST2.out⟩
  ·have c1b : decide ((out.length : Int) < most) = false := decide_eq_false c1
   clear c1
   go_enter Try.func51, Try.ntmps51
   go_wp2_with (go_at_call 52; refine (impl_Graph_isTree.calls k A0 c0 l s (some ⟨nb, 0, none⟩) cap now false w (Kd.C_below HR0.out ST.out.hb) HC0.out (Kd.R_reads' ST.out.rt).2.2 ST.out.cap_ HT.out).mono ?_; rintro e w2 ⟨rfl, hb⟩; have ST2 := Aside0.mk (ST.out.below hb); clear hb; have hco : w2.cell? ⟨Bo, 0, none⟩ = some (.slice Ao out.length co) := (blk_cell ST2.out.bo 0).trans rfl; have hcm : w2.cell? ⟨Bm, 0, none⟩ = some (.int .i64 most) := (blk_cell ST2.out.bm 0).trans rfl)
   go_ret
   exact ⟨by simp [c1b], _, _, ST2.out⟩
 | true =>
  by_cases c1 : ((out.length : Int) + 1) < most
  ·have c1b : decide (((out.length : Int) + 1) < most) = true := decide_eq_true c1
   clear c1
   go_enter Try.func51, Try.ntmps51
   go_wp2_with (go_at_call 52; refine (impl_Graph_isTree.calls k A0 c0 l s (some ⟨nb, 0, none⟩) cap now true w (Kd.C_below HR0.out ST.out.hb) HC0.out (Kd.R_reads' ST.out.rt).2.2 ST.out.cap_ HT.out).mono ?_; rintro e w2 ⟨rfl, hb⟩; have ST2 := Aside0.mk (ST.out.below hb); clear hb; have hco : w2.cell? ⟨Bo, 0, none⟩ = some (.slice Ao out.length co) := (blk_cell ST2.out.bo 0).trans rfl; have hcm : w2.cell? ⟨Bm, 0, none⟩ = some (.int .i64 most) := (blk_cell ST2.out.bm 0).trans rfl)
   have ST3 := Aside0.mk ST2.out.drew
   have hcy : w2.drew.cell? ⟨Bo, 0, none⟩ = some (.slice Ao out.length co) := (blk_cell ST3.out.bo 0).trans rfl
   clear hco hcm ST2
   have hcl : slices_Clone_int_int.f now = some now := by unfold slices_Clone_int_int.f; rw [if_pos L2.out]
   have A3 := Aside0.mk hcl
   clear hcl
   refine start_ (n := 6) (S := fun w' => w'.cell? ⟨Bo, 0, none⟩ = some (.slice Ao out.length co)) (ds := [5]) #[false, false, false, false, false, false] (by kernel_rfl) rfl rfl hcy (fun hHeld => ?_)
   clear hcy
   refine take_ (i := 0) (N := some 11) (v := ?_) (a' := ?_) #[true, false, false, false, false, false] rfl rfl (by kernel_rfl) (fun _ _ _ h => h) (Or.inl ⟨by rfl, ?_⟩) hHeld ?_ ?_
   rotate_left
   ·rintro w' s0
    go_simp
    with_reducible rfl
   rotate_left
   ·simp only [Act.put, List.setIfInBounds_toArray, List.set_cons_zero, List.set_cons_succ, i64_w, i32_w]
    rfl
   refine pure_ (i := 1) (N := some 12) (v := ?_) (a' := ?_) #[true, true, false, false, false, false] rfl rfl (by kernel_rfl) (fun _ _ _ h => h) (Or.inl ⟨by rfl, ?_⟩) ?_ ?_
   rotate_left
   ·intro w'
    go_simp
    with_reducible rfl
   rotate_left
   ·simp only [Act.put, List.setIfInBounds_toArray, List.set_cons_zero, List.set_cons_succ, i64_w, i32_w]
    rfl
   refine one_ (i := 2) (N := some 13) #[true, true, true, false, false, false] rfl rfl (by kernel_rfl) (by decide) (fun K hK => ?_)
   refine goes_ Try.func48 (by kernel_rfl) rfl #[.slice (some ⟨nb, 0, none⟩) now.length cap] (by rfl) rfl rfl (by (try simp only [List.map_toArray, List.map_cons, List.map_nil]); first | done | rfl) ?_
   refine (slices_Clone_int_int.calls _ _ now now _ (Kd.R_reads' ST3.out.rt).2.2 ST3.out.cap_ A3.out).mono ?_
   rintro e w3 ⟨v3, rfl, ho0, hb⟩
   refine ⟨_, rfl, ?_⟩
   have HN := Aside0.mk (Kd.R_base ho0)
   have HLT := Aside0.mk (show nb < w2.drew.heap.size ∧ Bs < w2.drew.heap.size ∧ Bm < w2.drew.heap.size from ⟨Kd.R_lt ST3.out.rt nb rfl, blk_lt ST3.out.bs, blk_lt ST3.out.bm⟩)
   have ST4 := Aside0.mk (ST3.out.below hb)
   have HSZ := Aside0.mk hb.size
   have HF := Aside0.mk (Kd.S_elder' ST3.out.fd (Kd.R_base ho0) hb)
   have HW := Aside0.mk (Kd.R_lower ho0 (below_size ST3.out.hb))
   clear ho0 hb ST3
   obtain ⟨Ao2, co2, eo⟩ := Kd.R_slice HW.out
   subst eo
   refine hK.out _ _ ((blk_cell ST4.out.bo 0).trans rfl) (fun hHeld => ?_)
   clear hK K
   refine norm_ (a' := ?_) ?_ ?_
   rotate_left
   ·show Act.put _ (some 13) _ = _
    simp only [Act.put, List.setIfInBounds_toArray, List.set_cons_zero, List.set_cons_succ, i64_w, i32_w]
    rfl
   refine one_ (i := 3) (N := some 14) #[true, true, true, true, false, false] rfl rfl (by kernel_rfl) (by decide) (fun K hK => ?_)
   refine value_ (w1 := ?_) (v := ?_) (by rfl) rfl ?_ ?_
   rotate_left 2
   ·go_simp
    constructor
    ·rfl
    ·rfl
   have BKA := Aside0.mk (blk_alloc ST4.out.bo (.cells #[.slice Ao2 now.length co2] 35))
   refine hK.out _ _ ((blk_cell BKA.out 0).trans rfl) (fun hHeld => ?_)
   clear hK K
   refine norm_ (a' := ?_) ?_ ?_
   rotate_left
   ·show Act.put _ (some 14) _ = _
    simp only [Act.put, List.setIfInBounds_toArray, List.set_cons_zero, List.set_cons_succ, i64_w, i32_w]
    rfl
   refine one_ (i := 4) (N := some 15) #[true, true, true, true, true, false] rfl rfl (by kernel_rfl) (by decide) (fun K hK => ?_)
   refine Kd.S_append_step (Kd.slice 3 (Kd.int .i64)) (w0 := w0) w0.heap.size (by rfl) (.tmp 11) (.tmp 14) 22 35 (.slice none 0 0) 24 rfl Try.underlying22 info35 rfl (by decide) (by omega) (.slice Ao out.length co) out now [.slice Ao2 now.length co2] (fun k => k ≠ nb ∧ k ≠ Bs ∧ k ≠ Bm) (fun k_ => some k_ = (.slice Ao2 now.length co2 : Value).ownBlock) rfl rfl ?aP ?aK ?aF ?aO ?aB ?aS ?aL ?_
   (case aP => exact Kd.M_row (Kd.R_mono (Kd.R_tight rfl HW.out) (fun _ h_ => h_)))
   (case aK => exact fun k_ hk_ => ⟨by have h1 := HN.out k_ hk_.symm; have h2 := HLT.out; omega, ((Kd.R_apart' HW.out (Kd.S_typed ST4.out.fd) (by decide)).1 k_ hk_.symm).2⟩)
   (case aB => exact ST4.out.hb)
   (case aF => exact fun k_ hk => by have h1 := HSZ.out; have h2 := HLT.out; omega)
   (case aO => exact Kd.S_mono HF.out (fun k_ hk => ⟨hk.1, fun e_ => hk.2 e_⟩))
   (case aS => exact below_size ST4.out.hb)
   (case aL => exact LM.out)
   intro v9 w9 ho hb hg hat
   obtain ⟨Af9, cf9, e9⟩ := Kd.S_slice ho
   subst e9
   have ST9 := Aside0.mk (RotSt.grow ST4.out hb hg ho)
   have BK9 := Aside0.mk (blk_grown ST4.out.bo hg (Kd.S_ne ST4.out.fd ST4.out.bo (by decide)))
   have hcx : w9.cell? ⟨Bo, 0, none⟩ = some (.slice Ao out.length co) := (blk_cell BK9.out 0).trans rfl
   have hfx := blk_frozen BK9.out 0
   clear ho hb hg hat
   refine hK.out _ _ ((blk_cell BK9.out 0).trans rfl) (fun hHeld => ?_)
   clear hK K
   refine norm_ (a' := ?_) ?_ ?_
   rotate_left
   ·show Act.put _ (some 15) _ = _
    simp only [Act.put, List.setIfInBounds_toArray, List.set_cons_zero, List.set_cons_succ, i64_w, i32_w]
    rfl
   refine last_ (i := 5) (N := none) #[true, true, true, true, true, true] rfl rfl (by kernel_rfl) (by decide) (fun K hK => ?_)
   refine skip_ (w1 := ?_) (by rfl) rfl ?_ ?_
   rotate_left
   ·go_simp
    rfl
   refine hK.out _ _ ?_
   clear hK K
   refine done_ (by kernel_rfl) ?_
   have hco : (w9.setCell ⟨Bo, 0, none⟩ (.slice Af9 (out ++ [now]).length cf9)).cell? ⟨Bo, 0, none⟩ = some (.slice Af9 (out ++ [now]).length cf9) := (blk_cell ST9.out.bo 0).trans rfl
   have hcm : (w9.setCell ⟨Bo, 0, none⟩ (.slice Af9 (out ++ [now]).length cf9)).cell? ⟨Bm, 0, none⟩ = some (.int .i64 most) := (blk_cell ST9.out.bm 0).trans rfl
   simp only [List.length_append, List.length_cons, List.length_nil, Nat.zero_add] at hco hcm
   go_wp2
   go_ret
   refine ⟨by simp [c1b], Af9, cf9, ?_⟩
   have h9 := ST9.out
   simp only [List.length_append, List.length_cons, List.length_nil, Nat.zero_add] at h9
   exact h9
  ·have c1b : decide (((out.length : Int) + 1) < most) = false := decide_eq_false c1
   clear c1
   go_enter Try.func51, Try.ntmps51
   go_wp2_with (go_at_call 52; refine (impl_Graph_isTree.calls k A0 c0 l s (some ⟨nb, 0, none⟩) cap now true w (Kd.C_below HR0.out ST.out.hb) HC0.out (Kd.R_reads' ST.out.rt).2.2 ST.out.cap_ HT.out).mono ?_; rintro e w2 ⟨rfl, hb⟩; have ST2 := Aside0.mk (ST.out.below hb); clear hb; have hco : w2.cell? ⟨Bo, 0, none⟩ = some (.slice Ao out.length co) := (blk_cell ST2.out.bo 0).trans rfl; have hcm : w2.cell? ⟨Bm, 0, none⟩ = some (.int .i64 most) := (blk_cell ST2.out.bm 0).trans rfl)
   have ST3 := Aside0.mk ST2.out.drew
   have hcy : w2.drew.cell? ⟨Bo, 0, none⟩ = some (.slice Ao out.length co) := (blk_cell ST3.out.bo 0).trans rfl
   clear hco hcm ST2
   have hcl : slices_Clone_int_int.f now = some now := by unfold slices_Clone_int_int.f; rw [if_pos L2.out]
   have A3 := Aside0.mk hcl
   clear hcl
   refine start_ (n := 6) (S := fun w' => w'.cell? ⟨Bo, 0, none⟩ = some (.slice Ao out.length co)) (ds := [5]) #[false, false, false, false, false, false] (by kernel_rfl) rfl rfl hcy (fun hHeld => ?_)
   clear hcy
   refine take_ (i := 0) (N := some 11) (v := ?_) (a' := ?_) #[true, false, false, false, false, false] rfl rfl (by kernel_rfl) (fun _ _ _ h => h) (Or.inl ⟨by rfl, ?_⟩) hHeld ?_ ?_
   rotate_left
   ·rintro w' s0
    go_simp
    with_reducible rfl
   rotate_left
   ·simp only [Act.put, List.setIfInBounds_toArray, List.set_cons_zero, List.set_cons_succ, i64_w, i32_w]
    rfl
   refine pure_ (i := 1) (N := some 12) (v := ?_) (a' := ?_) #[true, true, false, false, false, false] rfl rfl (by kernel_rfl) (fun _ _ _ h => h) (Or.inl ⟨by rfl, ?_⟩) ?_ ?_
   rotate_left
   ·intro w'
    go_simp
    with_reducible rfl
   rotate_left
   ·simp only [Act.put, List.setIfInBounds_toArray, List.set_cons_zero, List.set_cons_succ, i64_w, i32_w]
    rfl
   refine one_ (i := 2) (N := some 13) #[true, true, true, false, false, false] rfl rfl (by kernel_rfl) (by decide) (fun K hK => ?_)
   refine goes_ Try.func48 (by kernel_rfl) rfl #[.slice (some ⟨nb, 0, none⟩) now.length cap] (by rfl) rfl rfl (by (try simp only [List.map_toArray, List.map_cons, List.map_nil]); first | done | rfl) ?_
   refine (slices_Clone_int_int.calls _ _ now now _ (Kd.R_reads' ST3.out.rt).2.2 ST3.out.cap_ A3.out).mono ?_
   rintro e w3 ⟨v3, rfl, ho0, hb⟩
   refine ⟨_, rfl, ?_⟩
   have HN := Aside0.mk (Kd.R_base ho0)
   have HLT := Aside0.mk (show nb < w2.drew.heap.size ∧ Bs < w2.drew.heap.size ∧ Bm < w2.drew.heap.size from ⟨Kd.R_lt ST3.out.rt nb rfl, blk_lt ST3.out.bs, blk_lt ST3.out.bm⟩)
   have ST4 := Aside0.mk (ST3.out.below hb)
   have HSZ := Aside0.mk hb.size
   have HF := Aside0.mk (Kd.S_elder' ST3.out.fd (Kd.R_base ho0) hb)
   have HW := Aside0.mk (Kd.R_lower ho0 (below_size ST3.out.hb))
   clear ho0 hb ST3
   obtain ⟨Ao2, co2, eo⟩ := Kd.R_slice HW.out
   subst eo
   refine hK.out _ _ ((blk_cell ST4.out.bo 0).trans rfl) (fun hHeld => ?_)
   clear hK K
   refine norm_ (a' := ?_) ?_ ?_
   rotate_left
   ·show Act.put _ (some 13) _ = _
    simp only [Act.put, List.setIfInBounds_toArray, List.set_cons_zero, List.set_cons_succ, i64_w, i32_w]
    rfl
   refine one_ (i := 3) (N := some 14) #[true, true, true, true, false, false] rfl rfl (by kernel_rfl) (by decide) (fun K hK => ?_)
   refine value_ (w1 := ?_) (v := ?_) (by rfl) rfl ?_ ?_
   rotate_left 2
   ·go_simp
    constructor
    ·rfl
    ·rfl
   have BKA := Aside0.mk (blk_alloc ST4.out.bo (.cells #[.slice Ao2 now.length co2] 35))
   refine hK.out _ _ ((blk_cell BKA.out 0).trans rfl) (fun hHeld => ?_)
   clear hK K
   refine norm_ (a' := ?_) ?_ ?_
   rotate_left
   ·show Act.put _ (some 14) _ = _
    simp only [Act.put, List.setIfInBounds_toArray, List.set_cons_zero, List.set_cons_succ, i64_w, i32_w]
    rfl
   refine one_ (i := 4) (N := some 15) #[true, true, true, true, true, false] rfl rfl (by kernel_rfl) (by decide) (fun K hK => ?_)
   refine Kd.S_append_step (Kd.slice 3 (Kd.int .i64)) (w0 := w0) w0.heap.size (by rfl) (.tmp 11) (.tmp 14) 22 35 (.slice none 0 0) 24 rfl Try.underlying22 info35 rfl (by decide) (by omega) (.slice Ao out.length co) out now [.slice Ao2 now.length co2] (fun k => k ≠ nb ∧ k ≠ Bs ∧ k ≠ Bm) (fun k_ => some k_ = (.slice Ao2 now.length co2 : Value).ownBlock) rfl rfl ?aP ?aK ?aF ?aO ?aB ?aS ?aL ?_
   (case aP => exact Kd.M_row (Kd.R_mono (Kd.R_tight rfl HW.out) (fun _ h_ => h_)))
   (case aK => exact fun k_ hk_ => ⟨by have h1 := HN.out k_ hk_.symm; have h2 := HLT.out; omega, ((Kd.R_apart' HW.out (Kd.S_typed ST4.out.fd) (by decide)).1 k_ hk_.symm).2⟩)
   (case aB => exact ST4.out.hb)
   (case aF => exact fun k_ hk => by have h1 := HSZ.out; have h2 := HLT.out; omega)
   (case aO => exact Kd.S_mono HF.out (fun k_ hk => ⟨hk.1, fun e_ => hk.2 e_⟩))
   (case aS => exact below_size ST4.out.hb)
   (case aL => exact LM.out)
   intro v9 w9 ho hb hg hat
   obtain ⟨Af9, cf9, e9⟩ := Kd.S_slice ho
   subst e9
   have ST9 := Aside0.mk (RotSt.grow ST4.out hb hg ho)
   have BK9 := Aside0.mk (blk_grown ST4.out.bo hg (Kd.S_ne ST4.out.fd ST4.out.bo (by decide)))
   have hcx : w9.cell? ⟨Bo, 0, none⟩ = some (.slice Ao out.length co) := (blk_cell BK9.out 0).trans rfl
   have hfx := blk_frozen BK9.out 0
   clear ho hb hg hat
   refine hK.out _ _ ((blk_cell BK9.out 0).trans rfl) (fun hHeld => ?_)
   clear hK K
   refine norm_ (a' := ?_) ?_ ?_
   rotate_left
   ·show Act.put _ (some 15) _ = _
    simp only [Act.put, List.setIfInBounds_toArray, List.set_cons_zero, List.set_cons_succ, i64_w, i32_w]
    rfl
   refine last_ (i := 5) (N := none) #[true, true, true, true, true, true] rfl rfl (by kernel_rfl) (by decide) (fun K hK => ?_)
   refine skip_ (w1 := ?_) (by rfl) rfl ?_ ?_
   rotate_left
   ·go_simp
    rfl
   refine hK.out _ _ ?_
   clear hK K
   refine done_ (by kernel_rfl) ?_
   have hco : (w9.setCell ⟨Bo, 0, none⟩ (.slice Af9 (out ++ [now]).length cf9)).cell? ⟨Bo, 0, none⟩ = some (.slice Af9 (out ++ [now]).length cf9) := (blk_cell ST9.out.bo 0).trans rfl
   have hcm : (w9.setCell ⟨Bo, 0, none⟩ (.slice Af9 (out ++ [now]).length cf9)).cell? ⟨Bm, 0, none⟩ = some (.int .i64 most) := (blk_cell ST9.out.bm 0).trans rfl
   simp only [List.length_append, List.length_cons, List.length_nil, Nat.zero_add] at hco hcm
   go_wp2
   go_ret
   refine ⟨by simp [c1b], Af9, cf9, ?_⟩
   have h9 := ST9.out
   simp only [List.length_append, List.length_cons, List.length_nil, Nat.zero_add] at h9
   exact h9
def odoN (g : List (List Int)) (s : Int) : Nat → List Int → Option (List Int)
 | 0, _ => none
 | p + 1, now => if (p : Int) = s ∨ wrap64 (((rd_L1 g (p : Int)).length : Int) - 1) ≤ rd now (p : Int) then odoN g s p (now.set p 0) else some (now.set p (wrap64 (rd now (p : Int) + 1)))
def rots (g : List (List Int)) (s most : Int) : Nat → List (List Int) → List Int → Option (List (List Int))
 | 0, _, _ => none
 | k + 1, out, now => if (out.length + 1) * 24 ≤ 140737488355328 then ((impl_Graph_isTree.f k g s now).bind fun b => if ((if b then out ++ [now] else out).length : Int) < most then (match odoN g s g.length now with
  | none => some (if b then out ++ [now] else out)
  | some now2 => rots g s most k (if b then out ++ [now] else out) now2) else some (if b then out ++ [now] else out)) else none
theorem rots_mono (g : List (List Int)) (s most : Int) : ∀ k out now, LeO (rots g s most k out now) (rots g s most (k + 1) out now) := by
 intro k
 induction k with
 | zero => intro out now; exact LeO.none _
 | succ k ih =>
  intro out now
  rw [rots.eq_2, rots.eq_2]
  refine LeO.ite (LeO.bind (impl_Graph_isTree.mono _ _ _ _) (fun b => LeO.ite ?_ (LeO.refl _))) (LeO.refl _)
  cases odoN g s g.length now with
  | none => exact LeO.refl _
  | some now2 => exact ih _ _
theorem odo_set {now : List Int} {q : Nat} (x : Int) : now.set ((q : Nat) : Int).toNat x = now.set q x := by rw [Int.toNat_natCast]
set_option maxHeartbeats 16000000 in
set_option maxRecDepth 100000 in
theorem allRotors_.calls (k : Nat) (l : List (List Int)) (s most : Int) (A0 : Option Addr) (c0 Bg Bs Bo Bm : Nat) (w0 w : World) (hr0 : Kd.C (Kd.slice 3 (Kd.int .i64)) w0 A0 l.length l) (hc0 : l.length ≤ c0) (hl1 : 0 < l.length) (hl2 : l.length ≤ 1000)
  (hb : Below w0.heap.size w0 w) (bg : w.heap[Bg]? = some (.cells #[.slice A0 l.length c0] 28 (0, 0))) (bs : w.heap[Bs]? = some (.cells #[.int .i64 s] 3 (0, 0))) (bm : w.heap[Bm]? = some (.cells #[.int .i64 most] 3 (0, 0)))
  (Ao : Option Addr) (co : Nat) (bo : w.heap[Bo]? = some (.cells #[.slice Ao 0 co] 22 (0, 0))) (fd : Kd.S (Kd.slice 3 (Kd.int .i64)) 35 w w0.heap.size (fun k => k ≠ Bs ∧ k ≠ Bm) (.slice Ao 0 co) [])
  (hBo : w0.heap.size ≤ Bo) (hne : Bg ≠ Bo ∧ Bs ≠ Bo ∧ Bm ≠ Bo) (r : List (List Int)) (h : rots l s most k [] (List.replicate l.length 0) = some r) :
  Calls Try.prog 50 #[.agg #[.slice A0 l.length c0], .int .i64 s, .func (.func 51) #[] #[.pointer (some ⟨Bg, 0, none⟩), .pointer (some ⟨Bs, 0, none⟩), .pointer (some ⟨Bo, 0, none⟩), .pointer (some ⟨Bm, 0, none⟩)]] w fun e w' =>
   e = .returned (.tuple #[]) ∧ ∃ Bx nb n cap now Ao' co', RotSt w0 w' Bg Bs Bo Bm Bx nb n cap c0 A0 l.length s most now r Ao' co' := by
 have hu1 := Try.underlying28
 have hu3 := Try.underlying35
 have eg : ∀ args w, (callFunc 51 args).run Try.prog w = .ok (.enter 51 args) w := fun args w => rfl
 obtain ⟨ad0, _, _, ead, _⟩ := at_L1 hr0 0 (by omega) (by omega)
 subst ead
 have HR0 := Aside0.mk hr0
 have HC0 := Aside0.mk hc0
 have H1 := Aside0.mk hl1
 have H2 := Aside0.mk hl2
 have H' := Aside0.mk h
 have HB := Aside0.mk (below_alloc hb (.cells #[.slice (some ad0) l.length c0] 28))
 have BX := Aside0.mk (blk_new w (.cells #[.slice (some ad0) l.length c0] 28))
 have BG := Aside0.mk (blk_alloc bg (.cells #[.slice (some ad0) l.length c0] 28))
 have BS := Aside0.mk (blk_alloc bs (.cells #[.slice (some ad0) l.length c0] 28))
 have BM := Aside0.mk (blk_alloc bm (.cells #[.slice (some ad0) l.length c0] 28))
 have BO := Aside0.mk (blk_alloc bo (.cells #[.slice (some ad0) l.length c0] 28))
 have FD := Aside0.mk (Kd.S_alloc fd (.cells #[.slice (some ad0) l.length c0] 28))
 have HXO := Aside0.mk (show w.heap.size ≠ Bo from fun e => by have := blk_lt bo; omega)
 have HBO := Aside0.mk hBo
 have HNE := Aside0.mk hne
 have hcx : (w.alloc (.cells #[.slice (some ad0) l.length c0] 28)).cell? ⟨w.heap.size, 0, none⟩ = some (.slice (some ad0) l.length c0) := (blk_cell BX.out 0).trans rfl
 clear hr0 hc0 hl1 hl2 h hb bg bs bm bo fd hBo hne
 go_enter Try.func50, Try.ntmps50
 go_wp2_with ((with_reducible refine gate_dst (N := 11) rfl ?_); refine Kd.R_make (Kd.int .i64) (w0 := w0) w0.heap.size 3 rfl (N := 11) rfl 35 _ _ rfl (l.length : Int) rfl rfl Try.underlying35 (.int .i64 0) 8 info3 rfl (by decide) (by omega) 0 (ok := fun _ => True) (okp := fun _ => False) rfl (fun _ _ => trivial) trivial (by omega) (by have := H2.out; omega) HB.out (below_size HB.out) ?_; intro v2 w2 hr2 hb2 hg2 hnew2)
 rw [Int.toNat_natCast] at hr2
 obtain ⟨nb, cap, e2, hnb, _, _⟩ := Kd.R_form hr2 (by rw [List.length_replicate]; exact H1.out)
 rw [List.length_replicate] at e2
 subst e2
 obtain ⟨bn, hbn, hbn2⟩ := hnew2
 obtain rfl : bn = nb := by injection hbn with e; exact e.symm
 have ST := Aside0.mk (show RotSt w0 w2 Bg Bs Bo Bm w.heap.size bn l.length cap c0 (some ad0) l.length s most (List.replicate l.length 0) [] Ao co from
  ⟨hb2, by simp, (Kd.R_reads' hr2).2.1, blk_grown BG.out hg2 (by simp), blk_grown BX.out hg2 (by simp), blk_grown BS.out hg2 (by simp), blk_grown BM.out hg2 (by simp), blk_grown BO.out hg2 (by simp),
   Kd.R_mono (ok' := fun k => k = bn) (Kd.R_tight rfl hr2) (fun k hk => by injection hk), Kd.S_grown (Kd.S_mono (Kd.S_bound FD.out) (fun k hk => ⟨by have := hk.2.2.1; omega, hk.1⟩)) hg2 (by simp),
   ⟨⟨by have := blk_lt BG.out; omega, by have := blk_lt BX.out; omega, by have := blk_lt BS.out; omega, by have := blk_lt BM.out; omega, by have := blk_lt BO.out; omega⟩, HNE.out.1, HXO.out, HNE.out.2.1, HNE.out.2.2⟩, hnb, HBO.out⟩)
 clear hr2 hb2 hg2 hnb hbn hbn2 BG BX BS BM BO FD HB hcx
 generalize w.heap.size = Bx at ST ⊢
 go_wp2
 go_loopg [7] k (fun kq _ w' => ∃ (now : List Int) (out : List (List Int)) (Ao' : Option Addr) (co' : Nat), Aside0 (rots l s most kq out now = some r) ∧ Aside0 (kq ≤ k) ∧ Aside0 (RotSt w0 w' Bg Bs Bo Bm Bx bn l.length cap c0 (some ad0) l.length s most now out Ao' co'))
 case atStart => exact ⟨_, _, _, _, H', ⟨Nat.le_refl _⟩, ST⟩
 case round =>
  clear H' ST
  obtain ⟨now, out, Ao1, co1, HA, HK1, ST⟩ := hrel
  cases gk with
  | zero => exact absurd HA.out (by simp [rots])
  | succ k1 =>
   have H := HA.out
   clear HA
   simp only [rots] at H
   by_cases c0_ : (out.length + 1) * 24 ≤ 140737488355328
   ·rw [if_pos c0_] at H
    have LM := Aside0.mk c0_
    clear c0_
    replace H := Option.bind_eq_some_iff.mp H
    obtain ⟨b, A80, H⟩ := H
    have A8 := Aside0.mk A80
    clear A80
    obtain ⟨out2, ho2⟩ : ∃ o : List (List Int), o = (if b then out ++ [now] else out) := ⟨_, rfl⟩
    rw [← ho2] at H
    have hlen : now.length < 17592186044416 := by have := ST.out.hn; have := H2.out; omega
    have hcall := allTrees_1.calls k1 l s most (some ad0) c0 Bg Bs Bo Bm Bx bn l.length cap w0 wr HR0.out HC0.out now out Ao1 co1 b ST.out A8.out LM.out hlen
    rw [← ho2] at hcall
    clear ho2 hlen
    by_cases c1 : (out2.length : Int) < most
    ·rw [if_pos c1] at H
     rw [decide_eq_true c1] at hcall
     clear c1
     have H' := Aside0.mk H
     clear H
     have HCALL := Aside0.mk hcall
     clear hcall
     go_wp2_with (fail)
     refine HCALL.out.mono ?_
     rintro e w3 ⟨rfl, Ao2, co2, st2⟩
     have ST2 := Aside0.mk st2
     clear st2 ST HCALL A8
     go_wp2
     have hw : wrap64 ((l.length : Int) - 1) = (l.length : Int) - 1 := by have := H2.out; unfold wrap64; omega
     go_loopg [7] l.length (fun kq v7 w' => ∃ now' : List Int, v7 = .int .i64 ((kq : Int) - 1) ∧ Aside0 (kq ≤ l.length) ∧ Aside0 (odoN l s kq now' = odoN l s l.length now) ∧ Aside0 (RotSt w0 w' Bg Bs Bo Bm Bx bn l.length cap c0 (some ad0) l.length s most now' out2 Ao2 co2))
     case atStart => exact ⟨now, by rw [hw], ⟨Nat.le_refl _⟩, ⟨rfl⟩, ST2⟩
     case round =>
      clear ST2
      obtain ⟨now2, rfl, HQ, HO, ST2⟩ := hrel
      cases gk with
      | zero =>
       rw [show (((0 : Nat) : Int) - 1) = -1 by omega]
       have e : odoN l s l.length now = none := HO.out.symm.trans rfl
       have H := H'.out
       rw [e] at H
       obtain rfl := Option.some.inj H
       have ST3 := Aside0.mk ST2.out.drew
       clear ST2 H H'
       have c0b : decide ((0 : Int) ≤ -1) = false := by decide
       have c1b : decide ((-1 : Int) < 0) = true := by decide
       go_wp2
       refine start_ (n := 21) (S := fun w' => True) (ds := []) #[false, false, false, false, false, false, false, false, false, false, false, false, false, false, false, false, false, false, false, false, false] (by kernel_rfl) rfl rfl trivial (fun hHeld => ?_)
       generalize wr.drew = w4 at ST3 hHeld ⊢
       refine pure_ (i := 0) (N := some 19) (v := ?_) (a' := ?_) #[true, false, false, false, false, false, false, false, false, false, false, false, false, false, false, false, false, false, false, false, false] rfl rfl (by kernel_rfl) (fun _ _ _ h => h) (Or.inl ⟨by rfl, ?_⟩) ?_ ?_
       rotate_left
       ·intro w'
        go_simp
        with_reducible rfl
       rotate_left
       ·simp only [Act.put, List.setIfInBounds_toArray, List.set_cons_zero, List.set_cons_succ, i64_w, i32_w]
        rfl
       refine pure_ (i := 1) (N := some 20) (v := ?_) (a' := ?_) #[true, true, false, false, false, false, false, false, false, false, false, false, false, false, false, false, false, false, false, false, false] rfl rfl (by kernel_rfl) (fun _ _ _ h => h) (Or.inl ⟨by rfl, ?_⟩) ?_ ?_
       rotate_left
       ·intro w'
        go_simp
        with_reducible rfl
       rotate_left
       ·simp only [Act.put, List.setIfInBounds_toArray, List.set_cons_zero, List.set_cons_succ, i64_w, i32_w]
        rfl
       refine pure_ (i := 2) (N := some 21) (v := ?_) (a' := ?_) #[true, true, true, false, false, false, false, false, false, false, false, false, false, false, false, false, false, false, false, false, false] rfl rfl (by kernel_rfl) (fun _ _ _ h => h) (Or.inl ⟨by rfl, ?_⟩) ?_ ?_
       rotate_left
       ·intro w'
        go_simp
        with_reducible rfl
       rotate_left
       ·simp only [Act.put, List.setIfInBounds_toArray, List.set_cons_zero, List.set_cons_succ, i64_w, i32_w]
        rfl
       refine pure_ (i := 3) (N := some 22) (v := undef) (a' := ?_) #[true, true, true, true, false, false, false, false, false, false, false, false, false, false, false, false, false, false, false, false, false] rfl rfl (by kernel_rfl) (fun _ _ _ h => h) (Or.inr ⟨by rfl, rfl⟩) ?_ ?_
       rotate_left
       ·simp only [Act.put, List.setIfInBounds_toArray, List.set_cons_zero, List.set_cons_succ, i64_w, i32_w]
        rfl
       refine pure_ (i := 4) (N := some 23) (v := undef) (a' := ?_) #[true, true, true, true, true, false, false, false, false, false, false, false, false, false, false, false, false, false, false, false, false] rfl rfl (by kernel_rfl) (fun _ _ _ h => h) (Or.inr ⟨by rfl, rfl⟩) ?_ ?_
       rotate_left
       ·simp only [Act.put, List.setIfInBounds_toArray, List.set_cons_zero, List.set_cons_succ, i64_w, i32_w]
        rfl
       refine pure_ (i := 5) (N := some 24) (v := undef) (a' := ?_) #[true, true, true, true, true, true, false, false, false, false, false, false, false, false, false, false, false, false, false, false, false] rfl rfl (by kernel_rfl) (fun _ _ _ h => h) (Or.inr ⟨by rfl, rfl⟩) ?_ ?_
       rotate_left
       ·simp only [Act.put, List.setIfInBounds_toArray, List.set_cons_zero, List.set_cons_succ, i64_w, i32_w]
        rfl
       refine pure_ (i := 6) (N := some 25) (v := undef) (a' := ?_) #[true, true, true, true, true, true, true, false, false, false, false, false, false, false, false, false, false, false, false, false, false] rfl rfl (by kernel_rfl) (fun _ _ _ h => h) (Or.inr ⟨by rfl, rfl⟩) ?_ ?_
       rotate_left
       ·simp only [Act.put, List.setIfInBounds_toArray, List.set_cons_zero, List.set_cons_succ, i64_w, i32_w]
        rfl
       refine pure_ (i := 7) (N := some 26) (v := undef) (a' := ?_) #[true, true, true, true, true, true, true, true, false, false, false, false, false, false, false, false, false, false, false, false, false] rfl rfl (by kernel_rfl) (fun _ _ _ h => h) (Or.inr ⟨by rfl, rfl⟩) ?_ ?_
       rotate_left
       ·simp only [Act.put, List.setIfInBounds_toArray, List.set_cons_zero, List.set_cons_succ, i64_w, i32_w]
        rfl
       refine pure_ (i := 8) (N := some 27) (v := undef) (a' := ?_) #[true, true, true, true, true, true, true, true, true, false, false, false, false, false, false, false, false, false, false, false, false] rfl rfl (by kernel_rfl) (fun _ _ _ h => h) (Or.inr ⟨by rfl, rfl⟩) ?_ ?_
       rotate_left
       ·simp only [Act.put, List.setIfInBounds_toArray, List.set_cons_zero, List.set_cons_succ, i64_w, i32_w]
        rfl
       refine pure_ (i := 9) (N := some 28) (v := undef) (a' := ?_) #[true, true, true, true, true, true, true, true, true, true, false, false, false, false, false, false, false, false, false, false, false] rfl rfl (by kernel_rfl) (fun _ _ _ h => h) (Or.inr ⟨by rfl, rfl⟩) ?_ ?_
       rotate_left
       ·simp only [Act.put, List.setIfInBounds_toArray, List.set_cons_zero, List.set_cons_succ, i64_w, i32_w]
        rfl
       refine pure_ (i := 10) (N := some 29) (v := undef) (a' := ?_) #[true, true, true, true, true, true, true, true, true, true, true, false, false, false, false, false, false, false, false, false, false] rfl rfl (by kernel_rfl) (fun _ _ _ h => h) (Or.inr ⟨by rfl, rfl⟩) ?_ ?_
       rotate_left
       ·simp only [Act.put, List.setIfInBounds_toArray, List.set_cons_zero, List.set_cons_succ, i64_w, i32_w]
        rfl
       refine pure_ (i := 11) (N := some 30) (v := undef) (a' := ?_) #[true, true, true, true, true, true, true, true, true, true, true, true, false, false, false, false, false, false, false, false, false] rfl rfl (by kernel_rfl) (fun _ _ _ h => h) (Or.inr ⟨by rfl, rfl⟩) ?_ ?_
       rotate_left
       ·simp only [Act.put, List.setIfInBounds_toArray, List.set_cons_zero, List.set_cons_succ, i64_w, i32_w]
        rfl
       refine pure_ (i := 12) (N := some 31) (v := undef) (a' := ?_) #[true, true, true, true, true, true, true, true, true, true, true, true, true, false, false, false, false, false, false, false, false] rfl rfl (by kernel_rfl) (fun _ _ _ h => h) (Or.inr ⟨by rfl, rfl⟩) ?_ ?_
       rotate_left
       ·simp only [Act.put, List.setIfInBounds_toArray, List.set_cons_zero, List.set_cons_succ, i64_w, i32_w]
        rfl
       refine pure_ (i := 13) (N := some 32) (v := undef) (a' := ?_) #[true, true, true, true, true, true, true, true, true, true, true, true, true, true, false, false, false, false, false, false, false] rfl rfl (by kernel_rfl) (fun _ _ _ h => h) (Or.inr ⟨by rfl, rfl⟩) ?_ ?_
       rotate_left
       ·simp only [Act.put, List.setIfInBounds_toArray, List.set_cons_zero, List.set_cons_succ, i64_w, i32_w]
        rfl
       refine pure_ (i := 14) (N := some 33) (v := undef) (a' := ?_) #[true, true, true, true, true, true, true, true, true, true, true, true, true, true, true, false, false, false, false, false, false] rfl rfl (by kernel_rfl) (fun _ _ _ h => h) (Or.inr ⟨by rfl, rfl⟩) ?_ ?_
       rotate_left
       ·simp only [Act.put, List.setIfInBounds_toArray, List.set_cons_zero, List.set_cons_succ, i64_w, i32_w]
        rfl
       refine pure_ (i := 15) (N := some 34) (v := undef) (a' := ?_) #[true, true, true, true, true, true, true, true, true, true, true, true, true, true, true, true, false, false, false, false, false] rfl rfl (by kernel_rfl) (fun _ _ _ h => h) (Or.inr ⟨by rfl, rfl⟩) ?_ ?_
       rotate_left
       ·simp only [Act.put, List.setIfInBounds_toArray, List.set_cons_zero, List.set_cons_succ, i64_w, i32_w]
        rfl
       refine pure_ (i := 16) (N := some 35) (v := undef) (a' := ?_) #[true, true, true, true, true, true, true, true, true, true, true, true, true, true, true, true, true, false, false, false, false] rfl rfl (by kernel_rfl) (fun _ _ _ h => h) (Or.inr ⟨by rfl, rfl⟩) ?_ ?_
       rotate_left
       ·simp only [Act.put, List.setIfInBounds_toArray, List.set_cons_zero, List.set_cons_succ, i64_w, i32_w]
        rfl
       refine pure_ (i := 17) (N := some 36) (v := undef) (a' := ?_) #[true, true, true, true, true, true, true, true, true, true, true, true, true, true, true, true, true, true, false, false, false] rfl rfl (by kernel_rfl) (fun _ _ _ h => h) (Or.inr ⟨by rfl, rfl⟩) ?_ ?_
       rotate_left
       ·simp only [Act.put, List.setIfInBounds_toArray, List.set_cons_zero, List.set_cons_succ, i64_w, i32_w]
        rfl
       refine pure_ (i := 18) (N := some 37) (v := undef) (a' := ?_) #[true, true, true, true, true, true, true, true, true, true, true, true, true, true, true, true, true, true, true, false, false] rfl rfl (by kernel_rfl) (fun _ _ _ h => h) (Or.inr ⟨by rfl, rfl⟩) ?_ ?_
       rotate_left
       ·simp only [Act.put, List.setIfInBounds_toArray, List.set_cons_zero, List.set_cons_succ, i64_w, i32_w]
        rfl
       refine pure_ (i := 19) (N := some 38) (v := undef) (a' := ?_) #[true, true, true, true, true, true, true, true, true, true, true, true, true, true, true, true, true, true, true, true, false] rfl rfl (by kernel_rfl) (fun _ _ _ h => h) (Or.inr ⟨by rfl, rfl⟩) ?_ ?_
       rotate_left
       ·simp only [Act.put, List.setIfInBounds_toArray, List.set_cons_zero, List.set_cons_succ, i64_w, i32_w]
        rfl
       refine pure_ (i := 20) (N := some 39) (v := ?_) (a' := ?_) #[true, true, true, true, true, true, true, true, true, true, true, true, true, true, true, true, true, true, true, true, true] rfl rfl (by kernel_rfl) (fun _ _ _ h => h) (Or.inl ⟨by rfl, ?_⟩) ?_ ?_
       rotate_left
       ·intro w'
        go_simp
        with_reducible rfl
       rotate_left
       ·simp only [Act.put, List.setIfInBounds_toArray, List.set_cons_zero, List.set_cons_succ, i64_w, i32_w]
        rfl
       refine done_ (by kernel_rfl) ?_
       go_wp2
       first | (refine bodyPost_ret (results_none rfl _ _ _) rfl ?_) | go_end0
       exact ⟨rfl, _, _, _, _, _, _, _, ST3.out⟩
      | succ q =>
       rw [show (((q + 1 : Nat) : Int) - 1) = (q : Int) by omega]
       have hq : q < l.length := HQ.out
       have hq0 : (0 : Int) ≤ (q : Int) := by omega
       have hq1 : (q : Int) < (l.length : Int) := by omega
       have ST3 := Aside0.mk ST2.out.drew
       clear ST2
       obtain ⟨hx2, hf2⟩ := Kd.R_celln 0 ST3.out.rt (q : Int) hq0 hq1
       obtain ⟨ad, A1, c1_, e1, hx1, hl1, hi1⟩ := at_L1 HR0.out (q : Int) hq0 hq1
       injection e1 with e1
       subst e1
       replace hx1 := (ST3.out.hb.cell (World.block_lt_of_cell? _ _ hx1)).trans hx1
       have hcx : wr.drew.cell? ⟨Bx, 0, none⟩ = some (.slice (some ad0) l.length c0) := (blk_cell ST3.out.bx 0).trans rfl
       have c0b : decide ((0 : Int) ≤ (q : Int)) = true := decide_eq_true hq0
       have c1b : decide ((q : Int) < 0) = false := decide_eq_false (by omega)
       have hwq : wrap64 ((q : Int) - 1) = (q : Int) - 1 := by have := H2.out; unfold wrap64; omega
       have HQI := Aside0.mk hq
       replace hq0 := eq_true hq0
       replace hq1 := eq_true hq1
       clear hl1 hi1 hq
       rw [Int.toNat_natCast] at hx1 hx2 hf2
       by_cases c5 : (q : Int) = s
       ·have c5b : ((q : Int) == s) = true := beq_iff_eq.mpr c5
        have HO2 := Aside0.mk (show odoN l s q (now2.set q 0) = odoN l s l.length now from by have := HO.out; simp only [odoN] at this; rw [if_pos (.inl c5)] at this; exact this)
        clear c5 HO
        go_wp2
        refine start_ (n := 21) (S := fun w' => w'.cell? ⟨bn, q, none⟩ = some (.int .i64 (rd now2 (q : Int))) ∧ w'.cell? ⟨Bx, 0, none⟩ = some (.slice (some ad0) l.length c0) ∧ w'.cell? (ad0.add q) = some (.slice A1 (rd_L1 l (q : Int)).length c1_)) (ds := []) #[false, false, false, false, false, false, false, false, false, false, false, false, false, false, false, false, false, false, false, false, false] (by kernel_rfl) rfl rfl ⟨hx2, hcx, hx1⟩ (fun hHeld => ?_)
        generalize wr.drew = w4 at ST3 hx2 hf2 hcx hx1 hHeld ⊢
        refine pure_ (i := 0) (N := some 19) (v := ?_) (a' := ?_) #[true, false, false, false, false, false, false, false, false, false, false, false, false, false, false, false, false, false, false, false, false] rfl rfl (by kernel_rfl) (fun _ _ _ h => h) (Or.inl ⟨by rfl, ?_⟩) ?_ ?_
        rotate_left
        ·intro w'
         go_simp
         with_reducible rfl
        rotate_left
        ·simp only [Act.put, List.setIfInBounds_toArray, List.set_cons_zero, List.set_cons_succ, i64_w, i32_w]
         rfl
        refine pure_ (i := 1) (N := some 20) (v := ?_) (a' := ?_) #[true, true, false, false, false, false, false, false, false, false, false, false, false, false, false, false, false, false, false, false, false] rfl rfl (by kernel_rfl) (fun _ _ _ h => h) (Or.inl ⟨by rfl, ?_⟩) ?_ ?_
        rotate_left
        ·intro w'
         go_simp
         with_reducible rfl
        rotate_left
        ·simp only [Act.put, List.setIfInBounds_toArray, List.set_cons_zero, List.set_cons_succ, i64_w, i32_w]
         rfl
        refine pure_ (i := 2) (N := some 21) (v := ?_) (a' := ?_) #[true, true, true, false, false, false, false, false, false, false, false, false, false, false, false, false, false, false, false, false, false] rfl rfl (by kernel_rfl) (fun _ _ _ h => h) (Or.inl ⟨by rfl, ?_⟩) ?_ ?_
        rotate_left
        ·intro w'
         go_simp
         with_reducible rfl
        rotate_left
        ·simp only [Act.put, List.setIfInBounds_toArray, List.set_cons_zero, List.set_cons_succ, i64_w, i32_w]
         rfl
        refine pure_ (i := 3) (N := some 22) (v := ?_) (a' := ?_) #[true, true, true, true, false, false, false, false, false, false, false, false, false, false, false, false, false, false, false, false, false] rfl rfl (by kernel_rfl) (fun _ _ _ h => h) (Or.inl ⟨by rfl, ?_⟩) ?_ ?_
        rotate_left
        ·intro w'
         go_simp
         with_reducible rfl
        rotate_left
        ·simp only [Act.put, List.setIfInBounds_toArray, List.set_cons_zero, List.set_cons_succ, i64_w, i32_w]
         rfl
        refine pure_ (i := 4) (N := some 23) (v := ?_) (a' := ?_) #[true, true, true, true, true, false, false, false, false, false, false, false, false, false, false, false, false, false, false, false, false] rfl rfl (by kernel_rfl) (fun _ _ _ h => h) (Or.inl ⟨by rfl, ?_⟩) ?_ ?_
        rotate_left
        ·intro w'
         go_simp
         with_reducible rfl
        rotate_left
        ·simp only [Act.put, List.setIfInBounds_toArray, List.set_cons_zero, List.set_cons_succ, i64_w, i32_w]
         rfl
        refine pure_ (i := 5) (N := some 24) (v := ?_) (a' := ?_) #[true, true, true, true, true, true, false, false, false, false, false, false, false, false, false, false, false, false, false, false, false] rfl rfl (by kernel_rfl) (fun _ _ _ h => h) (Or.inl ⟨by rfl, ?_⟩) ?_ ?_
        rotate_left
        ·intro w'
         go_simp
         with_reducible rfl
        rotate_left
        ·simp only [Act.put, List.setIfInBounds_toArray, List.set_cons_zero, List.set_cons_succ, i64_w, i32_w]
         rfl
        refine pure_ (i := 6) (N := some 25) (v := ?_) (a' := ?_) #[true, true, true, true, true, true, true, false, false, false, false, false, false, false, false, false, false, false, false, false, false] rfl rfl (by kernel_rfl) (fun _ _ _ h => h) (Or.inl ⟨by rfl, ?_⟩) ?_ ?_
        rotate_left
        ·intro w'
         go_simp
         with_reducible rfl
        rotate_left
        ·simp only [Act.put, List.setIfInBounds_toArray, List.set_cons_zero, List.set_cons_succ, i64_w, i32_w]
         rfl
        refine pure_ (i := 7) (N := some 26) (v := undef) (a' := ?_) #[true, true, true, true, true, true, true, true, false, false, false, false, false, false, false, false, false, false, false, false, false] rfl rfl (by kernel_rfl) (fun _ _ _ h => h) (Or.inr ⟨by rfl, rfl⟩) ?_ ?_
        rotate_left
        ·simp only [Act.put, List.setIfInBounds_toArray, List.set_cons_zero, List.set_cons_succ, i64_w, i32_w]
         rfl
        refine pure_ (i := 8) (N := some 27) (v := undef) (a' := ?_) #[true, true, true, true, true, true, true, true, true, false, false, false, false, false, false, false, false, false, false, false, false] rfl rfl (by kernel_rfl) (fun _ _ _ h => h) (Or.inr ⟨by rfl, rfl⟩) ?_ ?_
        rotate_left
        ·simp only [Act.put, List.setIfInBounds_toArray, List.set_cons_zero, List.set_cons_succ, i64_w, i32_w]
         rfl
        refine pure_ (i := 9) (N := some 28) (v := undef) (a' := ?_) #[true, true, true, true, true, true, true, true, true, true, false, false, false, false, false, false, false, false, false, false, false] rfl rfl (by kernel_rfl) (fun _ _ _ h => h) (Or.inr ⟨by rfl, rfl⟩) ?_ ?_
        rotate_left
        ·simp only [Act.put, List.setIfInBounds_toArray, List.set_cons_zero, List.set_cons_succ, i64_w, i32_w]
         rfl
        refine pure_ (i := 10) (N := some 29) (v := undef) (a' := ?_) #[true, true, true, true, true, true, true, true, true, true, true, false, false, false, false, false, false, false, false, false, false] rfl rfl (by kernel_rfl) (fun _ _ _ h => h) (Or.inr ⟨by rfl, rfl⟩) ?_ ?_
        rotate_left
        ·simp only [Act.put, List.setIfInBounds_toArray, List.set_cons_zero, List.set_cons_succ, i64_w, i32_w]
         rfl
        refine pure_ (i := 11) (N := some 30) (v := undef) (a' := ?_) #[true, true, true, true, true, true, true, true, true, true, true, true, false, false, false, false, false, false, false, false, false] rfl rfl (by kernel_rfl) (fun _ _ _ h => h) (Or.inr ⟨by rfl, rfl⟩) ?_ ?_
        rotate_left
        ·simp only [Act.put, List.setIfInBounds_toArray, List.set_cons_zero, List.set_cons_succ, i64_w, i32_w]
         rfl
        refine pure_ (i := 12) (N := some 31) (v := undef) (a' := ?_) #[true, true, true, true, true, true, true, true, true, true, true, true, true, false, false, false, false, false, false, false, false] rfl rfl (by kernel_rfl) (fun _ _ _ h => h) (Or.inr ⟨by rfl, rfl⟩) ?_ ?_
        rotate_left
        ·simp only [Act.put, List.setIfInBounds_toArray, List.set_cons_zero, List.set_cons_succ, i64_w, i32_w]
         rfl
        refine pure_ (i := 13) (N := some 32) (v := undef) (a' := ?_) #[true, true, true, true, true, true, true, true, true, true, true, true, true, true, false, false, false, false, false, false, false] rfl rfl (by kernel_rfl) (fun _ _ _ h => h) (Or.inr ⟨by rfl, rfl⟩) ?_ ?_
        rotate_left
        ·simp only [Act.put, List.setIfInBounds_toArray, List.set_cons_zero, List.set_cons_succ, i64_w, i32_w]
         rfl
        refine pure_ (i := 14) (N := some 33) (v := undef) (a' := ?_) #[true, true, true, true, true, true, true, true, true, true, true, true, true, true, true, false, false, false, false, false, false] rfl rfl (by kernel_rfl) (fun _ _ _ h => h) (Or.inr ⟨by rfl, rfl⟩) ?_ ?_
        rotate_left
        ·simp only [Act.put, List.setIfInBounds_toArray, List.set_cons_zero, List.set_cons_succ, i64_w, i32_w]
         rfl
        refine pure_ (i := 15) (N := some 34) (v := undef) (a' := ?_) #[true, true, true, true, true, true, true, true, true, true, true, true, true, true, true, true, false, false, false, false, false] rfl rfl (by kernel_rfl) (fun _ _ _ h => h) (Or.inr ⟨by rfl, rfl⟩) ?_ ?_
        rotate_left
        ·simp only [Act.put, List.setIfInBounds_toArray, List.set_cons_zero, List.set_cons_succ, i64_w, i32_w]
         rfl
        refine pure_ (i := 16) (N := some 35) (v := undef) (a' := ?_) #[true, true, true, true, true, true, true, true, true, true, true, true, true, true, true, true, true, false, false, false, false] rfl rfl (by kernel_rfl) (fun _ _ _ h => h) (Or.inr ⟨by rfl, rfl⟩) ?_ ?_
        rotate_left
        ·simp only [Act.put, List.setIfInBounds_toArray, List.set_cons_zero, List.set_cons_succ, i64_w, i32_w]
         rfl
        refine pure_ (i := 17) (N := some 36) (v := undef) (a' := ?_) #[true, true, true, true, true, true, true, true, true, true, true, true, true, true, true, true, true, true, false, false, false] rfl rfl (by kernel_rfl) (fun _ _ _ h => h) (Or.inr ⟨by rfl, rfl⟩) ?_ ?_
        rotate_left
        ·simp only [Act.put, List.setIfInBounds_toArray, List.set_cons_zero, List.set_cons_succ, i64_w, i32_w]
         rfl
        refine pure_ (i := 18) (N := some 37) (v := undef) (a' := ?_) #[true, true, true, true, true, true, true, true, true, true, true, true, true, true, true, true, true, true, true, false, false] rfl rfl (by kernel_rfl) (fun _ _ _ h => h) (Or.inr ⟨by rfl, rfl⟩) ?_ ?_
        rotate_left
        ·simp only [Act.put, List.setIfInBounds_toArray, List.set_cons_zero, List.set_cons_succ, i64_w, i32_w]
         rfl
        refine pure_ (i := 19) (N := some 38) (v := ?_) (a' := ?_) #[true, true, true, true, true, true, true, true, true, true, true, true, true, true, true, true, true, true, true, true, false] rfl rfl (by kernel_rfl) (fun _ _ _ h => h) (Or.inl ⟨by rfl, ?_⟩) ?_ ?_
        rotate_left
        ·intro w'
         go_simp
         with_reducible rfl
        rotate_left
        ·simp only [Act.put, List.setIfInBounds_toArray, List.set_cons_zero, List.set_cons_succ, i64_w, i32_w]
         rfl
        refine pure_ (i := 20) (N := some 39) (v := ?_) (a' := ?_) #[true, true, true, true, true, true, true, true, true, true, true, true, true, true, true, true, true, true, true, true, true] rfl rfl (by kernel_rfl) (fun _ _ _ h => h) (Or.inl ⟨by rfl, ?_⟩) ?_ ?_
        rotate_left
        ·intro w'
         go_simp
         with_reducible rfl
        rotate_left
        ·simp only [Act.put, List.setIfInBounds_toArray, List.set_cons_zero, List.set_cons_succ, i64_w, i32_w]
         rfl
        refine done_ (by kernel_rfl) ?_
        have ST4 := Aside0.mk (ST3.out.putN q 0)
        clear ST3
        go_wp2
        go_roundg q
        case measure => omega
        case rel => exact ⟨now2.set q 0, by first | rfl | (rw [hwq]), ⟨by have := HQI.out; omega⟩, HO2, ST4⟩
       ·have c5b : ((q : Int) == s) = false := beq_eq_false_iff_ne.mpr c5
        by_cases c6 : wrap64 (((rd_L1 l (q : Int)).length : Int) - 1) ≤ rd now2 (q : Int)
        ·have c6b : decide (wrap64 (((rd_L1 l (q : Int)).length : Int) - 1) ≤ rd now2 (q : Int)) = true := decide_eq_true c6
         have HO2 := Aside0.mk (show odoN l s q (now2.set q 0) = odoN l s l.length now from by have := HO.out; simp only [odoN] at this; rw [if_pos (.inr c6)] at this; exact this)
         clear c5 c6 HO
         go_wp2
         refine start_ (n := 21) (S := fun w' => w'.cell? ⟨bn, q, none⟩ = some (.int .i64 (rd now2 (q : Int))) ∧ w'.cell? ⟨Bx, 0, none⟩ = some (.slice (some ad0) l.length c0) ∧ w'.cell? (ad0.add q) = some (.slice A1 (rd_L1 l (q : Int)).length c1_)) (ds := []) #[false, false, false, false, false, false, false, false, false, false, false, false, false, false, false, false, false, false, false, false, false] (by kernel_rfl) rfl rfl ⟨hx2, hcx, hx1⟩ (fun hHeld => ?_)
         generalize wr.drew = w4 at ST3 hx2 hf2 hcx hx1 hHeld ⊢
         refine pure_ (i := 0) (N := some 19) (v := ?_) (a' := ?_) #[true, false, false, false, false, false, false, false, false, false, false, false, false, false, false, false, false, false, false, false, false] rfl rfl (by kernel_rfl) (fun _ _ _ h => h) (Or.inl ⟨by rfl, ?_⟩) ?_ ?_
         rotate_left
         ·intro w'
          go_simp
          with_reducible rfl
         rotate_left
         ·simp only [Act.put, List.setIfInBounds_toArray, List.set_cons_zero, List.set_cons_succ, i64_w, i32_w]
          rfl
         refine pure_ (i := 1) (N := some 20) (v := ?_) (a' := ?_) #[true, true, false, false, false, false, false, false, false, false, false, false, false, false, false, false, false, false, false, false, false] rfl rfl (by kernel_rfl) (fun _ _ _ h => h) (Or.inl ⟨by rfl, ?_⟩) ?_ ?_
         rotate_left
         ·intro w'
          go_simp
          with_reducible rfl
         rotate_left
         ·simp only [Act.put, List.setIfInBounds_toArray, List.set_cons_zero, List.set_cons_succ, i64_w, i32_w]
          rfl
         refine pure_ (i := 2) (N := some 21) (v := ?_) (a' := ?_) #[true, true, true, false, false, false, false, false, false, false, false, false, false, false, false, false, false, false, false, false, false] rfl rfl (by kernel_rfl) (fun _ _ _ h => h) (Or.inl ⟨by rfl, ?_⟩) ?_ ?_
         rotate_left
         ·intro w'
          go_simp
          with_reducible rfl
         rotate_left
         ·simp only [Act.put, List.setIfInBounds_toArray, List.set_cons_zero, List.set_cons_succ, i64_w, i32_w]
          rfl
         refine pure_ (i := 3) (N := some 22) (v := ?_) (a' := ?_) #[true, true, true, true, false, false, false, false, false, false, false, false, false, false, false, false, false, false, false, false, false] rfl rfl (by kernel_rfl) (fun _ _ _ h => h) (Or.inl ⟨by rfl, ?_⟩) ?_ ?_
         rotate_left
         ·intro w'
          go_simp
          with_reducible rfl
         rotate_left
         ·simp only [Act.put, List.setIfInBounds_toArray, List.set_cons_zero, List.set_cons_succ, i64_w, i32_w]
          rfl
         refine pure_ (i := 4) (N := some 23) (v := ?_) (a' := ?_) #[true, true, true, true, true, false, false, false, false, false, false, false, false, false, false, false, false, false, false, false, false] rfl rfl (by kernel_rfl) (fun _ _ _ h => h) (Or.inl ⟨by rfl, ?_⟩) ?_ ?_
         rotate_left
         ·intro w'
          go_simp
          with_reducible rfl
         rotate_left
         ·simp only [Act.put, List.setIfInBounds_toArray, List.set_cons_zero, List.set_cons_succ, i64_w, i32_w]
          rfl
         refine pure_ (i := 5) (N := some 24) (v := ?_) (a' := ?_) #[true, true, true, true, true, true, false, false, false, false, false, false, false, false, false, false, false, false, false, false, false] rfl rfl (by kernel_rfl) (fun _ _ _ h => h) (Or.inl ⟨by rfl, ?_⟩) ?_ ?_
         rotate_left
         ·intro w'
          go_simp
          with_reducible rfl
         rotate_left
         ·simp only [Act.put, List.setIfInBounds_toArray, List.set_cons_zero, List.set_cons_succ, i64_w, i32_w]
          rfl
         refine pure_ (i := 6) (N := some 25) (v := ?_) (a' := ?_) #[true, true, true, true, true, true, true, false, false, false, false, false, false, false, false, false, false, false, false, false, false] rfl rfl (by kernel_rfl) (fun _ _ _ h => h) (Or.inl ⟨by rfl, ?_⟩) ?_ ?_
         rotate_left
         ·intro w'
          go_simp
          with_reducible rfl
         rotate_left
         ·simp only [Act.put, List.setIfInBounds_toArray, List.set_cons_zero, List.set_cons_succ, i64_w, i32_w]
          rfl
         refine pure_ (i := 7) (N := some 26) (v := ?_) (a' := ?_) #[true, true, true, true, true, true, true, true, false, false, false, false, false, false, false, false, false, false, false, false, false] rfl rfl (by kernel_rfl) (fun _ _ _ h => h) (Or.inl ⟨by rfl, ?_⟩) ?_ ?_
         rotate_left
         ·intro w'
          go_simp
          with_reducible rfl
         rotate_left
         ·simp only [Act.put, List.setIfInBounds_toArray, List.set_cons_zero, List.set_cons_succ, i64_w, i32_w]
          rfl
         refine pure_ (i := 8) (N := some 27) (v := ?_) (a' := ?_) #[true, true, true, true, true, true, true, true, true, false, false, false, false, false, false, false, false, false, false, false, false] rfl rfl (by kernel_rfl) (fun _ _ _ h => h) (Or.inl ⟨by rfl, ?_⟩) ?_ ?_
         rotate_left
         ·intro w'
          go_simp
          with_reducible rfl
         rotate_left
         ·simp only [Act.put, List.setIfInBounds_toArray, List.set_cons_zero, List.set_cons_succ, i64_w, i32_w]
          rfl
         refine pure_ (i := 9) (N := some 28) (v := ?_) (a' := ?_) #[true, true, true, true, true, true, true, true, true, true, false, false, false, false, false, false, false, false, false, false, false] rfl rfl (by kernel_rfl) (fun _ _ _ h => h) (Or.inl ⟨by rfl, ?_⟩) ?_ ?_
         rotate_left
         ·intro w'
          go_simp
          with_reducible rfl
         rotate_left
         ·simp only [Act.put, List.setIfInBounds_toArray, List.set_cons_zero, List.set_cons_succ, i64_w, i32_w]
          rfl
         refine take_ (i := 10) (N := some 29) (v := ?_) (a' := ?_) #[true, true, true, true, true, true, true, true, true, true, true, false, false, false, false, false, false, false, false, false, false] rfl rfl (by kernel_rfl) (fun _ _ _ h => h) (Or.inl ⟨by rfl, ?_⟩) hHeld ?_ ?_
         rotate_left
         ·rintro w' ⟨s0, s1, s2⟩
          go_simp
          with_reducible rfl
         rotate_left
         ·simp only [Act.put, List.setIfInBounds_toArray, List.set_cons_zero, List.set_cons_succ, i64_w, i32_w]
          rfl
         refine pure_ (i := 11) (N := some 30) (v := ?_) (a' := ?_) #[true, true, true, true, true, true, true, true, true, true, true, true, false, false, false, false, false, false, false, false, false] rfl rfl (by kernel_rfl) (fun _ _ _ h => h) (Or.inl ⟨by rfl, ?_⟩) ?_ ?_
         rotate_left
         ·intro w'
          go_simp
          with_reducible rfl
         rotate_left
         ·simp only [Act.put, List.setIfInBounds_toArray, List.set_cons_zero, List.set_cons_succ, i64_w, i32_w]
          rfl
         refine take_ (i := 12) (N := some 31) (v := ?_) (a' := ?_) #[true, true, true, true, true, true, true, true, true, true, true, true, true, false, false, false, false, false, false, false, false] rfl rfl (by kernel_rfl) (fun _ _ _ h => h) (Or.inl ⟨by rfl, ?_⟩) hHeld ?_ ?_
         rotate_left
         ·rintro w' ⟨s0, s1, s2⟩
          go_simp
          with_reducible rfl
         rotate_left
         ·simp only [Act.put, List.setIfInBounds_toArray, List.set_cons_zero, List.set_cons_succ, i64_w, i32_w]
          rfl
         refine pure_ (i := 13) (N := some 32) (v := ?_) (a' := ?_) #[true, true, true, true, true, true, true, true, true, true, true, true, true, true, false, false, false, false, false, false, false] rfl rfl (by kernel_rfl) (fun _ _ _ h => h) (Or.inl ⟨by rfl, ?_⟩) ?_ ?_
         rotate_left
         ·intro w'
          go_simp
          with_reducible rfl
         rotate_left
         ·simp only [Act.put, List.setIfInBounds_toArray, List.set_cons_zero, List.set_cons_succ, i64_w, i32_w]
          rfl
         refine pure_ (i := 14) (N := some 33) (v := ?_) (a' := ?_) #[true, true, true, true, true, true, true, true, true, true, true, true, true, true, true, false, false, false, false, false, false] rfl rfl (by kernel_rfl) (fun _ _ _ h => h) (Or.inl ⟨by rfl, ?_⟩) ?_ ?_
         rotate_left
         ·intro w'
          go_simp
          with_reducible rfl
         rotate_left
         ·simp only [Act.put, List.setIfInBounds_toArray, List.set_cons_zero, List.set_cons_succ, i64_w, i32_w]
          rfl
         refine take_ (i := 15) (N := some 34) (v := ?_) (a' := ?_) #[true, true, true, true, true, true, true, true, true, true, true, true, true, true, true, true, false, false, false, false, false] rfl rfl (by kernel_rfl) (fun _ _ _ h => h) (Or.inl ⟨by rfl, ?_⟩) hHeld ?_ ?_
         rotate_left
         ·rintro w' ⟨s0, s1, s2⟩
          go_simp
          with_reducible rfl
         rotate_left
         ·simp only [Act.put, List.setIfInBounds_toArray, List.set_cons_zero, List.set_cons_succ, i64_w, i32_w]
          rfl
         refine pure_ (i := 16) (N := some 35) (v := ?_) (a' := ?_) #[true, true, true, true, true, true, true, true, true, true, true, true, true, true, true, true, true, false, false, false, false] rfl rfl (by kernel_rfl) (fun _ _ _ h => h) (Or.inl ⟨by rfl, ?_⟩) ?_ ?_
         rotate_left
         ·intro w'
          go_simp
          with_reducible rfl
         rotate_left
         ·simp only [Act.put, List.setIfInBounds_toArray, List.set_cons_zero, List.set_cons_succ, i64_w, i32_w]
          rfl
         refine pure_ (i := 17) (N := some 36) (v := ?_) (a' := ?_) #[true, true, true, true, true, true, true, true, true, true, true, true, true, true, true, true, true, true, false, false, false] rfl rfl (by kernel_rfl) (fun _ _ _ h => h) (Or.inl ⟨by rfl, ?_⟩) ?_ ?_
         rotate_left
         ·intro w'
          go_simp
          with_reducible rfl
         rotate_left
         ·simp only [Act.put, List.setIfInBounds_toArray, List.set_cons_zero, List.set_cons_succ, i64_w, i32_w]
          rfl
         refine pure_ (i := 18) (N := some 37) (v := ?_) (a' := ?_) #[true, true, true, true, true, true, true, true, true, true, true, true, true, true, true, true, true, true, true, false, false] rfl rfl (by kernel_rfl) (fun _ _ _ h => h) (Or.inl ⟨by rfl, ?_⟩) ?_ ?_
         rotate_left
         ·intro w'
          go_simp
          with_reducible rfl
         rotate_left
         ·simp only [Act.put, List.setIfInBounds_toArray, List.set_cons_zero, List.set_cons_succ, i64_w, i32_w]
          rfl
         refine pure_ (i := 19) (N := some 38) (v := ?_) (a' := ?_) #[true, true, true, true, true, true, true, true, true, true, true, true, true, true, true, true, true, true, true, true, false] rfl rfl (by kernel_rfl) (fun _ _ _ h => h) (Or.inl ⟨by rfl, ?_⟩) ?_ ?_
         rotate_left
         ·intro w'
          go_simp
          with_reducible rfl
         rotate_left
         ·simp only [Act.put, List.setIfInBounds_toArray, List.set_cons_zero, List.set_cons_succ, i64_w, i32_w]
          rfl
         refine pure_ (i := 20) (N := some 39) (v := ?_) (a' := ?_) #[true, true, true, true, true, true, true, true, true, true, true, true, true, true, true, true, true, true, true, true, true] rfl rfl (by kernel_rfl) (fun _ _ _ h => h) (Or.inl ⟨by rfl, ?_⟩) ?_ ?_
         rotate_left
         ·intro w'
          go_simp
          with_reducible rfl
         rotate_left
         ·simp only [Act.put, List.setIfInBounds_toArray, List.set_cons_zero, List.set_cons_succ, i64_w, i32_w]
          rfl
         refine done_ (by kernel_rfl) ?_
         have ST4 := Aside0.mk (ST3.out.putN q 0)
         clear ST3
         go_wp2
         go_roundg q
         case measure => omega
         case rel => exact ⟨now2.set q 0, by first | rfl | (rw [hwq]), ⟨by have := HQI.out; omega⟩, HO2, ST4⟩
        ·have c6b : decide (wrap64 (((rd_L1 l (q : Int)).length : Int) - 1) ≤ rd now2 (q : Int)) = false := decide_eq_false c6
         have e : odoN l s l.length now = some (now2.set q (wrap64 (rd now2 (q : Int) + 1))) := by have := HO.out; simp only [odoN] at this; rw [if_neg (fun h => h.elim c5 c6)] at this; exact this.symm
         have H := H'.out
         rw [e] at H
         have H3 := Aside0.mk (show rots l s most k1 out2 (now2.set q (wrap64 (rd now2 (q : Int) + 1))) = some r from H)
         clear c5 c6 HO H H' e
         go_wp2
         refine start_ (n := 21) (S := fun w' => w'.cell? ⟨bn, q, none⟩ = some (.int .i64 (rd now2 (q : Int))) ∧ w'.cell? ⟨Bx, 0, none⟩ = some (.slice (some ad0) l.length c0) ∧ w'.cell? (ad0.add q) = some (.slice A1 (rd_L1 l (q : Int)).length c1_)) (ds := []) #[false, false, false, false, false, false, false, false, false, false, false, false, false, false, false, false, false, false, false, false, false] (by kernel_rfl) rfl rfl ⟨hx2, hcx, hx1⟩ (fun hHeld => ?_)
         generalize wr.drew = w4 at ST3 hx2 hf2 hcx hx1 hHeld ⊢
         refine pure_ (i := 0) (N := some 19) (v := ?_) (a' := ?_) #[true, false, false, false, false, false, false, false, false, false, false, false, false, false, false, false, false, false, false, false, false] rfl rfl (by kernel_rfl) (fun _ _ _ h => h) (Or.inl ⟨by rfl, ?_⟩) ?_ ?_
         rotate_left
         ·intro w'
          go_simp
          with_reducible rfl
         rotate_left
         ·simp only [Act.put, List.setIfInBounds_toArray, List.set_cons_zero, List.set_cons_succ, i64_w, i32_w]
          rfl
         refine pure_ (i := 1) (N := some 20) (v := ?_) (a' := ?_) #[true, true, false, false, false, false, false, false, false, false, false, false, false, false, false, false, false, false, false, false, false] rfl rfl (by kernel_rfl) (fun _ _ _ h => h) (Or.inl ⟨by rfl, ?_⟩) ?_ ?_
         rotate_left
         ·intro w'
          go_simp
          with_reducible rfl
         rotate_left
         ·simp only [Act.put, List.setIfInBounds_toArray, List.set_cons_zero, List.set_cons_succ, i64_w, i32_w]
          rfl
         refine pure_ (i := 2) (N := some 21) (v := ?_) (a' := ?_) #[true, true, true, false, false, false, false, false, false, false, false, false, false, false, false, false, false, false, false, false, false] rfl rfl (by kernel_rfl) (fun _ _ _ h => h) (Or.inl ⟨by rfl, ?_⟩) ?_ ?_
         rotate_left
         ·intro w'
          go_simp
          with_reducible rfl
         rotate_left
         ·simp only [Act.put, List.setIfInBounds_toArray, List.set_cons_zero, List.set_cons_succ, i64_w, i32_w]
          rfl
         refine pure_ (i := 3) (N := some 22) (v := ?_) (a' := ?_) #[true, true, true, true, false, false, false, false, false, false, false, false, false, false, false, false, false, false, false, false, false] rfl rfl (by kernel_rfl) (fun _ _ _ h => h) (Or.inl ⟨by rfl, ?_⟩) ?_ ?_
         rotate_left
         ·intro w'
          go_simp
          with_reducible rfl
         rotate_left
         ·simp only [Act.put, List.setIfInBounds_toArray, List.set_cons_zero, List.set_cons_succ, i64_w, i32_w]
          rfl
         refine pure_ (i := 4) (N := some 23) (v := ?_) (a' := ?_) #[true, true, true, true, true, false, false, false, false, false, false, false, false, false, false, false, false, false, false, false, false] rfl rfl (by kernel_rfl) (fun _ _ _ h => h) (Or.inl ⟨by rfl, ?_⟩) ?_ ?_
         rotate_left
         ·intro w'
          go_simp
          with_reducible rfl
         rotate_left
         ·simp only [Act.put, List.setIfInBounds_toArray, List.set_cons_zero, List.set_cons_succ, i64_w, i32_w]
          rfl
         refine pure_ (i := 5) (N := some 24) (v := ?_) (a' := ?_) #[true, true, true, true, true, true, false, false, false, false, false, false, false, false, false, false, false, false, false, false, false] rfl rfl (by kernel_rfl) (fun _ _ _ h => h) (Or.inl ⟨by rfl, ?_⟩) ?_ ?_
         rotate_left
         ·intro w'
          go_simp
          with_reducible rfl
         rotate_left
         ·simp only [Act.put, List.setIfInBounds_toArray, List.set_cons_zero, List.set_cons_succ, i64_w, i32_w]
          rfl
         refine pure_ (i := 6) (N := some 25) (v := ?_) (a' := ?_) #[true, true, true, true, true, true, true, false, false, false, false, false, false, false, false, false, false, false, false, false, false] rfl rfl (by kernel_rfl) (fun _ _ _ h => h) (Or.inl ⟨by rfl, ?_⟩) ?_ ?_
         rotate_left
         ·intro w'
          go_simp
          with_reducible rfl
         rotate_left
         ·simp only [Act.put, List.setIfInBounds_toArray, List.set_cons_zero, List.set_cons_succ, i64_w, i32_w]
          rfl
         refine pure_ (i := 7) (N := some 26) (v := ?_) (a' := ?_) #[true, true, true, true, true, true, true, true, false, false, false, false, false, false, false, false, false, false, false, false, false] rfl rfl (by kernel_rfl) (fun _ _ _ h => h) (Or.inl ⟨by rfl, ?_⟩) ?_ ?_
         rotate_left
         ·intro w'
          go_simp
          with_reducible rfl
         rotate_left
         ·simp only [Act.put, List.setIfInBounds_toArray, List.set_cons_zero, List.set_cons_succ, i64_w, i32_w]
          rfl
         refine pure_ (i := 8) (N := some 27) (v := ?_) (a' := ?_) #[true, true, true, true, true, true, true, true, true, false, false, false, false, false, false, false, false, false, false, false, false] rfl rfl (by kernel_rfl) (fun _ _ _ h => h) (Or.inl ⟨by rfl, ?_⟩) ?_ ?_
         rotate_left
         ·intro w'
          go_simp
          with_reducible rfl
         rotate_left
         ·simp only [Act.put, List.setIfInBounds_toArray, List.set_cons_zero, List.set_cons_succ, i64_w, i32_w]
          rfl
         refine pure_ (i := 9) (N := some 28) (v := ?_) (a' := ?_) #[true, true, true, true, true, true, true, true, true, true, false, false, false, false, false, false, false, false, false, false, false] rfl rfl (by kernel_rfl) (fun _ _ _ h => h) (Or.inl ⟨by rfl, ?_⟩) ?_ ?_
         rotate_left
         ·intro w'
          go_simp
          with_reducible rfl
         rotate_left
         ·simp only [Act.put, List.setIfInBounds_toArray, List.set_cons_zero, List.set_cons_succ, i64_w, i32_w]
          rfl
         refine take_ (i := 10) (N := some 29) (v := ?_) (a' := ?_) #[true, true, true, true, true, true, true, true, true, true, true, false, false, false, false, false, false, false, false, false, false] rfl rfl (by kernel_rfl) (fun _ _ _ h => h) (Or.inl ⟨by rfl, ?_⟩) hHeld ?_ ?_
         rotate_left
         ·rintro w' ⟨s0, s1, s2⟩
          go_simp
          with_reducible rfl
         rotate_left
         ·simp only [Act.put, List.setIfInBounds_toArray, List.set_cons_zero, List.set_cons_succ, i64_w, i32_w]
          rfl
         refine pure_ (i := 11) (N := some 30) (v := ?_) (a' := ?_) #[true, true, true, true, true, true, true, true, true, true, true, true, false, false, false, false, false, false, false, false, false] rfl rfl (by kernel_rfl) (fun _ _ _ h => h) (Or.inl ⟨by rfl, ?_⟩) ?_ ?_
         rotate_left
         ·intro w'
          go_simp
          with_reducible rfl
         rotate_left
         ·simp only [Act.put, List.setIfInBounds_toArray, List.set_cons_zero, List.set_cons_succ, i64_w, i32_w]
          rfl
         refine take_ (i := 12) (N := some 31) (v := ?_) (a' := ?_) #[true, true, true, true, true, true, true, true, true, true, true, true, true, false, false, false, false, false, false, false, false] rfl rfl (by kernel_rfl) (fun _ _ _ h => h) (Or.inl ⟨by rfl, ?_⟩) hHeld ?_ ?_
         rotate_left
         ·rintro w' ⟨s0, s1, s2⟩
          go_simp
          with_reducible rfl
         rotate_left
         ·simp only [Act.put, List.setIfInBounds_toArray, List.set_cons_zero, List.set_cons_succ, i64_w, i32_w]
          rfl
         refine pure_ (i := 13) (N := some 32) (v := ?_) (a' := ?_) #[true, true, true, true, true, true, true, true, true, true, true, true, true, true, false, false, false, false, false, false, false] rfl rfl (by kernel_rfl) (fun _ _ _ h => h) (Or.inl ⟨by rfl, ?_⟩) ?_ ?_
         rotate_left
         ·intro w'
          go_simp
          with_reducible rfl
         rotate_left
         ·simp only [Act.put, List.setIfInBounds_toArray, List.set_cons_zero, List.set_cons_succ, i64_w, i32_w]
          rfl
         refine pure_ (i := 14) (N := some 33) (v := ?_) (a' := ?_) #[true, true, true, true, true, true, true, true, true, true, true, true, true, true, true, false, false, false, false, false, false] rfl rfl (by kernel_rfl) (fun _ _ _ h => h) (Or.inl ⟨by rfl, ?_⟩) ?_ ?_
         rotate_left
         ·intro w'
          go_simp
          with_reducible rfl
         rotate_left
         ·simp only [Act.put, List.setIfInBounds_toArray, List.set_cons_zero, List.set_cons_succ, i64_w, i32_w]
          rfl
         refine take_ (i := 15) (N := some 34) (v := ?_) (a' := ?_) #[true, true, true, true, true, true, true, true, true, true, true, true, true, true, true, true, false, false, false, false, false] rfl rfl (by kernel_rfl) (fun _ _ _ h => h) (Or.inl ⟨by rfl, ?_⟩) hHeld ?_ ?_
         rotate_left
         ·rintro w' ⟨s0, s1, s2⟩
          go_simp
          with_reducible rfl
         rotate_left
         ·simp only [Act.put, List.setIfInBounds_toArray, List.set_cons_zero, List.set_cons_succ, i64_w, i32_w]
          rfl
         refine pure_ (i := 16) (N := some 35) (v := ?_) (a' := ?_) #[true, true, true, true, true, true, true, true, true, true, true, true, true, true, true, true, true, false, false, false, false] rfl rfl (by kernel_rfl) (fun _ _ _ h => h) (Or.inl ⟨by rfl, ?_⟩) ?_ ?_
         rotate_left
         ·intro w'
          go_simp
          with_reducible rfl
         rotate_left
         ·simp only [Act.put, List.setIfInBounds_toArray, List.set_cons_zero, List.set_cons_succ, i64_w, i32_w]
          rfl
         refine pure_ (i := 17) (N := some 36) (v := ?_) (a' := ?_) #[true, true, true, true, true, true, true, true, true, true, true, true, true, true, true, true, true, true, false, false, false] rfl rfl (by kernel_rfl) (fun _ _ _ h => h) (Or.inl ⟨by rfl, ?_⟩) ?_ ?_
         rotate_left
         ·intro w'
          go_simp
          with_reducible rfl
         rotate_left
         ·simp only [Act.put, List.setIfInBounds_toArray, List.set_cons_zero, List.set_cons_succ, i64_w, i32_w]
          rfl
         refine pure_ (i := 18) (N := some 37) (v := ?_) (a' := ?_) #[true, true, true, true, true, true, true, true, true, true, true, true, true, true, true, true, true, true, true, false, false] rfl rfl (by kernel_rfl) (fun _ _ _ h => h) (Or.inl ⟨by rfl, ?_⟩) ?_ ?_
         rotate_left
         ·intro w'
          go_simp
          with_reducible rfl
         rotate_left
         ·simp only [Act.put, List.setIfInBounds_toArray, List.set_cons_zero, List.set_cons_succ, i64_w, i32_w]
          rfl
         refine pure_ (i := 19) (N := some 38) (v := ?_) (a' := ?_) #[true, true, true, true, true, true, true, true, true, true, true, true, true, true, true, true, true, true, true, true, false] rfl rfl (by kernel_rfl) (fun _ _ _ h => h) (Or.inl ⟨by rfl, ?_⟩) ?_ ?_
         rotate_left
         ·intro w'
          go_simp
          with_reducible rfl
         rotate_left
         ·simp only [Act.put, List.setIfInBounds_toArray, List.set_cons_zero, List.set_cons_succ, i64_w, i32_w]
          rfl
         refine pure_ (i := 20) (N := some 39) (v := ?_) (a' := ?_) #[true, true, true, true, true, true, true, true, true, true, true, true, true, true, true, true, true, true, true, true, true] rfl rfl (by kernel_rfl) (fun _ _ _ h => h) (Or.inl ⟨by rfl, ?_⟩) ?_ ?_
         rotate_left
         ·intro w'
          go_simp
          with_reducible rfl
         rotate_left
         ·simp only [Act.put, List.setIfInBounds_toArray, List.set_cons_zero, List.set_cons_succ, i64_w, i32_w]
          rfl
         refine done_ (by kernel_rfl) ?_
         have ST4 := Aside0.mk (ST3.out.putN q (wrap64 (rd now2 (q : Int) + 1)))
         clear ST3
         go_wp2
         go_roundg k1
         case measure => have := HK1.out; omega
         case rel => exact ⟨_, out2, Ao2, co2, H3, ⟨by have := HK1.out; omega⟩, ST4⟩
    ·rw [if_neg c1] at H
     rw [decide_eq_false c1] at hcall
     clear c1
     obtain rfl := Option.some.inj H
     have HCALL := Aside0.mk hcall
     clear hcall
     go_wp2_with (fail)
     refine HCALL.out.mono ?_
     rintro e w3 ⟨rfl, Ao2, co2, st2⟩
     go_wp2
     first | (refine bodyPost_ret (results_none rfl _ _ _) rfl ?_) | go_end0
     exact ⟨rfl, _, _, _, _, _, _, _, st2⟩
   ·rw [if_neg c0_] at H; cases H
def impl_allTrees.f (k : Nat) (l0_0 : List (List Int)) (a1 a2 : Int) : Option (List (List Int)) := if 0 < l0_0.length then (if l0_0.length ≤ 1000 then rots l0_0 a1 a2 k [] (List.replicate l0_0.length 0) else none) else none
theorem impl_allTrees.mono : ∀ a0 a1 a2 k, LeO (impl_allTrees.f k a0 a1 a2) (impl_allTrees.f (k + 1) a0 a1 a2) := by
 intro a0 a1 a2 k
 unfold impl_allTrees.f
 exact LeO.ite (LeO.ite (rots_mono _ _ _ _ _ _) (LeO.refl _)) (LeO.refl _)
set_option maxHeartbeats 8000000 in
set_option maxRecDepth 100000 in
theorem impl_allTrees.calls (k : Nat) (A0_0 : Option Addr) (c0_0 : Nat) (l0_0 : List (List Int)) (a1 a2 : Int) (r : List (List Int)) (w : World) (hr0_0 : Kd.C (Kd.slice 3 (Kd.int .i64)) w A0_0 l0_0.length l0_0) (hc0_0 : l0_0.length ≤ c0_0) (h : impl_allTrees.f k l0_0 a1 a2 = some r) :
  Calls Try.prog 33 #[.agg #[.slice A0_0 l0_0.length c0_0], .int .i64 a1, .int .i64 a2] w fun e w' => ∃ v0_ : Value, e = .returned v0_ ∧ Kd.S (Kd.slice 3 (Kd.int .i64)) 35 w' w.heap.size (fun _ => True) v0_ r ∧ Below w.heap.size w w' := by
 have hu1 := Try.underlying28
 have hu3 := Try.underlying35
 unfold impl_allTrees.f at h
 by_cases h1 : 0 < l0_0.length
 ·rw [if_pos h1] at h
  by_cases h2 : l0_0.length ≤ 1000
  ·rw [if_pos h2] at h
   have HX := Aside0.mk h
   have HR := Aside0.mk hr0_0
   have HC := Aside0.mk hc0_0
   have H1 := Aside0.mk h1
   have H2 := Aside0.mk h2
   clear h hr0_0 hc0_0 h1 h2
   go_enter Try.func33, Try.ntmps33
   go_wp2_with (first | ((with_reducible refine gate_dst (N := 3) rfl ?_); refine box_event ?hg (N := 3) ?hd (cs := #[.slice A0_0 l0_0.length c0_0]) (t := 28) ?hr ?_; (case hd => rfl); (case hg => rfl); (case hr => first | (go_simp; done) | (go_simp; rfl)); intro b3 e3 w3 k3 h3; have K3 := Aside0.mk k3; have B3 := Aside0.mk h3; have E3 := Aside0.mk e3; clear k3 h3 e3) | ((with_reducible refine gate_dst (N := 4) rfl ?_); refine box_event ?hg (N := 4) ?hd (cs := #[.int .i64 a1]) (t := 3) ?hr ?_; (case hd => rfl); (case hg => rfl); (case hr => first | (go_simp; done) | (go_simp; rfl)); intro b4 e4 w4 k4 h4; have K4 := Aside0.mk k4; have B4 := Aside0.mk h4; have E4 := Aside0.mk e4; clear k4 h4 e4) | ((with_reducible refine gate_dst (N := 5) rfl ?_); refine box_event ?hg (N := 5) ?hd (cs := #[.int .i64 a2]) (t := 3) ?hr ?_; (case hd => rfl); (case hg => rfl); (case hr => first | (go_simp; done) | (go_simp; rfl)); intro b5 e5 w5 k5 h5; have K5 := Aside0.mk k5; have B5 := Aside0.mk h5; have E5 := Aside0.mk e5; clear k5 h5 e5) | ((with_reducible refine gate_dst (N := 8) rfl ?_); refine Kd.S_lit (Kd.slice 3 (Kd.int .i64)) _ 35 ?hg (N := 8) ?hd (xs := ([] : List (List Int))) (inner := []) (ok := fun _ => True) (okp := fun _ => True) ?hr ?hp (fun _ hk => hk) trivial (Below.refl _ _) (Nat.le_refl _) (by simp) ?_; (case hd => rfl); (case hg => rfl); (case hr => first | (go_simp; done) | (go_simp; rfl)); (case hp => exact (Reps.none _ _)); intro v8 w8 ho8 hb8 hg_ hnew_; clear hg_ hnew_; have O8 := Aside0.mk ho8; have B8 := Aside0.mk hb8; clear ho8 hb8; obtain ⟨Ao, co, e8⟩ := Kd.S_slice O8.out; simp only [List.length_nil] at e8; subst e8; have G3 := Aside0.mk (blk_alloc (blk_below (blk_below (blk_below K3.out B4.out) B5.out) B8.out) (.cells #[.slice Ao 0 co] 22)); have G4 := Aside0.mk (blk_alloc (blk_below (blk_below K4.out B5.out) B8.out) (.cells #[.slice Ao 0 co] 22)); have hc3 : (w8.alloc (.cells #[.slice Ao 0 co] 22)).cell? ⟨b3, 0, none⟩ = some (.slice A0_0 l0_0.length c0_0) := (blk_cell G3.out 0).trans rfl; have hc4 : (w8.alloc (.cells #[.slice Ao 0 co] 22)).cell? ⟨b4, 0, none⟩ = some (.int .i64 a1) := (blk_cell G4.out 0).trans rfl) | (go_at_call 50; refine (allRotors_.calls k l0_0 a1 a2 A0_0 c0_0 b3 b4 w8.heap.size b5 w _ HR.out HC.out H1.out H2.out ?hb ?bg ?bs ?bm Ao co ?bo ?fd ?hBo ?hne r HX.out).mono ?_; (case hb => exact below_alloc (below_step (below_step (below_step B3.out B4.out) B5.out) B8.out) _); (case bg => exact G3.out); (case bs => exact G4.out); (case bm => exact blk_alloc (blk_below K5.out B8.out) _); (case bo => exact blk_new w8 _); (case fd => exact Kd.S_alloc (Kd.S_lower (Kd.S_mono (Kd.S_bound O8.out) (fun k_ hk => by have h1 := blk_lt K5.out; have h2 := blk_lt (blk_below K4.out B5.out); have h3 := hk.2.1; omega)) (below_size (below_step (below_step B3.out B4.out) B5.out))) _); (case hBo => exact below_size (below_step (below_step (below_step B3.out B4.out) B5.out) B8.out)); (case hne => exact ⟨by have := blk_lt (blk_below (blk_below (blk_below K3.out B4.out) B5.out) B8.out); omega, by have := blk_lt (blk_below (blk_below K4.out B5.out) B8.out); omega, by have := blk_lt (blk_below K5.out B8.out); omega⟩); rintro e w9 ⟨rfl, Bx, nb, n, cap, now, Ao9, co9, st9⟩; have ST9 := Aside0.mk st9; have hco : w9.cell? ⟨w8.heap.size, 0, none⟩ = some (.slice Ao9 r.length co9) := (blk_cell st9.bo 0).trans rfl; clear st9))
   go_ret
   exact ⟨_, rfl, Kd.S_mono ST9.out.fd (fun _ _ => trivial), ST9.out.hb⟩
  ·rw [if_neg h2] at h; cases h
 ·rw [if_neg h1] at h; cases h


end Go.Proofs.Ythjkhbfaenidpaa.P
