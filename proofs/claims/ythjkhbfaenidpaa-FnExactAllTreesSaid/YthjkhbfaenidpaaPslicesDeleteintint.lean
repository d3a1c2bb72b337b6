-- Printed by a program of this session (pp.sh), out of the translation; Lean checks it.
-- (narrow)
import Derived.Test.YthjkhbfaenidpaaP0
namespace Go.Proofs.Ythjkhbfaenidpaa.P
open Go.RowKit Go.Proofs.YthjkhbfaenidpaaW.PrintWords Go.Proofs.YthjkhbfaenidpaaW.PrintLast Go.Proofs.YthjkhbfaenidpaaW.PrintMore
attribute [local go_sem] max2_int min2_int max_two min_two max_three min_three max_four min_four   -- for this text's walks alone
set_option linter.unusedVariables false
set_option linter.unusedSimpArgs false

/-! ### slices_Delete_int_int: function 49 -/
def slices_Delete_int_int.f (l0 : List Int) (a1 a2 : Int) : Option (List Int) := if 0 ≤ a1 then (if a1 < (l0.length : Int) then (if a2 = a1 + 1 then (some (l0.eraseIdx a1.toNat)) else (none)) else (none)) else (none)
theorem slices_Delete_int_int_some {l0 : List Int} {a1 a2 : Int} {r : List Int} (h : slices_Delete_int_int.f l0 a1 a2 = some r) : ∃ i : Nat, a1 = i ∧ i < l0.length ∧ a2 = ((i + 1 : Nat) : Int) ∧ r = l0.eraseIdx i := by
 unfold slices_Delete_int_int.f at h
 by_cases h1 : 0 ≤ a1
 ·rw [if_pos h1] at h
  by_cases h2 : a1 < (l0.length : Int)
  ·rw [if_pos h2] at h
   by_cases h3 : a2 = a1 + 1
   ·rw [if_pos h3] at h
    exact ⟨a1.toNat, by omega, by omega, by omega, (Option.some.inj h).symm⟩
   ·rw [if_neg h3] at h; cases h
  ·rw [if_neg h2] at h; cases h
 ·rw [if_neg h1] at h; cases h
/-- Room behind a row: its cells are there, and may be written. -/
theorem R_spare {α : Type} {d : Kd α} (hz : d.sz = 1) {e base g n c : Nat} {ok : Nat → Prop} {W : World} {xs : List α} (h : d.R e W base ok (.slice (some ⟨g, 0, none⟩) n c) xs) {j : Nat} (hj : j < c) : (W.cell? ⟨g, j, none⟩).isSome = true ∧ W.frozen? ⟨g, j, none⟩ = false := by
 obtain ⟨_, inner, ⟨_, hcase⟩, _⟩ := h
 rcases hcase with ⟨hv, _⟩ | ⟨g', cap', cur, hv, _, hheap, _, _, hsz, _⟩
 ·cases hv
 ·injection hv with hv1 _ hv3
  injection hv1 with hv1
  injection hv1 with hv1 _ _
  subst hv1
  subst hv3
  rw [hz, Nat.mul_one] at hsz
  refine ⟨?_, by simp [World.frozen?, hheap]⟩
  simp only [World.cell?, hheap]
  simp [hsz, hj]
/-- A cell behind a row says nothing of the row. -/
theorem R_past {α : Type} {d : Kd α} (hz : d.sz = 1) {e base g n c : Nat} {ok : Nat → Prop} {W : World} {xs : List α} (h : d.R e W base ok (.slice (some ⟨g, 0, none⟩) n c) xs) {j : Nat} (hj : n ≤ j) (u : Value) : d.R e (W.setCell ⟨g, j, none⟩ u) base ok (.slice (some ⟨g, 0, none⟩) n c) xs := by
 obtain ⟨hok, inner, ⟨hlen, hcase⟩, hreps⟩ := h
 rcases hcase with ⟨hv, _⟩ | ⟨g', cap', cur, hv, hb, hheap, hn, hc, hsz, ht⟩
 ·cases hv
 ·injection hv with hv1 hv2 hv3
  injection hv1 with hv1
  injection hv1 with hv1 _ _
  subst hv1
  subst hv3
  refine ⟨hok, inner, ⟨hlen, .inr ⟨g, c, cur.setIfInBounds j u, by rw [hv2], hb, ?_, hn, hc, by simpa using hsz, ?_⟩⟩, hreps.imp_ (fun p cs hp => d.M_move (fun k hk => Below.heap_setCell W ⟨g, j, none⟩ u k (fun he => hk.2 (by rw [he]; rfl))) hp)⟩
  ·simp only [World.setCell, Array.getElem?_modify, if_true, hheap, Option.map_some]
   rfl
  ·rw [← ht, hz, Nat.mul_one, ← hv2, Array.toList_setIfInBounds, List.take_set_of_le hj]
theorem zeroInt (w : World) : (zeroValue 3).run Try.prog w = .ok (.int .i64 0) w := by kernel_rfl
set_option maxHeartbeats 8000000 in
set_option maxRecDepth 100000 in
theorem slices_Delete_int_int.calls (P0_ : Nat → Prop) (u0_ : Value) (l0 : List Int) (a1 : Int) (a2 : Int) (r : List Int) (w0 w : World) (hB : Below w0.heap.size w0 w) (ho0 : Kd.R (Kd.int .i64) 3 w w0.heap.size P0_ u0_ l0) (h : slices_Delete_int_int.f l0 a1 a2 = some r) :
  Calls Try.prog 49 #[u0_, .int .i64 a1, .int .i64 a2] w fun e w' => ∃ v0_ : Value, e = .returned v0_ ∧ Kd.R (Kd.int .i64) 3 w' w0.heap.size (fun k_ => (P0_ k_ ∨ w.heap.size ≤ k_)) v0_ r ∧ Below w0.heap.size w0 w' ∧ Kept w w' (fun k_ => P0_ k_) := by
 obtain ⟨i, rfl, hi, rfl, rfl⟩ := slices_Delete_int_int_some h
 clear h
 obtain ⟨g, c, rfl, hgb, hgl, cl, hcl⟩ := Kd.R_form ho0 (by omega)
 have hcap := (Kd.R_reads' ho0).2.1
 obtain ⟨n, hn⟩ : ∃ n, n = l0.length := ⟨_, rfl⟩
 rw [← hn] at ho0 hi hcap ⊢
 obtain ⟨j, hj⟩ : ∃ j, j = i + 1 := ⟨_, rfl⟩
 rw [← hj]
 have hij : i < j := by omega
 have hjn : j ≤ n := by omega
 have hic : i ≤ c := by omega
 have hjc : j ≤ c := by omega
 obtain ⟨i0, hi0, hz0, hz1, hz2⟩ := info_parts info3
 have ht := Try.underlying35
 have HO := Aside0.mk (Kd.R_drew ho0)
 have HB := Aside0.mk (below_drew1 hB)
 have HW := Aside0.mk hB.size
 have HG := Aside0.mk (ho0.1 g rfl)
 have HJ := Aside0.mk hj
 have HN := Aside0.mk hn
 have hne : ¬ ((i : Int) = (j : Int)) := by omega
 have hneb : ((i : Int) == (j : Int)) = false := beq_eq_false_iff_ne.mpr hne
 clear hcl hj hn ho0 hB hgb
 go_enter Try.func49, Try.ntmps49
 go_wp2_with fail
 have hAj : ∀ (x : Option Addr), x = (if c = j then (some (⟨g, 0, none⟩ : Addr)) else some ⟨g, j, none⟩) → x = if c = i + 1 then (some (⟨g, 0, none⟩ : Addr)) else (some (⟨g, 0, none⟩ : Addr)).map (·.add ((i + 1) * (Kd.int .i64).sz)) := by
  intro x hx
  rw [hx, HJ.out]
  split
  ·rfl
  ·show _ = some (Addr.add ⟨g, 0, none⟩ ((i + 1) * 1)); rw [Nat.mul_one, add_plain]
 have HAJ := Aside0.mk hAj
 clear hAj
 refine start_ (n := 8) (S := fun _ => True) (ds := []) #[false, false, false, false, false, false, false, false] (by kernel_rfl) rfl rfl trivial (fun hHeld => ?_)
 refine pure_ (i := 0) (N := some 20) (v := ?_) (a' := ?_) #[true, false, false, false, false, false, false, false] rfl rfl (by kernel_rfl) (fun _ _ _ h => h) (Or.inl ⟨by rfl, ?_⟩) ?_ ?_
 rotate_left
 ·intro w'
  go_simp
  with_reducible rfl
 rotate_left
 ·simp only [Act.put, List.setIfInBounds_toArray, List.set_cons_zero, List.set_cons_succ, i64_w, i32_w]
  rfl
 refine pure_ (i := 1) (N := some 21) (v := ?_) (a' := ?_) #[true, true, false, false, false, false, false, false] rfl rfl (by kernel_rfl) (fun _ _ _ h => h) (Or.inl ⟨by rfl, ?_⟩) ?_ ?_
 rotate_left
 ·intro w'
  go_simp
  with_reducible rfl
 rotate_left
 ·simp only [Act.put, List.setIfInBounds_toArray, List.set_cons_zero, List.set_cons_succ, i64_w, i32_w]
  rfl
 refine pure_ (i := 2) (N := some 22) (v := ?_) (a' := ?_) #[true, true, true, false, false, false, false, false] rfl rfl (by kernel_rfl) (fun _ _ _ h => h) (Or.inl ⟨by rfl, ?_⟩) ?_ ?_
 rotate_left
 ·intro w'
  go_simp
  with_reducible rfl
 rotate_left
 ·simp only [Act.put, List.setIfInBounds_toArray, List.set_cons_zero, List.set_cons_succ, i64_w, i32_w]
  rfl
 refine pure_ (i := 3) (N := some 23) (v := ?_) (a' := ?_) #[true, true, true, true, false, false, false, false] rfl rfl (by kernel_rfl) (fun _ _ _ h => h) (Or.inl ⟨by rfl, ?_⟩) ?_ ?_
 rotate_left
 ·intro w'
  go_simp
  with_reducible rfl
 rotate_left
 ·simp only [Act.put, List.setIfInBounds_toArray, List.set_cons_zero, List.set_cons_succ, i64_w, i32_w]
  rfl
 refine pure_ (i := 4) (N := some 24) (v := ?_) (a' := ?_) #[true, true, true, true, true, false, false, false] rfl rfl (by kernel_rfl) (fun _ _ _ h => h) (Or.inl ⟨by rfl, ?_⟩) ?_ ?_
 rotate_left
 ·intro w'
  go_simp
  with_reducible rfl
 rotate_left
 ·simp only [Act.put, List.setIfInBounds_toArray, List.set_cons_zero, List.set_cons_succ, i64_w, i32_w]
  rfl
 refine pure_ (i := 5) (N := some 25) (v := ?_) (a' := ?_) #[true, true, true, true, true, true, false, false] rfl rfl (by kernel_rfl) (fun _ _ _ h => h) (Or.inl ⟨by rfl, ?_⟩) ?_ ?_
 rotate_left
 ·intro w'
  go_simp
  with_reducible rfl
 rotate_left
 ·simp only [Act.put, List.setIfInBounds_toArray, List.set_cons_zero, List.set_cons_succ, i64_w, i32_w]
  rfl
 refine one_ (i := 6) (N := some 26) #[true, true, true, true, true, true, true, false] rfl rfl (by kernel_rfl) (by decide) (fun K hK => ?_)
 refine Kd.R_delete_step (Kd.int .i64) (w0 := w0) w0.heap.size (by rfl) (.tmp 22) (.tmp 25) 35 3 rfl ht (by rw [hi0]; simp only [Option.map_some, hz1]; rfl) rfl rfl (HAJ.out _ (by first | rfl | (split <;> rfl) | (simp [add_plain]; done))) (by rw [HJ.out]) HO.out hi HB.out (by have := HW.out; exact this) ?_
 intro w1 hr hb hg
 have HR := Aside0.mk hr
 have HB1 := Aside0.mk hb
 have HG1 := Aside0.mk hg
 clear hr hb hg
 refine hK.out _ _ trivial (fun hHeld => ?_)
 clear hK K
 refine norm_ (a' := ?_) ?_ ?_
 rotate_left
 ·show Act.put _ (some 26) _ = _
  simp only [Act.put, List.setIfInBounds_toArray, List.set_cons_zero, List.set_cons_succ, i64_w, i32_w]
  rfl
 refine pure_ (i := 7) (N := some 0) (v := ?_) (a' := ?_) #[true, true, true, true, true, true, true, true] rfl rfl (by kernel_rfl) (fun _ _ _ h => h) (Or.inl ⟨by rfl, ?_⟩) ?_ ?_
 rotate_left
 ·intro w'
  go_simp
  with_reducible rfl
 rotate_left
 ·simp only [Act.put, List.setIfInBounds_toArray, List.set_cons_zero, List.set_cons_succ, i64_w, i32_w]
  rfl
 refine done_ (by kernel_rfl) ?_
 generalize (if c = j then (some (⟨g, 0, none⟩ : Addr)) else some ⟨g, j, none⟩) = zz_
 obtain ⟨m, hm⟩ : ∃ m, m = n - 1 := ⟨_, rfl⟩
 have hr := HR.out
 rw [← hm] at hr ⊢
 have HR2 := Aside0.mk hr
 clear HR hr HAJ
 have hmn : m < n := by omega
 have hmn2 : m ≤ n := by omega
 have hmc : m < c := by omega
 have hnc : n ≤ c := hcap
 have h1 : n - m = 1 := by omega
 have hcl : ∀ ty, (Builtin.clear_ #[35] ty #[.slice (some ⟨g, m, none⟩) (n - m) (c - m)]).run Try.prog w1 = .ok (.tuple #[]) (w1.setCell ⟨g, m, none⟩ (.int .i64 0)) := fun ty => by
  have hh := Lib.run_clear_slice w1 35 3 ty (.int .i64 0) ht zeroInt rfl rfl g m (n - m) (c - m) (by omega) (fun q hq => by rw [show m + q = m by omega]; exact (R_spare rfl HR2.out hmc).1) (fun q hq => by rw [show m + q = m by omega]; exact (R_spare rfl HR2.out hmc).2)
  rw [h1] at hh ⊢
  exact hh
 clear hm h1
 go_wp2
 go_ret
 refine ⟨_, rfl, Kd.R_mono (R_past rfl HR2.out (Nat.le_refl m) (.int .i64 0)) (fun _ hk => .inl hk), ?_, ?_⟩
 ·exact below_set HB1.out (Kd.R_base HR2.out g rfl)
 ·exact Kept.setCell (Kept.of_grown (S := fun k_ => P0_ k_) HG1.out (Kept.drew (Kept.refl w _)) (fun k_ e_ => by injection e_ with e_; subst e_; exact .inl HG.out)) (.inl HG.out) _


end Go.Proofs.Ythjkhbfaenidpaa.P
