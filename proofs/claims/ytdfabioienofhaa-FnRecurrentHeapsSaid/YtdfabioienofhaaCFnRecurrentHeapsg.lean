/- Texts of this session on the way to the law FnRecurrentHeaps, part 7: words of the print, walks, plain laws; only what the law's proof uses. -/
import Derived.Test.YtdfabioienofhaaCFnRecurrentHeapsf
import Derived.Test.YtdfabioienofhaaCFnRecurrentHeapsc
import Derived.Test.YtdfabioienofhaaCFnRecurrentHeapsb
import Derived.Test.YtdfabioienofhaaCFnRecurrentHeapsd
import Derived.Test.YtdfabioienofhaaCFnRecurrentHeapse
namespace Go.Proofs.Ytdfabioienofhaa.M
set_option maxHeartbeats 8000000
set_option maxRecDepth 100000
open Go.RowKit Go.Proofs.Ytdfabioienofhaa.P Go.Proofs.Ytdfabioienofhaa.In Go.Proofs.YtdfabioienofhaaW.PrintWords Go.Proofs.YtdfabioienofhaaW.PrintLast
set_option linter.unusedVariables false
set_option linter.unusedSimpArgs false
open DetKit
def arrow (f : Nat → Nat) : Nat → Nat → Int := fun i j => (if i = j then 1 else 0) - (if f i = j then 1 else 0)
def nsum : Nat → (Nat → Nat) → Nat
 | 0, _ => 0
 | n + 1, f => nsum n f + f n
theorem nsum_le {n : Nat} {f g : Nat → Nat} (h : ∀ i, i < n → f i ≤ g i) : nsum n f ≤ nsum n g := by
 induction n with
 | zero => exact Nat.le_refl _
 | succ n ih => simp only [nsum]; have := ih (fun i hi => h i (by omega)); have := h n (by omega); omega
theorem nsum_lt {n : Nat} {f g : Nat → Nat} {u : Nat} (h : ∀ i, i < n → f i ≤ g i) (hu : u < n) (hlt : f u < g u) : nsum n f < nsum n g := by
 induction n with
 | zero => omega
 | succ n ih =>
  simp only [nsum]
  by_cases e : u = n
  ·subst e; have := nsum_le (fun i hi => h i (Nat.lt_succ_of_lt hi)); omega
  have := ih (fun i hi => h i (by omega)) (by omega); have := h n (by omega); omega
theorem D_ranked (m : Nat) (h : Nat → Nat) : ∀ (N : Nat) (f : Nat → Nat), (∀ i, i < m → f i < m → h (f i) < h i) → nsum m (fun i => if f i < m then h (f i) + 1 else 0) ≤ N → D m (arrow f) = 1 := by
 intro N
 induction N with
 | zero =>
  intro f hf hN
  have hall : ∀ i, i < m → m ≤ f i := by
   intro i hi
   rcases Nat.lt_or_ge (f i) m with h2 | h2
   ·exfalso
    have := nsum_lt (n := m) (f := fun _ => 0) (g := fun i => if f i < m then h (f i) + 1 else 0) (u := i) (fun _ _ => Nat.zero_le _) hi (by simp only [if_pos h2]; omega)
    omega
   ·exact h2
  rw [← D_one m]
  refine D_congr (fun i hi j hj => ?_)
  have := hall i hi
  simp only [arrow]; rw [if_neg (show ¬ f i = j by omega)]; omega
 | succ N ih =>
  intro f hf hN
  by_cases hall : ∀ i, i < m → m ≤ f i
  ·rw [← D_one m]
   refine D_congr (fun i hi j hj => ?_)
   have := hall i hi
   simp only [arrow]; rw [if_neg (show ¬ f i = j by omega)]; omega
  obtain ⟨u, hu, hw⟩ : ∃ u, u < m ∧ f u < m := by
   apply Classical.byContradiction
   intro hn
   exact hall (fun i hi => by
    rcases Nat.lt_or_ge (f i) m with h2 | h2
    ·exact absurd ⟨i, hi, h2⟩ hn
    ·exact h2)
  have huw := hf u hu hw
  have hne : u ≠ f u := fun e => by rw [← e] at huw; omega
  have e1 : D m (arrow fun i => if i = u then f (f u) else f i) = D m (arrow f) := by
   have l := D_row_lin m u hu (arrow f) 1 1 (arrow f u) (arrow f (f u))
   rw [DetKit.setRow_self, D_rows_eq' m (setRow (arrow f) u (arrow f (f u))) u (f u) hu hw hne (fun c _ => by simp only [setRow]; rw [if_pos trivial, if_neg (Ne.symm hne)])] at l
   rw [← show D m (setRow (arrow f) u (fun j => 1 * arrow f u j + 1 * arrow f (f u) j)) = D m (arrow fun i => if i = u then f (f u) else f i) from D_congr (fun i hi j hj => by
    simp only [setRow]
    by_cases e : i = u
    ·subst e
     simp only [arrow, if_pos]
     omega
    ·simp only [arrow, if_neg e])]
   omega
  rw [← e1]
  refine ih _ (fun i hi h2 => ?_) ?_
  ·by_cases e : i = u
   ·subst e; rw [if_pos rfl] at h2 ⊢; have := hf (f i) hw h2; omega
   rw [if_neg e] at h2 ⊢; exact hf i hi h2
  ·have := nsum_lt (n := m) (f := fun i => if (if i = u then f (f u) else f i) < m then h (if i = u then f (f u) else f i) + 1 else 0) (g := fun i => if f i < m then h (f i) + 1 else 0) (u := u) (fun i hi => by
    by_cases e : i = u
    ·subst e; simp only [if_pos, if_pos hw]
     split
     ·rename_i h3; have := hf (f i) hw h3; omega
     ·omega
    ·simp only [if_neg e]; exact Nat.le_refl _) hu (by
    simp only [if_pos, if_pos hw]
    split
    ·rename_i h3; have := hf (f u) hw h3; omega
    ·omega)
   omega
theorem D_kernel {m : Nat} {A : Nat → Nat → Int} {x : Nat → Int} {c : Nat} (hc : c < m) (hx : x c = 1) (h : ∀ i, i < m → sm m (fun t => x t * A i t) = 0) : D m A = 0 := by
 have l := D_col_sum m c hc A m x (fun t i => A i t)
 have e0 : D m (setCol A c (fun i => sm m (fun t => x t * A i t))) = 0 := by
  rw [← D_transpose]
  refine D_row_zero m c hc _ (fun j hj => ?_)
  simp only [setCol, if_pos]; exact h j hj
 rw [e0, sm_one hc (fun t ht hn => by
  rw [D_cols_eq m _ t c ht hc hn (fun r _ => by simp only [setCol, if_neg hn, if_pos]), Int.mul_zero]), hx, Int.one_mul] at l
 rw [l]
 refine D_congr (fun i hi j hj => ?_)
 simp only [setCol]; split
 ·rename_i e; subst e; rfl
 ·rfl
def usk (s p : Nat) : Nat := if p < s then p else p - 1
theorem skip_usk {s p : Nat} (h : p ≠ s) : skip s (usk s p) = p := by unfold skip usk; (repeat' split) <;> omega
theorem usk_skip (s i : Nat) : usk s (skip s i) = i := by unfold skip usk; (repeat' split) <;> omega
theorem skip_eq {s i j : Nat} : skip s i = skip s j ↔ i = j := ⟨fun h => by rw [← usk_skip s i, h, usk_skip], fun h => by rw [h]⟩
theorem usk_lt {s p n : Nat} (hp : p < n) (hs : s < n) (h : p ≠ s) : usk s p < n - 1 := by unfold usk; split <;> omega
theorem skip_lt' {s i n : Nat} (h : i < n - 1) : skip s i < n := by have := skip_lt (k := s) h; omega
def Lp (g : List (List Int)) (p q : Nat) : Int := sm (rd_L2 g (p : Int)).length (fun k => 1 * ((if p = q then 1 else 0) - (if rd (rd_L2 g (p : Int)) (k : Int) = (q : Int) then 1 else 0)))
theorem rd_cons_succ (x : Int) (row : List Int) (k : Nat) : rd (x :: row) ((k + 1 : Nat) : Int) = rd row (k : Int) := by
 by_cases h : k < row.length
 ·rw [rd_at (by simpa using h), rd_at h, List.getElem_cons_succ]
 simp [rd, h]
theorem decr_rd {q : Nat} : ∀ (row c : List Int), (∀ x ∈ row, 0 ≤ x ∧ x < (c.length : Int)) → q < c.length → rd (decr row c) (q : Int) = rd c (q : Int) - sm row.length (fun k => if rd row (k : Int) = (q : Int) then 1 else 0) := by
 intro row
 induction row with
 | nil => intro c _ _; simp [decr, sm]
 | cons x row ih =>
  intro c h hq
  have hx := h x (by simp)
  simp only [decr]
  rw [ih _ (fun y hy => by have := h y (by simp [hy]); simpa using this) (by simpa using hq), List.length_cons, sm_head]
  have e1 : rd (c.set x.toNat (rd c x - 1)) (q : Int) = if x = (q : Int) then rd c (q : Int) - 1 else rd c (q : Int) := by
   rw [rd_at (by simpa using hq), List.getElem_set, rd_at hq]
   by_cases e : x = (q : Int)
   ·rw [if_pos (by omega), if_pos e, e, rd_at hq]
   rw [if_neg (by omega), if_neg e]
  rw [e1, sm_congr (f := fun i => if rd (x :: row) ((i + 1 : Nat) : Int) = (q : Int) then 1 else 0) (g := fun k => if rd row (k : Int) = (q : Int) then 1 else 0) (fun i _ => by rw [rd_cons_succ])]
  have e2 : rd (x :: row) ((0 : Nat) : Int) = x := by rw [rd_at (by simp)]; rfl
  rw [e2]
  split <;> omega
theorem sm_const (n : Nat) (c : Int) : sm n (fun _ => c) = (n : Int) * c := by
 induction n with
 | zero => simp [sm]
 | succ n ih => simp only [sm]; rw [ih, show ((n + 1 : Nat) : Int) = (n : Int) + 1 by omega, Int.add_mul]; omega
theorem lapRow_rd {g : List (List Int)} (hg : goodG g = true) {p q : Nat} (hp : p < g.length) (hq : q < g.length) : rd (lapRow g p) (q : Int) = Lp g p q := by
 have hrow := (good_iff hg).2 (rd_L2 g (p : Int)) (by rw [rdL_at hp]; exact List.getElem_mem _)
 unfold lapRow Lp
 rw [decr_rd _ _ (fun x hx => by have := hrow.2 x hx; simpa using this) (by simpa using hq)]
 have e : sm (rd_L2 g (p : Int)).length (fun k => 1 * ((if p = q then (1 : Int) else 0) - (if rd (rd_L2 g (p : Int)) (k : Int) = (q : Int) then 1 else 0))) = ((rd_L2 g (p : Int)).length : Int) * (if p = q then (1 : Int) else 0) + (-1) * sm (rd_L2 g (p : Int)).length (fun k => if rd (rd_L2 g (p : Int)) (k : Int) = (q : Int) then 1 else 0) := by
  rw [← sm_const, ← sm_mul, ← sm_add]
  exact sm_congr (fun k _ => by omega)
 rw [e, rd_at (by simpa using hq), List.getElem_set, List.getElem_replicate]
 by_cases h : p = q
 ·rw [if_pos h, if_pos h]; omega
 rw [if_neg h, if_neg h]; omega
theorem lapFrom_row (g : List (List Int)) (s : Nat) : ∀ (d i : Nat) (acc : List (List Int)), acc.length = (if s < i then i - 1 else i) → (∀ t, t < acc.length → rd_L2 acc (t : Int) = (lapRow g (skip s t)).eraseIdx s) → ∀ t, t < (lapFrom g s d i acc).length → rd_L2 (lapFrom g s d i acc) (t : Int) = (lapRow g (skip s t)).eraseIdx s := by
 intro d
 induction d with
 | zero => intro i acc _ ha; simp only [lapFrom]; exact ha
 | succ d ih =>
  intro i acc hl ha
  simp only [lapFrom]
  by_cases h : i = s
  ·rw [if_pos h]
   refine ih (i + 1) acc ?_ ha
   rw [hl]; split <;> split <;> omega
  rw [if_neg h]
  refine ih (i + 1) _ ?_ (fun t ht => ?_)
  ·rw [List.length_append, hl]; simp only [List.length_singleton]; split <;> split <;> omega
  ·rw [List.length_append, List.length_singleton] at ht
   rw [rdL_at (by simp; omega)]
   rcases Nat.lt_or_ge t acc.length with h2 | h2
   ·rw [List.getElem_append_left h2, ← ha t h2, rdL_at h2]
   ·have e : t = acc.length := by omega
    subst e
    rw [List.getElem_append_right (Nat.le_refl _)]
    simp only [Nat.sub_self, List.getElem_cons_zero]
    rw [hl, show skip s (if s < i then i - 1 else i) = i by unfold skip; split <;> split <;> omega]
theorem mat_lap {g : List (List Int)} (hg : goodG g = true) {s i j : Nat} (hs : s < g.length) (hi : i < g.length - 1) (hj : j < g.length - 1) : mat (lap g s) i j = Lp g (skip s i) (skip s j) := by
 have hi2 : skip s i < g.length := skip_lt' hi
 have hj2 : skip s j < g.length := skip_lt' hj
 rw [← lapRow_rd hg hi2 hj2]
 unfold mat
 have hl := (lap_sq hg hs).len
 have := lapFrom_row g s g.length 0 [] (by simp) (fun t ht => by simp at ht) i (by have : (lapFrom g s g.length 0 []).length = _ := hl; omega)
 have e : rd_L2 (lap g s) (i : Int) = (lapRow g (skip s i)).eraseIdx s := this
 rw [e]
 have hlen := lapRow_len g (skip s i)
 rw [rd_at (by rw [List.length_eraseIdx_of_lt (by omega)]; omega), rd_at (by omega), List.getElem_eraseIdx]
 unfold skip
 split <;> rfl
def Nrow (g : List (List Int)) (r : List Int) (p q : Nat) : Int := if nx g r (p : Int) < 0 then 0 else (if p = q then 1 else 0) - (if nx g r (p : Int) = (q : Int) then 1 else 0)
def fx (g : List (List Int)) (r : List Int) (s : Nat) (i : Nat) : Nat := if nx g r (skip s i : Int) = (s : Int) then g.length - 1 else usk s (nx g r (skip s i : Int)).toNat
theorem nrow_arrow {g : List (List Int)} {r : List Int} {s i j : Nat} (hs : s < g.length) (hj : j < g.length - 1) (h : 0 ≤ nx g r (skip s i : Int)) : Nrow g r (skip s i) (skip s j) = arrow (fx g r s) i j := by
 unfold Nrow arrow
 rw [if_neg (by omega)]
 simp only [skip_eq]
 congr 1
 unfold fx
 by_cases e : nx g r (skip s i : Int) = (s : Int)
 ·rw [if_pos e, if_neg (show ¬ g.length - 1 = j by omega), if_neg]
  intro h2; rw [e] at h2; exact skip_ne s j (by omega)
 rw [if_neg e]
 have hk : skip s (usk s (nx g r (skip s i : Int)).toNat) = (nx g r (skip s i : Int)).toNat := skip_usk (by omega)
 by_cases e2 : usk s (nx g r (skip s i : Int)).toNat = j
 ·rw [if_pos e2, if_pos]; rw [← e2, hk]; omega
 rw [if_neg e2, if_neg]
 intro h2
 refine e2 ?_
 rw [h2, Int.toNat_natCast, usk_skip]
theorem Hit.tail {f : Int → Int} {s p : Int} {m : Nat} (h : Hit f s p (m + 1)) : Hit f s (f p) m ∧ 0 ≤ f p := by
 refine ⟨⟨h.at_, fun j hj => ?_⟩, (h.on 0 (by omega)).2⟩
 exact h.on (j + 1) (by omega)
theorem Hit.head {f : Int → Int} {s p : Int} {m : Nat} (h : Hit f s (f p) m) (hp : p ≠ s) (h0 : 0 ≤ f p) : Hit f s p (m + 1) := by
 refine ⟨h.at_, fun j hj => ?_⟩
 cases j with
 | zero => exact ⟨hp, h0⟩
 | succ j => exact h.on j (by omega)
theorem D_tree {g : List (List Int)} {r : List Int} {s : Nat} (hs : s < g.length) (hr : Rot g r) (ht : treeB g r (s : Int) = true) : D (g.length - 1) (fun i j => Nrow g r (skip s i) (skip s j)) = 1 := by
 have ht := treeB_iff.1 ht
 have hc : ∀ i, ∃ m, i < g.length - 1 → Hit (nx g r) (s : Int) (skip s i : Int) m := fun i => by
  by_cases hi : i < g.length - 1
  rotate_left
  ·exact ⟨0, fun h => absurd h hi⟩
  obtain ⟨m, hm⟩ := ht (skip s i) (skip_lt' hi)
  exact ⟨m, fun _ => hm⟩
 obtain ⟨h, hh⟩ := Classical.axiomOfChoice hc
 have hne : ∀ i : Nat, ((skip s i : Nat) : Int) ≠ (s : Int) := fun i e => skip_ne s i (by omega)
 have hpos : ∀ i, i < g.length - 1 → ∃ k, h i = k + 1 ∧ Hit (nx g r) (s : Int) (nx g r (skip s i : Int)) k ∧ 0 ≤ nx g r (skip s i : Int) := by
  intro i hi
  have := hh i hi
  cases e : h i with
  | zero => rw [e] at this; exact absurd this.at_ (hne i)
  | succ k => rw [e] at this; exact ⟨k, rfl, this.tail⟩
 rw [D_congr (B := arrow (fx g r s)) (fun i hi j hj => nrow_arrow hs hj (hpos i hi).choose_spec.2.2)]
 refine D_ranked (g.length - 1) h _ _ (fun i hi hf => ?_) (Nat.le_refl _)
 obtain ⟨k, e, hk, h0⟩ := hpos i hi
 have hns : ¬ nx g r (skip s i : Int) = (s : Int) := by
  intro e2
  unfold fx at hf
  rw [if_pos e2] at hf; omega
 have e3 : fx g r s i = usk s (nx g r (skip s i : Int)).toNat := by unfold fx; rw [if_neg hns]
 have h4 := hh (fx g r s i) hf
 rw [e3, skip_usk (by omega), Int.toNat_of_nonneg h0] at h4
 have := h4.uniq hk
 rw [e3, this, e]; omega
theorem D_notree {g : List (List Int)} {r : List Int} {s : Nat} (hs : s < g.length) (hr : Rot g r) (ht : ¬ treeB g r (s : Int) = true) : D (g.length - 1) (fun i j => Nrow g r (skip s i) (skip s j)) = 0 := by
 obtain ⟨p, hp, hn⟩ : ∃ p, p < g.length ∧ ¬ ∃ m, Hit (nx g r) (s : Int) ((p : Nat) : Int) m := by
  apply Classical.byContradiction
  intro hc
  refine ht (treeB_iff.2 fun j hj => ?_)
  apply Classical.byContradiction
  intro h; exact hc ⟨j, hj, h⟩
 have hps : p ≠ s := fun e => hn ⟨0, by subst e; rfl, fun i hi => by omega⟩
 obtain ⟨x, hx1, hx0⟩ : ∃ x : Nat → Int, (∀ t : Nat, (¬ ∃ m, Hit (nx g r) (s : Int) ((skip s t : Nat) : Int) m) → x t = 1) ∧ (∀ t : Nat, (∃ m, Hit (nx g r) (s : Int) ((skip s t : Nat) : Int) m) → x t = 0) :=
  ⟨fun t => @ite _ (∃ m, Hit (nx g r) (s : Int) ((skip s t : Nat) : Int) m) (Classical.propDecidable _) 0 1, fun t h => if_neg h, fun t h => if_pos h⟩
 refine D_kernel (x := x) (c := usk s p) (usk_lt hp hs hps) (hx1 _ (by rw [skip_usk hps]; exact hn)) (fun i hi => ?_)
 have hne : ((skip s i : Nat) : Int) ≠ (s : Int) := fun e => skip_ne s i (by omega)
 by_cases h0 : nx g r (skip s i : Int) < 0
 ·refine sm_zero (fun t _ => ?_)
  unfold Nrow; rw [if_pos h0, Int.mul_zero]
 rw [sm_congr (g := fun t => x t * (if t = i then 1 else 0) + (-1) * (if fx g r s i = t then x t else 0)) (fun t htl => by
  rw [nrow_arrow hs htl (by omega)]
  unfold arrow
  by_cases e1 : i = t
  ·subst e1; simp only [if_pos]; split <;> simp <;> omega
  ·rw [if_neg e1, if_neg (show ¬ t = i from fun e => e1 e.symm)]; split <;> simp), sm_add, sm_mul, sm_unit _ _ _ hi]
 have hlt := nx_lt hr.good hr.rb hr.len (p := (skip s i : Int)) (by omega) (by have := skip_lt' (s := s) hi; omega)
 by_cases e : nx g r (skip s i : Int) = (s : Int)
 ·rw [hx0 i ⟨1, Hit.head (m := 0) ⟨e, fun j hj => by omega⟩ hne (by omega)⟩, sm_zero (fun t htl => by
   unfold fx; rw [if_pos e, if_neg (by omega)])]
  rfl
 have e3 : fx g r s i = usk s (nx g r (skip s i : Int)).toNat := by unfold fx; rw [if_neg e]
 have hk : skip s (fx g r s i) = (nx g r (skip s i : Int)).toNat := by rw [e3]; exact skip_usk (by omega)
 have hk2 : ((skip s (fx g r s i) : Nat) : Int) = nx g r (skip s i : Int) := by rw [hk]; omega
 have hf : fx g r s i < g.length - 1 := by rw [e3]; exact usk_lt (by omega) hs (by omega)
 rw [sm_one hf (fun t _ hn => if_neg (fun e => hn e.symm)), if_pos rfl]
 have : x i = x (fx g r s i) := by
  by_cases hm : ∃ m, Hit (nx g r) (s : Int) ((skip s i : Nat) : Int) m
  rotate_left
  ·rw [hx1 i hm, hx1 _]
   rintro ⟨m, h2⟩
   rw [hk2] at h2
   exact hm ⟨m + 1, h2.head hne (by omega)⟩
  rw [hx0 i hm]
  obtain ⟨m, hm⟩ := hm
  cases m with
  | zero => exact absurd hm.at_ hne
  | succ m => rw [hx0 _ ⟨m, by rw [hk2]; exact hm.tail.1⟩]
 omega
def St (g : List (List Int)) (s p : Nat) (r : List Int) : Nat → Nat → Int := fun i j => if skip s i < p then Nrow g r (skip s i) (skip s j) else Lp g (skip s i) (skip s j)
theorem flat_len {α : Type} (F : Nat → List α) (n : Nat) : (((List.range n).flatMap F).length : Int) = sm n (fun k => ((F k).length : Int)) := by
 induction n with
 | zero => rfl
 | succ n ih => rw [List.range_succ, List.flatMap_append, List.length_append]; simp only [sm]; rw [← ih]; simp
theorem D_stage {g : List (List Int)} {s : Nat} (hs : s < g.length) : ∀ (d p : Nat) (r : List Int), p + d = g.length → Rot g r → D (g.length - 1) (St g s p r) = (((lexL g (s : Int) d p r).filter (fun r => treeB g r (s : Int))).length : Int) := by
 intro d
 induction d with
 | zero =>
  intro p r hp hr
  simp only [lexL]
  rw [D_congr (B := fun i j => Nrow g r (skip s i) (skip s j)) (fun i hi j hj => by
   simp only [St]; rw [if_pos (by have := skip_lt' (s := s) hi; omega)])]
  by_cases h : treeB g r (s : Int) = true
  ·rw [D_tree hs hr h, List.filter_cons_of_pos (by exact h)]; rfl
  rw [D_notree hs hr h, List.filter_cons_of_neg (by exact h)]; rfl
 | succ d ih =>
  intro p r hp hr
  simp only [lexL]
  by_cases hps : (p : Int) = (s : Int)
  ·rw [if_pos hps, ← ih (p + 1) r (by omega) hr]
   refine D_congr (fun i hi j hj => ?_)
   have := skip_ne s i
   simp only [St]
   by_cases h : skip s i < p
   ·rw [if_pos h, if_pos (by omega)]
   rw [if_neg h, if_neg (by omega)]
  rw [if_neg hps, filter_flat]
  have hps2 : p ≠ s := by omega
  have hu : usk s p < g.length - 1 := usk_lt (by omega) hs hps2
  have hl := hr.len
  by_cases hlen : (rd_L2 g (p : Int)).length = 0
  ·rw [hlen, D_row_zero _ (usk s p) hu _ (fun j hj => by
    simp only [St]; rw [skip_usk hps2, if_neg (by omega)]; unfold Lp; rw [hlen]; rfl)]
   show (0 : Int) = (((List.range 1).flatMap _).length : Int)
   rw [show List.range 1 = [0] from rfl, List.flatMap_cons, List.flatMap_nil, List.append_nil]
   have : ((lexL g (s : Int) d (p + 1) (r.set p ((0 : Nat) : Int))).filter (fun r => treeB g r (s : Int))) = [] := by
    rw [List.filter_eq_nil_iff]
    intro r2 hm hT
    obtain ⟨m, hh⟩ := treeB_iff.1 hT p (by omega)
    cases m with
    | zero => exact hps hh.at_
    | succ m =>
     have := (hh.on 0 (by omega)).2
     simp only [it] at this
     unfold nx at this
     rw [if_pos (by omega)] at this
     omega
   rw [this]; rfl
  rw [show max 1 (rd_L2 g (p : Int)).length = (rd_L2 g (p : Int)).length by omega, flat_len]
  have hrow := (good_iff hr.good).2 (rd_L2 g (p : Int)) (by rw [rdL_at (by omega)]; exact List.getElem_mem _)
  rw [sm_congr (g := fun k => D (g.length - 1) (St g s (p + 1) (r.set p (k : Int)))) (fun k hk => (ih (p + 1) _ (by omega) (hr.set (p := p) (by omega) (k := (k : Int)) (by omega) (.inl (by omega)))).symm)]
  have l := D_row_sum (g.length - 1) (usk s p) hu (St g s p r) (rd_L2 g (p : Int)).length (fun _ => 1) (fun k j => (if p = skip s j then 1 else 0) - (if rd (rd_L2 g (p : Int)) (k : Int) = ((skip s j : Nat) : Int) then 1 else 0))
  rw [← show D (g.length - 1) (setRow (St g s p r) (usk s p) (fun j => sm (rd_L2 g (p : Int)).length (fun k => 1 * ((if p = skip s j then 1 else 0) - (if rd (rd_L2 g (p : Int)) (k : Int) = ((skip s j : Nat) : Int) then 1 else 0))))) = D (g.length - 1) (St g s p r) from D_congr (fun i hi j hj => by
   simp only [setRow]
   by_cases e : i = usk s p
   ·rw [if_pos e]; subst e; simp only [St]; rw [skip_usk hps2, if_neg (Nat.lt_irrefl p)]; rfl
   ·rw [if_neg e]), l]
  refine sm_congr (fun k hk => ?_)
  rw [Int.one_mul]
  refine D_congr (fun i hi j hj => ?_)
  simp only [setRow]
  by_cases e : i = usk s p
  ·rw [if_pos e]; subst e
   simp only [St]
   rw [skip_usk hps2, if_pos (Nat.lt_succ_self p)]
   have e1 : nx g (r.set p (k : Int)) (p : Int) = rd (rd_L2 g (p : Int)) (k : Int) := by
    unfold nx; rw [if_neg (by omega), rd_set_nat (by omega) (by omega), if_pos rfl]
   have := hrow.2 (rd (rd_L2 g (p : Int)) (k : Int)) (by rw [rd_at hk]; exact List.getElem_mem _)
   unfold Nrow
   rw [e1, if_neg (show ¬ rd (rd_L2 g (p : Int)) (k : Int) < 0 by omega)]
  rw [if_neg e]
  have hne : skip s i ≠ p := fun e2 => e (by rw [← e2, usk_skip])
  simp only [St]
  by_cases h : skip s i < p
  rotate_left
  ·rw [if_neg h, if_neg (by omega)]
  rw [if_pos h, if_pos (by omega)]
  unfold Nrow
  rw [nx_congr (r := r.set p (k : Int)) (r2 := r) (by rw [rd_set_nat (by omega) (by omega), if_neg (by omega)])]
theorem trees_det {g : List (List Int)} (hg : goodG g = true) {s : Int} (h0 : 0 ≤ s) (h1 : s < (g.length : Int)) : D (g.length - 1) (mat (lap g s.toNat)) = ((trL g s g.length 0 (List.replicate g.length 0)).length : Int) := by
 have e : ((s.toNat : Nat) : Int) = s := Int.toNat_of_nonneg h0
 have hs : s.toNat < g.length := by omega
 rw [← filter_lexL h0 h1 g.length 0 (List.replicate g.length 0) (by omega) (rot0 hg) (inv0 g s _)]
 have := D_stage hs g.length 0 (List.replicate g.length 0) (by omega) (rot0 hg)
 rw [e] at this
 rw [← this]
 refine D_congr (fun i hi j hj => ?_)
 rw [mat_lap hg hs hi hj]
 simp only [St]
 rw [if_neg (by omega)]
open DetKit
def Lat (n : Nat) (A : Nat → Nat → Int) (x : Nat → Int) : Prop := ∃ v : Nat → Int, ∀ j, j < n → x j = sm n (fun i => v i * A i j)
theorem Lat.congr {n : Nat} {A : Nat → Nat → Int} {x y : Nat → Int} (h : Lat n A x) (e : ∀ j, j < n → y j = x j) : Lat n A y := by
 obtain ⟨v, hv⟩ := h
 exact ⟨v, fun j hj => (e j hj).trans (hv j hj)⟩
theorem Lat.zero (n : Nat) (A : Nat → Nat → Int) : Lat n A (fun _ => 0) := ⟨fun _ => 0, fun j _ => (sm_zero (fun i _ => Int.zero_mul _)).symm⟩
theorem Lat.add {n : Nat} {A : Nat → Nat → Int} {x y : Nat → Int} (h : Lat n A x) (h2 : Lat n A y) : Lat n A (fun j => x j + y j) := by
 obtain ⟨v, hv⟩ := h
 obtain ⟨u, hu⟩ := h2
 refine ⟨fun i => v i + u i, fun j hj => ?_⟩
 show x j + y j = _
 rw [hv j hj, hu j hj, ← sm_add]
 exact sm_congr (fun i _ => (Int.add_mul _ _ _).symm)
theorem Lat.mul {n : Nat} {A : Nat → Nat → Int} {x : Nat → Int} (c : Int) (h : Lat n A x) : Lat n A (fun j => c * x j) := by
 obtain ⟨v, hv⟩ := h
 refine ⟨fun i => c * v i, fun j hj => ?_⟩
 show c * x j = _
 rw [hv j hj, ← sm_mul]
 exact sm_congr (fun i _ => (Int.mul_assoc _ _ _).symm)
theorem Lat.sub {n : Nat} {A : Nat → Nat → Int} {x y : Nat → Int} (h : Lat n A x) (h2 : Lat n A y) : Lat n A (fun j => x j - y j) :=
 (h.add (h2.mul (-1))).congr (fun j _ => by omega)
theorem Lat.sum {n : Nat} {A : Nat → Nat → Int} (f : Nat → Nat → Int) : ∀ m, (∀ i, i < m → Lat n A (f i)) → Lat n A (fun j => sm m (fun i => f i j)) := by
 intro m
 induction m with
 | zero => intro _; exact (Lat.zero n A).congr (fun j _ => rfl)
 | succ m ih => intro h; exact ((ih (fun i hi => h i (by omega))).add (h m (by omega))).congr (fun j _ => rfl)
theorem Lat.row {n : Nat} (A : Nat → Nat → Int) {i : Nat} (hi : i < n) : Lat n A (A i) := by
 refine ⟨fun t => if t = i then 1 else 0, fun j hj => ?_⟩
 rw [← sm_unit n (fun t => A t j) i hi]
 exact sm_congr (fun t _ => Int.mul_comm _ _)
theorem Lat.of_rows {n : Nat} {A B : Nat → Nat → Int} (h : ∀ i, i < n → Lat n A (B i)) {x : Nat → Int} (hx : Lat n B x) : Lat n A x := by
 obtain ⟨v, hv⟩ := hx
 exact (Lat.sum (fun i j => v i * B i j) n (fun i hi => (h i hi).mul (v i))).congr hv
structure LReps (n : Nat) (A : Nat → Nat → Int) (l : List (Nat → Int)) : Prop where
 apart : l.Pairwise (fun (x y : Nat → Int) => ¬ Lat n A (fun j => x j - y j))
 all : ∀ x : Nat → Int, ∃ y ∈ l, Lat n A (fun j => x j - y j)
def Cls (n : Nat) (A : Nat → Nat → Int) : Prop := ∃ l, LReps n A l ∧ l.length = (D n A).natAbs ∧ ∃ m : Int, 0 < m ∧ ∀ x : Nat → Int, Lat n A (fun j => m * x j)
theorem Cls.same {n : Nat} {A B : Nat → Nat → Int} (h1 : ∀ i, i < n → Lat n A (B i)) (h2 : ∀ i, i < n → Lat n B (A i)) (hd : (D n A).natAbs = (D n B).natAbs) (h : Cls n A) : Cls n B := by
 obtain ⟨l, hl, hn, m, hm, hx⟩ := h
 refine ⟨l, ⟨hl.apart.imp (fun hab hc => hab (hc.of_rows h1)), fun x => ?_⟩, hn.trans hd, m, hm, fun x => (hx x).of_rows h2⟩
 obtain ⟨y, hy, hl⟩ := hl.all x
 exact ⟨y, hy, hl.of_rows h2⟩
def vcons (t : Int) (y : Nat → Int) : Nat → Int
 | 0 => t
 | j + 1 => y j
theorem corner_lat {n : Nat} {A : Nat → Nat → Int} (h0 : ∀ i, i < n → A (i + 1) 0 = 0) (x : Nat → Int) : Lat (n + 1) A x ↔ ∃ v : Int, x 0 = v * A 0 0 ∧ Lat n (fun i j => A (i + 1) (j + 1)) (fun j => x (j + 1) - v * A 0 (j + 1)) := by
 constructor
 ·rintro ⟨v, hv⟩
  refine ⟨v 0, ?_, fun i => v (i + 1), fun j hj => ?_⟩
  ·rw [hv 0 (by omega), sm_head, sm_zero (fun i hi => by rw [h0 i hi, Int.mul_zero])]; omega
  ·show x (j + 1) - v 0 * A 0 (j + 1) = _
   rw [hv (j + 1) (by omega), sm_head]
   show v 0 * A 0 (j + 1) + sm n (fun i => v (i + 1) * A (i + 1) (j + 1)) - v 0 * A 0 (j + 1) = sm n (fun i => v (i + 1) * A (i + 1) (j + 1))
   omega
 ·rintro ⟨v, hx, u, hu⟩
  refine ⟨fun i => match i with | 0 => v | i + 1 => u i, fun j hj => ?_⟩
  rw [sm_head]
  cases j with
  | zero => rw [sm_zero (fun i hi => by rw [h0 i hi, Int.mul_zero]), hx]; show v * A 0 0 = v * A 0 0 + 0; omega
  | succ j =>
   have := hu j (by omega)
   simp only at this ⊢
   omega
theorem flat_const {α : Type} (F : Nat → List α) (c : Nat) (h : ∀ t, (F t).length = c) (n : Nat) : ((List.range n).flatMap F).length = n * c := by
 induction n with
 | zero => simp
 | succ n ih => rw [List.range_succ, List.flatMap_append, List.length_append, ih, List.flatMap_cons, List.flatMap_nil, List.append_nil, h, Nat.succ_mul]
theorem mul_small {v a : Int} {t u d : Nat} (hd : d = a.natAbs) (ht : t < d) (hu : u < d) (h : (t : Int) - (u : Int) = v * a) : t = u := by
 by_cases hv : v = 0
 ·subst hv; omega
 have e : ((t : Int) - (u : Int)).natAbs = v.natAbs * a.natAbs := by rw [h, Int.natAbs_mul]
 have : a.natAbs ≤ v.natAbs * a.natAbs := Nat.le_mul_of_pos_left _ (by omega)
 omega
theorem corner {n : Nat} {A : Nat → Nat → Int} (h0 : ∀ i, i < n → A (i + 1) 0 = 0) (hd : D (n + 1) A ≠ 0) (ih : ∀ B, D n B ≠ 0 → Cls n B) : Cls (n + 1) A := by
 have e : D (n + 1) A = A 0 0 * D n (fun i j => A (i + 1) (j + 1)) := by
  rw [D_col, sm_one (r := 0) (by omega) (fun i hi hne => by
   obtain ⟨k, rfl⟩ : ∃ k, i = k + 1 := ⟨i - 1, by omega⟩
   rw [h0 k (by omega), Int.mul_zero, Int.zero_mul])]
  rw [show sg 0 = 1 from rfl, Int.one_mul]
  congr 1
 have ha : A 0 0 ≠ 0 := fun h => hd (by rw [e, h, Int.zero_mul])
 obtain ⟨l, hl, hn, m, hm, hx⟩ := ih (fun i j => A (i + 1) (j + 1)) (fun h => hd (by rw [e, h, Int.mul_zero]))
 refine ⟨(List.range (A 0 0).natAbs).flatMap fun (t : Nat) => l.map fun y => vcons (t : Int) y, ⟨?_, fun x => ?_⟩, ?_, ((A 0 0).natAbs : Int) * m, Int.mul_pos (by omega) hm, fun x => ?_⟩
 ·rw [List.pairwise_flatMap]
  refine ⟨fun t _ => ?_, ?_⟩
  ·rw [List.pairwise_map]
   refine hl.apart.imp (fun {y z} hyz hc => ?_)
   obtain ⟨v, hv, hv2⟩ := (corner_lat h0 _).1 hc
   have hv0 : v = 0 := by
    simp only [vcons] at hv
    rcases Int.mul_eq_zero.1 (show v * A 0 0 = 0 by omega) with h | h
    ·exact h
    ·exact absurd h ha
   subst hv0
   exact hyz (hv2.congr (fun j _ => by simp only [vcons]; omega))
  ·refine List.Pairwise.imp_of_mem (R := fun t u : Nat => t < u) (fun {t u} ht hu htu => ?_) List.pairwise_lt_range
   intro y hy z hz hc
   rw [List.mem_range] at ht hu
   obtain ⟨y1, _, rfl⟩ := List.mem_map.1 hy
   obtain ⟨z1, _, rfl⟩ := List.mem_map.1 hz
   obtain ⟨v, hv, _⟩ := (corner_lat h0 _).1 hc
   simp only [vcons] at hv
   have := mul_small rfl ht hu hv
   omega
 ·obtain ⟨y, hy, hyl⟩ := hl.all (fun j => x (j + 1) - (x 0 / A 0 0) * A 0 (j + 1))
  have hr0 := Int.emod_nonneg (x 0) ha
  have hr1 : x 0 % A 0 0 < ((A 0 0).natAbs : Int) := Int.emod_lt (x 0) ha
  have hr2 := Int.mul_ediv_add_emod (x 0) (A 0 0)
  refine ⟨vcons ((x 0 % A 0 0).toNat : Int) y, List.mem_flatMap.2 ⟨(x 0 % A 0 0).toNat, List.mem_range.2 (by omega), List.mem_map.2 ⟨y, hy, rfl⟩⟩, ?_⟩
  refine (corner_lat h0 _).2 ⟨x 0 / A 0 0, ?_, hyl.congr (fun j _ => by simp only [vcons]; omega)⟩
  simp only [vcons]
  rw [Int.mul_comm (x 0 / A 0 0)]
  omega
 ·rw [flat_const _ l.length (fun t => by simp), hn, e, Int.natAbs_mul]
 ·obtain ⟨s, hs⟩ : ∃ s : Int, ((A 0 0).natAbs : Int) = s * A 0 0 := by
   rcases Int.natAbs_eq (A 0 0) with h | h
   ·exact ⟨1, by omega⟩
   ·exact ⟨-1, by omega⟩
  refine (corner_lat h0 _).2 ⟨s * m * x 0, ?_, (hx (fun j => ((A 0 0).natAbs : Int) * x (j + 1) - s * x 0 * A 0 (j + 1))).congr (fun j _ => ?_)⟩
  ·rw [hs]; simp only [Int.mul_assoc, Int.mul_comm, Int.mul_left_comm]
  ·rw [Int.mul_sub]; simp only [Int.mul_assoc, Int.mul_comm, Int.mul_left_comm]
def asum : Nat → (Nat → Int) → Nat
 | 0, _ => 0
 | n + 1, f => asum n f + (f n).natAbs
theorem asum_le {n : Nat} {f g : Nat → Int} (h : ∀ i, i < n → (f i).natAbs ≤ (g i).natAbs) : asum n f ≤ asum n g := by
 induction n with
 | zero => exact Nat.le_refl _
 | succ n ih => simp only [asum]; have := ih (fun i hi => h i (by omega)); have := h n (by omega); omega
theorem asum_lt {n : Nat} {f g : Nat → Int} {k : Nat} (hk : k < n) (h : ∀ i, i < n → i ≠ k → f i = g i) (hlt : (f k).natAbs < (g k).natAbs) : asum n f < asum n g := by
 induction n with
 | zero => omega
 | succ n ih =>
  simp only [asum]
  by_cases e : k = n
  ·subst e
   have := asum_le (n := k) (f := f) (g := g) (fun i hi => by rw [h i (by omega) (by omega)]; exact Nat.le_refl _)
   omega
  have := ih (by omega) (fun i hi hne => h i (by omega) hne)
  rw [h n (by omega) (fun e2 => e e2.symm)]
  omega
theorem row_op {n : Nat} {A : Nat → Nat → Int} {i k : Nat} (hi : i < n) (hk : k < n) (hne : i ≠ k) (q : Int) (h : Cls n (setRow A k (fun j => 1 * A k j + (-q) * A i j))) : Cls n A := by
 have hD : D n (setRow A k (fun j => 1 * A k j + (-q) * A i j)) = D n A := by
  rw [D_row_lin n k hk, DetKit.setRow_self, D_rows_eq' n (setRow A k (A i)) i k hi hk hne (fun c _ => by simp only [setRow]; rw [if_neg hne, if_pos trivial])]
  omega
 refine h.same (fun r hr => ?_) (fun r hr => ?_) (by rw [hD])
 ·by_cases e : r = k
  rotate_left
  ·exact (Lat.row (setRow A k (fun j => 1 * A k j + (-q) * A i j)) hr).congr (fun j _ => by simp only [setRow]; rw [if_neg e])
  subst e
  refine ((Lat.row (setRow A r (fun j => 1 * A r j + (-q) * A i j)) hr).add ((Lat.row (setRow A r (fun j => 1 * A r j + (-q) * A i j)) hi).mul q)).congr (fun j _ => ?_)
  simp only [setRow]
  rw [if_pos trivial, if_neg hne, Int.neg_mul]
  omega
 ·by_cases e : r = k
  rotate_left
  ·exact (Lat.row A hr).congr (fun j _ => by simp only [setRow]; rw [if_neg e])
  subst e
  refine ((Lat.row A hr).add ((Lat.row A hi).mul (-q))).congr (fun j _ => ?_)
  simp only [setRow]
  rw [if_pos trivial]
  omega
theorem cosets : ∀ (n : Nat) (A : Nat → Nat → Int), D n A ≠ 0 → Cls n A := by
 intro n
 induction n with
 | zero =>
  intro A _
  exact ⟨[fun _ => 0], ⟨List.pairwise_singleton _ _, fun x => ⟨_, List.mem_singleton.2 rfl, fun _ => 0, fun j hj => by omega⟩⟩, rfl, 1, by omega, fun x => ⟨fun _ => 0, fun j hj => by omega⟩⟩
 | succ n ih =>
  have key : ∀ (N : Nat) (A : Nat → Nat → Int), D (n + 1) A ≠ 0 → asum (n + 1) (fun i => A i 0) < N → Cls (n + 1) A := by
   intro N
   induction N with
   | zero => intro A _ h; omega
   | succ N ihN =>
    intro A hD hN
    have red : ∀ i k, i < n + 1 → k < n + 1 → i ≠ k → A i 0 ≠ 0 → (A i 0).natAbs ≤ (A k 0).natAbs → Cls (n + 1) A := by
     intro i k hi hk hne ha hle
     refine row_op hi hk hne (A k 0 / A i 0) (ihN _ ?_ ?_)
     ·rw [D_row_lin (n + 1) k hk, DetKit.setRow_self, D_rows_eq' (n + 1) (setRow A k (A i)) i k hi hk hne (fun c _ => by simp only [setRow]; rw [if_neg hne, if_pos trivial])]
      omega
     ·have h1 := Int.emod_nonneg (A k 0) ha
      have h2 : A k 0 % A i 0 < ((A i 0).natAbs : Int) := Int.emod_lt (A k 0) ha
      have h3 := Int.mul_ediv_add_emod (A k 0) (A i 0)
      have : asum (n + 1) (fun r => setRow A k (fun j => 1 * A k j + (-(A k 0 / A i 0)) * A i j) r 0) < asum (n + 1) (fun i => A i 0) := by
       refine asum_lt hk (fun r _ hr => by simp only [setRow]; rw [if_neg hr]) ?_
       simp only [setRow]
       rw [if_pos trivial, Int.neg_mul, Int.mul_comm (A k 0 / A i 0)]
       omega
      omega
    by_cases h2 : ∃ i k, i < n + 1 ∧ k < n + 1 ∧ i ≠ k ∧ A i 0 ≠ 0 ∧ A k 0 ≠ 0
    ·obtain ⟨i, k, hi, hk, hne, ha, hb⟩ := h2
     rcases Nat.le_total (A i 0).natAbs (A k 0).natAbs with h | h
     ·exact red i k hi hk hne ha h
     ·exact red k i hk hi (Ne.symm hne) hb h
    by_cases h1 : ∃ i, i < n + 1 ∧ A i 0 ≠ 0
    rotate_left
    ·exact absurd (by
      rw [D_col]
      exact sm_zero (fun i hi => by
       rw [show A i 0 = 0 from Classical.byContradiction fun h => h1 ⟨i, hi, h⟩, Int.mul_zero, Int.zero_mul])) hD
    obtain ⟨i, hi, ha⟩ := h1
    have ho : ∀ k, k < n + 1 → k ≠ i → A k 0 = 0 := fun k hk hki => Classical.byContradiction fun hb => h2 ⟨k, i, hk, hi, hki, hb, ha⟩
    by_cases e : i = 0
    ·subst e
     exact corner (fun k hk => ho (k + 1) (by omega) (by omega)) hD ih
    have hs := D_swap (n + 1) A 0 i (by omega) hi (Ne.symm e)
    refine (corner (A := swapRows A 0 i) (fun k hk => ?_) (fun h => hD (by omega)) ih).same (fun r hr => ?_) (fun r hr => ?_) (by rw [hs, Int.natAbs_neg])
    ·simp only [swapRows]
     rw [if_neg (by omega)]
     split
     ·exact ho 0 (by omega) (Ne.symm e)
     ·exact ho (k + 1) (by omega) (by omega)
    ·by_cases e0 : r = 0
     ·subst e0
      exact (Lat.row (swapRows A 0 i) hi).congr (fun j _ => by simp only [swapRows]; rw [if_neg e, if_pos trivial])
     by_cases e1 : r = i
     rotate_left
     ·exact (Lat.row (swapRows A 0 i) hr).congr (fun j _ => by simp only [swapRows]; rw [if_neg e0, if_neg e1])
     subst e1
     exact (Lat.row (swapRows A 0 r) (show 0 < n + 1 by omega)).congr (fun j _ => by simp only [swapRows]; rw [if_pos trivial])
    ·by_cases e0 : r = 0
     ·subst e0
      exact (Lat.row A hi).congr (fun j _ => by simp only [swapRows]; rw [if_pos trivial])
     by_cases e1 : r = i
     rotate_left
     ·exact (Lat.row A hr).congr (fun j _ => by simp only [swapRows]; rw [if_neg e0, if_neg e1])
     subst e1
     exact (Lat.row A (show 0 < n + 1 by omega)).congr (fun j _ => by simp only [swapRows]; rw [if_neg e0, if_pos trivial])
  intro A hD
  exact key _ A hD (Nat.lt_succ_self _)
open DetKit
theorem sm_le {n : Nat} {f g : Nat → Int} (h : ∀ i, i < n → f i ≤ g i) : sm n f ≤ sm n g := by
 induction n with
 | zero => exact Int.le_refl _
 | succ n ih => simp only [sm]; have := ih (fun i hi => h i (by omega)); have := h n (by omega); omega
theorem sm_nonneg {n : Nat} {f : Nat → Int} (h : ∀ i, i < n → 0 ≤ f i) : 0 ≤ sm n f := by
 rw [← sm_zero (n := n) (f := fun _ => 0) (fun _ _ => rfl)]; exact sm_le h
theorem sm_all_zero {n : Nat} {f : Nat → Int} (h : ∀ i, i < n → 0 ≤ f i) (hs : sm n f ≤ 0) : ∀ i, i < n → f i = 0 := by
 induction n with
 | zero => intro i hi; omega
 | succ n ih =>
  simp only [sm] at hs
  have h1 := sm_nonneg (fun i hi => h i (by omega) : ∀ i, i < n → 0 ≤ f i)
  have h2 := h n (by omega)
  intro i hi
  by_cases e : i = n
  ·subst e; omega
  exact ih (fun i hi => h i (by omega)) (by omega) i (by omega)
def aft (n : Nat) (L : Nat → Nat → Int) (x u : Nat → Int) : Nat → Int := fun j => x j - sm n (fun i => u i * L i j)
def bump (u : Nat → Int) (i : Nat) : Nat → Int := fun j => u j + if j = i then 1 else 0
theorem aft_zero (n : Nat) (L : Nat → Nat → Int) (x : Nat → Int) : aft n L x (fun _ => 0) = x := by
 funext j; unfold aft; rw [sm_zero (fun i _ => Int.zero_mul _)]; omega
theorem aft_bump {n : Nat} (L : Nat → Nat → Int) (x u : Nat → Int) {i : Nat} (hi : i < n) (j : Nat) : aft n L x (bump u i) j = aft n L x u j - L i j := by
 unfold aft
 have : sm n (fun t => bump u i t * L t j) = sm n (fun t => u t * L t j) + L i j := by
  rw [← sm_unit n (fun t => L t j) i hi, ← sm_add]
  refine sm_congr (fun t _ => ?_)
  unfold bump; rw [Int.add_mul, Int.mul_comm (L t j)]
 omega
theorem aft_aft (n : Nat) (L : Nat → Nat → Int) (x u v : Nat → Int) : aft n L (aft n L x u) v = aft n L x (fun i => u i + v i) := by
 funext j
 show x j - sm n (fun t => u t * L t j) - sm n (fun t => v t * L t j) = x j - sm n (fun t => (u t + v t) * L t j)
 have : sm n (fun t => (u t + v t) * L t j) = sm n (fun t => u t * L t j) + sm n (fun t => v t * L t j) := by
  rw [← sm_add]; exact sm_congr (fun t _ => Int.add_mul _ _ _)
 omega
theorem aft_add (n : Nat) (L : Nat → Nat → Int) (x z u : Nat → Int) : aft n L (fun j => x j + z j) u = fun j => aft n L x u j + z j := by
 funext j
 show x j + z j - sm n (fun t => u t * L t j) = x j - sm n (fun t => u t * L t j) + z j
 omega
theorem aft_congr {n : Nat} {L : Nat → Nat → Int} {x y u v : Nat → Int} {j : Nat} (h : x j = y j) (hu : ∀ i, i < n → u i = v i) : aft n L x u j = aft n L y v j := by
 unfold aft; rw [h, sm_congr (fun i hi => by rw [hu i hi])]
def Stb (n : Nat) (d c : Nat → Int) : Prop := ∀ i, i < n → c i < d i
inductive Leg (n : Nat) (L : Nat → Nat → Int) (d x : Nat → Int) : (Nat → Int) → Nat → Prop
 | nil : Leg n L d x (fun _ => 0) 0
 | step {u : Nat → Int} {k i : Nat} : Leg n L d x u k → i < n → d i ≤ aft n L x u i → Leg n L d x (bump u i) (k + 1)
structure Pile (n : Nat) (L : Nat → Nat → Int) (d h : Nat → Int) : Prop where
 off : ∀ i j, i < n → j < n → i ≠ j → L i j ≤ 0
 dl : ∀ i, i < n → L i i ≤ d i
 h0 : ∀ i, i < n → 0 ≤ h i
 pot : ∀ i, i < n → 1 ≤ sm n (fun j => L i j * h j)
section
variable {n : Nat} {L : Nat → Nat → Int} {d : Nat → Int}
theorem Leg.pos {x u : Nat → Int} {k : Nat} (h : Leg n L d x u k) : ∀ i, 0 ≤ u i := by
 induction h with
 | nil => intro i; exact Int.le_refl _
 | step _ _ _ ih => intro i; unfold bump; have := ih i; split <;> omega
theorem Leg.congr {x y u : Nat → Int} {k : Nat} (e : ∀ j, j < n → x j = y j) (h : Leg n L d x u k) : Leg n L d y u k := by
 induction h with
 | nil => exact .nil
 | step _ hi hd ih => exact .step ih hi (by rw [← aft_congr (e _ hi) (fun _ _ => rfl)]; exact hd)
theorem Leg.least (off : ∀ i j, i < n → j < n → i ≠ j → L i j ≤ 0) {x u : Nat → Int} {k : Nat} (h : Leg n L d x u k) {v : Nat → Int} (hv : ∀ i, i < n → 0 ≤ v i) (hs : Stb n d (aft n L x v)) : ∀ i, i < n → u i ≤ v i := by
 induction h with
 | nil => exact hv
 | @step u k i _ hi hd ih =>
  intro t ht
  unfold bump
  by_cases e : t = i
  rotate_left
  ·rw [if_neg e]; have := ih t ht; omega
  subst e
  rw [if_pos rfl]
  apply Classical.byContradiction
  intro hc
  have he : u t = v t := by have := ih t ht; omega
  have h1 := hs t ht
  have h2 : sm n (fun s => v s * L s t) ≤ sm n (fun s => u s * L s t) := by
   refine sm_le (fun s hsn => ?_)
   by_cases e2 : s = t
   ·subst e2; rw [he]; exact Int.le_refl _
   exact Int.mul_le_mul_of_nonpos_right (ih s hsn) (off s t hsn ht e2)
  unfold aft at h1 hd
  omega
theorem Leg.add {x u z : Nat → Int} {k : Nat} (h : Leg n L d x u k) (hz : ∀ i, i < n → 0 ≤ z i) : Leg n L d (fun j => x j + z j) u k := by
 induction h with
 | nil => exact .nil
 | step _ hi hd ih => exact .step ih hi (by rw [aft_add]; have := hz _ hi; dsimp only; omega)
theorem Leg.cat {x u v : Nat → Int} {k l : Nat} (h : Leg n L d x u k) (h2 : Leg n L d (aft n L x u) v l) : Leg n L d x (fun i => u i + v i) (k + l) := by
 induction h2 with
 | nil =>
  have e : (fun i => u i + (fun _ => (0 : Int)) i) = u := by funext i; exact Int.add_zero _
  rw [e]; exact h
 | @step v l i _ hi hd ih =>
  rw [aft_aft] at hd
  have e : (fun j => u j + bump v i j) = bump (fun i => u i + v i) i := by
   funext j
   show u j + (v j + if j = i then 1 else 0) = u j + v j + if j = i then 1 else 0
   omega
  rw [e]; exact ih.step hi hd
theorem Leg.nonneg {h : Nat → Int} (P : Pile n L d h) {x u : Nat → Int} {k : Nat} (hx : ∀ j, j < n → 0 ≤ x j) (hl : Leg n L d x u k) : ∀ j, j < n → 0 ≤ aft n L x u j := by
 induction hl with
 | nil => rw [aft_zero]; exact hx
 | @step u k i _ hi hd ih =>
  intro j hj
  rw [aft_bump L x u hi]
  by_cases e : j = i
  ·subst e; have := P.dl j hj; omega
  have := ih j hj; have := P.off i j hi hj (Ne.symm e); omega
theorem Leg.bound {h : Nat → Int} (P : Pile n L d h) {x u : Nat → Int} {k : Nat} (hl : Leg n L d x u k) : (k : Int) + sm n (fun j => aft n L x u j * h j) ≤ sm n (fun j => x j * h j) := by
 induction hl with
 | nil => rw [aft_zero]; omega
 | @step u k i _ hi _ ih =>
  have : sm n (fun j => aft n L x (bump u i) j * h j) = sm n (fun j => aft n L x u j * h j) + -1 * sm n (fun j => L i j * h j) := by
   rw [← sm_mul, ← sm_add]
   exact sm_congr (fun j _ => by rw [aft_bump L x u hi, Int.sub_mul]; omega)
  have := P.pot i hi
  omega
theorem Leg.few {h : Nat → Int} (P : Pile n L d h) {x u : Nat → Int} {k : Nat} (hx : ∀ j, j < n → 0 ≤ x j) (hl : Leg n L d x u k) : (k : Int) ≤ sm n (fun j => x j * h j) := by
 have h1 := hl.bound P
 have h2 : 0 ≤ sm n (fun j => aft n L x u j * h j) := sm_nonneg (fun j hj => Int.mul_nonneg (hl.nonneg P hx j hj) (P.h0 j hj))
 omega
def Stz (n : Nat) (L : Nat → Nat → Int) (d x u : Nat → Int) : Prop := (∃ k, Leg n L d x u k) ∧ Stb n d (aft n L x u)
theorem Stz.ex {h : Nat → Int} (P : Pile n L d h) {x : Nat → Int} (hx : ∀ j, j < n → 0 ≤ x j) : ∃ u, Stz n L d x u := by
 have : ∀ (m k : Nat) (u : Nat → Int), Leg n L d x u k → sm n (fun j => x j * h j) < (k : Int) + m → ∃ u, Stz n L d x u := by
  intro m
  induction m with
  | zero => intro k u hl hm; have := hl.few P hx; omega
  | succ m ih =>
   intro k u hl hm
   by_cases hs : Stb n d (aft n L x u)
   ·exact ⟨u, ⟨k, hl⟩, hs⟩
   obtain ⟨i, hi⟩ := Classical.not_forall.1 hs
   rw [Classical.not_imp] at hi
   exact ih (k + 1) _ (hl.step hi.1 (by have := hi.2; omega)) (by omega)
 refine this ((sm n (fun j => x j * h j)).toNat + 1) 0 _ .nil ?_
 omega
theorem Stz.uniq (off : ∀ i j, i < n → j < n → i ≠ j → L i j ≤ 0) {x u v : Nat → Int} (h : Stz n L d x u) (h2 : Stz n L d x v) : ∀ i, i < n → u i = v i := by
 obtain ⟨⟨k, hk⟩, hs⟩ := h
 obtain ⟨⟨l, hl⟩, ht⟩ := h2
 intro i hi
 have h1 := hk.least off (fun i _ => hl.pos i) ht i hi
 have h2 := hl.least off (fun i _ => hk.pos i) hs i hi
 omega
theorem Stz.end_ (off : ∀ i j, i < n → j < n → i ≠ j → L i j ≤ 0) {x u v : Nat → Int} (h : Stz n L d x u) (h2 : Stz n L d x v) (j : Nat) : aft n L x u j = aft n L x v j := aft_congr rfl (h.uniq off h2)
theorem Stz.congr {x y u : Nat → Int} (e : ∀ j, j < n → x j = y j) (h : Stz n L d x u) : Stz n L d y u := by
 obtain ⟨⟨k, hk⟩, hs⟩ := h
 exact ⟨⟨k, hk.congr e⟩, fun i hi => by rw [← aft_congr (e i hi) (fun _ _ => rfl)]; exact hs i hi⟩
theorem Stz.behind {x u v : Nat → Int} {k : Nat} (h : Leg n L d x u k) (h2 : Stz n L d (aft n L x u) v) : Stz n L d x (fun i => u i + v i) := by
 obtain ⟨⟨l, hl⟩, hs⟩ := h2
 exact ⟨⟨k + l, h.cat hl⟩, by rw [← aft_aft]; exact hs⟩
theorem Stz.same {x : Nat → Int} (h : Stb n d x) : Stz n L d x (fun _ => 0) := ⟨⟨0, .nil⟩, by rw [aft_zero]; exact h⟩
end
def Heap0 (n : Nat) (d c : Nat → Int) : Prop := ∀ i, i < n → 0 ≤ c i ∧ c i < d i
structure Burn (n : Nat) (L : Nat → Nat → Int) (d h w b : Nat → Int) : Prop where
 pile : Pile n L d h
 st : Stz n L d (fun j => 2 * (d j - 1)) w
 eq : ∀ j, j < n → b j = sm n (fun i => w i * L i j)
def Rec (n : Nat) (L : Nat → Nat → Int) (d b c : Nat → Int) : Prop := ∃ u, Stz n L d (fun j => c j + b j) u ∧ ∀ j, j < n → aft n L (fun j => c j + b j) u j = c j
section
variable {n : Nat} {L : Nat → Nat → Int} {d h w b : Nat → Int}
theorem Pile.one (P : Pile n L d h) {i : Nat} (hi : i < n) : 1 ≤ d i := by
 have h1 := P.pot i hi
 have h2 := P.dl i hi
 have : sm n (fun j => L i j * h j) ≤ sm n (fun j => (L i i * h i) * (if j = i then 1 else 0)) := by
  refine sm_le (fun j hj => ?_)
  by_cases e : j = i
  ·subst e; rw [if_pos rfl]; omega
  rw [if_neg e, Int.mul_zero]
  exact Int.mul_nonpos_of_nonpos_of_nonneg (P.off i j hi hj (Ne.symm e)) (P.h0 j hj)
 rw [sm_unit n (fun _ => L i i * h i) i hi] at this
 rcases Int.lt_or_le 0 (L i i) with h3 | h3
 ·omega
 ·have := Int.mul_nonpos_of_nonpos_of_nonneg h3 (P.h0 i hi); omega
theorem Pile.dead (P : Pile n L d h) {a : Nat → Int} (ha : ∀ i, i < n → 0 ≤ a i) (hs : ∀ j, j < n → sm n (fun i => a i * L i j) ≤ 0) : ∀ i, i < n → a i = 0 := by
 refine sm_all_zero ha ?_
 have h1 : sm n (fun j => sm n (fun i => a i * L i j) * h j) ≤ 0 := by
  rw [← sm_zero (n := n) (f := fun _ => 0) (fun _ _ => rfl)]
  exact sm_le (fun j hj => Int.mul_nonpos_of_nonpos_of_nonneg (hs j hj) (P.h0 j hj))
 have h2 : sm n (fun j => sm n (fun i => a i * L i j) * h j) = sm n (fun i => a i * sm n (fun j => L i j * h j)) := by
  rw [sm_congr (g := fun j => sm n (fun i => a i * (L i j * h j))) (fun j _ => by
   rw [Int.mul_comm, ← sm_mul]; exact sm_congr (fun i _ => by rw [Int.mul_comm (h j), Int.mul_assoc])), sm_swap]
  exact sm_congr (fun i _ => by rw [← sm_mul])
 have h3 : sm n a ≤ sm n (fun i => a i * sm n (fun j => L i j * h j)) := by
  refine sm_le (fun i hi => ?_)
  have := Int.mul_le_mul_of_nonneg_left (P.pot i hi) (ha i hi)
  omega
 omega
theorem abs_mul_le {v l : Int} (hl : l ≤ 0) : (v.natAbs : Int) * l ≤ v * l ∧ (v.natAbs : Int) * l ≤ -(v * l) := by
 constructor
 ·exact Int.mul_le_mul_of_nonpos_right (by omega) hl
 ·rw [← Int.neg_mul]; exact Int.mul_le_mul_of_nonpos_right (by omega) hl
theorem Pile.kernel (P : Pile n L d h) {v : Nat → Int} (hv : ∀ j, j < n → sm n (fun i => v i * L i j) = 0) : ∀ i, i < n → v i = 0 := by
 have := P.dead (a := fun i => ((v i).natAbs : Int)) (fun i _ => by omega) (fun j hj => by
  rcases Int.le_total 0 (v j) with h0 | h0
  ·rw [← hv j hj]
   refine sm_le (fun i hi => ?_)
   by_cases e : i = j
   ·subst e; rw [show ((v i).natAbs : Int) = v i by omega]; exact Int.le_refl _
   exact (abs_mul_le (P.off i j hi hj e)).1
  ·have : sm n (fun i => -(v i * L i j)) = 0 := by rw [sm_neg, hv j hj]; rfl
   rw [← this]
   refine sm_le (fun i hi => ?_)
   by_cases e : i = j
   ·subst e; rw [show ((v i).natAbs : Int) = -v i by omega, Int.neg_mul]; exact Int.le_refl _
   ·exact (abs_mul_le (P.off i j hi hj e)).2)
 intro i hi
 have := this i hi
 (try simp only at this)
 omega
theorem Burn.low (B : Burn n L d h w b) {j : Nat} (hj : j < n) : b j = 2 * (d j - 1) - aft n L (fun j => 2 * (d j - 1)) w j := by
 rw [B.eq j hj]; simp only [aft]; omega
theorem Burn.ge (B : Burn n L d h w b) {j : Nat} (hj : j < n) : d j - 1 ≤ b j := by
 have := B.st.2 j hj; have := B.low hj; omega
theorem Burn.pos (B : Burn n L d h w b) {j : Nat} (hj : j < n) : 0 ≤ b j := by
 have := B.ge hj; have := B.pile.one hj; omega
theorem Burn.wpos (B : Burn n L d h w b) (i : Nat) : 0 ≤ w i := by
 obtain ⟨⟨k, hk⟩, _⟩ := B.st; exact hk.pos i
theorem Burn.full (B : Burn n L d h w b) {z : Nat → Int} (hz : ∀ i, i < n → 0 ≤ z i) : ∃ k, Leg n L d (fun j => (d j - 1 + z j) + b j) w k ∧ ∀ j, j < n → aft n L (fun j => (d j - 1 + z j) + b j) w j = d j - 1 + z j := by
 obtain ⟨⟨k, hk⟩, hs⟩ := B.st
 refine ⟨k, ?_, fun j hj => ?_⟩
 ·refine (hk.add (z := fun j => (d j - 1 - aft n L (fun j => 2 * (d j - 1)) w j) + z j) (fun i hi => ?_)).congr (fun j hj => ?_)
  ·have := hs i hi; have := hz i hi; omega
  ·have := B.low hj; omega
 ·simp only [aft]; rw [B.eq j hj]; omega
theorem Burn.rec_full (B : Burn n L d h w b) : Rec n L d b (fun j => d j - 1) := by
 obtain ⟨k, hk, he⟩ := B.full (z := fun _ => 0) (fun _ _ => Int.le_refl _)
 refine ⟨w, ⟨⟨k, hk.congr (fun j _ => by dsimp only; omega)⟩, fun i hi => ?_⟩, fun j hj => ?_⟩
 ·have := he i hi; simp only [aft] at this ⊢; omega
 ·have := he j hj; simp only [aft] at this ⊢; omega
theorem Burn.rec_aft (B : Burn n L d h w b) {y u : Nat → Int} (hy : ∀ i, i < n → d i - 1 ≤ y i) (hu : Stz n L d y u) : Rec n L d b (aft n L y u) := by
 have hy0 : ∀ i, i < n → 0 ≤ y i := fun i hi => by have := hy i hi; have := B.pile.one hi; omega
 obtain ⟨k, hk, he⟩ := B.full (z := fun j => y j - (d j - 1)) (fun i hi => by have := hy i hi; omega)
 obtain ⟨⟨l, hl⟩, hs⟩ := hu
 have h1 : Stz n L d (fun j => y j + b j) (fun i => w i + u i) := by
  refine Stz.behind (hk.congr (y := fun j => y j + b j) (fun j _ => by omega)) (Stz.congr (x := y) (fun j hj => ?_) ⟨⟨l, hl⟩, hs⟩)
  have := he j hj; simp only [aft] at this ⊢; omega
 obtain ⟨v, hv⟩ := Stz.ex B.pile (x := fun j => aft n L y u j + b j) (fun j hj => by have := hl.nonneg B.pile hy0 j hj; have := B.pos hj; omega)
 have h2 : Stz n L d (fun j => y j + b j) (fun i => u i + v i) := by
  refine Stz.behind (hl.add (z := b) (fun i hi => B.pos hi)) ?_
  rw [aft_add]; exact hv
 refine ⟨v, hv, fun j hj => ?_⟩
 have e := h1.end_ B.pile.off h2 j
 rw [← aft_aft, ← aft_aft, aft_add n L y b u] at e
 rw [← e]
 refine aft_congr ?_ (fun _ _ => rfl)
 have := he j hj; simp only [aft] at this ⊢; omega
theorem Rec.more {c z : Nat → Int} (h : Rec n L d b c) (hz : ∀ i, i < n → 0 ≤ z i) (hs : Stb n d (fun j => c j + z j)) : Rec n L d b (fun j => c j + z j) := by
 obtain ⟨u, ⟨⟨k, hk⟩, _⟩, he⟩ := h
 have e : ∀ j, j < n → aft n L (fun j => c j + z j + b j) u j = c j + z j := fun j hj => by have := he j hj; simp only [aft] at this ⊢; omega
 exact ⟨u, ⟨⟨k, (hk.add hz).congr (fun j _ => by dsimp only; omega)⟩, fun i hi => by rw [e i hi]; exact hs i hi⟩, e⟩
theorem Rec.again (B : Burn n L d h w b) {c u : Nat → Int} (hst : Stz n L d (fun j => c j + b j) u) (he : ∀ j, j < n → aft n L (fun j => c j + b j) u j = c j) : ∀ k : Nat, ∃ l, Leg n L d (fun j => c j + (k : Int) * b j) (fun i => (k : Int) * u i) l := by
 obtain ⟨⟨m, hm⟩, _⟩ := hst
 have hb : ∀ j, j < n → sm n (fun i => u i * L i j) = b j := fun j hj => by have := he j hj; simp only [aft] at this; omega
 intro k
 induction k with
 | zero =>
  have e : (fun i => ((0 : Nat) : Int) * u i) = fun _ => 0 := by funext i; exact Int.zero_mul _
  rw [e]
  exact ⟨0, .nil⟩
 | succ k ih =>
  obtain ⟨l, hl⟩ := ih
  refine ⟨l + m, ?_⟩
  have h1 := hl.add (z := b) (fun i hi => B.pos hi)
  have h2 : Leg n L d (aft n L (fun j => c j + (k : Int) * b j + b j) (fun i => (k : Int) * u i)) u m := by
   refine hm.congr (fun j hj => ?_)
   simp only [aft]
   have : sm n (fun i => (k : Int) * u i * L i j) = (k : Int) * b j := by
    rw [← hb j hj, ← sm_mul]; exact sm_congr (fun i _ => Int.mul_assoc _ _ _)
   omega
  have h3 := h1.cat h2
  have e1 : (fun j => c j + (k : Int) * b j + b j) = fun j => c j + ((k + 1 : Nat) : Int) * b j := by
   funext j; rw [show ((k + 1 : Nat) : Int) = (k : Int) + 1 by omega, Int.add_mul]; omega
  have e2 : (fun i => (k : Int) * u i + u i) = fun i => ((k + 1 : Nat) : Int) * u i := by
   funext j; rw [show ((k + 1 : Nat) : Int) = (k : Int) + 1 by omega, Int.add_mul]; omega
  rw [e1, e2] at h3
  exact h3
theorem asum_ge {v : Nat → Int} {i : Nat} (hi : i < n) : (v i).natAbs ≤ asum n v := by
 induction n with
 | zero => omega
 | succ n ih =>
  simp only [asum]
  by_cases e : i = n
  ·subst e; omega
  have := ih (by omega); omega
theorem Burn.idle (B : Burn n L d h w b) {j : Nat} (hj : j < n) (hw : w j = 0) : d j = 1 ∧ ∀ i, i < n → w i ≠ 0 → L i j = 0 := by
 have h1 := B.st.2 j hj
 have h2 := B.pile.one hj
 simp only [aft] at h1
 have h3 : ∀ i, i < n → 0 ≤ -(w i * L i j) := by
  intro i hi
  by_cases e : i = j
  ·subst e; rw [hw]; omega
  have := Int.mul_nonpos_of_nonneg_of_nonpos (B.wpos i) (B.pile.off i j hi hj e); omega
 have h4 : sm n (fun i => -(w i * L i j)) = - sm n (fun i => w i * L i j) := sm_neg _ _
 have h5 := sm_nonneg h3
 refine ⟨by omega, fun i hi hne => ?_⟩
 have h6 := sm_all_zero h3 (by omega) i hi
 rcases Int.mul_eq_zero.1 (show w i * L i j = 0 by omega) with e | e
 ·exact absurd e hne
 ·exact e
theorem Burn.uniq (B : Burn n L d h w b) {c c' : Nat → Int} (hc : Heap0 n d c) (hc' : Heap0 n d c') (r : Rec n L d b c) (r' : Rec n L d b c') (hl : Lat n L (fun j => c j - c' j)) : ∀ j, j < n → c j = c' j := by
 obtain ⟨v, hv⟩ := hl
 replace hv : ∀ j, j < n → c j - c' j = sm n (fun i => v i * L i j) := hv
 obtain ⟨u, hu, he⟩ := r
 obtain ⟨u', hu', he'⟩ := r'
 have hb : ∀ {c u : Nat → Int}, (∀ j, j < n → aft n L (fun j => c j + b j) u j = c j) → ∀ i, i < n → u i = w i := by
  intro c u he i hi
  have := B.pile.kernel (v := fun i => u i - w i) (fun j hj => by
   have h1 := he j hj
   have h2 := B.eq j hj
   simp only [aft] at h1
   have : sm n (fun i => (u i - w i) * L i j) = sm n (fun i => u i * L i j) + -1 * sm n (fun i => w i * L i j) := by
    rw [← sm_mul, ← sm_add]; exact sm_congr (fun i _ => by rw [Int.sub_mul]; omega)
   omega) i hi
  (try simp only at this)
  omega
 have hw := hb he
 have hw' := hb he'
 have hz : ∀ i, i < n → w i = 0 → v i = 0 := by
  have := B.pile.dead (a := fun i => if w i = 0 then ((v i).natAbs : Int) else 0) (fun i _ => by split <;> omega) (fun j hj => by
   by_cases e0 : w j = 0
   ·obtain ⟨d1, hin⟩ := B.idle hj e0
    have z : sm n (fun i => v i * L i j) = 0 := by
     have := hv j hj; have := hc j hj; have := hc' j hj
     (try simp only at this)
     omega
    rcases Int.le_total 0 (v j) with h0 | h0
    ·refine Int.le_trans (sm_le (g := fun i => v i * L i j) (fun i hi => ?_)) (Int.le_of_eq z)
     by_cases e : w i = 0
     rotate_left
     ·rw [hin i hi e]; omega
     rw [if_pos e]
     by_cases e2 : i = j
     ·subst e2; rw [show ((v i).natAbs : Int) = v i by omega]; exact Int.le_refl _
     exact (abs_mul_le (B.pile.off i j hi hj e2)).1
    ·have z2 : sm n (fun i => -(v i * L i j)) = 0 := by rw [sm_neg, z]; rfl
     refine Int.le_trans (sm_le (g := fun i => -(v i * L i j)) (fun i hi => ?_)) (Int.le_of_eq z2)
     by_cases e : w i = 0
     rotate_left
     ·rw [hin i hi e]; omega
     rw [if_pos e]
     by_cases e2 : i = j
     ·subst e2; rw [show ((v i).natAbs : Int) = -v i by omega, Int.neg_mul]; exact Int.le_refl _
     exact (abs_mul_le (B.pile.off i j hi hj e2)).2
   ·refine Int.le_trans (sm_le (g := fun _ => 0) (fun i hi => ?_)) (Int.le_of_eq (sm_zero (fun _ _ => rfl)))
    by_cases e2 : i = j
    ·subst e2; rw [if_neg e0]; omega
    ·exact Int.mul_nonpos_of_nonneg_of_nonpos (by split <;> omega) (B.pile.off i j hi hj e2))
  intro i hi h0
  have := this i hi
  (try simp only at this)
  rw [if_pos h0] at this
  omega
 have key : ∀ {c c' u : Nat → Int} (v : Nat → Int), Heap0 n d c' → Stz n L d (fun j => c j + b j) u → (∀ j, j < n → aft n L (fun j => c j + b j) u j = c j) → (∀ i, i < n → u i = w i) → (∀ j, j < n → c j - c' j = sm n (fun i => v i * L i j)) → (∀ i, i < n → w i = 0 → v i = 0) → ∀ i, i < n → 0 ≤ v i := by
  intro c c' u v hc' hu he hw hv hz i hi
  obtain ⟨l, hl⟩ := Rec.again B hu he (asum n v)
  have := hl.least B.pile.off (v := fun i => (asum n v : Int) * u i + v i) (fun i hi => ?_) (fun j hj => ?_) i hi
  ·(try simp only at this); omega
  ·rw [hw i hi]
   by_cases e : w i = 0
   ·rw [e, hz i hi e]; omega
   have h1 := B.wpos i
   have h2 := asum_ge (v := v) hi
   have h3 : (asum n v : Int) * 1 ≤ (asum n v : Int) * w i := Int.mul_le_mul_of_nonneg_left (by omega) (by omega)
   omega
  ·have h1 := he j hj
   simp only [aft] at h1
   have h2 : sm n (fun i => ((asum n v : Int) * u i + v i) * L i j) = (asum n v : Int) * b j + sm n (fun i => v i * L i j) := by
    rw [show b j = sm n (fun i => u i * L i j) by omega, ← sm_mul, ← sm_add]
    exact sm_congr (fun i _ => by rw [Int.add_mul, Int.mul_assoc])
   have h3 := hv j hj
   have h4 := (hc' j hj).2
   simp only [aft]
   rw [h2]
   omega
 have p1 := key v hc' hu he hw hv hz
 have p2 := key (fun i => -v i) hc hu' he' hw' (fun j hj => by
  have := hv j hj
  (try simp only at this)
  rw [sm_congr (g := fun i => -(v i * L i j)) (fun i _ => Int.neg_mul _ _), sm_neg]
  omega) (fun i hi h0 => by rw [hz i hi h0]; rfl)
 intro j hj
 have := hv j hj
 (try simp only at this)
 rw [sm_zero (fun i hi => by
  have := p1 i hi; have := p2 i hi
  rw [show v i = 0 by omega, Int.zero_mul])] at this
 omega
theorem Burn.some_ (B : Burn n L d h w b) {m : Int} (hm : 0 < m) (hx : ∀ x : Nat → Int, Lat n L (fun j => m * x j)) (x : Nat → Int) : ∃ c, Heap0 n d c ∧ Rec n L d b c ∧ Lat n L (fun j => x j - c j) := by
 have hy : ∀ i, i < n → d i - 1 ≤ x i + m * (((x i).natAbs : Int) + (d i - 1)) := by
  intro i hi
  have h1 := B.pile.one hi
  have h2 : 1 * (((x i).natAbs : Int) + (d i - 1)) ≤ m * (((x i).natAbs : Int) + (d i - 1)) := Int.mul_le_mul_of_nonneg_right (by omega) (by omega)
  omega
 have hy0 : ∀ i, i < n → 0 ≤ x i + m * (((x i).natAbs : Int) + (d i - 1)) := fun i hi => by have := hy i hi; have := B.pile.one hi; omega
 obtain ⟨u, hu⟩ := Stz.ex B.pile hy0
 have hr := B.rec_aft hy hu
 obtain ⟨⟨k, hk⟩, hs⟩ := hu
 refine ⟨_, fun i hi => ⟨hk.nonneg B.pile hy0 i hi, hs i hi⟩, hr, ?_⟩
 have h1 : Lat n L (fun j => sm n (fun i => u i * L i j)) := ⟨u, fun j _ => rfl⟩
 refine (h1.sub (hx (fun i => ((x i).natAbs : Int) + (d i - 1)))).congr (fun j _ => ?_)
 simp only [aft]
 omega
end
theorem LReps.le {n : Nat} {A : Nat → Nat → Int} {l l' : List (Nat → Int)} (h : LReps n A l) (h' : LReps n A l') : l.length ≤ l'.length := by
 have hc : ∀ x : Nat → Int, ∃ i : Nat, i < l'.length ∧ ∀ y, l'[i]? = some y → Lat n A (fun j => x j - y j) := by
  intro x
  obtain ⟨y, hy, hl⟩ := h'.all x
  obtain ⟨i, hi, e⟩ := List.getElem_of_mem hy
  refine ⟨i, hi, fun z hz => ?_⟩
  rw [List.getElem?_eq_getElem hi, Option.some.injEq] at hz
  rw [← hz, e]; exact hl
 obtain ⟨f, hf⟩ := Classical.axiomOfChoice hc
 have := pigeon l'.length (l.map fun x => (f x : Int)) ?_ ?_
 ·rwa [List.length_map] at this
 ·unfold List.Nodup
  rw [List.pairwise_map]
  refine h.apart.imp (fun {x y} hxy e => hxy ?_)
  have hx := (hf x).2 _ (List.getElem?_eq_getElem (hf x).1)
  have hy := (hf y).2
  rw [show f y = f x by omega] at hy
  exact (hx.sub (hy _ (List.getElem?_eq_getElem (hf x).1))).congr (fun j _ => by omega)
 ·intro z hz
  obtain ⟨x, _, rfl⟩ := List.mem_map.1 hz
  have := (hf x).1
  omega
theorem LReps.len {n : Nat} {A : Nat → Nat → Int} {l l' : List (Nat → Int)} (h : LReps n A l) (h' : LReps n A l') : l.length = l'.length := Nat.le_antisymm (h.le h') (h'.le h)
def neg : List Int → Nat
 | [] => 0
 | x :: l => (if x < 0 then 1 else 0) + neg l
theorem neg_set (o : List Int) (i : Nat) (hi : i < o.length) (h : o[i] < 0) (v : Int) (hv : 0 ≤ v) : neg (o.set i v) + 1 = neg o := by
 induction o generalizing i with
 | nil => simp at hi
 | cons x o ih =>
  cases i with
  | zero =>
   simp only [List.getElem_cons_zero] at h
   simp only [List.set_cons_zero, neg]
   rw [if_neg (by omega), if_pos h]; omega
  | succ i =>
   simp only [List.getElem_cons_succ] at h
   simp only [List.set_cons_succ, neg]
   have := ih i (by simpa using hi) h
   omega
structure Known (n : Nat) (o : List Int) : Prop where
 len : o.length = n
 lo : ∀ x ∈ o, -1 ≤ x
 hi : ∀ x ∈ o, x + 1 ≤ (n : Int) - neg o
theorem Known.at {n : Nat} {o : List Int} (h : Known n o) {q : Int} (h0 : 0 ≤ q) (h1 : q < (n : Int)) : -1 ≤ rd o q ∧ rd o q + 1 ≤ (n : Int) - neg o := by
 have hl := h.len
 rw [rd_get h0 (by omega)]
 exact ⟨h.lo _ (List.getElem_mem _), h.hi _ (List.getElem_mem _)⟩
theorem Known.set {n : Nat} {o : List Int} (h : Known n o) {q : Int} (h0 : 0 ≤ q) (h1 : q < (n : Int)) (hq : rd o q < 0) {v : Int} (hv0 : 0 ≤ v) (hv : v ≤ (n : Int) - neg o) : Known n (o.set q.toNat v) ∧ neg (o.set q.toNat v) + 1 = neg o := by
 have hl := h.len
 rw [rd_get h0 (by omega)] at hq
 have hn := neg_set o q.toNat (by omega) hq v hv0
 refine ⟨⟨by rw [List.length_set]; exact hl, fun x hx => ?_, fun x hx => ?_⟩, hn⟩
 ·rcases List.mem_or_eq_of_mem_set hx with h' | h'
  ·exact h.lo x h'
  ·omega
 ·rcases List.mem_or_eq_of_mem_set hx with h' | h'
  ·have := h.hi x h'; omega
  ·omega
def vis (c : Int) : List Int → List Int → List Int → List Int × List Int
 | [], o, qs => (o, qs)
 | q :: row, o, qs => if rd o q < 0 then vis c row (o.set q.toNat (rd o c + 1)) (qs ++ [q]) else vis c row o qs
def bfs (g : List (List Int)) : Nat → List Int → List Int → List Int
 | 0, o, _ => o
 | _ + 1, o, [] => o
 | f + 1, o, c :: qs => bfs g f (vis c (rd_L2 g c) o qs).1 (vis c (rd_L2 g c) o qs).2
def far (g : List (List Int)) (p : Int) : List Int := bfs g g.length ((List.replicate g.length (-1)).set p.toNat 0) [p]
def Wait (n : Nat) (o qs : List Int) : Prop := ∀ q ∈ qs, 0 ≤ q ∧ q < (n : Int) ∧ 0 ≤ rd o q
theorem vis_keeps {n : Nat} (hn : n ≤ 8) (c : Int) : ∀ (row o qs : List Int), (∀ q ∈ row, 0 ≤ q ∧ q < (n : Int)) → Known n o → Wait n o qs → (0 ≤ c ∧ c < (n : Int) ∧ 0 ≤ rd o c) →
  Known n (vis c row o qs).1 ∧ Wait n (vis c row o qs).1 (vis c row o qs).2 ∧ (vis c row o qs).2.length + neg (vis c row o qs).1 = qs.length + neg o := by
 intro row
 induction row with
 | nil => intro o qs _ hk hw _; exact ⟨hk, hw, rfl⟩
 | cons q row ih =>
  intro o qs hr hk hw hc
  obtain ⟨hq0, hq1⟩ := hr q List.mem_cons_self
  have hr' : ∀ x ∈ row, 0 ≤ x ∧ x < (n : Int) := fun x hx => hr x (List.mem_cons_of_mem _ hx)
  simp only [vis]
  by_cases h : rd o q < 0
  rotate_left
  ·rw [if_neg h]
   exact ih o qs hr' hk hw hc
  rw [if_pos h]
  have hl := hk.len
  have hcc := hk.at hc.1 hc.2.1
  obtain ⟨hk', hn'⟩ := hk.set hq0 hq1 h (v := rd o c + 1) (by omega) (by omega)
  have hs : ∀ x, 0 ≤ x → 0 ≤ rd o x → 0 ≤ rd (o.set q.toNat (rd o c + 1)) x := fun x hx hx1 => by
   rw [rd_set hq0 (by omega) hx]; split <;> omega
  obtain ⟨h1, h2, h3⟩ := ih _ (qs ++ [q]) hr' hk' (fun x hx => by
   rcases List.mem_append.1 hx with hx | hx
   ·obtain ⟨a, b, c'⟩ := hw x hx; exact ⟨a, b, hs x a c'⟩
   ·rw [List.mem_singleton.1 hx]; exact ⟨hq0, hq1, by rw [rd_set hq0 (by omega) hq0, if_pos rfl]; omega⟩) ⟨hc.1, hc.2.1, hs c hc.1 hc.2.2⟩
  refine ⟨h1, h2, ?_⟩
  rw [h3, List.length_append]; simp; omega
theorem lengths_l1 {n : Nat} (hn : n ≤ 8) (g : List (List Int)) (c : Int) (row : List Int) (hr : ∀ q ∈ row, 0 ≤ q ∧ q < (n : Int)) (hrl : row.length ≤ 5) (r : List Int) : ∀ (d i : Nat) (o qs : List Int), row.length - i = d → i ≤ row.length → Known n o → Wait n o qs → (0 ≤ c ∧ c < (n : Int) ∧ 0 ≤ rd o c) → qs.length + neg o ≤ 8 →
  Ev (fun k => yl0.l0 k (vis c (row.drop i) o qs).1 (vis c (row.drop i) o qs).2 g) r → Ev (fun k => yl0.l1 k o (c :: qs) row row.length i g) r := by
 intro d
 induction d with
 | zero =>
  intro i o qs hd hi hk hw hc hb h
  rw [List.drop_of_length_le (by omega)] at h
  refine Ev.step (fun k => ?_) h
  simp only [yl0.l1, vis]
  rw [if_neg (by omega), if_pos (by simp; omega)]
  rfl
 | succ d ih =>
  intro i o qs hd hi hk hw hc hb h
  have hlt : i < row.length := by omega
  have hq := hr (rd row i) (by rw [rd_at hlt]; exact List.getElem_mem _)
  have hl := hk.len
  rw [drop_rd hlt] at h
  simp only [vis] at h
  by_cases hneg : rd o (rd row i) < 0
  rotate_left
  ·rw [if_neg hneg] at h
   refine Ev.step (fun k => ?_) (ih (i + 1) o qs (by omega) (by omega) hk hw hc hb h)
   simp only [yl0.l1]
   rw [if_pos (by omega), if_pos (by omega), if_pos (by omega), if_pos hq.1, if_pos (by omega), if_neg hneg, wrap_nat (by omega)]
  rw [if_pos hneg] at h
  have hcc := hk.at hc.1 hc.2.1
  obtain ⟨hk', hn'⟩ := hk.set hq.1 hq.2 hneg (v := rd o c + 1) (by omega) (by omega)
  have hs : ∀ x, 0 ≤ x → 0 ≤ rd o x → 0 ≤ rd (o.set (rd row i).toNat (rd o c + 1)) x := fun x hx hx1 => by
   rw [rd_set hq.1 (by omega) hx]; split <;> omega
  refine Ev.step (fun k => ?_) (ih (i + 1) _ (qs ++ [rd row i]) (by omega) (by omega) hk' (fun x hx => by
   rcases List.mem_append.1 hx with hx | hx
   ·obtain ⟨a, b, c'⟩ := hw x hx; exact ⟨a, b, hs x a c'⟩
   ·rw [List.mem_singleton.1 hx]; exact ⟨hq.1, hq.2, by rw [rd_set hq.1 (by omega) hq.1, if_pos rfl]; omega⟩) ⟨hc.1, hc.2.1, hs c hc.1 hc.2.2⟩ (by rw [List.length_append]; simp; omega) h)
  simp only [yl0.l1]
  have e0 : rd (c :: qs) 0 = c := rfl
  rw [if_pos (by omega), if_pos (by omega), if_pos (by omega), if_pos hq.1, if_pos (by omega), if_pos hneg, if_pos (by rw [List.length_cons]; omega), e0, if_pos hc.1, if_pos (by omega), if_pos (by rw [List.length_cons]; omega), wrap_nat (by omega), wrap_id (by omega)]
  rfl
theorem lengths_l0 {g : List (List Int)} (hg : goodG g = true) : ∀ (f : Nat) (o qs : List Int), Known g.length o → Wait g.length o qs → qs.length + neg o ≤ f → f ≤ 8 → Ev (fun k => yl0.l0 k o qs g) (bfs g f o qs) := by
 obtain ⟨⟨h1, h8⟩, hrows⟩ := good_iff hg
 intro f
 induction f with
 | zero =>
  intro o qs hk hw hb hf
  have : qs = [] := List.eq_nil_of_length_eq_zero (by omega)
  subst this
  refine Ev.const1 (fun k => ?_)
  simp only [yl0.l0]
  rw [if_neg (by simp)]; rfl
 | succ f ih =>
  intro o qs hk hw hb hf
  cases qs with
  | nil =>
   refine Ev.const1 (fun k => ?_)
   simp only [yl0.l0]
   rw [if_neg (by simp)]; rfl
  | cons c qs =>
   obtain ⟨hc0, hc1, hc2⟩ := hw c List.mem_cons_self
   have hrow := hrows (rd_L2 g c) (by rw [rdL_get hc0 hc1]; exact List.getElem_mem _)
   have hw' : Wait g.length o qs := fun x hx => hw x (List.mem_cons_of_mem _ hx)
   obtain ⟨k1, k2, k3⟩ := vis_keeps h8 c (rd_L2 g c) o qs hrow.2 hk hw' ⟨hc0, hc1, hc2⟩
   simp only [List.length_cons] at hb
   have := lengths_l1 h8 g c (rd_L2 g c) hrow.2 hrow.1 (bfs g (f + 1) o (c :: qs)) _ 0 o qs rfl (Nat.zero_le _) hk hw' ⟨hc0, hc1, hc2⟩ (by omega) (by
    rw [List.drop_zero]
    exact ih _ _ k1 k2 (by omega) (by omega))
   refine Ev.step (fun k => ?_) this
   simp only [yl0.l0]
   have e0 : rd (c :: qs) 0 = c := rfl
   rw [if_pos (by rw [List.length_cons]; omega), if_pos (by rw [List.length_cons]; omega), e0, if_pos hc0, if_pos hc1]
   rfl
theorem neg_rep (n : Nat) : neg (List.replicate n (-1)) = n := by
 induction n with
 | zero => rfl
 | succ n ih => simp only [List.replicate_succ, neg, ih]; rw [if_pos (by omega)]; omega
theorem known0 {n : Nat} {p : Int} (h0 : 0 ≤ p) (h1 : p < (n : Int)) : Known n ((List.replicate n (-1)).set p.toNat 0) ∧ Wait n ((List.replicate n (-1)).set p.toNat 0) [p] ∧ [p].length + neg ((List.replicate n (-1)).set p.toNat 0) ≤ n := by
 have hk : Known n (List.replicate n (-1)) := ⟨by simp, fun x hx => by rw [(List.mem_replicate.1 hx).2]; omega, fun x hx => by rw [(List.mem_replicate.1 hx).2, neg_rep]; omega⟩
 have hr : rd (List.replicate n (-1)) p < 0 := by rw [rd_get h0 (by simpa using h1)]; simp
 obtain ⟨k1, k2⟩ := hk.set h0 h1 hr (v := 0) (by omega) (by rw [neg_rep]; omega)
 rw [neg_rep] at k2
 refine ⟨k1, fun x hx => ?_, by simp; omega⟩
 rw [List.mem_singleton.1 hx]
 exact ⟨h0, h1, by rw [rd_set h0 (by simpa using h1) h0, if_pos rfl]; omega⟩
theorem lengths {g : List (List Int)} {p : Int} (h : placeB g p = true) : Ev (fun k => yl0.f k g p) (far g p) := by
 obtain ⟨hg, h0, h1⟩ := place_iff h
 obtain ⟨⟨hn1, hn8⟩, _⟩ := good_iff hg
 obtain ⟨k1, k2, k3⟩ := known0 h0 h1
 unfold yl0.f
 have hR : ya2.f [-1] (g.length : Int) = some (List.replicate g.length (-1)) := by
  unfold ya2.f; rw [if_pos ⟨rfl, by omega, by omega⟩]; rfl
 exact Ev.bind0 hR (Ev.pos h0 (Ev.pos (by simpa using h1) (lengths_l0 hg g.length _ _ k1 k2 k3 hn8)))
theorem far_len {g : List (List Int)} {p : Int} (h : placeB g p = true) : Known g.length (far g p) := by
 obtain ⟨hg, h0, h1⟩ := place_iff h
 obtain ⟨⟨hn1, hn8⟩, hrows⟩ := good_iff hg
 obtain ⟨k1, k2, k3⟩ := known0 h0 h1
 have : ∀ (f : Nat) (o qs : List Int), Known g.length o → Wait g.length o qs → Known g.length (bfs g f o qs) := by
  intro f
  induction f with
  | zero => intro o qs hk hw; exact hk
  | succ f ih =>
   intro o qs hk hw
   cases qs with
   | nil => exact hk
   | cons c qs =>
    obtain ⟨hc0, hc1, hc2⟩ := hw c List.mem_cons_self
    have hrow := hrows (rd_L2 g c) (by rw [rdL_get hc0 hc1]; exact List.getElem_mem _)
    obtain ⟨k1, k2, k3⟩ := vis_keeps hn8 c (rd_L2 g c) o qs hrow.2 hk (fun x hx => hw x (List.mem_cons_of_mem _ hx)) ⟨hc0, hc1, hc2⟩
    exact ih _ _ k1 k2
 exact this _ _ _ k1 k2
theorem far_l2 {n : Nat} (hn : n ≤ 8) (g : List (List Int)) (c : Int) (pre : List Int) (row : List Int) (hr : ∀ q ∈ row, 0 ≤ q ∧ q < (n : Int)) (hrl : row.length ≤ 5) (r : List Int) : ∀ (d i : Nat) (o qs : List Int), row.length - i = d → i ≤ row.length → Known n o → (0 ≤ c ∧ c < (n : Int) ∧ 0 ≤ rd o c) → pre.length + qs.length + neg o ≤ 8 →
  Ev (fun k => yd0.l1 k (vis c (row.drop i) o qs).1 (pre ++ c :: (vis c (row.drop i) o qs).2) ((pre.length + 1 : Nat) : Int) g) r → Ev (fun k => yd0.l2 k o (pre ++ c :: qs) (pre.length : Int) row row.length i g) r := by
 intro d
 induction d with
 | zero =>
  intro i o qs hd hi hk hc hb h
  rw [List.drop_of_length_le (by omega)] at h
  refine Ev.step (fun k => ?_) h
  simp only [yd0.l2, vis]
  rw [if_neg (by omega), wrap_nat (by omega)]
 | succ d ih =>
  intro i o qs hd hi hk hc hb h
  have hlt : i < row.length := by omega
  have hq := hr (rd row i) (by rw [rd_at hlt]; exact List.getElem_mem _)
  have hl := hk.len
  rw [drop_rd hlt] at h
  simp only [vis] at h
  by_cases hneg : rd o (rd row i) < 0
  rotate_left
  ·rw [if_neg hneg] at h
   refine Ev.step (fun k => ?_) (ih (i + 1) o qs (by omega) (by omega) hk hc hb h)
   simp only [yd0.l2]
   rw [if_pos (by omega), if_pos (by omega), if_pos (by omega), if_pos hq.1, if_pos (by omega), if_neg hneg, wrap_nat (by omega)]
  rw [if_pos hneg] at h
  have hcc := hk.at hc.1 hc.2.1
  obtain ⟨hk', hn'⟩ := hk.set hq.1 hq.2 hneg (v := rd o c + 1) (by omega) (by omega)
  have hs : ∀ x, 0 ≤ x → 0 ≤ rd o x → 0 ≤ rd (o.set (rd row i).toNat (rd o c + 1)) x := fun x hx hx1 => by
   rw [rd_set hq.1 (by omega) hx]; split <;> omega
  refine Ev.step (fun k => ?_) (ih (i + 1) _ (qs ++ [rd row i]) (by omega) (by omega) hk' ⟨hc.1, hc.2.1, hs c hc.1 hc.2.2⟩ (by rw [List.length_append]; simp; omega) h)
  simp only [yd0.l2]
  have e0 : rd (pre ++ c :: qs) (pre.length : Int) = c := by rw [rd_at (by simp)]; simp
  rw [if_pos (by omega), if_pos (by omega), if_pos (by omega), if_pos hq.1, if_pos (by omega), if_pos hneg, if_pos (by omega), if_pos (by simp; omega), e0, if_pos hc.1, if_pos (by omega), if_pos (by simp; omega), wrap_nat (by omega), wrap_id (by omega)]
  simp
theorem far_l1 {g : List (List Int)} (hg : goodG g = true) : ∀ (f : Nat) (o pre qs : List Int), Known g.length o → Wait g.length o qs → qs.length + neg o ≤ f → f ≤ 8 → pre.length + qs.length + neg o ≤ 8 → Ev (fun k => yd0.l1 k o (pre ++ qs) (pre.length : Int) g) (bfs g f o qs) := by
 obtain ⟨⟨h1, h8⟩, hrows⟩ := good_iff hg
 intro f
 induction f with
 | zero =>
  intro o pre qs hk hw hb hf hp
  have : qs = [] := List.eq_nil_of_length_eq_zero (by omega)
  subst this
  refine Ev.const1 (fun k => ?_)
  simp only [yd0.l1]
  rw [if_neg (by simp)]; rfl
 | succ f ih =>
  intro o pre qs hk hw hb hf hp
  cases qs with
  | nil =>
   refine Ev.const1 (fun k => ?_)
   simp only [yd0.l1]
   rw [if_neg (by simp)]; rfl
  | cons c qs =>
   obtain ⟨hc0, hc1, hc2⟩ := hw c List.mem_cons_self
   have hrow := hrows (rd_L2 g c) (by rw [rdL_get hc0 hc1]; exact List.getElem_mem _)
   have hw' : Wait g.length o qs := fun x hx => hw x (List.mem_cons_of_mem _ hx)
   obtain ⟨k1, k2, k3⟩ := vis_keeps h8 c (rd_L2 g c) o qs hrow.2 hk hw' ⟨hc0, hc1, hc2⟩
   simp only [List.length_cons] at hb hp
   have := far_l2 h8 g c pre (rd_L2 g c) hrow.2 hrow.1 (bfs g (f + 1) o (c :: qs)) _ 0 o qs rfl (Nat.zero_le _) hk ⟨hc0, hc1, hc2⟩ (by omega) (by
    rw [List.drop_zero]
    have := ih (vis c (rd_L2 g c) o qs).1 (pre ++ [c]) (vis c (rd_L2 g c) o qs).2 k1 k2 (by omega) (by omega) (by simp; omega)
    simpa [bfs] using this)
   refine Ev.step (fun k => ?_) this
   simp only [yd0.l1]
   have e0 : rd (pre ++ c :: qs) (pre.length : Int) = c := by rw [rd_at (by simp)]; simp
   rw [if_pos (by simp; omega), if_pos (by omega), e0, if_pos hc0, if_pos hc1]
   rfl
theorem far_l0 (g : List (List Int)) (p : Int) (n : Nat) (hn : n ≤ 8) (r : List Int) : ∀ (d i : Nat), n - i = d → i ≤ n → (0 ≤ p ∧ p < (n : Int)) → Ev (fun k => yd0.l1 k ((List.replicate n (-1)).set p.toNat 0) [p] 0 g) r → Ev (fun k => yd0.l0 k p (List.replicate i (-1) ++ List.replicate (n - i) 0) n i g) r := by
 intro d
 induction d with
 | zero =>
  intro i hd hi hp h
  have : i = n := by omega
  subst this
  refine Ev.step (fun k => ?_) h
  simp only [yd0.l0]
  rw [if_neg (by omega), if_pos hp.1, if_pos (by simp; omega)]
  simp
 | succ d ih =>
  intro i hd hi hp h
  refine Ev.step (fun k => ?_) (ih (i + 1) (by omega) (by omega) hp h)
  simp only [yd0.l0]
  rw [if_pos (by omega), if_pos (by omega), if_pos (by simp; omega), wrap_nat (by omega), Int.toNat_natCast]
  congr 1
  obtain ⟨m, hm⟩ : ∃ m, n - i = m + 1 := ⟨n - i - 1, by omega⟩
  rw [hm, show n - (i + 1) = m by omega, List.replicate_succ, List.replicate_succ', List.set_append_right _ _ (by simp)]
  simp
theorem grFar {g : List (List Int)} {p : Int} (h : placeB g p = true) : Ev (fun k => yd0.f k g p) (far g p) := by
 obtain ⟨hg, h0, h1⟩ := place_iff h
 obtain ⟨⟨hn1, hn8⟩, _⟩ := good_iff hg
 obtain ⟨k1, k2, k3⟩ := known0 h0 h1
 unfold yd0.f
 refine Ev.pos (by omega) (Ev.pos (by omega) (Ev.bind0 rfl ?_))
 have := far_l0 g p g.length hn8 (far g p) g.length 0 (by omega) (by omega) ⟨h0, h1⟩ (by
  have := far_l1 hg g.length _ [] [p] k1 k2 k3 hn8 (by simpa using by simp at k3; omega)
  exact this)
 simpa using this
theorem vis_more {n : Nat} {c : Int} : ∀ (row o qs : List Int), (∀ q ∈ row, 0 ≤ q ∧ q < (n : Int)) → o.length = n → 0 ≤ rd o c → 0 ≤ c →
  (vis c row o qs).1.length = n ∧ (∀ x : Int, 0 ≤ x → 0 ≤ rd o x → 0 ≤ rd (vis c row o qs).1 x) ∧ (∀ q ∈ row, 0 ≤ rd (vis c row o qs).1 q) ∧ (∀ q ∈ qs, q ∈ (vis c row o qs).2) ∧ (∀ x : Int, 0 ≤ x → x < (n : Int) → 0 ≤ rd (vis c row o qs).1 x → 0 ≤ rd o x ∨ x ∈ (vis c row o qs).2) := by
 intro row
 induction row with
 | nil => intro o qs _ hl _ _; exact ⟨hl, fun _ _ h => h, fun q hq => absurd hq (by simp), fun q h => h, fun x _ _ h => .inl h⟩
 | cons q row ih =>
  intro o qs hr hl hc h0
  obtain ⟨hq0, hq1⟩ := hr q List.mem_cons_self
  have hr' : ∀ x ∈ row, 0 ≤ x ∧ x < (n : Int) := fun x hx => hr x (List.mem_cons_of_mem _ hx)
  simp only [vis]
  by_cases h : rd o q < 0
  rotate_left
  ·rw [if_neg h]
   obtain ⟨h1, h2, h3, h4, h5⟩ := ih o qs hr' hl hc h0
   refine ⟨h1, h2, fun x hx => ?_, h4, h5⟩
   rcases List.mem_cons.1 hx with rfl | hx
   ·exact h2 x hq0 (by omega)
   ·exact h3 x hx
  rw [if_pos h]
  have hs : ∀ x : Int, 0 ≤ x → rd (o.set q.toNat (rd o c + 1)) x = if x = q then rd o c + 1 else rd o x := fun x hx => rd_set hq0 (by omega) hx
  obtain ⟨h1, h2, h3, h4, h5⟩ := ih (o.set q.toNat (rd o c + 1)) (qs ++ [q]) hr' (by rw [List.length_set]; exact hl) (by rw [hs c h0]; split <;> omega) h0
  refine ⟨h1, fun x hx hx1 => h2 x hx (by rw [hs x hx]; split <;> omega), fun x hx => ?_, fun x hx => h4 x (List.mem_append_left _ hx), fun x hx hx1 hx2 => ?_⟩
  ·rcases List.mem_cons.1 hx with rfl | hx
   ·exact h2 x hq0 (by rw [hs x hq0, if_pos rfl]; omega)
   ·exact h3 x hx
  ·rcases h5 x hx hx1 hx2 with h | h
   ·rw [hs x hx] at h
    by_cases e : x = q
    ·exact .inr (h4 x (by rw [e]; simp))
    rw [if_neg e] at h; exact .inl h
   ·exact .inr h
theorem bfs_closed {g : List (List Int)} (hg : goodG g = true) : ∀ (f : Nat) (o qs : List Int), Known g.length o → Wait g.length o qs → qs.length + neg o ≤ f → (∀ q : Int, 0 ≤ q → q < (g.length : Int) → 0 ≤ rd o q → q ∈ qs ∨ ∀ x ∈ rd_L2 g q, 0 ≤ rd o x) →
  (∀ q : Int, 0 ≤ q → q < (g.length : Int) → 0 ≤ rd o q → 0 ≤ rd (bfs g f o qs) q) ∧ ∀ q : Int, 0 ≤ q → q < (g.length : Int) → 0 ≤ rd (bfs g f o qs) q → ∀ x ∈ rd_L2 g q, 0 ≤ rd (bfs g f o qs) x := by
 obtain ⟨⟨hn1, hn8⟩, hrows⟩ := good_iff hg
 have fin : ∀ o : List Int, (∀ q : Int, 0 ≤ q → q < (g.length : Int) → 0 ≤ rd o q → q ∈ ([] : List Int) ∨ ∀ x ∈ rd_L2 g q, 0 ≤ rd o x) → ∀ q : Int, 0 ≤ q → q < (g.length : Int) → 0 ≤ rd o q → ∀ x ∈ rd_L2 g q, 0 ≤ rd o x := by
  intro o h q h0 h1 h2
  rcases h q h0 h1 h2 with h | h
  ·exact absurd h (by simp)
  ·exact h
 intro f
 induction f with
 | zero =>
  intro o qs _ _ hf hcl
  obtain rfl : qs = [] := List.eq_nil_of_length_eq_zero (by omega)
  exact ⟨fun _ _ _ h => h, fin o hcl⟩
 | succ f ih =>
  intro o qs hk hw hf hcl
  cases qs with
  | nil => exact ⟨fun _ _ _ h => h, fin o hcl⟩
  | cons c qs =>
   obtain ⟨hc0, hc1, hc2⟩ := hw c List.mem_cons_self
   have hrow := hrows (rd_L2 g c) (by rw [rdL_get hc0 hc1]; exact List.getElem_mem _)
   obtain ⟨k1, k2, k3⟩ := vis_keeps hn8 c (rd_L2 g c) o qs hrow.2 hk (fun x hx => hw x (List.mem_cons_of_mem _ hx)) ⟨hc0, hc1, hc2⟩
   obtain ⟨v1, v2, v3, v4, v5⟩ := vis_more (rd_L2 g c) o qs hrow.2 hk.len hc2 hc0
   rw [List.length_cons] at hf
   obtain ⟨i1, i2⟩ := ih _ _ k1 k2 (by omega) (fun q q0 q1 hq => by
    rcases v5 q q0 q1 hq with h | h
    ·rcases hcl q q0 q1 h with h | h
     ·rcases List.mem_cons.1 h with rfl | h
      ·exact .inr v3
      ·exact .inl (v4 q h)
     ·refine .inr (fun x hx => v2 x ?_ (h x hx))
      have hr2 := hrows (rd_L2 g q) (by rw [rdL_get q0 q1]; exact List.getElem_mem _)
      exact (hr2.2 x hx).1
    ·exact .inl h)
   exact ⟨fun q q0 q1 hq => i1 q q0 q1 (v2 q q0 hq), i2⟩
theorem far_closed {g : List (List Int)} {p : Int} (h : placeB g p = true) : 0 ≤ rd (far g p) p ∧ ∀ q : Int, 0 ≤ q → q < (g.length : Int) → 0 ≤ rd (far g p) q → ∀ x ∈ rd_L2 g q, 0 ≤ rd (far g p) x := by
 obtain ⟨hg, h0, h1⟩ := place_iff h
 obtain ⟨k1, k2, k3⟩ := known0 h0 h1
 have hz : ∀ q : Int, 0 ≤ q → q < (g.length : Int) → rd ((List.replicate g.length (-1)).set p.toNat 0) q = if q = p then 0 else -1 := fun q q0 q1 => by
  rw [rd_set h0 (by simpa using h1) q0]
  by_cases e : q = p
  ·rw [if_pos e, if_pos e]
  rw [if_neg e, if_neg e, rd_get q0 (by simpa using q1)]; simp
 obtain ⟨b1, b2⟩ := bfs_closed hg g.length _ _ k1 k2 k3 (fun q q0 q1 hq => by
  rw [hz q q0 q1] at hq
  by_cases e : q = p
  ·exact .inl (by rw [e]; simp)
  ·rw [if_neg e] at hq; omega)
 exact ⟨b1 p h0 h1 (by rw [hz p h0 h1, if_pos rfl]; omega), b2⟩
def Byt (l : List Int) : Prop := l.length ≤ 1048576 ∧ ∀ x ∈ l, 0 ≤ x ∧ x ≤ 255
theorem and255 (y : Int) : 0 ≤ bits .and .u64 (IntKind.u64.wrap y / 1099511627776) 255 ∧ bits .and .u64 (IntKind.u64.wrap y / 1099511627776) 255 ≤ 255 := by
 have hw : ∀ n : Int, IntKind.u64.wrap n = n % 18446744073709551616 := fun n => by simp [IntKind.wrap, IntKind.bits, IntKind.signed]
 have h := bits_mask .u64 64 (by decide) (fun n h0 h1 => by rw [hw]; omega) 8 (by decide) (IntKind.u64.wrap y / 1099511627776) (by rw [hw]; omega) (by rw [hw]; omega)
 rw [show ((2 : Int) ^ 8 - 1) = 255 from rfl] at h
 rw [h]
 omega
theorem next_ok {l : List Int} (hl : Byt l) {a s : Int} (h0 : 0 ≤ a) (h1 : a ≤ 1000000000) : ∃ r s', yy1.f l a s = some (r, a + 1, s') ∧ 0 ≤ r ∧ r ≤ 255 := by
 have hll := hl.1
 unfold yy1.f
 rw [wrap_id (x := a + 1) (by omega)]
 by_cases h : a < (l.length : Int)
 ·rw [if_pos h, if_pos h0, if_pos (by omega)]
  have := hl.2 (rd l a) (by rw [rd_get h0 h]; exact List.getElem_mem _)
  exact ⟨_, _, rfl, by rw [wrap_id (by omega)]; exact this.1, by rw [wrap_id (by omega)]; exact this.2⟩
 rw [if_neg h, if_neg (by omega)]
 have hb := and255 (IntKind.u64.wrap (IntKind.u64.wrap (s * 6364136223846793005)) + 1442695040888963407)
 exact ⟨_, _, rfl, by rw [wrap_id (by omega)]; exact hb.1, by rw [wrap_id (by omega)]; exact hb.2⟩
theorem pick_ok {l : List Int} (hl : Byt l) {a s : Int} (h0 : 0 ≤ a) (h1 : a ≤ 1000000000) (n : Int) (hn : n ≤ 200) : ∃ r a' s', yz0.f l a s n = some (r, a', s') ∧ 0 ≤ r ∧ (r < n ∨ r = 0) ∧ a ≤ a' ∧ a' ≤ a + 1 := by
 unfold yz0.f
 by_cases h : n ≤ 1
 ·rw [if_pos h]; exact ⟨0, a, s, rfl, by omega, .inr rfl, by omega, by omega⟩
 rw [if_neg h]
 obtain ⟨r, s', e, r0, r1⟩ := next_ok hl (s := s) h0 h1
 rw [e]
 simp only [Option.bind_some]
 rw [if_neg (by omega), if_neg (by omega)]
 exact ⟨_, _, _, rfl, Int.tmod_nonneg _ r0, .inl (Int.tmod_lt_of_pos _ (by omega)), by omega, by omega⟩
theorem one_ok {l : List Int} (hl : Byt l) {a s : Int} (h0 : 0 ≤ a) (h1 : a ≤ 1000000000) (n : Int) (hn : n ≤ 200) : ∃ b a' s', ys0.f l a s n = some (b, a', s') ∧ a ≤ a' ∧ a' ≤ a + 1 := by
 unfold ys0.f
 obtain ⟨r, a', s', e, _, _, h2, h3⟩ := pick_ok hl (s := s) h0 h1 n hn
 rw [e]
 exact ⟨_, _, _, rfl, h2, h3⟩
theorem among_ok {l : List Int} (hl : Byt l) {a s : Int} (h0 : 0 ≤ a) (h1 : a ≤ 1000000000) (xs : List Int) (hx : 1 ≤ xs.length) (hx2 : xs.length ≤ 200) : ∃ r a' s', yb2.f l a s xs = some (r, a', s') ∧ r ∈ xs ∧ a ≤ a' ∧ a' ≤ a + 1 := by
 unfold yb2.f
 obtain ⟨r, a', s', e, r0, r1, h2, h3⟩ := pick_ok hl (s := s) h0 h1 (xs.length : Int) (by omega)
 rw [e]
 simp only [Option.bind_some]
 rw [if_pos r0, if_pos (by omega)]
 exact ⟨_, _, _, rfl, by rw [rd_get r0 (by omega)]; exact List.getElem_mem _, h2, h3⟩
structure Dr (n m : Nat) (g : List (List Int)) : Prop where
 len : g.length = n
 rows : ∀ row ∈ g, row.length ≤ m ∧ ∀ q ∈ row, 0 ≤ q ∧ q < (n : Int)
theorem Dr.le {n m m' : Nat} {g : List (List Int)} (h : Dr n m g) (hm : m ≤ m') : Dr n m' g := ⟨h.len, fun row hr => ⟨Nat.le_trans (h.rows row hr).1 hm, (h.rows row hr).2⟩⟩
theorem Dr.good {n m : Nat} {g : List (List Int)} (h : Dr n m g) (h1 : 1 ≤ n) (h8 : n ≤ 8) (h5 : m ≤ 5) : goodG g = true := by
 have hl := h.len
 simp only [goodG, goodRow, Bool.and_eq_true, decide_eq_true_eq, List.all_eq_true]
 refine ⟨by omega, by omega, fun row hr => ⟨by have := (h.rows row hr).1; omega, fun q hq => ?_⟩⟩
 have := (h.rows row hr).2 q hq
 omega
theorem Dr.ok {n m : Nat} {g : List (List Int)} (h : Dr n m g) (h8 : n ≤ 8) (h5 : m ≤ 5) : okSS g := by
 refine ⟨by rw [h.len]; omega, fun row hr => ⟨by have := (h.rows row hr).1; omega, fun x hx => ?_⟩⟩
 have := (h.rows row hr).2 x hx
 unfold okI; omega
theorem Dr.at {n m : Nat} {g : List (List Int)} (h : Dr n m g) {p : Int} (h0 : 0 ≤ p) (h1 : p < (n : Int)) : (rd_L2 g p).length ≤ m ∧ ∀ q ∈ rd_L2 g p, 0 ≤ q ∧ q < (n : Int) := by
 have hl := h.len
 exact h.rows _ (by rw [rdL_get h0 (by omega)]; exact List.getElem_mem _)
theorem tmod_in {x n : Int} (h0 : 0 ≤ x) (hn : 0 < n) : 0 ≤ Int.tmod x n ∧ Int.tmod x n < n := ⟨Int.tmod_nonneg _ h0, Int.tmod_lt_of_pos _ hn⟩
theorem cyc_l0 (n : Nat) (h1 : 1 ≤ n) (h5 : n ≤ 10) (b : Bool) : ∀ (d i : Nat) (acc : List (List Int)), n - i = d → i ≤ n → acc.length = i → (∀ row ∈ acc, row.length ≤ 2 ∧ ∀ q ∈ row, 0 ≤ q ∧ q < (n : Int)) → ∃ g, Ev (fun k => yv0.l0 k n b i acc) g ∧ Dr n 2 g := by
 intro d
 induction d with
 | zero =>
  intro i acc hd hi ha hr
  refine ⟨acc, ?_, ⟨by omega, hr⟩⟩
  refine Ev.succ ?_
  simp only [yv0.l0]
  exact Ev.neg (by omega) (Ev.now _)
 | succ d ih =>
  intro i acc hd hi ha hr
  have m1 := tmod_in (x := wrap64 ((i : Int) + 1)) (n := (n : Int)) (by rw [wrap_nat (by omega)]; omega) (by omega)
  have m2 := tmod_in (x := wrap64 (wrap64 ((i : Int) + n) - 1)) (n := (n : Int)) (by rw [wrap_id (x := (i : Int) + n) (by omega), wrap_id (by omega)]; omega) (by omega)
  obtain ⟨g, hg, hd2⟩ := ih (i + 1) (acc ++ [if b = true then [Int.tmod (wrap64 ((i : Int) + 1)) n] ++ [Int.tmod (wrap64 (wrap64 ((i : Int) + n) - 1)) n] else [Int.tmod (wrap64 ((i : Int) + 1)) n]]) (by omega) (by omega) (by simp; omega) (fun row hrow => by
   rcases List.mem_append.1 hrow with h | h
   ·exact hr row h
   ·rw [List.mem_singleton.1 h]
    cases b <;> simp [m1, m2])
  refine ⟨g, ?_, hd2⟩
  refine Ev.succ ?_
  simp only [yv0.l0]
  refine Ev.pos (by omega) (Ev.neg (by omega) (Ev.bind0 rfl ?_))
  cases b with
  | true => exact Ev.pos rfl (Ev.pos (by simp) (Ev.pos (by omega) (by have e := wrap_nat (n := i) (by omega); rw [e] at hg ⊢; exact hg)))
  | false => exact Ev.neg (by simp) (Ev.pos (by omega) (by have e := wrap_nat (n := i) (by omega); rw [e] at hg ⊢; exact hg))
theorem cyc_ok (n : Nat) (h1 : 1 ≤ n) (h5 : n ≤ 10) (b : Bool) : ∃ g, Ev (fun k => yv0.f k n b) g ∧ Dr n 2 g := cyc_l0 n h1 h5 b n 0 [] (by omega) (by omega) rfl (fun row h => absurd h (by simp))
def Rnd (n : Nat) (g : List (List Int)) : Prop := ∀ p : Nat, p < n → Int.tmod ((p : Int) + 1) n ∈ rd_L2 g (p : Int)
def Drn (n : Nat) (g : List (List Int)) : Prop := Dr n 3 g ∨ Dr n 4 g ∧ Rnd n g
theorem rdL_setn {g : List (List Int)} {i : Nat} (hi : i < g.length) (row : List Int) (j : Nat) : rd_L2 (g.set i row) (j : Int) = if j = i then row else rd_L2 g (j : Int) := by
 by_cases h : j < g.length
 rotate_left
 ·rw [if_neg (by omega)]
  simp [rd_L2, h]
 rw [rdL_at (by simpa using h), rdL_at h, List.getElem_set]
 by_cases e : j = i
 ·rw [if_pos e.symm, if_pos e]
 rw [if_neg (fun h => e h.symm), if_neg e]
theorem round_l2 {l : List Int} (n : Nat) (h1 : 1 ≤ n) (h5 : n ≤ 5) (a s : Int) : ∀ (d i : Nat) (g : List (List Int)), n - i = d → i ≤ n → g.length = n → (∀ p : Nat, p < n → (rd_L2 g (p : Int)).length ≤ (if p < i then 4 else 3) ∧ (∀ q ∈ rd_L2 g (p : Int), 0 ≤ q ∧ q < (n : Int)) ∧ (p < i → Int.tmod ((p : Int) + 1) n ∈ rd_L2 g (p : Int))) →
  ∃ g', Ev (fun k => ye0.l2 k n n i l a s g) (g', a, s) ∧ Drn n g' := by
 intro d
 induction d with
 | zero =>
  intro i g hd hi hg hr
  refine ⟨g, ?_, .inr ⟨⟨hg, fun row hrow => ?_⟩, fun p hp => (hr p hp).2.2 (by omega)⟩⟩
  ·refine Ev.succ ?_
   simp only [ye0.l2]
   exact Ev.neg (by omega) (Ev.now _)
  ·obtain ⟨p, hp, rfl⟩ := List.getElem_of_mem hrow
   rw [← rdL_at hp]
   have := hr p (by omega)
   rw [if_pos (by omega)] at this
   exact ⟨this.1, this.2.1⟩
 | succ d ih =>
  intro i g hd hi hg hr
  have hri := hr i (by omega)
  rw [if_neg (Nat.lt_irrefl i)] at hri
  have m1 := tmod_in (x := (i : Int) + 1) (n := (n : Int)) (by omega) (by omega)
  obtain ⟨g', h2, h3⟩ := ih (i + 1) (g.set i (rd_L2 g (i : Int) ++ [Int.tmod ((i : Int) + 1) n])) (by omega) (by omega) (by rw [List.length_set]; exact hg) (fun p hp => by
   rw [rdL_setn (by omega)]
   by_cases e : p = i
   ·subst e
    rw [if_pos rfl, if_pos (by omega)]
    refine ⟨by rw [List.length_append]; simp; omega, fun q hq => ?_, fun _ => by simp⟩
    rcases List.mem_append.1 hq with h | h
    ·exact hri.2.1 q h
    ·rw [List.mem_singleton.1 h]; exact m1
   ·rw [if_neg e]
    have := hr p hp
    refine ⟨?_, this.2.1, fun h => this.2.2 (by omega)⟩
    have h4 := this.1
    split
    ·rw [if_pos (by omega)] at h4; exact h4
    ·rw [if_neg (by omega)] at h4; exact h4)
  refine ⟨g', ?_, h3⟩
  refine Ev.succ ?_
  simp only [ye0.l2]
  have e := wrap_nat (n := i) (by omega)
  refine Ev.pos (by omega) (Ev.pos (by omega) (Ev.pos (by omega) (Ev.neg (by omega) (Ev.pos (by omega) ?_))))
  rw [e, show ((i : Int)).toNat = i by omega]
  exact h2
theorem sure_l0 {l : List Int} (hl : Byt l) (n : Nat) (h1 : 1 ≤ n) (h5 : n ≤ 5) : ∀ (d i : Nat) (a s : Int) (acc : List (List Int)), n - i = d → i ≤ n → 0 ≤ a → a + 5 * d + 1 ≤ 1000000 → acc.length = i → (∀ row ∈ acc, row.length ≤ 3 ∧ ∀ q ∈ row, 0 ≤ q ∧ q < (n : Int)) →
  ∃ g a' s', Ev (fun k => ye0.l0 k n i l a s acc) (g, a', s') ∧ Drn n g ∧ a ≤ a' ∧ a' ≤ a + 5 * d + 1 := by
 intro d
 induction d with
 | zero =>
  intro i a s acc hd hi h0 hb ha hr
  obtain ⟨b, a1, s1, e1, l1, u1⟩ := one_ok hl (s := s) h0 (by omega) 2 (by omega)
  have hD : Dr n 3 acc := ⟨by omega, hr⟩
  cases b with
  | true =>
   obtain ⟨g, hg, hd2⟩ := round_l2 (l := l) n h1 h5 a1 s1 n 0 acc (by omega) (by omega) (by omega) (fun p hp => by
    rw [if_neg (by omega)]
    have := hD.at (p := (p : Int)) (by omega) (by omega)
    exact ⟨this.1, this.2, fun h => by omega⟩)
   refine ⟨g, a1, s1, ?_, hd2, by omega, by omega⟩
   refine Ev.succ ?_
   simp only [ye0.l0]
   refine Ev.neg (by omega) (Ev.bind0 e1 (Ev.pos rfl ?_))
   rw [show (acc.length : Int) = (n : Int) by omega]
   exact hg
  | false =>
   refine ⟨acc, a1, s1, ?_, .inl hD, by omega, by omega⟩
   refine Ev.succ ?_
   simp only [ye0.l0]
   exact Ev.neg (by omega) (Ev.bind0 e1 (Ev.neg (by simp) (Ev.now _)))
 | succ d ih =>
  intro i a s acc hd hi h0 hb ha hr
  have row : ∀ (e : Nat) (x : List Int) (a s : Int), 0 ≤ a → a + e + 1 + 5 * d + 1 ≤ 1000000 → x.length + e ≤ 3 → (∀ q ∈ x, 0 ≤ q ∧ q < (n : Int)) → ∃ g a' s', Ev (fun k => ye0.l1 k n i x e l a s acc) (g, a', s') ∧ Drn n g ∧ a ≤ a' ∧ a' ≤ a + e + 1 + 5 * d + 1 := by
   intro e
   induction e with
   | zero =>
    intro x a s h0 hb hx hq
    obtain ⟨b, a1, s1, e1, l1, u1⟩ := one_ok hl (s := s) h0 (by omega) 8 (by omega)
    have fin : ∀ y : List Int, (y.length ≤ 3 ∧ ∀ q ∈ y, 0 ≤ q ∧ q < (n : Int)) → ∃ g a' s', Ev (fun k => ye0.l0 k n ((i + 1 : Nat) : Int) l a1 s1 (acc ++ [y])) (g, a', s') ∧ Drn n g ∧ a1 ≤ a' ∧ a' ≤ a1 + 5 * d + 1 := fun y hy =>
     ih (i + 1) a1 s1 (acc ++ [y]) (by omega) (by omega) (by omega) (by omega) (by simp; omega) (fun r hrr => by
      rcases List.mem_append.1 hrr with h | h
      ·exact hr r h
      ·rw [List.mem_singleton.1 h]; exact hy)
    have e := wrap_nat (n := i) (by omega)
    cases b with
    | true =>
     obtain ⟨g, a2, s2, h2, h3, h4, h6⟩ := fin [] (by simp)
     refine ⟨g, a2, s2, ?_, h3, by omega, by omega⟩
     refine Ev.succ ?_
     simp only [ye0.l1]
     refine Ev.neg (by omega) (Ev.bind0 e1 (Ev.pos rfl (Ev.pos (by omega) ?_)))
     rw [e]; exact h2
    | false =>
     obtain ⟨g, a2, s2, h2, h3, h4, h6⟩ := fin x ⟨by omega, hq⟩
     refine ⟨g, a2, s2, ?_, h3, by omega, by omega⟩
     refine Ev.succ ?_
     simp only [ye0.l1]
     refine Ev.neg (by omega) (Ev.bind0 e1 (Ev.neg (by simp) (Ev.pos (by omega) ?_)))
     rw [e]; exact h2
   | succ e ihe =>
    intro x a s h0 hb hx hq
    obtain ⟨r, a1, s1, e1, r0, r1, l1, u1⟩ := pick_ok hl (s := s) h0 (by omega) (n : Int) (by omega)
    obtain ⟨g, a2, s2, h2, h3, h4, h6⟩ := ihe (x ++ [r]) a1 s1 (by omega) (by omega) (by rw [List.length_append]; simp; omega) (fun q hqq => by
     rcases List.mem_append.1 hqq with h | h
     ·exact hq q h
     ·rw [List.mem_singleton.1 h]; omega)
    refine ⟨g, a2, s2, ?_, h3, by omega, by omega⟩
    refine Ev.succ ?_
    simp only [ye0.l1]
    refine Ev.pos (by omega) (Ev.bind0 e1 (Ev.pos (by omega) ?_))
    rw [show wrap64 (((e + 1 : Nat) : Int) - 1) = (e : Int) by rw [wrap_id (by omega)]; omega]
    exact h2
  obtain ⟨r, a1, s1, e1, r0, r1, l1, u1⟩ := pick_ok hl (s := s) h0 (by omega) 3 (by omega)
  obtain ⟨e, he⟩ : ∃ e : Nat, wrap64 (1 + r) = (e : Int) ∧ e ≤ 3 := ⟨(1 + r).toNat, by rw [wrap_id (by omega)]; omega, by omega⟩
  obtain ⟨g, a2, s2, h2, h3, h4, h6⟩ := row e [] a1 s1 (by omega) (by omega) (by simp; omega) (fun q h => absurd h (by simp))
  refine ⟨g, a2, s2, ?_, h3, by omega, by omega⟩
  refine Ev.succ ?_
  simp only [ye0.l0]
  refine Ev.pos (by omega) (Ev.bind0 e1 ?_)
  rw [← he.1] at h2
  exact h2
theorem sure_ok {l : List Int} (hl : Byt l) {a s : Int} (h0 : 0 ≤ a) (hb : a ≤ 100000) : ∃ n g a' s', Ev (fun k => ye0.f k l a s 5) (g, a', s') ∧ 1 ≤ n ∧ n ≤ 5 ∧ Drn n g ∧ a ≤ a' ∧ a' ≤ a + 100 := by
 unfold ye0.f
 obtain ⟨r, a1, s1, e1, r0, r1, l1, u1⟩ := pick_ok hl (s := s) h0 (by omega) 5 (by omega)
 obtain ⟨n, hn, hn1, hn5⟩ : ∃ n : Nat, wrap64 (1 + r) = (n : Int) ∧ 1 ≤ n ∧ n ≤ 5 := ⟨(1 + r).toNat, by rw [wrap_id (by omega)]; omega, by omega, by omega⟩
 obtain ⟨b, a2, s2, e2, l2, u2⟩ := one_ok hl (s := s1) (a := a1) (by omega) (by omega) 4 (by omega)
 cases b with
 | true =>
  obtain ⟨b3, a3, s3, e3, l3, u3⟩ := one_ok hl (s := s2) (a := a2) (by omega) (by omega) 2 (by omega)
  obtain ⟨g, hg, hd⟩ := cyc_ok n hn1 (by omega) b3
  refine ⟨n, g, a3, s3, ?_, hn1, hn5, .inl (hd.le (by omega)), by omega, by omega⟩
  refine Ev.bind0 e1 (Ev.bind0 e2 (Ev.pos rfl (Ev.bind0 e3 ?_)))
  rw [← hn] at hg
  exact Ev.bind hg (Ev.now _)
 | false =>
  obtain ⟨g, a3, s3, h2, h3, h4, h6⟩ := sure_l0 hl n hn1 hn5 n 0 a2 s2 [] (by omega) (by omega) (by omega) (by omega) rfl (fun row h => absurd h (by simp))
  refine ⟨n, g, a3, s3, ?_, hn1, hn5, h3, by omega, by omega⟩
  refine Ev.bind0 e1 (Ev.bind0 e2 (Ev.neg (by simp) ?_))
  rw [← hn] at h2
  exact h2
def leadsFrom (g : List (List Int)) (p : Int) : Nat → Nat → Bool
 | 0, _ => true
 | d + 1, i => if rd (far g i) p < 0 then false else leadsFrom g p d (i + 1)
def leads (g : List (List Int)) (p : Int) : Bool := leadsFrom g p g.length 0
theorem leadsTo_l0 {g : List (List Int)} (hg : goodG g = true) (p : Int) (h0 : 0 ≤ p) (h1 : p < (g.length : Int)) : ∀ (d i : Nat), g.length - i = d → i ≤ g.length → Ev (fun k => yf1.l0 k p g.length i g) (leadsFrom g p d i) := by
 have h8 := (good_iff hg).1
 intro d
 induction d with
 | zero =>
  intro i hd hi
  refine Ev.succ ?_
  simp only [yf1.l0]
  exact Ev.neg (by omega) (Ev.now _)
 | succ d ih =>
  intro i hd hi
  have hp := place_of hg (i := i) (by omega)
  have hlen := (far_len hp).len
  refine Ev.succ ?_
  simp only [yf1.l0, leadsFrom]
  refine Ev.pos (by omega) (Ev.bind (lengths hp) (Ev.pos h0 (Ev.pos (by omega) ?_)))
  by_cases h : rd (far g i) p < 0
  ·rw [if_pos h]; exact Ev.pos h (Ev.now _)
  rw [if_neg h]
  refine Ev.neg h ?_
  rw [wrap_nat (by omega)]
  exact ih (i + 1) (by omega) (by omega)
theorem leadsTo {g : List (List Int)} {p : Int} (h : placeB g p = true) : Ev (fun k => yf1.f k g p) (leads g p) := by
 obtain ⟨hg, h0, h1⟩ := place_iff h
 exact leadsTo_l0 hg p h0 h1 g.length 0 (by omega) (by omega)
theorem grLeads_l0 {g : List (List Int)} (hg : goodG g = true) (p : Int) (h0 : 0 ≤ p) (h1 : p < (g.length : Int)) : ∀ (d i : Nat), g.length - i = d → i ≤ g.length → Ev (fun k => yg1.l0 k p g.length i g) (leadsFrom g p d i) := by
 have h8 := (good_iff hg).1
 intro d
 induction d with
 | zero =>
  intro i hd hi
  refine Ev.succ ?_
  simp only [yg1.l0]
  exact Ev.neg (by omega) (Ev.now _)
 | succ d ih =>
  intro i hd hi
  have hp := place_of hg (i := i) (by omega)
  have hlen := (far_len hp).len
  refine Ev.succ ?_
  simp only [yg1.l0, leadsFrom]
  refine Ev.pos (by omega) (Ev.bind (grFar hp) (Ev.pos h0 (Ev.pos (by omega) ?_)))
  by_cases h : rd (far g i) p < 0
  ·rw [if_pos h]; exact Ev.pos h (Ev.now _)
  rw [if_neg h]
  refine Ev.neg h ?_
  rw [wrap_nat (by omega)]
  exact ih (i + 1) (by omega) (by omega)
theorem grLeads {g : List (List Int)} {p : Int} (h : placeB g p = true) : Ev (fun k => yg1.f k g p) (leads g p) := by
 obtain ⟨hg, h0, h1⟩ := place_iff h
 exact grLeads_l0 hg p h0 h1 g.length 0 (by omega) (by omega)
def sunkB (g : List (List Int)) (sink : Int) : Bool := placeB g sink && leads g sink
theorem hasSink_ev (g : List (List Int)) (sink : Int) : Ev (fun k => yj1.f k g sink) (sunkB g sink) := by
 unfold yj1.f sunkB
 refine Ev.bind0 (has1 g sink) ?_
 by_cases hp : placeB g sink = true
 ·exact Ev.pos hp (Ev.bind (leadsTo hp) ((Ev.now _).val (by rw [hp]; rfl)))
 exact Ev.neg hp ((Ev.now _).val (by rw [Bool.eq_false_iff.mpr hp]; rfl))
theorem sunk_iff {g : List (List Int)} {sink : Int} (h : sunkB g sink = true) : placeB g sink = true ∧ leads g sink = true := by
 unfold sunkB at h; simpa using h
theorem chSink_ev (g : List (List Int)) (hl : okSS g) (sink : Int) : Ev (fun k => yh1.f k g sink) (sunkB g sink) := by
 unfold yh1.f sunkB
 refine Ev.bind (grPlace g sink hl) ?_
 by_cases hp : placeB g sink = true
 ·exact Ev.pos hp (Ev.bind (grLeads hp) ((Ev.now _).val (by rw [hp]; rfl)))
 exact Ev.neg hp ((Ev.now _).val (by rw [Bool.eq_false_iff.mpr hp]; rfl))
def heapB (g : List (List Int)) (sink : Int) (l : List Int) : Bool := sunkB g sink && ((decide (l.length = g.length) && l.all (fun q => decide (0 ≤ q) && decide (q ≤ 20))) && (rd l sink == 0))
theorem heap_iff {g : List (List Int)} {sink : Int} {l : List Int} (h : heapB g sink l = true) : sunkB g sink = true ∧ l.length = g.length ∧ ∀ q ∈ l, 0 ≤ q ∧ q ≤ 20 := by
 unfold heapB at h
 simp only [Bool.and_eq_true, decide_eq_true_eq, List.all_eq_true] at h
 exact ⟨h.1, h.2.1.1, fun q hq => by have := h.2.1.2 q hq; omega⟩
theorem isHeap_ev (g : List (List Int)) (sink : Int) (l : List Int) : Ev (fun k => yu1.f k g sink l) (heapB g sink l) := by
 unfold yu1.f heapB
 refine Ev.bind (hasSink_ev g sink) ?_
 by_cases hs : sunkB g sink = true
 rotate_left
 ·rw [Bool.eq_false_iff.mpr hs, Bool.false_and]; exact Ev.neg (by simp) (Ev.now _)
 have hp := place_iff (sunk_iff hs).1
 rw [hs, Bool.true_and]
 refine Ev.pos rfl (Ev.bind0 (show yg2.f g l = some (decide (l.length = g.length) && l.all (fun q => decide (0 ≤ q) && decide (q ≤ 20))) from rfl) ?_)
 by_cases hc : (decide (l.length = g.length) && l.all (fun q => decide (0 ≤ q) && decide (q ≤ 20))) = true
 rotate_left
 ·rw [Bool.eq_false_iff.mpr hc, Bool.false_and]; exact Ev.neg (by simp) (Ev.now _)
 rw [hc, Bool.true_and]
 have hle : l.length = g.length := by simp only [Bool.and_eq_true, decide_eq_true_eq] at hc; exact hc.1
 exact Ev.pos rfl (Ev.pos hp.2.1 (Ev.pos (by omega) (Ev.now _)))
theorem chHeap_ev (g : List (List Int)) (hl : okSS g) (sink : Int) (l : List Int) (hll : okIs l) : Ev (fun k => yl1.f k g sink l) (heapB g sink l) := by
 unfold yl1.f heapB
 refine Ev.bind (chSink_ev g hl sink) ?_
 by_cases hs : sunkB g sink = true
 rotate_left
 ·rw [Bool.eq_false_iff.mpr hs, Bool.false_and]; exact Ev.neg (by simp) (Ev.now _)
 have hp := place_iff (sunk_iff hs).1
 rw [hs, Bool.true_and]
 refine Ev.pos rfl ?_
 by_cases hle : l.length = g.length
 rotate_left
 ·rw [decide_eq_false hle, Bool.false_and, Bool.false_and]
  exact Ev.neg (by omega) (Ev.now _)
 refine Ev.pos (by omega) (Ev.bind (l1All l 0 20 hll.1) ?_)
 rw [decide_eq_true hle, Bool.true_and]
 by_cases hc : (l.all fun x => decide (0 ≤ x) && decide (x ≤ 20)) = true
 rotate_left
 ·rw [Bool.eq_false_iff.mpr hc, Bool.false_and]; exact Ev.neg (by simp) (Ev.now _)
 rw [hc, Bool.true_and]
 exact Ev.pos rfl (Ev.pos hp.2.1 (Ev.pos (by omega) (Ev.now _)))
def canB (g : List (List Int)) (sink : Int) (l : List Int) (p : Int) : Bool := decide (p ≠ sink) && decide (rd l p ≥ ((rd_L2 g p).length : Int))
theorem canTopple {g : List (List Int)} {sink : Int} {l : List Int} {p : Int} (h0 : 0 ≤ p) (h1 : p < (l.length : Int)) (h2 : p < (g.length : Int)) : yd2.f g sink l p = some (canB g sink l p) := by
 unfold yd2.f canB
 by_cases h : p = sink
 ·rw [if_pos h]; simp [h]
 rw [if_neg h, if_pos h0, if_pos h1, if_pos h2]; simp [h]
def fst (g : List (List Int)) (sink : Int) (l : List Int) : Nat → Nat → Nat
 | 0, i => i
 | d + 1, i => if canB g sink l i = true then i else fst g sink l d (i + 1)
theorem fst_le (g : List (List Int)) (sink : Int) (l : List Int) : ∀ d i, fst g sink l d i ≤ i + d := by
 intro d
 induction d with
 | zero => intro i; simp [fst]
 | succ d ih =>
  intro i; have := ih (i + 1); simp only [fst]
  split <;> omega
def high (g : List (List Int)) (sink : Int) (l : List Int) : Int := if fst g sink l g.length 0 = g.length then -1 else (fst g sink l g.length 0 : Int)
theorem chHigh_l0 {g : List (List Int)} (h8 : g.length ≤ 8) (sink : Int) (l : List Int) (hl : l.length = g.length) : ∀ (d i : Nat), g.length - i = d → i ≤ g.length → Ev (fun k => yt0.l0 k sink l g.length i g) (if fst g sink l d i = g.length then -1 else (fst g sink l d i : Int)) := by
 intro d
 induction d with
 | zero =>
  intro i hd hi
  refine Ev.succ ?_
  simp only [yt0.l0]
  refine Ev.neg (by omega) ((Ev.now _).val ?_)
  rw [show fst g sink l 0 i = i from rfl, if_pos (by omega)]
 | succ d ih =>
  intro i hd hi
  refine Ev.succ ?_
  simp only [yt0.l0]
  have hf : fst g sink l (d + 1) i = if canB g sink l i = true then i else fst g sink l d (i + 1) := rfl
  refine Ev.pos (by omega) (Ev.pos (by omega) (Ev.pos (by omega) ?_))
  have hn := ih (i + 1) (by omega) (by omega)
  by_cases h : (i : Int) = sink
  ·have hc : canB g sink l i = false := by unfold canB; simp [h]
   rw [show fst g sink l (d + 1) i = fst g sink l d (i + 1) by rw [hf, hc]; rfl]
   refine Ev.pos h ?_
   rw [wrap_nat (by omega)]; exact hn
  refine Ev.neg h (Ev.pos (by omega) ?_)
  by_cases h2 : rd l i ≥ ((rd_L2 g i).length : Int)
  ·have hc : canB g sink l i = true := by unfold canB; simp [h, h2]
   rw [show fst g sink l (d + 1) i = i by rw [hf, hc]; rfl]
   refine Ev.pos h2 ((Ev.now _).val ?_)
   rw [if_neg (by omega)]
  have hc : canB g sink l i = false := by unfold canB; simp only [decide_eq_false h2, Bool.and_false]
  rw [show fst g sink l (d + 1) i = fst g sink l d (i + 1) by rw [hf, hc]; rfl]
  refine Ev.neg h2 ?_
  rw [wrap_nat (by omega)]; exact hn
theorem chHigh_ev {g : List (List Int)} (h8 : g.length ≤ 8) (sink : Int) (l : List Int) (hl : l.length = g.length) : Ev (fun k => yt0.f k g sink l) (high g sink l) := by
 unfold yt0.f high
 rw [hl]
 exact chHigh_l0 h8 sink l hl g.length 0 (by omega) (by omega)
def topRow (sink : Int) : List Int → List Int → List Int
 | [], c => c
 | q :: row, c => topRow sink row (if q = sink then c else c.set q.toNat (wrap64 (rd c q + 1)))
def topp (g : List (List Int)) (sink : Int) (c : List Int) (p : Int) : List Int := topRow sink (rd_L2 g p) (c.set p.toNat (wrap64 (rd c p - ((rd_L2 g p).length : Int))))
theorem topRow_len (sink : Int) : ∀ (row c : List Int), (topRow sink row c).length = c.length := by
 intro row
 induction row with
 | nil => intro c; rfl
 | cons q row ih => intro c; simp only [topRow]; rw [ih]; split <;> simp
theorem topp_len (g : List (List Int)) (sink : Int) (c : List Int) (p : Int) : (topp g sink c p).length = c.length := by unfold topp; rw [topRow_len]; simp
theorem topple_l0 (sink : Int) (row : List Int) (n : Nat) (h5 : row.length ≤ 5) (hr : ∀ q ∈ row, 0 ≤ q ∧ q < (n : Int)) : ∀ (d i : Nat) (c : List Int), row.length - i = d → i ≤ row.length → c.length = n → Ev (fun k => yq0.l0 k sink c row row.length i) (topRow sink (row.drop i) c) := by
 intro d
 induction d with
 | zero =>
  intro i c hd hi hc
  refine Ev.succ ?_
  simp only [yq0.l0]
  refine Ev.neg (by omega) ((Ev.now _).val ?_)
  rw [List.drop_of_length_le (by omega)]; rfl
 | succ d ih =>
  intro i c hd hi hc
  have hlt : i < row.length := by omega
  have hq := hr (rd row i) (by rw [rd_at hlt]; exact List.getElem_mem _)
  refine Ev.succ ?_
  simp only [yq0.l0]
  rw [drop_rd hlt]; simp only [topRow]
  refine Ev.pos (by omega) (Ev.pos (by omega) (Ev.pos (by omega) ?_))
  rw [wrap_nat (by omega)]
  by_cases h : rd row i = sink
  ·rw [if_pos h]
   exact Ev.pos h (ih (i + 1) c (by omega) (by omega) hc)
  rw [if_neg h]
  exact Ev.neg h (Ev.pos hq.1 (Ev.pos (by omega) (ih (i + 1) _ (by omega) (by omega) (by simp; exact hc))))
theorem topple_ev {g : List (List Int)} (hg : goodG g = true) (sink : Int) {c : List Int} (hc : c.length = g.length) {p : Int} (h0 : 0 ≤ p) (h1 : p < (g.length : Int)) : Ev (fun k => yq0.f k g sink c p) (topp g sink c p) := by
 have hrow := (good_iff hg).2 (rd_L2 g p) (by rw [rdL_get h0 h1]; exact List.getElem_mem _)
 unfold yq0.f topp
 refine Ev.pos h0 (Ev.pos (by omega) (Ev.pos h1 ?_))
 exact (topple_l0 sink (rd_L2 g p) g.length hrow.1 hrow.2 (rd_L2 g p).length 0 _ (by omega) (by omega) (by simp; exact hc)).val (by simp)
theorem chTopple_l0 (sink : Int) (row : List Int) (n : Nat) (h5 : row.length ≤ 5) (hr : ∀ q ∈ row, 0 ≤ q ∧ q < (n : Int)) : ∀ (d i : Nat) (c : List Int), row.length - i = d → i ≤ row.length → c.length = n → Ev (fun k => yr0.l0 k sink c row row.length i) (topRow sink (row.drop i) c) := by
 intro d
 induction d with
 | zero =>
  intro i c hd hi hc
  refine Ev.succ ?_
  simp only [yr0.l0]
  refine Ev.neg (by omega) ((Ev.now _).val ?_)
  rw [List.drop_of_length_le (by omega)]; rfl
 | succ d ih =>
  intro i c hd hi hc
  have hlt : i < row.length := by omega
  have hq := hr (rd row i) (by rw [rd_at hlt]; exact List.getElem_mem _)
  refine Ev.succ ?_
  simp only [yr0.l0]
  rw [drop_rd hlt]; simp only [topRow]
  refine Ev.pos (by omega) (Ev.pos (by omega) (Ev.pos (by omega) ?_))
  rw [wrap_nat (by omega)]
  by_cases h : rd row i = sink
  ·rw [if_pos h]
   exact Ev.pos h (ih (i + 1) c (by omega) (by omega) hc)
  rw [if_neg h]
  exact Ev.neg h (Ev.pos hq.1 (Ev.pos (by omega) (ih (i + 1) _ (by omega) (by omega) (by simp; exact hc))))
theorem chTopple_ev {g : List (List Int)} (hg : goodG g = true) (sink : Int) {c : List Int} (hc : c.length = g.length) {p : Int} (h0 : 0 ≤ p) (h1 : p < (g.length : Int)) : Ev (fun k => yr0.f k g sink c p) (topp g sink c p) := by
 have hrow := (good_iff hg).2 (rd_L2 g p) (by rw [rdL_get h0 h1]; exact List.getElem_mem _)
 unfold yr0.f topp
 refine Ev.pos h0 (Ev.pos (by omega) (Ev.pos h1 ?_))
 exact (chTopple_l0 sink (rd_L2 g p) g.length hrow.1 hrow.2 (rd_L2 g p).length 0 _ (by omega) (by omega) (by simp; exact hc)).val (by simp)
theorem clone_ev (l : List Int) (h : l.length ≤ 1048576) : yw1.f l = some l := by unfold yw1.f; first | rfl | rw [if_pos (by omega)]
theorem own_ev (l : List Int) (h : l.length ≤ 1048576) : yr1.f l = some l := by
 unfold yr1.f
 show (if ([] : List Int).length + l.length < 17592186044416 then some ([] ++ l) else none) = some l
 rw [if_pos (by simp; omega)]; rfl
theorem rnd_far {n m : Nat} {g : List (List Int)} (hd : Dr n m g) (h1 : 1 ≤ n) (h8 : n ≤ 8) (h5 : m ≤ 5) (hr : Rnd n g) {p s : Nat} (hp : p < n) (hs : s < n) : 0 ≤ rd (far g (p : Int)) (s : Int) := by
 have hg := hd.good h1 h8 h5
 have hl := hd.len
 obtain ⟨c1, c2⟩ := far_closed (place_of hg (i := p) (by omega))
 have key : ∀ j : Nat, 0 ≤ rd (far g (p : Int)) (((p + j) % n : Nat) : Int) := by
  intro j
  induction j with
  | zero => rw [Nat.add_zero, Nat.mod_eq_of_lt hp]; exact c1
  | succ j ih =>
   have hm := Nat.mod_lt (p + j) (show 0 < n by omega)
   have := c2 _ (by omega) (by omega) ih _ (hr _ hm)
   rw [show Int.tmod ((((p + j) % n : Nat) : Int) + 1) n = ((((p + j) % n + 1) % n : Nat) : Int) from rfl] at this
   rw [show (p + (j + 1)) % n = ((p + j) % n + 1) % n by rw [Nat.mod_add_mod, Nat.add_assoc]]
   exact this
 have := key (s + n - p)
 rw [show p + (s + n - p) = s + n by omega, Nat.add_mod_right, Nat.mod_eq_of_lt hs] at this
 exact this
theorem sunk_round {l : List Int} (hl : Byt l) {n m : Nat} {g : List (List Int)} (hd : Dr n m g) (h1 : 1 ≤ n) (h8 : n ≤ 8) (h5 : m ≤ 5) {i s : Nat} (hi : i < n) (hs : s < n) {a sd : Int} (h0 : 0 ≤ a) (hb : a ≤ 1000000) :
  ∃ x a1 s1, (∀ r, Ev (fun k => yc0.j1 k s i n i x l a1 s1 g) r → Ev (fun k => yc0.l0 k s n i l a sd g) r) ∧ (x = true → rd (far g (i : Int)) (s : Int) < 0) ∧ a ≤ a1 ∧ a1 ≤ a + 1 := by
 have hg := hd.good h1 h8 h5
 have hlen := hd.len
 have hp := place_of hg (i := i) (by omega)
 have hk := (far_len hp).len
 by_cases e : (i : Int) = (s : Int)
 ·refine ⟨false, a, sd, fun r hr => ?_, by simp, by omega, by omega⟩
  refine Ev.succ ?_
  simp only [yc0.l0]
  exact Ev.pos (by omega) (Ev.bind (grFar hp) (Ev.pos (by omega) (Ev.pos e hr)))
 by_cases hf : rd (far g (i : Int)) (s : Int) < 0
 rotate_left
 ·refine ⟨false, a, sd, fun r hr => ?_, by simp, by omega, by omega⟩
  refine Ev.succ ?_
  simp only [yc0.l0]
  exact Ev.pos (by omega) (Ev.bind (grFar hp) (Ev.pos (by omega) (Ev.neg e (Ev.bind (grFar hp) (Ev.pos (by omega) (Ev.pos (by omega) (Ev.neg hf hr)))))))
 obtain ⟨b, a1, s1, e1, l1, u1⟩ := one_ok hl (s := sd) h0 (by omega) 12 (by omega)
 refine ⟨!b, a1, s1, fun r hr => ?_, fun _ => hf, l1, u1⟩
 refine Ev.succ ?_
 simp only [yc0.l0]
 exact Ev.pos (by omega) (Ev.bind (grFar hp) (Ev.pos (by omega) (Ev.neg e (Ev.bind (grFar hp) (Ev.pos (by omega) (Ev.pos (by omega) (Ev.pos hf (Ev.bind0 e1 hr))))))))
theorem sunk_few {l : List Int} (hl : Byt l) {n : Nat} (h1 : 1 ≤ n) (h8 : n ≤ 8) {s : Nat} (hs : s < n) : ∀ (d i : Nat) (g : List (List Int)) (a sd : Int), n - i = d → i ≤ n → g.length = n → 0 ≤ a → a + d ≤ 1000000 → (∀ p : Nat, p < n → (rd_L2 g (p : Int)).length ≤ (if p < i then 4 else 3) ∧ ∀ q ∈ rd_L2 g (p : Int), 0 ≤ q ∧ q < (n : Int)) →
  ∃ g' a' s', Ev (fun k => yc0.l0 k s n i l a sd g) (g', (s : Int), a', s') ∧ Dr n 4 g' ∧ a ≤ a' ∧ a' ≤ a + d := by
 intro d
 induction d with
 | zero =>
  intro i g a sd hd hi hg h0 hb hr
  refine ⟨g, a, sd, ?_, ⟨hg, fun row hrow => ?_⟩, by omega, by omega⟩
  ·refine Ev.succ ?_
   simp only [yc0.l0]
   exact Ev.neg (by omega) (Ev.now _)
  ·obtain ⟨p, hp, rfl⟩ := List.getElem_of_mem hrow
   rw [← rdL_at hp]
   have := hr p (by omega)
   rw [if_pos (by omega)] at this
   exact this
 | succ d ih =>
  intro i g a sd hd hi hg h0 hb hr
  have hD : Dr n 4 g := ⟨hg, fun row hrow => by
   obtain ⟨p, hp, rfl⟩ := List.getElem_of_mem hrow
   rw [← rdL_at hp]
   have := hr p (by omega)
   refine ⟨?_, this.2⟩
   have h4 := this.1
   split at h4 <;> omega⟩
  obtain ⟨x, a1, s1, hj, _, l1, u1⟩ := sunk_round hl hD h1 h8 (by omega) (i := i) (s := s) (by omega) hs (sd := sd) h0 (by omega)
  have hri := hr i (by omega)
  rw [if_neg (Nat.lt_irrefl i)] at hri
  have e := wrap_nat (n := i) (by omega)
  cases x with
  | false =>
   obtain ⟨g', a2, s2, h2, h3, h4, h6⟩ := ih (i + 1) g a1 s1 (by omega) (by omega) hg (by omega) (by omega) (fun p hp => by
    have := hr p hp
    refine ⟨?_, this.2⟩
    have h4 := this.1
    split at h4
    ·rw [if_pos (by omega)]; exact h4
    ·split <;> omega)
   refine ⟨g', a2, s2, hj _ ?_, h3, by omega, by omega⟩
   refine Ev.succ ?_
   simp only [yc0.j1]
   refine Ev.neg (by simp) ?_
   rw [e]; exact h2
  | true =>
   obtain ⟨g', a2, s2, h2, h3, h4, h6⟩ := ih (i + 1) (g.set i (rd_L2 g (i : Int) ++ [(s : Int)])) a1 s1 (by omega) (by omega) (by rw [List.length_set]; exact hg) (by omega) (by omega) (fun p hp => by
    rw [rdL_setn (by omega)]
    by_cases e : p = i
    ·subst e
     rw [if_pos rfl, if_pos (by omega)]
     refine ⟨by rw [List.length_append]; simp; omega, fun q hq => ?_⟩
     rcases List.mem_append.1 hq with h | h
     ·exact hri.2 q h
     ·rw [List.mem_singleton.1 h]; omega
    ·rw [if_neg e]
     have := hr p hp
     refine ⟨?_, this.2⟩
     have h4 := this.1
     split at h4
     ·rw [if_pos (by omega)]; exact h4
     ·rw [if_neg (by omega)]; exact h4)
   refine ⟨g', a2, s2, hj _ ?_, h3, by omega, by omega⟩
   refine Ev.succ ?_
   simp only [yc0.j1]
   refine Ev.pos trivial (Ev.pos (by omega) (Ev.pos (by omega) (Ev.pos (by omega) (Ev.bind0 (own_ev _ (by omega)) (Ev.bind0 rfl (Ev.pos (by simp; omega) ?_))))))
   rw [e, show ((i : Int)).toNat = i by omega]
   exact h2
theorem sunk_rnd {l : List Int} (hl : Byt l) {n : Nat} (h1 : 1 ≤ n) (h8 : n ≤ 8) {s : Nat} (hs : s < n) {g : List (List Int)} (hD : Dr n 4 g) (hr : Rnd n g) : ∀ (d i : Nat) (a sd : Int), n - i = d → i ≤ n → 0 ≤ a → a + d ≤ 1000000 →
  ∃ a' s', Ev (fun k => yc0.l0 k s n i l a sd g) (g, (s : Int), a', s') ∧ a ≤ a' ∧ a' ≤ a + d := by
 have hlen := hD.len
 intro d
 induction d with
 | zero =>
  intro i a sd hd hi h0 hb
  refine ⟨a, sd, ?_, by omega, by omega⟩
  refine Ev.succ ?_
  simp only [yc0.l0]
  exact Ev.neg (by omega) (Ev.now _)
 | succ d ih =>
  intro i a sd hd hi h0 hb
  obtain ⟨x, a1, s1, hj, hx, l1, u1⟩ := sunk_round hl hD h1 h8 (by omega) (i := i) (s := s) (by omega) hs (sd := sd) h0 (by omega)
  have hf := rnd_far hD h1 h8 (by omega) hr (p := i) (s := s) (by omega) hs
  obtain ⟨a2, s2, h2, h4, h6⟩ := ih (i + 1) a1 s1 (by omega) (by omega) (by omega) (by omega)
  refine ⟨a2, s2, hj _ ?_, by omega, by omega⟩
  have e := wrap_nat (n := i) (by omega)
  cases x with
  | false =>
   refine Ev.succ ?_
   simp only [yc0.j1]
   refine Ev.neg (by simp) ?_
   rw [e]; exact h2
  | true => have := hx rfl; omega
theorem sunk_ok {l : List Int} (hl : Byt l) {a sd : Int} (h0 : 0 ≤ a) (hb : a ≤ 100000) : ∃ (n s : Nat) (g : List (List Int)) (a' s' : Int), Ev (fun k => yc0.f k l a sd) (g, (s : Int), a', s') ∧ 1 ≤ n ∧ n ≤ 5 ∧ Dr n 4 g ∧ s < n ∧ a ≤ a' ∧ a' ≤ a + 200 := by
 unfold yc0.f
 obtain ⟨n, g, a1, s1, hg, hn1, hn5, hD, l1, u1⟩ := sure_ok hl (s := sd) h0 hb
 have hlen : g.length = n := by rcases hD with h | h; exact h.len; exact h.1.len
 obtain ⟨r, a2, s2, e2, r0, r1, l2, u2⟩ := pick_ok hl (s := s1) (a := a1) (by omega) (by omega) (g.length : Int) (by omega)
 obtain ⟨s, hs, hsn⟩ : ∃ s : Nat, r = (s : Int) ∧ s < n := ⟨r.toNat, by omega, by omega⟩
 subst hs
 have fin : ∃ g' a' s', Ev (fun k => yc0.l0 k s n ((0 : Nat) : Int) l a2 s2 g) (g', (s : Int), a', s') ∧ Dr n 4 g' ∧ a2 ≤ a' ∧ a' ≤ a2 + n := by
  rcases hD with hD | ⟨hD, hr⟩
  ·exact sunk_few hl hn1 (by omega) hsn n 0 g a2 s2 (by omega) (by omega) hlen (by omega) (by omega) (fun p hp => by
    rw [if_neg (by omega)]; exact hD.at (by omega) (by omega))
  ·obtain ⟨a', s', h2, h3, h4⟩ := sunk_rnd hl hn1 (by omega) hsn hD hr n 0 a2 s2 (by omega) (by omega) (by omega) (by omega)
   exact ⟨g, a', s', h2, hD, h3, h4⟩
 obtain ⟨g', a', s', h2, h3, h4, h5⟩ := fin
 refine ⟨n, s, g', a', s', ?_, hn1, hn5, h3, hsn, by omega, by omega⟩
 rw [← hlen] at h2
 exact Ev.bind hg (Ev.bind0 e2 h2)
theorem heap_l0 {l : List Int} (hl : Byt l) {n s : Nat} (h5 : n ≤ 5) (h1 : 1 ≤ n) (most : Int) (hm : most ≤ 200) {g : List (List Int)} : ∀ (d i : Nat) (c : List Int) (a sd : Int), n - i = d → i ≤ n → c.length = i → (∀ x ∈ c, okI x) → 0 ≤ a → a + 2 * d + 3 ≤ 1000000 →
  ∃ c' a' s', Ev (fun k => ym0.l0 k most s c n i l a sd g) (g, (s : Int), c', a', s') ∧ c'.length ≤ 6 ∧ (∀ x ∈ c', okI x) ∧ a ≤ a' ∧ a' ≤ a + 2 * d + 3 := by
 intro d
 induction d with
 | zero =>
  intro i c a sd hd hi hc hok h0 hb
  obtain ⟨r, a1, s1, e1, r0, r1, l1, u1⟩ := pick_ok hl (s := sd) h0 (by omega) 18 (by omega)
  by_cases h : r = 0
  ·obtain ⟨p, a2, s2, e2, p0, p1, l2, u2⟩ := pick_ok hl (s := s1) (a := a1) (by omega) (by omega) (c.length : Int) (by omega)
   obtain ⟨v, a3, s3, e3, hv, l3, u3⟩ := among_ok hl (s := s2) (a := a2) (by omega) (by omega) [-1, 20, 21, 4611686018427387904] (by simp) (by simp)
   refine ⟨c.set p.toNat v, a3, s3, ?_, by rw [List.length_set]; omega, fun x hx => ?_, by omega, by omega⟩
   ·refine Ev.succ ?_
    simp only [ym0.l0]
    exact Ev.neg (by omega) (Ev.bind0 e1 (Ev.pos h (Ev.bind0 e2 (Ev.bind0 e3 (Ev.pos p0 (Ev.pos (by omega) (Ev.now _)))))))
   ·rcases List.mem_or_eq_of_mem_set hx with h | h
    ·exact hok x h
    ·subst h
     simp only [List.mem_cons, List.not_mem_nil, or_false] at hv
     unfold okI; omega
  by_cases h2 : r = 1
  rotate_left
  ·refine ⟨c, a1, s1, ?_, by omega, hok, by omega, by omega⟩
   refine Ev.succ ?_
   simp only [ym0.l0]
   exact Ev.neg (by omega) (Ev.bind0 e1 (Ev.neg h (Ev.neg h2 (Ev.now _))))
  refine ⟨c ++ [0], a1, s1, ?_, by rw [List.length_append]; simp; omega, fun x hx => ?_, by omega, by omega⟩
  ·refine Ev.succ ?_
   simp only [ym0.l0]
   exact Ev.neg (by omega) (Ev.bind0 e1 (Ev.neg h (Ev.pos h2 (Ev.pos (by omega) (Ev.now _)))))
  ·rcases List.mem_append.1 hx with h | h
   ·exact hok x h
   ·rw [List.mem_singleton.1 h]; unfold okI; omega
 | succ d ih =>
  intro i c a sd hd hi hc hok h0 hb
  have e := wrap_nat (n := i) (by omega)
  have next : ∀ (v : Int) (a1 s1 : Int), okI v → a ≤ a1 → a1 ≤ a + 2 → ∃ c' a' s', Ev (fun k => ym0.l0 k most s (c ++ [v]) n ((i + 1 : Nat) : Int) l a1 s1 g) (g, (s : Int), c', a', s') ∧ c'.length ≤ 6 ∧ (∀ x ∈ c', okI x) ∧ a1 ≤ a' ∧ a' ≤ a1 + 2 * d + 3 := fun v a1 s1 hv l1 u1 =>
   ih (i + 1) (c ++ [v]) a1 s1 (by omega) (by omega) (by simp; omega) (fun x hx => by
    rcases List.mem_append.1 hx with h | h
    ·exact hok x h
    ·rw [List.mem_singleton.1 h]; exact hv) (by omega) (by omega)
  by_cases hs : (i : Int) = (s : Int)
  rotate_left
  ·obtain ⟨r, a2, s2, e2, r0, r1, l2, u2⟩ := pick_ok hl (s := sd) h0 (by omega) most hm
   obtain ⟨c', a3, s3, h2, h3, h4, h6, h7⟩ := next r a2 s2 (by unfold okI; omega) (by omega) (by omega)
   refine ⟨c', a3, s3, ?_, h3, h4, by omega, by omega⟩
   refine Ev.succ ?_
   simp only [ym0.l0]
   refine Ev.pos (by omega) (Ev.neg hs (Ev.bind0 e2 (Ev.pos (by omega) ?_)))
   rw [e]; exact h2
  obtain ⟨b, a1, s1, e1, l1, u1⟩ := one_ok hl (s := sd) h0 (by omega) 12 (by omega)
  cases b with
  | true =>
   obtain ⟨r, a2, s2, e2, r0, r1, l2, u2⟩ := pick_ok hl (s := s1) (a := a1) (by omega) (by omega) most hm
   obtain ⟨c', a3, s3, h2, h3, h4, h6, h7⟩ := next r a2 s2 (by unfold okI; omega) (by omega) (by omega)
   refine ⟨c', a3, s3, ?_, h3, h4, by omega, by omega⟩
   refine Ev.succ ?_
   simp only [ym0.l0]
   refine Ev.pos (by omega) (Ev.pos hs (Ev.bind0 e1 (Ev.pos rfl (Ev.bind0 e2 (Ev.pos (by omega) ?_)))))
   rw [e]; exact h2
  | false =>
   obtain ⟨c', a3, s3, h2, h3, h4, h6, h7⟩ := next 0 a1 s1 (by unfold okI; omega) (by omega) (by omega)
   refine ⟨c', a3, s3, ?_, h3, h4, by omega, by omega⟩
   refine Ev.succ ?_
   simp only [ym0.l0]
   refine Ev.pos (by omega) (Ev.pos hs (Ev.bind0 e1 (Ev.neg (by simp) (Ev.pos (by omega) ?_))))
   rw [e]; exact h2
theorem heap_ok {l : List Int} (hl : Byt l) {a sd : Int} (h0 : 0 ≤ a) (hb : a ≤ 100000) (most : Int) (hm : most ≤ 200) : ∃ (n s : Nat) (g : List (List Int)) (c : List Int) (a' s' : Int), Ev (fun k => ym0.f k l a sd most) (g, (s : Int), c, a', s') ∧ 1 ≤ n ∧ n ≤ 5 ∧ Dr n 4 g ∧ s < n ∧ c.length ≤ 6 ∧ (∀ x ∈ c, okI x) ∧ a ≤ a' ∧ a' ≤ a + 300 := by
 unfold ym0.f
 obtain ⟨n, s, g, a1, s1, hg, hn1, hn5, hD, hs, l1, u1⟩ := sunk_ok hl (sd := sd) h0 hb
 obtain ⟨c, a2, s2, h2, h3, h4, h6, h7⟩ := heap_l0 hl (s := s) hn5 hn1 most hm (g := g) n 0 [] a1 s1 (by omega) (by omega) rfl (fun x h => absurd h (by simp)) (by omega) (by omega)
 refine ⟨n, s, g, c, a2, s2, ?_, hn1, hn5, hD, hs, h3, h4, by omega, by omega⟩
 rw [← hD.len] at h2
 exact Ev.bind hg h2
theorem place_ok {l : List Int} (hl : Byt l) {a sd : Int} (h0 : 0 ≤ a) (hb : a ≤ 100000) {g : List (List Int)} (h1 : 1 ≤ g.length) (h8 : g.length ≤ 8) : ∃ p a' s', Ev (fun k => yx0.f k l a sd g) (p, a', s') ∧ okI p := by
 unfold yx0.f
 obtain ⟨b, a1, s1, e1, l1, u1⟩ := one_ok hl (s := sd) h0 (by omega) 14 (by omega)
 cases b with
 | true =>
  obtain ⟨v, a3, s3, e3, hv, l3, u3⟩ := among_ok hl (s := s1) (a := a1) (by omega) (by omega) [-1, 0, (g.length : Int), 4611686018427387904] (by simp) (by simp)
  refine ⟨v, a3, s3, ?_, ?_⟩
  ·refine Ev.neg (by omega) (Ev.bind0 e1 (Ev.succ ?_))
   simp only [yx0.j0]
   exact Ev.pos trivial (Ev.bind0 e3 (Ev.now _))
  ·simp only [List.mem_cons, List.not_mem_nil, or_false] at hv
   unfold okI; omega
 | false =>
  obtain ⟨p, a2, s2, e2, p0, p1, l2, u2⟩ := pick_ok hl (s := s1) (a := a1) (by omega) (by omega) (g.length : Int) (by omega)
  refine ⟨p, a2, s2, ?_, by unfold okI; omega⟩
  refine Ev.neg (by omega) (Ev.bind0 e1 (Ev.succ ?_))
  simp only [yx0.j0]
  exact Ev.neg (by simp) (Ev.bind0 e2 (Ev.now _))
end Go.Proofs.Ytdfabioienofhaa.M
namespace Go.Proofs.Ytdfabioienofhaa.P
set_option maxHeartbeats 8000000
set_option maxRecDepth 100000
open Go.RowKit Go.Proofs.YtdfabioienofhaaW.PrintWords Go.Proofs.YtdfabioienofhaaW.PrintLast Go.Proofs.YtdfabioienofhaaW.PrintMore
attribute [local go_sem] zr0 zp0 zw0 zv0 zn0 zo0 zq0 zs0
set_option linter.unusedVariables false
set_option linter.unusedSimpArgs false
def yi2.f (k : Nat) (J6 : List Int) (Jv : Int) (JQ : Int) : Option ((List (List Int)) × Int × List Int × Int × Int) := (ym0.f k J6 Jv JQ 8).bind fun qi => (some (qi.1, qi.2.1, qi.2.2.1, qi.2.2.2.1, qi.2.2.2.2))
theorem yi2.mono : ∀ a0 a1 a2 k, LeO (yi2.f k a0 a1 a2) (yi2.f (k + 1) a0 a1 a2) := by
 intro a0 a1 a2 k
 unfold yi2.f
 repeat' (with_reducible first | apply ym0.mono | apply LeO.refl | apply LeO.none | refine LeO.ite ?_ ?_ | refine LeO.bind ?_ (fun _ => ?_))
def yo2.f (k : Nat) (l0 : List Int) : Option ((List (List Int)) × Int × List Int) := (yi2.f k l0 0 0).bind fun t => some (t.1, t.2.1, t.2.2.1)
theorem yo2.mono : ∀ a0 k, LeO (yo2.f k a0) (yo2.f (k + 1) a0) := fun a0 k => LeO.bind (yi2.mono _ _ _ _) (fun _ => LeO.refl _)
def yj2.f (k : Nat) (J6 : List Int) (Jv : Int) (JQ : Int) : Option ((List (List Int)) × Int × List Int × Int × Int × Int) := (ym0.f k J6 Jv JQ 6).bind fun Y8 => ((yl1.f k Y8.1 Y8.2.1 Y8.2.2.1).bind fun Jj9 => (if Jj9 = true then ((yt0.f k Y8.1 Y8.2.1 Y8.2.2.1).bind fun dQ => (if dQ ≥ 0 then ((ys0.f J6 Y8.2.2.2.1 Y8.2.2.2.2 2).bind fun qj => (if qj.1 = true then (some (Y8.1, Y8.2.1, Y8.2.2.1, dQ, qj.2.1, qj.2.2)) else ((yx0.f k J6 qj.2.1 qj.2.2 Y8.1).bind fun Z7 => (some (Y8.1, Y8.2.1, Y8.2.2.1, Z7.1, Z7.2.1, Z7.2.2))))) else ((yx0.f k J6 Y8.2.2.2.1 Y8.2.2.2.2 Y8.1).bind fun Z8 => (some (Y8.1, Y8.2.1, Y8.2.2.1, Z8.1, Z8.2.1, Z8.2.2))))) else ((yx0.f k J6 Y8.2.2.2.1 Y8.2.2.2.2 Y8.1).bind fun Z9 => (some (Y8.1, Y8.2.1, Y8.2.2.1, Z9.1, Z9.2.1, Z9.2.2)))))
theorem yj2.mono : ∀ a0 a1 a2 k, LeO (yj2.f k a0 a1 a2) (yj2.f (k + 1) a0 a1 a2) := by
 intro a0 a1 a2 k
 unfold yj2.f
 repeat' (with_reducible first | apply yl1.mono | apply yt0.mono | apply ym0.mono | apply yx0.mono | apply LeO.refl | apply LeO.none | refine LeO.ite ?_ ?_ | refine LeO.bind ?_ (fun _ => ?_))
def yp2.f (k : Nat) (l0 : List Int) : Option ((List (List Int)) × Int × List Int × Int) := (yj2.f k l0 0 0).bind fun t => some (t.1, t.2.1, t.2.2.1, t.2.2.2.1)
theorem yp2.mono : ∀ a0 k, LeO (yp2.f k a0) (yp2.f (k + 1) a0) := fun a0 k => LeO.bind (yj2.mono _ _ _ _) (fun _ => LeO.refl _)
def yk2.f (k : Nat) (J6 : List Int) (Jv : Int) (JQ : Int) : Option ((List (List Int)) × Int × List Int × Int × Int) := (ym0.f k J6 Jv JQ 4).bind fun qk => (some (qk.1, qk.2.1, qk.2.2.1, qk.2.2.2.1, qk.2.2.2.2))
theorem yk2.mono : ∀ a0 a1 a2 k, LeO (yk2.f k a0 a1 a2) (yk2.f (k + 1) a0 a1 a2) := by
 intro a0 a1 a2 k
 unfold yk2.f
 repeat' (with_reducible first | apply ym0.mono | apply LeO.refl | apply LeO.none | refine LeO.ite ?_ ?_ | refine LeO.bind ?_ (fun _ => ?_))
def yq2.f (k : Nat) (l0 : List Int) : Option ((List (List Int)) × Int × List Int) := (yk2.f k l0 0 0).bind fun t => some (t.1, t.2.1, t.2.2.1)
theorem yq2.mono : ∀ a0 k, LeO (yq2.f k a0) (yq2.f (k + 1) a0) := fun a0 k => LeO.bind (yk2.mono _ _ _ _) (fun _ => LeO.refl _)
end Go.Proofs.Ytdfabioienofhaa.P
namespace Go.Proofs.Ytdfabioienofhaa.M
set_option maxHeartbeats 8000000
set_option maxRecDepth 100000
open Go.RowKit Go.Proofs.Ytdfabioienofhaa.P Go.Proofs.Ytdfabioienofhaa.In Go.Proofs.YtdfabioienofhaaW.PrintWords Go.Proofs.YtdfabioienofhaaW.PrintLast
set_option linter.unusedVariables false
set_option linter.unusedSimpArgs false
structure Hd (g : List (List Int)) (c : List Int) : Prop where
 ok : okSS g
 cok : okIs c
 c6 : c.length ≤ 6
theorem Hd.of {n : Nat} {g : List (List Int)} {c : List Int} (h5 : n ≤ 5) (hD : Dr n 4 g) (hc : c.length ≤ 6) (ho : ∀ x ∈ c, okI x) : Hd g c := ⟨hD.ok (by omega) (by omega), ⟨by omega, ho⟩, hc⟩
def sett (g : List (List Int)) (sink : Int) : Nat → List Int → List Int → List Int × List Int × Bool
 | 0, c, t => if fst g sink c g.length 0 = g.length then (c, t, true) else ([], [], false)
 | m + 1, c, t => if fst g sink c g.length 0 = g.length then (c, t, true) else sett g sink m (topp g sink c (fst g sink c g.length 0 : Int)) (t.set (fst g sink c g.length 0) (wrap64 (rd t (fst g sink c g.length 0 : Int) + 1)))
theorem settle_scanM {g : List (List Int)} (h8 : g.length ≤ 8) (sink : Int) (c t : List Int) (hc : c.length = g.length) (M m : Int) (r : List Int × List Int × Bool) : ∀ (d i : Nat), g.length - i = d → i ≤ g.length → Ev (fun k => yg0.j2 k sink M c t m (fst g sink c d i) g) r → Ev (fun k => yg0.l1 k sink M c t m i g) r := by
 intro d
 induction d with
 | zero =>
  intro i hd hi h
  refine Ev.succ ?_
  simp only [yg0.l1]
  refine Ev.neg (by omega) ?_
  exact h
 | succ d ih =>
  intro i hd hi h
  refine Ev.succ ?_
  simp only [yg0.l1]
  refine Ev.pos (by omega) (Ev.bind0 (canTopple (by omega) (by omega) (by omega)) ?_)
  simp only [fst] at h
  by_cases hb : canB g sink c i = true
  ·rw [if_pos hb] at h
   exact Ev.pos hb h
  rw [if_neg hb] at h
  refine Ev.neg hb ?_
  rw [wrap_nat (by omega)]
  exact ih (i + 1) (by omega) (by omega) h
theorem settleI {g : List (List Int)} (hg : goodG g = true) (sink : Int) (M : Nat) (hM : M ≤ 3000000) : ∀ (d m : Nat) (c t : List Int), M - m = d → m ≤ M → c.length = g.length → t.length = g.length → Ev (fun k => yg0.l0 k sink M c t m g) (sett g sink d c t) := by
 have h8 := (good_iff hg).1.2
 intro d
 induction d with
 | zero =>
  intro m c t hd hm hc ht
  refine Ev.succ ?_
  simp only [yg0.l0, sett]
  refine settle_scanM h8 sink c t hc M m _ g.length 0 (by omega) (by omega) ?_
  refine Ev.succ ?_
  simp only [yg0.j2]
  by_cases hf : fst g sink c g.length 0 = g.length
  ·rw [if_pos hf]; exact Ev.pos (by omega) (Ev.now _)
  rw [if_neg hf]; exact Ev.neg (by omega) (Ev.pos (by omega) (Ev.now _))
 | succ d ih =>
  intro m c t hd hm hc ht
  refine Ev.succ ?_
  simp only [yg0.l0, sett]
  refine settle_scanM h8 sink c t hc M m _ g.length 0 (by omega) (by omega) ?_
  refine Ev.succ ?_
  simp only [yg0.j2]
  by_cases hf : fst g sink c g.length 0 = g.length
  ·rw [if_pos hf]; exact Ev.pos (by omega) (Ev.now _)
  rw [if_neg hf]
  have hle := fst_le g sink c g.length 0
  refine Ev.neg (by omega) (Ev.neg (by omega) (Ev.bind (topple_ev hg sink hc (by omega) (by omega)) (Ev.pos (by omega) (Ev.pos (by omega) ?_))))
  rw [wrap_nat (by omega), Int.toNat_natCast]
  exact ih (m + 1) _ _ (by omega) (by omega) (by rw [topp_len]; exact hc) (by rw [List.length_set]; exact ht)
theorem settleS {g : List (List Int)} (hg : goodG g = true) (sink : Int) : ∀ (d m : Nat) (c t : List Int), 4000 - m = d → m ≤ 4000 → c.length = g.length → t.length = g.length → Ev (fun k => yi0.l0 k sink c t m g) (sett g sink d c t) := by
 have h8 := (good_iff hg).1.2
 intro d
 induction d with
 | zero =>
  intro m c t hd hm hc ht
  refine Ev.succ ?_
  simp only [yi0.l0, sett]
  refine Ev.bind (chHigh_ev h8 sink c hc) ?_
  unfold high
  by_cases hf : fst g sink c g.length 0 = g.length
  ·rw [if_pos hf, if_pos hf]; exact Ev.pos (by omega) (Ev.now _)
  rw [if_neg hf, if_neg hf]; exact Ev.neg (by omega) (Ev.pos (by omega) (Ev.now _))
 | succ d ih =>
  intro m c t hd hm hc ht
  refine Ev.succ ?_
  simp only [yi0.l0, sett]
  refine Ev.bind (chHigh_ev h8 sink c hc) ?_
  unfold high
  by_cases hf : fst g sink c g.length 0 = g.length
  ·rw [if_pos hf, if_pos hf]; exact Ev.pos (by omega) (Ev.now _)
  rw [if_neg hf, if_neg hf]
  have hle := fst_le g sink c g.length 0
  refine Ev.neg (by omega) (Ev.neg (by omega) (Ev.bind (chTopple_ev hg sink hc (by omega) (by omega)) (Ev.pos (by omega) (Ev.pos (by omega) ?_))))
  rw [wrap_nat (by omega), Int.toNat_natCast]
  exact ih (m + 1) _ _ (by omega) (by omega) (by rw [topp_len]; exact hc) (by rw [List.length_set]; exact ht)
theorem settI_ev {g : List (List Int)} (hg : goodG g = true) (sink : Int) (c : List Int) (hc : c.length = g.length) (M : Nat) (hM : M ≤ 3000000) : Ev (fun k => yg0.f k g sink c M) (sett g sink M c (List.replicate g.length 0)) := by
 have h8 := (good_iff hg).1.2
 unfold yg0.f
 refine Ev.bind0 (clone_ev c (by omega)) (Ev.pos (by omega) (Ev.pos (by omega) ?_))
 rw [show ((c.length : Int)).toNat = g.length by omega]
 exact settleI hg sink M hM M 0 c _ (by omega) (by omega) hc (by simp)
theorem settS_ev {g : List (List Int)} (hg : goodG g = true) (sink : Int) (c : List Int) (hc : c.length = g.length) : Ev (fun k => yi0.f k g sink c) (sett g sink 4000 c (List.replicate g.length 0)) := by
 have h8 := (good_iff hg).1.2
 unfold yi0.f
 refine Ev.bind0 (own_ev c (by omega)) (Ev.pos (by omega) (Ev.pos (by omega) ?_))
 rw [show ((g.length : Int)).toNat = g.length by omega]
 exact settleS hg sink 4000 0 c _ (by omega) (by omega) hc (by simp)
open DetKit
def LL (g : List (List Int)) (s : Nat) : Nat → Nat → Int := fun i j => Lp g (skip s i) (skip s j)
def dd (g : List (List Int)) (s : Nat) : Nat → Int := fun i => ((rd_L2 g ((skip s i : Nat) : Int)).length : Int)
def vec (s : Nat) (c : List Int) : Nat → Int := fun i => rd c ((skip s i : Nat) : Int)
def cntk (row : List Int) (q : Int) : Int := sm row.length (fun k => if rd row (k : Int) = q then 1 else 0)
theorem cntk_bound (row : List Int) (q : Int) : 0 ≤ cntk row q ∧ cntk row q ≤ row.length := by
 unfold cntk
 constructor
 ·exact sm_nonneg (fun i _ => by split <;> omega)
 ·have : sm row.length (fun k => if rd row (k : Int) = q then 1 else 0) ≤ sm row.length (fun _ => 1) := sm_le (fun i _ => by split <;> omega)
  rw [sm_const] at this; omega
theorem cntk_cons (x : Int) (row : List Int) (q : Int) : cntk (x :: row) q = (if x = q then 1 else 0) + cntk row q := by
 unfold cntk
 rw [List.length_cons, sm_head]
 have e2 : rd (x :: row) ((0 : Nat) : Int) = x := by rw [rd_at (by simp)]; rfl
 rw [e2, sm_congr (f := fun i => if rd (x :: row) ((i + 1 : Nat) : Int) = q then 1 else 0) (g := fun k => if rd row (k : Int) = q then 1 else 0) (fun i _ => by rw [rd_cons_succ])]
theorem Lp_eq (g : List (List Int)) (p q : Nat) : Lp g p q = (if p = q then ((rd_L2 g (p : Int)).length : Int) else 0) - cntk (rd_L2 g (p : Int)) (q : Int) := by
 unfold Lp cntk
 have e : sm (rd_L2 g (p : Int)).length (fun k => 1 * ((if p = q then (1 : Int) else 0) - (if rd (rd_L2 g (p : Int)) (k : Int) = (q : Int) then 1 else 0))) = ((rd_L2 g (p : Int)).length : Int) * (if p = q then (1 : Int) else 0) + (-1) * sm (rd_L2 g (p : Int)).length (fun k => if rd (rd_L2 g (p : Int)) (k : Int) = (q : Int) then 1 else 0) := by
  rw [← sm_const, ← sm_mul, ← sm_add]
  exact sm_congr (fun k _ => by omega)
 rw [e]
 split <;> omega
theorem LL_off (g : List (List Int)) (s : Nat) (i j : Nat) (h : i ≠ j) : LL g s i j ≤ 0 := by
 unfold LL
 rw [Lp_eq, if_neg (fun e => h (skip_eq.1 e))]
 have := cntk_bound (rd_L2 g ((skip s i : Nat) : Int)) ((skip s j : Nat) : Int); omega
theorem LL_dl (g : List (List Int)) (s i : Nat) : LL g s i i ≤ dd g s i := by
 unfold LL dd
 rw [Lp_eq, if_pos rfl]
 have := cntk_bound (rd_L2 g ((skip s i : Nat) : Int)) ((skip s i : Nat) : Int); omega
theorem row_good {g : List (List Int)} (hg : goodG g = true) {p : Nat} (hp : p < g.length) : (rd_L2 g (p : Int)).length ≤ 5 ∧ ∀ q ∈ rd_L2 g (p : Int), 0 ≤ q ∧ q < (g.length : Int) :=
 (good_iff hg).2 _ (by rw [rdL_at hp]; exact List.getElem_mem _)
theorem topRow_rd (sink : Int) : ∀ (row c : List Int) (B : Int), (∀ x ∈ row, 0 ≤ x ∧ x < (c.length : Int)) → (∀ q : Nat, q < c.length → -B ≤ rd c (q : Int) ∧ rd c (q : Int) ≤ B) → B + row.length ≤ 1000000000 → ∀ q : Nat, q < c.length → rd (topRow sink row c) (q : Int) = rd c (q : Int) + if (q : Int) = sink then 0 else cntk row (q : Int) := by
 intro row
 induction row with
 | nil => intro c B _ _ _ q _; simp only [topRow, cntk, List.length_nil, sm]; split <;> omega
 | cons x row ih =>
  intro c B hx hb hB q hq
  have hx0 := hx x List.mem_cons_self
  have hbx := hb x.toNat (by omega)
  rw [show ((x.toNat : Nat) : Int) = x by omega] at hbx
  rw [List.length_cons] at hB
  simp only [topRow]
  by_cases e : x = sink
  ·rw [if_pos e, ih c B (fun y hy => hx y (List.mem_cons_of_mem _ hy)) hb (by omega) q hq, cntk_cons]
   by_cases e2 : (q : Int) = sink
   ·rw [if_pos e2, if_pos e2]
   rw [if_neg e2, if_neg e2, if_neg (by omega)]; omega
  rw [if_neg e]
  have hs : ∀ y : Nat, rd (c.set x.toNat (wrap64 (rd c x + 1))) (y : Int) = if (y : Int) = x then rd c x + 1 else rd c (y : Int) := fun y => by
   rw [rd_set hx0.1 hx0.2 (by omega), wrap_id (by omega)]
  have hbs : ∀ y : Nat, y < (c.set x.toNat (wrap64 (rd c x + 1))).length → -(B + 1) ≤ rd (c.set x.toNat (wrap64 (rd c x + 1))) (y : Int) ∧ rd (c.set x.toNat (wrap64 (rd c x + 1))) (y : Int) ≤ B + 1 := fun y hy => by
   rw [hs]
   rw [List.length_set] at hy
   have := hb y hy
   split <;> omega
  rw [ih _ (B + 1) (fun y hy => by rw [List.length_set]; exact hx y (List.mem_cons_of_mem _ hy)) hbs (by omega) q (by rw [List.length_set]; exact hq), hs, cntk_cons]
  by_cases e2 : (q : Int) = x
  ·rw [if_pos e2, if_neg (by omega), if_neg (by omega), if_pos e2.symm, e2]; omega
  rw [if_neg e2]
  by_cases e3 : (q : Int) = sink
  ·rw [if_pos e3, if_pos e3]
  rw [if_neg e3, if_neg e3, if_neg (show ¬ x = (q : Int) from fun h => e2 h.symm)]; omega
theorem topp_rd {g : List (List Int)} (hg : goodG g = true) {s p : Nat} {c : List Int} (hc : c.length = g.length) (hp : p < g.length) (hps : p ≠ s) {B : Int} (hB : B ≤ 900000000) (hb : ∀ q : Nat, q < g.length → 0 ≤ rd c (q : Int) ∧ rd c (q : Int) ≤ B) : ∀ q : Nat, q < g.length → rd (topp g (s : Int) c (p : Int)) (q : Int) = if q = s then rd c (q : Int) else rd c (q : Int) - Lp g p q := by
 intro q hq
 have hrow := row_good hg hp
 have hbp := hb p hp
 unfold topp
 have hs : ∀ y : Nat, rd (c.set ((p : Int)).toNat (wrap64 (rd c (p : Int) - ((rd_L2 g (p : Int)).length : Int)))) (y : Int) = if (y : Int) = (p : Int) then rd c (p : Int) - ((rd_L2 g (p : Int)).length : Int) else rd c (y : Int) := fun y => by
  rw [rd_set (o := c) (q := (p : Int)) (x := (y : Int)) (by omega) (by omega) (by omega), wrap_id (by omega)]
 rw [topRow_rd (s : Int) _ _ (B + 5) (fun x hx => by rw [List.length_set, hc]; exact hrow.2 x hx) (fun y hy => by
  rw [hs]
  rw [List.length_set, hc] at hy
  have := hb y hy
  split <;> omega) (by omega) q (by rw [List.length_set, hc]; exact hq), hs, Lp_eq]
 by_cases e : q = s
 ·rw [if_pos e, if_pos (show (q : Int) = (s : Int) by omega), if_neg (show ¬ (q : Int) = (p : Int) by omega)]; omega
 rw [if_neg e, if_neg (show ¬ (q : Int) = (s : Int) by omega)]
 by_cases e2 : p = q
 ·subst e2; rw [if_pos rfl, if_pos rfl]; omega
 rw [if_neg (show ¬ (q : Int) = (p : Int) by omega), if_neg e2]; omega
theorem fst_can {g : List (List Int)} {sink : Int} {c : List Int} : ∀ d i, fst g sink c d i ≠ i + d → fst g sink c d i < i + d ∧ canB g sink c (fst g sink c d i : Int) = true := by
 intro d
 induction d with
 | zero => intro i h; simp only [fst] at h; omega
 | succ d ih =>
  intro i h
  simp only [fst] at h ⊢
  by_cases e : canB g sink c (i : Int) = true
  ·rw [if_pos e]; exact ⟨by omega, e⟩
  rw [if_neg e] at h ⊢
  have := ih (i + 1) (by omega)
  exact ⟨by omega, this.2⟩
theorem fst_none {g : List (List Int)} {sink : Int} {c : List Int} : ∀ d i, fst g sink c d i = i + d → ∀ j : Nat, i ≤ j → j < i + d → canB g sink c (j : Int) = false := by
 intro d
 induction d with
 | zero => intro i _ j h1 h2; omega
 | succ d ih =>
  intro i h j h1 h2
  simp only [fst] at h
  by_cases e : canB g sink c (i : Int) = true
  ·rw [if_pos e] at h; omega
  rw [if_neg e] at h
  by_cases e2 : i = j
  ·subst e2; exact Bool.eq_false_iff.2 e
  exact ih (i + 1) (by omega) j (by omega) (by omega)
theorem fst_stop {g : List (List Int)} {sink : Int} {c : List Int} (h : ∀ j : Nat, j < g.length → canB g sink c (j : Int) = false) : fst g sink c g.length 0 = g.length := by
 apply Classical.byContradiction
 intro hn
 have := fst_can g.length 0 (g := g) (sink := sink) (c := c) (by omega)
 rw [h _ (by omega)] at this
 exact absurd this.2 (by simp)
theorem can_iff {g : List (List Int)} {s p : Nat} {c : List Int} : canB g (s : Int) c (p : Int) = true ↔ p ≠ s ∧ ((rd_L2 g (p : Int)).length : Int) ≤ rd c (p : Int) := by
 unfold canB
 rw [Bool.and_eq_true, decide_eq_true_eq, decide_eq_true_eq]
 constructor
 ·rintro ⟨h1, h2⟩; exact ⟨fun e => h1 (by omega), h2⟩
 ·rintro ⟨h1, h2⟩; exact ⟨fun e => h1 (by omega), h2⟩
structure Run (g : List (List Int)) (s : Nat) (B : Int) (x : Nat → Int) (c t : List Int) (u : Nat → Int) (k : Nat) : Prop where
 leg : Leg (g.length - 1) (LL g s) (dd g s) x u k
 cl : c.length = g.length
 tl : t.length = g.length
 ce : ∀ i, i < g.length - 1 → vec s c i = aft (g.length - 1) (LL g s) x u i
 te : ∀ i, i < g.length - 1 → vec s t i = u i
 cb : ∀ q : Nat, q < g.length → 0 ≤ rd c (q : Int) ∧ rd c (q : Int) ≤ B + 5 * (k : Int)
 tb : ∀ q : Nat, q < g.length → 0 ≤ rd t (q : Int) ∧ rd t (q : Int) ≤ (k : Int)
theorem Run.start {g : List (List Int)} {s : Nat} {B : Int} {c : List Int} (hc : c.length = g.length) (hb : ∀ q : Nat, q < g.length → 0 ≤ rd c (q : Int) ∧ rd c (q : Int) ≤ B) : Run g s B (vec s c) c (List.replicate g.length 0) (fun _ => 0) 0 := by
 have hz : ∀ q : Nat, rd (List.replicate g.length (0 : Int)) (q : Int) = 0 := fun q => by
  by_cases h : q < g.length
  ·rw [rd_at (by simpa using h)]; simp
  simp [rd, List.getElem?_replicate, h]
 refine ⟨.nil, hc, by simp, fun i _ => by rw [aft_zero], fun i _ => hz _, fun q hq => by have := hb q hq; omega, fun q _ => by rw [hz]; exact ⟨Int.le_refl _, Int.le_refl _⟩⟩
theorem Run.step {g : List (List Int)} (hg : goodG g = true) {s : Nat} (hs : s < g.length) {B : Int} (hB : B ≤ 1000000) {x : Nat → Int} {c t : List Int} {u : Nat → Int} {k : Nat} (hk : k ≤ 4000000) (r : Run g s B x c t u k) {p : Nat} (hp : p < g.length) (hcan : canB g (s : Int) c (p : Int) = true) :
  Run g s B x (topp g (s : Int) c (p : Int)) (t.set p (wrap64 (rd t (p : Int) + 1))) (bump u (usk s p)) (k + 1) ∧ rd (topp g (s : Int) c (p : Int)) (s : Int) = rd c (s : Int) ∧ rd (t.set p (wrap64 (rd t (p : Int) + 1))) (s : Int) = rd t (s : Int) := by
 obtain ⟨hps, hge⟩ := can_iff.1 hcan
 have hu : usk s p < g.length - 1 := usk_lt hp hs hps
 have hk2 : skip s (usk s p) = p := skip_usk hps
 have htp := topp_rd hg (s := s) r.cl hp hps (B := B + 5 * (k : Int)) (by omega) r.cb
 have htb := r.tb p hp
 have hts : ∀ y : Nat, rd (t.set p (wrap64 (rd t (p : Int) + 1))) (y : Int) = if y = p then rd t (p : Int) + 1 else rd t (y : Int) := fun y => by
  have := rd_set (o := t) (q := (p : Int)) (x := (y : Int)) (v := wrap64 (rd t (p : Int) + 1)) (by omega) (by rw [r.tl]; omega) (by omega)
  rw [Int.toNat_natCast, wrap_id (by omega)] at this
  rw [wrap_id (by omega), this]
  by_cases e : y = p
  ·rw [if_pos e, if_pos (by omega)]
  rw [if_neg e, if_neg (by omega)]
 refine ⟨⟨r.leg.step hu ?_, by rw [topp_len]; exact r.cl, by rw [List.length_set]; exact r.tl, fun i hi => ?_, fun i hi => ?_, fun q hq => ?_, fun q hq => ?_⟩, ?_, ?_⟩
 ·rw [← r.ce _ hu]; unfold dd vec; rw [hk2]; exact hge
 ·rw [aft_bump _ _ _ hu, ← r.ce i hi]
  unfold vec LL
  rw [htp _ (skip_lt' hi), if_neg (skip_ne s i), hk2]
 ·unfold vec bump
  rw [hts, show rd t ((skip s i : Nat) : Int) = u i from r.te i hi]
  by_cases e : i = usk s p
  ·subst e; rw [hk2, if_pos rfl, if_pos rfl, show rd t (p : Int) = u (usk s p) from by have := r.te _ hi; unfold vec at this; rw [hk2] at this; exact this]
  rw [if_neg (fun h => e (by rw [← h, usk_skip])), if_neg e]; omega
 ·rw [htp q hq]
  have h1 := r.cb q hq
  have hr := row_good hg hp
  by_cases e : q = s
  ·rw [if_pos e]; omega
  rw [if_neg e, Lp_eq]
  have h2 := cntk_bound (rd_L2 g (p : Int)) (q : Int)
  by_cases e2 : p = q
  ·subst e2; rw [if_pos rfl]; omega
  rw [if_neg e2]; omega
 ·rw [hts]
  have := r.tb q hq
  split <;> omega
 ·rw [htp s hs, if_pos rfl]
 ·rw [hts, if_neg (Ne.symm hps)]
theorem Run.stable {g : List (List Int)} {s : Nat} {B : Int} {x : Nat → Int} {c t : List Int} {u : Nat → Int} {k : Nat} (r : Run g s B x c t u k) (h : fst g (s : Int) c g.length 0 = g.length) : Stb (g.length - 1) (dd g s) (aft (g.length - 1) (LL g s) x u) := by
 intro i hi
 rw [← r.ce i hi]
 have := fst_none g.length 0 (g := g) (sink := (s : Int)) (c := c) (by omega) (skip s i) (by omega) (by have := skip_lt' (s := s) hi; omega)
 apply Classical.byContradiction
 intro hn
 rw [can_iff.2 ⟨skip_ne s i, by unfold dd vec at hn; omega⟩] at this
 exact absurd this (by simp)
theorem sett_ok {g : List (List Int)} (hg : goodG g = true) {s : Nat} (hs : s < g.length) {B : Int} (hB : B ≤ 1000000) {x : Nat → Int} : ∀ (m : Nat) (c t : List Int) (u : Nat → Int) (k : Nat), Run g s B x c t u k → k + m ≤ 4000000 → (sett g (s : Int) m c t).2.2 = true →
  ∃ U K, Run g s B x (sett g (s : Int) m c t).1 (sett g (s : Int) m c t).2.1 U K ∧ Stb (g.length - 1) (dd g s) (aft (g.length - 1) (LL g s) x U) ∧ rd (sett g (s : Int) m c t).1 (s : Int) = rd c (s : Int) ∧ rd (sett g (s : Int) m c t).2.1 (s : Int) = rd t (s : Int) ∧ K ≤ k + m := by
 intro m
 induction m with
 | zero =>
  intro c t u k r hk h
  simp only [sett] at h ⊢
  by_cases e : fst g (s : Int) c g.length 0 = g.length
  ·rw [if_pos e] at h ⊢; exact ⟨u, k, r, r.stable e, rfl, rfl, by omega⟩
  rw [if_neg e] at h; exact absurd h (by simp)
 | succ m ih =>
  intro c t u k r hk h
  simp only [sett] at h ⊢
  by_cases e : fst g (s : Int) c g.length 0 = g.length
  ·rw [if_pos e] at h ⊢; exact ⟨u, k, r, r.stable e, rfl, rfl, by omega⟩
  rw [if_neg e] at h ⊢
  have hf := fst_can g.length 0 (g := g) (sink := (s : Int)) (c := c) (by omega)
  obtain ⟨r2, e1, e2⟩ := r.step hg hs hB (by omega) (by omega) hf.2
  obtain ⟨U, K, h1, h2, h3, h4, h5⟩ := ih _ _ _ _ r2 (by omega) h
  exact ⟨U, K, h1, h2, h3.trans e1, h4.trans e2, by omega⟩
theorem sett_few {g : List (List Int)} (hg : goodG g = true) {s : Nat} (hs : s < g.length) {B : Int} (hB : B ≤ 1000000) {x : Nat → Int} : ∀ (m : Nat) (c t : List Int) (u : Nat → Int) (k : Nat), Run g s B x c t u k → k + m ≤ 4000000 → (∀ U K, Leg (g.length - 1) (LL g s) (dd g s) x U K → K ≤ k + m) → (sett g (s : Int) m c t).2.2 = true := by
 intro m
 induction m with
 | zero =>
  intro c t u k r hk h
  simp only [sett]
  by_cases e : fst g (s : Int) c g.length 0 = g.length
  ·rw [if_pos e]
  have hf := fst_can g.length 0 (g := g) (sink := (s : Int)) (c := c) (by omega)
  obtain ⟨r2, _, _⟩ := r.step hg hs hB (by omega) (by omega) hf.2
  have := h _ _ r2.leg
  omega
 | succ m ih =>
  intro c t u k r hk h
  simp only [sett]
  by_cases e : fst g (s : Int) c g.length 0 = g.length
  ·rw [if_pos e]
  rw [if_neg e]
  have hf := fst_can g.length 0 (g := g) (sink := (s : Int)) (c := c) (by omega)
  obtain ⟨r2, _, _⟩ := r.step hg hs hB (by omega) (by omega) hf.2
  exact ih _ _ _ _ r2 (by omega) (fun U K hl => by have := h U K hl; omega)
theorem ext_vec {s : Nat} {a b : List Int} (hl : a.length = b.length) (hs : s < a.length) (h0 : rd a (s : Int) = rd b (s : Int)) (h : ∀ i, i < a.length - 1 → vec s a i = vec s b i) : a = b := by
 apply List.ext_getElem hl
 intro i h1 h2
 rw [← rd_at h1, ← rd_at h2]
 by_cases e : i = s
 ·subst e; exact h0
 have := h (usk s i) (usk_lt h1 hs e)
 unfold vec at this
 rwa [skip_usk e] at this
inductive Fw (g : List (List Int)) (q : Int) : Int → Prop
 | refl : Fw g q q
 | step {x y : Int} : Fw g q x → y ∈ rd_L2 g x → Fw g q y
inductive RTo (g : List (List Int)) (s : Int) : Nat → Int → Prop
 | refl : RTo g s 0 s
 | step {m : Nat} {q y : Int} : y ∈ rd_L2 g q → RTo g s m y → RTo g s (m + 1) q
theorem rto_of_fw {g : List (List Int)} {q s : Int} (h : Fw g q s) : ∃ m, RTo g s m q := by
 have key : ∀ x, Fw g q x → (∃ m, RTo g s m x) → ∃ m, RTo g s m q := by
  intro x hx
  induction hx with
  | refl => intro h; exact h
  | step _ hy ih => rintro ⟨m, hm⟩; exact ih ⟨m + 1, .step hy hm⟩
 exact key s h ⟨0, .refl⟩
theorem vis_fw {g : List (List Int)} {q : Int} {n : Nat} (hn : n = g.length) {c : Int} (hc : Fw g q c) : ∀ (row o qs : List Int), (∀ y ∈ row, y ∈ rd_L2 g c ∧ 0 ≤ y ∧ y < (n : Int)) → o.length = n → (∀ x : Int, 0 ≤ x → x < (n : Int) → 0 ≤ rd o x → Fw g q x) → (∀ x ∈ qs, Fw g q x ∧ 0 ≤ x ∧ x < (n : Int)) →
  (vis c row o qs).1.length = n ∧ (∀ x : Int, 0 ≤ x → x < (n : Int) → 0 ≤ rd (vis c row o qs).1 x → Fw g q x) ∧ (∀ x ∈ (vis c row o qs).2, Fw g q x ∧ 0 ≤ x ∧ x < (n : Int)) := by
 intro row
 induction row with
 | nil => intro o qs _ hl ho hq; exact ⟨hl, ho, hq⟩
 | cons y row ih =>
  intro o qs hrow hl ho hq
  obtain ⟨hy, y0, y1⟩ := hrow y (by simp)
  simp only [vis]
  split
  ·refine ih _ _ (fun z hz => hrow z (by simp [hz])) (by simp [hl]) (fun x x0 x1 hx => ?_) (fun x hx => ?_)
   ·rw [rd_set y0 (by omega) x0] at hx
    split at hx
    ·rename_i e; rw [e]; exact .step hc hy
    ·exact ho x x0 x1 hx
   ·rcases List.mem_append.1 hx with h | h
    ·exact hq x h
    ·rw [List.mem_singleton.1 h]; exact ⟨.step hc hy, y0, y1⟩
  ·exact ih _ _ (fun z hz => hrow z (by simp [hz])) hl ho hq
theorem bfs_fw {g : List (List Int)} (hg : goodG g = true) {q : Int} : ∀ (f : Nat) (o qs : List Int), o.length = g.length → (∀ x : Int, 0 ≤ x → x < (g.length : Int) → 0 ≤ rd o x → Fw g q x) → (∀ x ∈ qs, Fw g q x ∧ 0 ≤ x ∧ x < (g.length : Int)) →
  ∀ x : Int, 0 ≤ x → x < (g.length : Int) → 0 ≤ rd (bfs g f o qs) x → Fw g q x := by
 intro f
 induction f with
 | zero => intro o qs _ ho _; exact ho
 | succ f ih =>
  intro o qs hl ho hq
  cases qs with
  | nil => exact ho
  | cons c qs =>
   obtain ⟨hc, c0, c1⟩ := hq c (by simp)
   simp only [bfs]
   obtain ⟨a1, a2, a3⟩ := vis_fw (n := g.length) rfl hc (rd_L2 g c) o qs (fun y hy => ⟨hy, ((good_iff hg).2 (rd_L2 g c) (by rw [rdL_get c0 c1]; exact List.getElem_mem _)).2 y hy⟩) hl ho (fun x hx => hq x (by simp [hx]))
   exact ih _ _ a1 a2 a3
theorem far_fw {g : List (List Int)} {q x : Int} (h : placeB g q = true) (x0 : 0 ≤ x) (x1 : x < (g.length : Int)) (hx : 0 ≤ rd (far g q) x) : Fw g q x := by
 obtain ⟨hg, h0, h1⟩ := place_iff h
 refine bfs_fw hg g.length _ [q] (by simp) (fun x x0 x1 hx => ?_) (fun x hx => by rw [List.mem_singleton.1 hx]; exact ⟨.refl, h0, h1⟩) x x0 x1 hx
 rw [rd_set h0 (by simpa using h1) x0] at hx
 split at hx
 ·rename_i e; rw [e]; exact .refl
 ·rw [rd_get x0 (by simpa using x1)] at hx; simp at hx
theorem leadsFrom_at {g : List (List Int)} {p : Int} : ∀ (d i : Nat), leadsFrom g p d i = true → ∀ j : Nat, i ≤ j → j < i + d → 0 ≤ rd (far g (j : Int)) p := by
 intro d
 induction d with
 | zero => intro i _ j h1 h2; omega
 | succ d ih =>
  intro i h j h1 h2
  simp only [leadsFrom] at h
  split at h
  ·cases h
  ·by_cases e : j = i
   ·subst e; omega
   exact ih (i + 1) h j (by omega) (by omega)
theorem least {P : Nat → Prop} (h : ∃ n, P n) : ∃ n, P n ∧ ∀ m, m < n → ¬ P m := by
 obtain ⟨n, hn⟩ := h
 induction n using Nat.strongRecOn with
 | ind n ih =>
  by_cases h2 : ∃ m, m < n ∧ P m
  ·obtain ⟨m, h3, h4⟩ := h2; exact ih m h3 h4
  exact ⟨n, hn, fun m hm hp => h2 ⟨m, hm, hp⟩⟩
def Mn (g : List (List Int)) (s : Int) (m : Nat) (q : Int) : Prop := RTo g s m q ∧ ∀ j, j < m → ¬ RTo g s j q
open Classical in
noncomputable def bestK (g : List (List Int)) (s q : Int) : Int := if h : ∃ k : Nat, k < (rd_L2 g q).length ∧ ∃ m, Mn g s (m + 1) q ∧ Mn g s m (rd (rd_L2 g q) (k : Int)) then ((Classical.choose h : Nat) : Int) else 0
noncomputable def best (g : List (List Int)) (s : Int) : List Int := (List.range g.length).map fun (q : Nat) => if (q : Int) = s then 0 else bestK g s (q : Int)
theorem rd_best {g : List (List Int)} {s q : Int} (h0 : 0 ≤ q) (h1 : q < (g.length : Int)) : rd (best g s) q = if q = s then 0 else bestK g s q := by
 rw [rd_get h0 (by simpa [best] using h1)]
 simp only [best, List.getElem_map, List.getElem_range]
 rw [show ((q.toNat : Nat) : Int) = q by omega]
theorem best_rot {g : List (List Int)} (hg : goodG g = true) (s : Int) : Rot g (best g s) := by
 refine ⟨hg, rotB_of _ _ (fun i h1 h2 => ?_), by simp [best]⟩
 have e : (best g s)[i] = rd (best g s) (i : Int) := (rd_at h1).symm
 rw [e, rd_best (by omega) (by omega)]
 split
 ·omega
 ·unfold bestK
  split
  ·rename_i hs hk
   have e2 : g[i].length = (rd_L2 g (i : Int)).length := by rw [rdL_at h2]
   rw [e2]
   exact ⟨by omega, .inl (by have := (Classical.choose_spec hk).1; omega)⟩
  ·omega
theorem Hit.cons {f : Int → Int} {s q : Int} {m : Nat} (hq : q ≠ s) (h0 : 0 ≤ f q) (h : Hit f s (f q) m) : Hit f s q (m + 1) := by
 have e : ∀ j, it f (j + 1) q = it f j (f q) := fun j => by rw [Nat.add_comm, it_add]; rfl
 refine ⟨by rw [e]; exact h.at_, fun j hj => ?_⟩
 cases j with
 | zero => exact ⟨hq, h0⟩
 | succ j => rw [e]; exact h.on j (by omega)
theorem best_hit {g : List (List Int)} (hg : goodG g = true) {s : Int} : ∀ (m : Nat) (q : Int), 0 ≤ q → q < (g.length : Int) → Mn g s m q → Hit (nx g (best g s)) s q m := by
 intro m
 induction m with
 | zero =>
  intro q _ _ h
  obtain ⟨h1, _⟩ := h
  cases h1
  exact ⟨rfl, fun j hj => by omega⟩
 | succ m ih =>
  intro q q0 q1 h
  have hqs : q ≠ s := by
   rintro rfl
   exact h.2 0 (by omega) .refl
  have hk : ∃ k : Nat, k < (rd_L2 g q).length ∧ ∃ m, Mn g s (m + 1) q ∧ Mn g s m (rd (rd_L2 g q) (k : Int)) := by
   obtain ⟨h1, h2⟩ := h
   cases h1 with
   | step hy hr =>
    rename_i y
    obtain ⟨k, hk, e⟩ := List.mem_iff_getElem.1 hy
    refine ⟨k, hk, m, ⟨.step hy hr, h2⟩, ?_⟩
    rw [rd_at hk, e]
    exact ⟨hr, fun j hj hj2 => h2 (j + 1) (by omega) (.step hy hj2)⟩
  have hb : bestK g s q = ((Classical.choose hk : Nat) : Int) := by unfold bestK; rw [dif_pos hk]
  obtain ⟨k1, m2, k2, k3⟩ := Classical.choose_spec hk
  obtain rfl : m2 = m := by
   rcases Nat.lt_trichotomy m2 m with h3 | h3 | h3
   ·exact absurd k2.1 (h.2 (m2 + 1) (by omega))
   ·exact h3
   ·exact absurd h.1 (k2.2 (m + 1) (by omega))
  have hn : nx g (best g s) q = rd (rd_L2 g q) ((Classical.choose hk : Nat) : Int) := by
   unfold nx
   rw [if_neg (by omega), rd_best q0 q1, if_neg hqs, hb]
  have hin : rd (rd_L2 g q) ((Classical.choose hk : Nat) : Int) ∈ rd_L2 g q := by rw [rd_at k1]; exact List.getElem_mem _
  have hy := ((good_iff hg).2 (rd_L2 g q) (by rw [rdL_get q0 q1]; exact List.getElem_mem _)).2 _ hin
  refine Hit.cons hqs (by rw [hn]; exact hy.1) ?_
  rw [hn]
  exact ih _ hy.1 hy.2 k3
theorem best_tree {g : List (List Int)} (hg : goodG g = true) {s : Int} (s0 : 0 ≤ s) (s1 : s < (g.length : Int)) (hl : leads g s = true) : treeB g (best g s) s = true := by
 rw [treeB_iff]
 intro j hj
 have h := leadsFrom_at g.length 0 hl j (by omega) (by omega)
 obtain ⟨m, hm, hm2⟩ := least (rto_of_fw (far_fw (place_of hg hj) s0 s1 h))
 exact ⟨m, best_hit hg m _ (by omega) (by omega) ⟨hm, hm2⟩⟩
theorem ext_rd {a b : List Int} (hl : a.length = b.length) (h : ∀ i : Nat, i < a.length → rd a (i : Int) = rd b (i : Int)) : a = b := by
 apply List.ext_getElem hl
 intro i h1 h2
 have := h i h1
 rwa [rd_at h1, rd_at h2] at this
theorem in_lexL {g : List (List Int)} {s : Int} : ∀ (d p : Nat) (r r2 : List Int), p + d = g.length → r.length = g.length → Rot g r2 → (∀ i : Nat, (i : Int) = s → rd r2 (i : Int) = rd r (i : Int)) → (∀ i : Nat, i < p → rd r2 (i : Int) = rd r (i : Int)) → r2 ∈ lexL g s d p r := by
 intro d
 induction d with
 | zero =>
  intro p r r2 hp hl hr hs ha
  simp only [lexL, List.mem_singleton]
  have := hr.len
  exact ext_rd (by omega) (fun i hi => ha i (by omega))
 | succ d ih =>
  intro p r r2 hp hl hr hs ha
  have hl2 := hr.len
  simp only [lexL]
  by_cases h : (p : Int) = s
  ·rw [if_pos h]
   refine ih (p + 1) r r2 (by omega) hl hr hs (fun i hi => ?_)
   by_cases e : i = p
   ·rw [e]; exact hs p h
   exact ha i (by omega)
  rw [if_neg h, List.mem_flatMap]
  obtain ⟨a, b⟩ := rot_rd hr.rb hl2 (p := (p : Int)) (by omega) (by omega)
  have h00 : (rd_L2 g (p : Int)).length = 0 → rd r2 (p : Int) = 0 := by
   intro h0
   have := rot_at r2 g hr.rb p (by omega) (by omega)
   rw [rd_at (by omega)]
   rw [rdL_at (by omega)] at h0
   omega
  refine ⟨(rd r2 (p : Int)).toNat, by rw [List.mem_range]; omega, ih (p + 1) _ r2 (by omega) (by simp [hl]) hr (fun i hi => ?_) (fun i hi => ?_)⟩
  ·rw [rd_set_nat (by omega) (by omega), if_neg (by omega)]; exact hs i hi
  ·rw [rd_set_nat (by omega) (by omega)]
   by_cases e : i = p
   ·subst e; rw [if_pos rfl]; omega
   rw [if_neg (by omega)]; exact ha i (by omega)
theorem trL_some {g : List (List Int)} (hg : goodG g = true) {s : Int} (s0 : 0 ≤ s) (s1 : s < (g.length : Int)) (hl : leads g s = true) : trL g s g.length 0 (List.replicate g.length 0) ≠ [] := by
 rw [← filter_lexL s0 s1 g.length 0 _ (by omega) (rot0 hg) (inv0 g s _)]
 intro h
 rw [List.filter_eq_nil_iff] at h
 refine h (best g s) (in_lexL g.length 0 _ _ (by omega) (by simp) (best_rot hg s) (fun i hi => ?_) (fun i hi => by omega)) (best_tree hg s0 s1 hl)
 have hi2 : i < g.length := by omega
 rw [rd_best (by omega) (by omega), if_pos hi, rd_at (by simpa using hi2)]
 simp
open DetKit
def hgt : Nat → Int
 | 0 => 0
 | 1 => 64
 | 2 => 80
 | 3 => 84
 | _ => 85
theorem hgt_le (m : Nat) : 0 ≤ hgt m ∧ hgt m ≤ 85 := by unfold hgt; split <;> omega
theorem hgt_step {m : Nat} (h : m + 1 ≤ 4) {l : Nat} (hl : l ≤ 4) : 1 ≤ (l : Int) * (hgt (m + 1) - 85) + (85 - hgt m) := by
 have : m = 0 ∨ m = 1 ∨ m = 2 ∨ m = 3 := by omega
 rcases this with rfl | rfl | rfl | rfl <;> simp only [hgt] <;> omega
theorem small_pile {g : List (List Int)} (hg : goodG g = true) (h5 : g.length ≤ 5) (h4 : ∀ p : Nat, p < g.length → (rd_L2 g (p : Int)).length ≤ 4) {s : Nat} (hs : s < g.length) (hl : leads g (s : Int) = true) : ∃ h, Pile (g.length - 1) (LL g s) (dd g s) h ∧ ∀ i, h i ≤ 85 := by
 have hT := treeB_iff.1 (best_tree hg (s := (s : Int)) (by omega) (by omega) hl)
 have hR := best_rot hg (s : Int)
 generalize best g (s : Int) = b at hT hR
 have hc : ∀ j : Nat, ∃ m, j < g.length → Hit (nx g b) (s : Int) (j : Int) m := fun j => by
  by_cases hj : j < g.length
  ·obtain ⟨m, hm⟩ := hT j hj; exact ⟨m, fun _ => hm⟩
  exact ⟨0, fun h => absurd h hj⟩
 obtain ⟨δ, hδ⟩ := Classical.axiomOfChoice hc
 have δs : δ s = 0 := (hδ s hs).uniq ⟨rfl, fun j hj => by omega⟩
 refine ⟨fun i => hgt (δ (skip s i)), ⟨fun i j _ _ hij => LL_off g s i j hij, fun i _ => LL_dl g s i, fun i _ => (hgt_le _).1, fun i hi => ?_⟩, fun i => (hgt_le _).2⟩
 have hp : skip s i < g.length := skip_lt' hi
 have hps := skip_ne s i
 have hit := hδ (skip s i) hp
 have hlt := hit.lt hR (by omega) (by omega)
 have e1 : sm (g.length - 1) (fun j => LL g s i j * hgt (δ (skip s j))) = sm (rd_L2 g ((skip s i : Nat) : Int)).length (fun k => hgt (δ (skip s i)) - hgt (δ (rd (rd_L2 g ((skip s i : Nat) : Int)) (k : Int)).toNat)) := by
  rw [sm_congr (g := fun j => sm (rd_L2 g ((skip s i : Nat) : Int)).length (fun k => ((if skip s i = skip s j then (1 : Int) else 0) - (if rd (rd_L2 g ((skip s i : Nat) : Int)) (k : Int) = ((skip s j : Nat) : Int) then 1 else 0)) * hgt (δ (skip s j)))) (fun j _ => by
   unfold LL Lp
   rw [Int.mul_comm, ← sm_mul]
   exact sm_congr (fun k _ => by rw [Int.one_mul, Int.mul_comm])), sm_swap]
  refine sm_congr (fun k hk => ?_)
  have hq := (row_good hg hp).2 (rd (rd_L2 g ((skip s i : Nat) : Int)) (k : Int)) (by rw [rd_at hk]; exact List.getElem_mem _)
  generalize rd (rd_L2 g ((skip s i : Nat) : Int)) (k : Int) = q at hq ⊢
  rw [sm_congr (g := fun j => (if skip s i = skip s j then (1 : Int) else 0) * hgt (δ (skip s j)) + (-1) * ((if q = ((skip s j : Nat) : Int) then 1 else 0) * hgt (δ (skip s j)))) (fun j _ => by rw [Int.sub_mul]; omega), sm_add, sm_mul]
  rw [sm_one (f := fun j => (if skip s i = skip s j then (1 : Int) else 0) * hgt (δ (skip s j))) hi (fun j _ hj => by rw [if_neg (fun e => hj (skip_eq.1 e).symm), Int.zero_mul]), if_pos rfl]
  by_cases e : q = (s : Int)
  ·rw [sm_zero (fun j _ => by rw [if_neg (fun h => skip_ne s j (by omega)), Int.zero_mul]), e, Int.toNat_natCast, δs]
   simp only [hgt]; omega
  have hu : usk s q.toNat < g.length - 1 := usk_lt (by omega) hs (by omega)
  have hk2 : skip s (usk s q.toNat) = q.toNat := skip_usk (by omega)
  rw [sm_one (f := fun j => (if q = ((skip s j : Nat) : Int) then (1 : Int) else 0) * hgt (δ (skip s j))) hu (fun j _ hj => by rw [if_neg (fun h => hj (by rw [h, Int.toNat_natCast, usk_skip])), Int.zero_mul]), hk2, if_pos (by omega)]
  omega
 rw [e1]
 obtain ⟨m, hm⟩ : ∃ m, δ (skip s i) = m + 1 := by
  cases hd : δ (skip s i) with
  | zero => rw [hd] at hit; exact absurd hit.at_ (fun e => hps (by simp only [it] at e; omega))
  | succ m => exact ⟨m, rfl⟩
 rw [hm] at hit hlt
 obtain ⟨ht, h0⟩ := hit.tail
 obtain ⟨r, hr, hnx⟩ : ∃ r : Nat, r < (rd_L2 g ((skip s i : Nat) : Int)).length ∧ nx g b ((skip s i : Nat) : Int) = rd (rd_L2 g ((skip s i : Nat) : Int)) (r : Int) := by
  unfold nx at h0 ⊢
  by_cases e : ((rd_L2 g ((skip s i : Nat) : Int)).length : Int) = 0
  ·rw [if_pos e] at h0; omega
  rw [if_neg e] at h0 ⊢
  have := rot_rd hR.rb hR.len (p := ((skip s i : Nat) : Int)) (by omega) (by omega)
  exact ⟨(rd b ((skip s i : Nat) : Int)).toNat, by omega, by rw [show (((rd b ((skip s i : Nat) : Int)).toNat : Nat) : Int) = rd b ((skip s i : Nat) : Int) by omega]⟩
 have hq := (row_good hg hp).2 (rd (rd_L2 g ((skip s i : Nat) : Int)) (r : Int)) (by rw [rd_at hr]; exact List.getElem_mem _)
 rw [hnx] at ht
 have hδr : δ (rd (rd_L2 g ((skip s i : Nat) : Int)) (r : Int)).toNat = m := by
  have := hδ (rd (rd_L2 g ((skip s i : Nat) : Int)) (r : Int)).toNat (by omega)
  rw [show (((rd (rd_L2 g ((skip s i : Nat) : Int)) (r : Int)).toNat : Nat) : Int) = rd (rd_L2 g ((skip s i : Nat) : Int)) (r : Int) by omega] at this
  exact this.uniq ht
 have h1 := hgt_step (m := m) (by omega) (h4 (skip s i) hp)
 have h2 : sm (rd_L2 g ((skip s i : Nat) : Int)).length (fun k => (hgt (m + 1) - 85) + (85 - hgt m) * (if k = r then 1 else 0)) ≤ sm (rd_L2 g ((skip s i : Nat) : Int)).length (fun k => hgt (δ (skip s i)) - hgt (δ (rd (rd_L2 g ((skip s i : Nat) : Int)) (k : Int)).toNat)) := by
  refine sm_le (fun k hk => ?_)
  rw [hm]
  by_cases e : k = r
  ·subst e; rw [if_pos rfl, hδr]; omega
  rw [if_neg e]; have := (hgt_le (δ (rd (rd_L2 g ((skip s i : Nat) : Int)) (k : Int)).toNat)).2; omega
 rw [sm_add, sm_const, sm_unit _ (fun _ => 85 - hgt m) r hr] at h2
 omega
def fullRow (g : List (List Int)) (sink : Int) (i : Nat) : Int := if (i : Int) = sink then 0 else ((rd_L2 g i).length : Int) - 1
def fullFrom (g : List (List Int)) (sink : Int) : Nat → Nat → List Int → List Int
 | 0, _, acc => acc
 | d + 1, i, acc => fullFrom g sink d (i + 1) (acc ++ [fullRow g sink i])
def full (g : List (List Int)) (sink : Int) : List Int := fullFrom g sink g.length 0 []
theorem fullFrom_len (g : List (List Int)) (sink : Int) : ∀ (d i : Nat) (acc : List Int), (fullFrom g sink d i acc).length = acc.length + d := by
 intro d
 induction d with
 | zero => intro i acc; rfl
 | succ d ih => intro i acc; simp only [fullFrom]; rw [ih]; simp; omega
theorem full_len (g : List (List Int)) (sink : Int) : (full g sink).length = g.length := by unfold full; rw [fullFrom_len]; simp
theorem fullHeap_l0 {g : List (List Int)} (hg : goodG g = true) (sink : Int) : ∀ (d i : Nat) (acc : List Int), g.length - i = d → i ≤ g.length → acc.length = i → Ev (fun k => yp0.l0 k sink acc g g.length i) (fullFrom g sink d i acc) := by
 have h8 := (good_iff hg).1
 intro d
 induction d with
 | zero =>
  intro i acc hd hi ha
  refine Ev.succ ?_
  simp only [yp0.l0]
  exact Ev.neg (by omega) (Ev.now _)
 | succ d ih =>
  intro i acc hd hi ha
  have hrow := ((good_iff hg).2 (rd_L2 g i) (by rw [rdL_at (by omega)]; exact List.getElem_mem _)).1
  refine Ev.succ ?_
  simp only [yp0.l0, fullFrom, fullRow]
  refine Ev.pos (by omega) (Ev.pos (by omega) (Ev.pos (by omega) ?_))
  rw [wrap_nat (by omega), wrap_id (x := ((rd_L2 g i).length : Int) - 1) (by omega)]
  by_cases h : (i : Int) = sink
  ·rw [if_pos h]
   exact Ev.pos h (Ev.pos (by omega) (ih (i + 1) _ (by omega) (by omega) (by simp; omega)))
  rw [if_neg h]
  exact Ev.neg h (Ev.pos (by omega) (ih (i + 1) _ (by omega) (by omega) (by simp; omega)))
theorem fullHeap_ev {g : List (List Int)} (hg : goodG g = true) (sink : Int) : Ev (fun k => yp0.f k g sink) (full g sink) := fullHeap_l0 hg sink g.length 0 [] (by omega) (by omega) rfl
theorem chFull_l0 {g : List (List Int)} (hg : goodG g = true) (sink : Int) : ∀ (d i : Nat) (acc : List Int), g.length - i = d → i ≤ g.length → acc.length = i → Ev (fun k => yo0.l0 k sink acc g g.length i) (fullFrom g sink d i acc) := by
 have h8 := (good_iff hg).1
 intro d
 induction d with
 | zero =>
  intro i acc hd hi ha
  refine Ev.succ ?_
  simp only [yo0.l0]
  exact Ev.neg (by omega) (Ev.now _)
 | succ d ih =>
  intro i acc hd hi ha
  have hrow := ((good_iff hg).2 (rd_L2 g i) (by rw [rdL_at (by omega)]; exact List.getElem_mem _)).1
  refine Ev.succ ?_
  simp only [yo0.l0, fullFrom, fullRow]
  refine Ev.pos (by omega) (Ev.pos (by omega) (Ev.pos (by omega) ?_))
  rw [wrap_nat (by omega), wrap_id (x := ((rd_L2 g i).length : Int) - 1) (by omega)]
  by_cases h : (i : Int) = sink
  ·rw [if_pos h]
   exact Ev.pos h (Ev.pos (by omega) (ih (i + 1) _ (by omega) (by omega) (by simp; omega)))
  rw [if_neg h]
  exact Ev.neg h (Ev.pos (by omega) (ih (i + 1) _ (by omega) (by omega) (by simp; omega)))
theorem chFull_ev {g : List (List Int)} (hg : goodG g = true) (sink : Int) : Ev (fun k => yo0.f k g sink) (full g sink) := chFull_l0 hg sink g.length 0 [] (by omega) (by omega) rfl
theorem equal_l0 (x y : List Int) (hl : x.length ≤ 9223372036854775807) (hxy : x.length = y.length) : ∀ (d i : Nat), x.length - i = d → i ≤ x.length → Ev (fun k => yd1.l0 k x y x.length i) (decide (x.drop i = y.drop i)) := by
 intro d
 induction d with
 | zero =>
  intro i hd hi
  refine Ev.const1 (fun k => ?_)
  simp only [yd1.l0]
  rw [if_neg (by omega), List.drop_of_length_le (by omega), List.drop_of_length_le (by omega)]
  simp
 | succ d ih =>
  intro i hd hi
  have hlt : i < x.length := by omega
  have hlt2 : i < y.length := by omega
  rw [List.drop_eq_getElem_cons hlt, List.drop_eq_getElem_cons hlt2]
  by_cases e : x[i] = y[i]
  ·refine Ev.step (f := fun k => yd1.l0 k x y x.length (i + 1 : Nat)) (fun k => ?_) ((ih (i + 1) (by omega) (by omega)).val (cons_dec e))
   simp only [yd1.l0]
   rw [if_pos (by omega), if_pos (by omega), if_pos (by omega), if_pos (by omega), rd_at hlt, rd_at hlt2, if_pos e, wrap_nat (by omega)]
  refine Ev.const1 (fun k => ?_)
  simp only [yd1.l0]
  rw [if_pos (by omega), if_pos (by omega), if_pos (by omega), if_pos (by omega), rd_at hlt, rd_at hlt2, if_neg e, decide_eq_false (fun h => e (List.cons.inj h).1)]
theorem equal_ev (x y : List Int) (hl : x.length ≤ 9223372036854775807) : Ev (fun k => yd1.f k x y) (decide (x = y)) := by
 unfold yd1.f
 by_cases h : x.length = y.length
 ·refine Ev.pos (by omega) ?_
  exact equal_l0 x y hl h x.length 0 (by omega) (by omega)
 refine Ev.neg (by omega) ?_
 exact (Ev.now _).val (by have : x ≠ y := fun e => h (by rw [e]); simp [this])
theorem same_l0 (x y : List Int) (hl : x.length ≤ 9223372036854775807) (hxy : x.length = y.length) : ∀ (d i : Nat), x.length - i = d → i ≤ x.length → Ev (fun k => yc1.l0 k x y x.length i) (decide (x.drop i = y.drop i)) := by
 intro d
 induction d with
 | zero =>
  intro i hd hi
  refine Ev.const1 (fun k => ?_)
  simp only [yc1.l0]
  rw [if_neg (by omega), List.drop_of_length_le (by omega), List.drop_of_length_le (by omega)]
  simp
 | succ d ih =>
  intro i hd hi
  have hlt : i < x.length := by omega
  have hlt2 : i < y.length := by omega
  rw [List.drop_eq_getElem_cons hlt, List.drop_eq_getElem_cons hlt2]
  by_cases e : x[i] = y[i]
  ·refine Ev.step (f := fun k => yc1.l0 k x y x.length (i + 1 : Nat)) (fun k => ?_) ((ih (i + 1) (by omega) (by omega)).val (cons_dec e))
   simp only [yc1.l0]
   rw [if_pos (by omega), if_pos (by omega), if_pos (by omega), if_pos (by omega), rd_at hlt, rd_at hlt2, if_pos e, wrap_nat (by omega)]
  refine Ev.const1 (fun k => ?_)
  simp only [yc1.l0]
  rw [if_pos (by omega), if_pos (by omega), if_pos (by omega), if_pos (by omega), rd_at hlt, rd_at hlt2, if_neg e, decide_eq_false (fun h => e (List.cons.inj h).1)]
theorem same_ev (x y : List Int) (hl : x.length ≤ 9223372036854775807) : Ev (fun k => yc1.f k x y) (decide (x = y)) := by
 unfold yc1.f
 by_cases h : x.length = y.length
 ·refine Ev.pos (by omega) ?_
  exact same_l0 x y hl h x.length 0 (by omega) (by omega)
 refine Ev.neg (by omega) ?_
 exact (Ev.now _).val (by have : x ≠ y := fun e => h (by rw [e]); simp [this])
open DetKit
structure Ctx (g : List (List Int)) (s : Nat) : Prop where
 hg : goodG g = true
 hs : s < g.length
 h5 : g.length ≤ 5
 h4 : ∀ p : Nat, p < g.length → (rd_L2 g (p : Int)).length ≤ 4
 hl : leads g (s : Int) = true
def zl (g : List (List Int)) : List Int := List.replicate g.length 0
theorem fullFrom_rd (g : List (List Int)) (s : Int) : ∀ (d i : Nat) (acc : List Int), acc.length = i → (∀ j : Nat, j < i → rd acc (j : Int) = fullRow g s j) → ∀ j : Nat, j < i + d → rd (fullFrom g s d i acc) (j : Int) = fullRow g s j := by
 intro d
 induction d with
 | zero => intro i acc _ h j hj; exact h j (by omega)
 | succ d ih =>
  intro i acc hl h j hj
  simp only [fullFrom]
  refine ih (i + 1) _ (by simp; omega) (fun t ht => ?_) j (by omega)
  rw [rd_at (by simp; omega)]
  by_cases e : t < acc.length
  ·rw [List.getElem_append_left e, ← rd_at e]; exact h t (by omega)
  obtain rfl : t = acc.length := by omega
  rw [List.getElem_append_right (Nat.le_refl _)]
  simp [hl]
theorem full_rd (g : List (List Int)) (s : Int) {p : Nat} (hp : p < g.length) : rd (full g s) (p : Int) = if (p : Int) = s then 0 else ((rd_L2 g (p : Int)).length : Int) - 1 := by
 unfold full
 rw [fullFrom_rd g s g.length 0 [] rfl (fun j h => absurd h (by omega)) p (by omega)]
 rfl
theorem sett_more {g : List (List Int)} {sink : Int} : ∀ (m : Nat) (c t : List Int) (e : Nat), (sett g sink m c t).2.2 = true → sett g sink (m + e) c t = sett g sink m c t := by
 intro m
 induction m with
 | zero =>
  intro c t e h
  simp only [sett] at h
  by_cases hf : fst g sink c g.length 0 = g.length
  rotate_left
  ·rw [if_neg hf] at h; exact absurd h (by simp)
  cases e with
  | zero => rfl
  | succ e => rw [Nat.zero_add]; simp only [sett]; rw [if_pos hf, if_pos hf]
 | succ m ih =>
  intro c t e h
  rw [show m + 1 + e = (m + e) + 1 by omega]
  simp only [sett] at h ⊢
  by_cases hf : fst g sink c g.length 0 = g.length
  ·rw [if_pos hf, if_pos hf]
  rw [if_neg hf] at h
  rw [if_neg hf, if_neg hf]; exact ih _ _ e h
theorem Ctx.pile {g : List (List Int)} {s : Nat} (X : Ctx g s) : ∃ h, Pile (g.length - 1) (LL g s) (dd g s) h ∧ ∀ i, h i ≤ 85 := small_pile X.hg X.h5 X.h4 X.hs X.hl
theorem Ctx.ends {g : List (List Int)} {s : Nat} (X : Ctx g s) {c : List Int} (hc : c.length = g.length) (hb : ∀ q : Nat, q < g.length → 0 ≤ rd c (q : Int) ∧ rd c (q : Int) ≤ 11) : (sett g (s : Int) 4000 c (zl g)).2.2 = true := by
 obtain ⟨h, P, h85⟩ := X.pile
 have h5 := X.h5
 refine sett_few X.hg X.hs (B := 11) (by omega) 4000 c (zl g) _ 0 (Run.start hc hb) (by omega) (fun U K hl => ?_)
 have hx : ∀ j, j < g.length - 1 → 0 ≤ vec s c j ∧ vec s c j ≤ 11 := fun j hj => hb _ (skip_lt' hj)
 have h1 := hl.few P (fun j hj => (hx j hj).1)
 have h2 : sm (g.length - 1) (fun j => vec s c j * h j) ≤ sm (g.length - 1) (fun _ => 935) := by
  refine sm_le (fun j hj => ?_)
  have a1 : vec s c j * h j ≤ 11 * h j := Int.mul_le_mul_of_nonneg_right (hx j hj).2 (P.h0 j hj)
  have := h85 j
  omega
 rw [sm_const] at h2
 have h3 : ((g.length - 1 : Nat) : Int) * 935 ≤ 4 * 935 := Int.mul_le_mul_of_nonneg_right (by omega) (by omega)
 omega
def dbl (g : List (List Int)) (s : Int) : List Int := (full g s).map fun x => 2 * x
theorem dbl_len (g : List (List Int)) (s : Int) : (dbl g s).length = g.length := by unfold dbl; rw [List.length_map, full_len]
theorem dbl_rd (g : List (List Int)) (s : Int) {p : Nat} (hp : p < g.length) : rd (dbl g s) (p : Int) = 2 * rd (full g s) (p : Int) := by
 have := full_len g s
 rw [rd_at (by rw [dbl_len]; exact hp), rd_at (by omega)]
 simp [dbl]
def addL (c d l : List Int) : List Int := (List.range c.length).map fun p : Nat => rd c (p : Int) + rd d (p : Int) - rd l (p : Int)
theorem addL_len (c d l : List Int) : (addL c d l).length = c.length := by simp [addL]
theorem addL_rd (c d l : List Int) {p : Nat} (hp : p < c.length) : rd (addL c d l) (p : Int) = rd c (p : Int) + rd d (p : Int) - rd l (p : Int) := by
 rw [rd_at (by rw [addL_len]; exact hp)]
 simp [addL]
theorem take_snoc {l : List Int} {i : Nat} (h : i < l.length) : l.take i ++ [rd l (i : Int)] = l.take (i + 1) := by
 rw [List.take_succ_eq_append_getElem h, rd_at h]
theorem set_take {l x : List Int} {i : Nat} (hl : x.length = l.length) (h : i < l.length) (ht : x.take i = l.take i) : (x.set i (rd l (i : Int))).take (i + 1) = l.take (i + 1) := by
 rw [List.take_succ_eq_append_getElem (by rw [List.length_set]; omega), List.take_succ_eq_append_getElem h, List.take_set_of_le (Nat.le_refl _), ht, List.getElem_set_self, rd_at h]
def R1 (g : List (List Int)) (s : Int) : List Int × List Int × Bool := sett g s 4000 (dbl g s) (zl g)
def mor (g : List (List Int)) (s : Int) (c : List Int) : List Int := addL c (dbl g s) (R1 g s).1
def R2 (g : List (List Int)) (s : Int) (c : List Int) : List Int × List Int × Bool := sett g s 4000 (mor g s c) (zl g)
def recB (g : List (List Int)) (s : Int) (c : List Int) : Bool := decide ((R2 g s c).1 = c)
def Low (g : List (List Int)) (s : Nat) (c : List Int) : Prop := c.length = g.length ∧ rd c (s : Int) = 0 ∧ ∀ p : Nat, p < g.length → 0 ≤ rd c (p : Int) ∧ rd c (p : Int) ≤ rd (full g (s : Int)) (p : Int)
theorem Ctx.full_b {g : List (List Int)} {s : Nat} (X : Ctx g s) {p : Nat} (hp : p < g.length) : 0 ≤ rd (full g (s : Int)) (p : Int) ∧ rd (full g (s : Int)) (p : Int) ≤ 3 := by
 rw [full_rd g (s : Int) hp]
 by_cases e : (p : Int) = (s : Int)
 ·rw [if_pos e]; omega
 rw [if_neg e]
 have h4 := X.h4 p hp
 obtain ⟨h, P, _⟩ := X.pile
 have hps : p ≠ s := by omega
 have := P.one (usk_lt hp X.hs hps)
 unfold dd at this
 rw [skip_usk hps] at this
 omega
theorem Ctx.dbl_b {g : List (List Int)} {s : Nat} (X : Ctx g s) : ∀ q : Nat, q < g.length → 0 ≤ rd (dbl g (s : Int)) (q : Int) ∧ rd (dbl g (s : Int)) (q : Int) ≤ 6 := fun q hq => by
 rw [dbl_rd g _ hq]; have := X.full_b hq; omega
theorem Ctx.burn {g : List (List Int)} {s : Nat} (X : Ctx g s) : (R1 g (s : Int)).2.2 = true ∧ (R1 g (s : Int)).1.length = g.length ∧ rd (R1 g (s : Int)).1 (s : Int) = 0 ∧ (∀ q : Nat, q < g.length → 0 ≤ rd (R1 g (s : Int)).1 (q : Int) ∧ rd (R1 g (s : Int)).1 (q : Int) ≤ 6) ∧
  ∃ h w, Burn (g.length - 1) (LL g s) (dd g s) h w (fun i => vec s (dbl g (s : Int)) i - vec s (R1 g (s : Int)).1 i) := by
 have he : (R1 g (s : Int)).2.2 = true := X.ends (dbl_len g _) (fun q hq => by have := X.dbl_b q hq; omega)
 obtain ⟨h, P, _⟩ := X.pile
 obtain ⟨U, K, ru, su, eu, _, _⟩ := sett_ok X.hg X.hs (B := 6) (by omega) 4000 (dbl g (s : Int)) (zl g) _ 0 (Run.start (dbl_len g _) X.dbl_b) (by omega) he
 have hz : rd (dbl g (s : Int)) (s : Int) = 0 := by rw [dbl_rd g _ X.hs, full_rd g _ X.hs, if_pos rfl]; rfl
 have hd : ∀ i, i < g.length - 1 → vec s (dbl g (s : Int)) i = 2 * (dd g s i - 1) := fun i hi => by
  unfold vec dd
  rw [dbl_rd g _ (skip_lt' hi), full_rd g _ (skip_lt' hi), if_neg (fun e => skip_ne s i (by omega))]
 refine ⟨he, ru.cl, ?_, fun q hq => ⟨(ru.cb q hq).1, ?_⟩, h, U, P, ?_, fun j hj => ?_⟩
 ·show rd (sett g (s : Int) 4000 (dbl g (s : Int)) (zl g)).1 (s : Int) = 0
  rw [eu, hz]
 ·by_cases e : q = s
  ·subst e
   show rd (sett g (q : Int) 4000 (dbl g (q : Int)) (zl g)).1 (q : Int) ≤ 6
   rw [eu, hz]; omega
  have h1 := su (usk s q) (usk_lt hq X.hs e)
  rw [← ru.ce _ (usk_lt hq X.hs e)] at h1
  unfold vec dd at h1
  rw [skip_usk e] at h1
  have := X.h4 q hq
  show rd (sett g (s : Int) 4000 (dbl g (s : Int)) (zl g)).1 (q : Int) ≤ 6
  omega
 ·exact Stz.congr hd ⟨⟨K, ru.leg⟩, su⟩
 ·have := ru.ce j hj
  show vec s (dbl g (s : Int)) j - vec s (sett g (s : Int) 4000 (dbl g (s : Int)) (zl g)).1 j = _
  rw [this]; unfold aft; omega
theorem Ctx.mor_b {g : List (List Int)} {s : Nat} (X : Ctx g s) {c : List Int} (hc : Low g s c) : (mor g (s : Int) c).length = g.length ∧ rd (mor g (s : Int) c) (s : Int) = 0 ∧ ∀ q : Nat, q < g.length → 0 ≤ rd (mor g (s : Int) c) (q : Int) ∧ rd (mor g (s : Int) c) (q : Int) ≤ 11 := by
 obtain ⟨h1, h2, h3, h4, h, w, B⟩ := X.burn
 obtain ⟨c1, c2, c3⟩ := hc
 have hz : rd (dbl g (s : Int)) (s : Int) = 0 := by rw [dbl_rd g _ X.hs, full_rd g _ X.hs, if_pos rfl]; rfl
 unfold mor
 refine ⟨by rw [addL_len]; exact c1, ?_, fun q hq => ?_⟩
 ·rw [addL_rd c _ _ (by rw [c1]; exact X.hs), c2, hz, h3]; omega
 ·rw [addL_rd c _ _ (by omega)]
  have a1 := c3 q hq
  have a2 := X.full_b hq
  have a3 := X.dbl_b q hq
  have a4 := h4 q hq
  by_cases e : q = s
  ·subst e; rw [hz, h3]; omega
  have h5 := B.ge (j := usk s q) (usk_lt hq X.hs e)
  have h6 := B.pile.one (usk_lt hq X.hs e)
  unfold vec at h5
  rw [skip_usk e] at h5
  omega
theorem Low.heap0 {g : List (List Int)} {s : Nat} {c : List Int} (hc : Low g s c) : Heap0 (g.length - 1) (dd g s) (vec s c) := fun i hi => by
 have := hc.2.2 (skip s i) (skip_lt' hi)
 rw [full_rd g _ (skip_lt' hi), if_neg (fun e => skip_ne s i (by omega))] at this
 unfold vec dd
 omega
theorem Ctx.rec_iff {g : List (List Int)} {s : Nat} (X : Ctx g s) {c : List Int} (hc : Low g s c) : (R2 g (s : Int) c).2.2 = true ∧ (R2 g (s : Int) c).1.length = g.length ∧ (recB g (s : Int) c = true ↔ Rec (g.length - 1) (LL g s) (dd g s) (fun i => vec s (dbl g (s : Int)) i - vec s (R1 g (s : Int)).1 i) (vec s c)) := by
 obtain ⟨m1, m2, m3⟩ := X.mor_b hc
 have he : (R2 g (s : Int) c).2.2 = true := X.ends m1 m3
 obtain ⟨U, K, ru, su, eu, _, _⟩ := sett_ok X.hg X.hs (B := 11) (by omega) 4000 (mor g (s : Int) c) (zl g) _ 0 (Run.start m1 m3) (by omega) he
 have hv : ∀ i, i < g.length - 1 → vec s (mor g (s : Int) c) i = vec s c i + (vec s (dbl g (s : Int)) i - vec s (R1 g (s : Int)).1 i) := fun i hi => by
  unfold vec mor
  rw [addL_rd c _ _ (by rw [hc.1]; exact skip_lt' hi)]; omega
 have st : Stz (g.length - 1) (LL g s) (dd g s) (fun j => vec s c j + (vec s (dbl g (s : Int)) j - vec s (R1 g (s : Int)).1 j)) U := Stz.congr hv ⟨⟨K, ru.leg⟩, su⟩
 refine ⟨he, ru.cl, ?_⟩
 unfold recB
 rw [decide_eq_true_eq]
 constructor
 ·intro e
  refine ⟨U, st, fun j hj => ?_⟩
  have h1 := ru.ce j hj
  change vec s (R2 g (s : Int) c).1 j = _ at h1
  rw [e] at h1
  rw [h1]
  exact aft_congr (hv j hj).symm (fun _ _ => rfl)
 ·rintro ⟨u, hu, hue⟩
  refine ext_vec (s := s) (by rw [show (R2 g (s : Int) c).1.length = g.length from ru.cl, hc.1]) (by rw [show (R2 g (s : Int) c).1.length = g.length from ru.cl]; exact X.hs) ?_ (fun i hi => ?_)
  ·rw [show rd (R2 g (s : Int) c).1 (s : Int) = _ from eu, m2, hc.2.1]
  ·rw [show (R2 g (s : Int) c).1.length = g.length from ru.cl] at hi
   rw [show vec s (R2 g (s : Int) c).1 i = _ from ru.ce i hi, ← hue i hi, hu.end_ (fun i j _ _ hij => LL_off g s i j hij) st i]
   exact aft_congr (hv i hi) (fun _ _ => rfl)
theorem isStable_l0 {g : List (List Int)} (h8 : g.length ≤ 8) (sink : Int) (l : List Int) (hl : l.length = g.length) : ∀ (d i : Nat), g.length - i = d → i ≤ g.length → Ev (fun k => ye1.l0 k sink l g.length i g) (decide (fst g sink l d i = g.length)) := by
 intro d
 induction d with
 | zero =>
  intro i hd hi
  refine Ev.succ ?_
  simp only [ye1.l0]
  refine Ev.neg (by omega) ((Ev.now _).val ?_)
  rw [show fst g sink l 0 i = i from rfl, decide_eq_true (by omega)]
 | succ d ih =>
  intro i hd hi
  refine Ev.succ ?_
  simp only [ye1.l0]
  have hf : fst g sink l (d + 1) i = if canB g sink l i = true then i else fst g sink l d (i + 1) := rfl
  refine Ev.pos (by omega) (Ev.bind0 (canTopple (by omega) (by omega) (by omega)) ?_)
  by_cases hc : canB g sink l i = true
  ·rw [show fst g sink l (d + 1) i = i by rw [hf, hc]; rfl]
   refine Ev.pos hc ((Ev.now _).val ?_)
   rw [decide_eq_false (by omega)]
  rw [show fst g sink l (d + 1) i = fst g sink l d (i + 1) by rw [hf, if_neg hc]]
  refine Ev.neg hc ?_
  rw [wrap_nat (by omega)]
  exact ih (i + 1) (by omega) (by omega)
theorem isStable_ev {g : List (List Int)} (h8 : g.length ≤ 8) (sink : Int) (l : List Int) (hl : l.length = g.length) : Ev (fun k => ye1.f k g sink l) (decide (high g sink l < 0)) := by
 unfold ye1.f
 rw [hl]
 refine (isStable_l0 h8 sink l hl g.length 0 (by omega) (by omega)).val ?_
 unfold high
 by_cases h : fst g sink l g.length 0 = g.length
 ·rw [if_pos h, decide_eq_true h]; rfl
 rw [if_neg h, decide_eq_false h, decide_eq_false (by omega)]
open DetKit
theorem full_take_end {l : List Int} {i : Nat} (h : i = l.length) : l.take i = l := by subst h; exact List.take_length
theorem tri {r : List Int × List Int × Bool} (h : r.2.2 = true) : ∃ a t, r = (a, t, true) := by
 obtain ⟨a, t, b⟩ := r
 exact ⟨a, t, by rw [show b = true from h]⟩
theorem mor_eq {g : List (List Int)} {s : Int} {a t : List Int} {b : Bool} (h : R1 g s = (a, t, b)) (c : List Int) : mor g s c = addL c (dbl g s) a := by unfold mor; rw [h]
theorem recB_eq {g : List (List Int)} {s : Int} {c a t : List Int} {b : Bool} (h : R2 g s c = (a, t, b)) : recB g s c = decide (a = c) := by unfold recB; rw [h]
theorem sett_3m {g : List (List Int)} {s : Int} {c t : List Int} (h : (sett g s 4000 c t).2.2 = true) : sett g s 3000000 c t = sett g s 4000 c t := by
 have := sett_more 4000 c t 2996000 h
 rw [show 4000 + 2996000 = 3000000 from rfl] at this
 exact this
theorem Ctx.both {g : List (List Int)} {s : Nat} (X : Ctx g s) {c a t : List Int} (hc : c.length = g.length) (h : sett g (s : Int) 4000 c (zl g) = (a, t, true)) : Ev (fun k => yg0.f k g s c 3000000) (a, t, true) ∧ Ev (fun k => yi0.f k g s c) (a, t, true) := by
 have h3 : sett g (s : Int) 3000000 c (zl g) = (a, t, true) := by rw [sett_3m (by rw [h]), h]
 have e1 := settI_ev X.hg (s : Int) c hc 3000000 (by omega)
 have e2 := settS_ev X.hg (s : Int) c hc
 rw [show List.replicate g.length (0 : Int) = zl g from rfl] at e1 e2
 rw [h3] at e1
 rw [h] at e2
 exact ⟨e1, e2⟩
theorem Ctx.one {g : List (List Int)} {s : Nat} (X : Ctx g s) : ∃ st t, R1 g (s : Int) = (st, t, true) ∧ st.length = g.length ∧ (∀ q : Nat, q < g.length → 0 ≤ rd st (q : Int) ∧ rd st (q : Int) ≤ 6) ∧ Ev (fun k => yg0.f k g s (dbl g (s : Int)) 3000000) (st, t, true) ∧ Ev (fun k => yi0.f k g s (dbl g (s : Int))) (st, t, true) := by
 obtain ⟨b1, b2, b3, b4, _⟩ := X.burn
 obtain ⟨st, t, h⟩ := tri b1
 rw [h] at b2 b4
 have := X.both (dbl_len g (s : Int)) (show sett g (s : Int) 4000 (dbl g (s : Int)) (zl g) = _ from h)
 exact ⟨st, t, h, b2, b4, this.1, this.2⟩
theorem Ctx.two {g : List (List Int)} {s : Nat} (X : Ctx g s) {c : List Int} (hc : Low g s c) : ∃ out t, recB g (s : Int) c = decide (out = c) ∧ out.length = g.length ∧ Ev (fun k => yg0.f k g s (mor g (s : Int) c) 3000000) (out, t, true) ∧ Ev (fun k => yi0.f k g s (mor g (s : Int) c)) (out, t, true) := by
 obtain ⟨r1, r2, _⟩ := X.rec_iff hc
 obtain ⟨m1, _, _⟩ := X.mor_b hc
 obtain ⟨out, t, h⟩ := tri r1
 rw [h] at r2
 have := X.both m1 (show sett g (s : Int) 4000 (mor g (s : Int) c) (zl g) = _ from h)
 exact ⟨out, t, recB_eq h, r2, this.1, this.2⟩
theorem burn_l1 {c d st : List Int} (n : Nat) (h8 : n ≤ 8) (hc : c.length = n) (hd : d.length = n) (hst : st.length = n) (hb : ∀ q : Nat, q < n → -1000 ≤ rd c (q : Int) ∧ rd c (q : Int) ≤ 1000 ∧ -1000 ≤ rd d (q : Int) ∧ rd d (q : Int) ≤ 1000 ∧ -1000 ≤ rd st (q : Int) ∧ rd st (q : Int) ≤ 1000) : ∀ (e i : Nat), n - i = e → i ≤ n → Ev (fun k => yj0.l1 k d st ((addL c d st).take i) c n i) (addL c d st, true) := by
 have hl : (addL c d st).length = n := by rw [addL_len]; exact hc
 intro e
 induction e with
 | zero =>
  intro i he hi
  refine Ev.succ ?_
  simp only [yj0.l1]
  refine Ev.neg (by omega) ((Ev.now _).val ?_)
  rw [full_take_end (by omega)]
 | succ e ih =>
  intro i he hi
  have hw := wrap_nat (n := i) (by omega)
  refine Ev.succ ?_
  simp only [yj0.l1]
  refine Ev.pos (by omega) (Ev.pos (by omega) (Ev.pos (by omega) (Ev.pos (by omega) (Ev.pos (by omega) (Ev.pos (Nat.lt_of_le_of_lt (List.length_take_le _ _) (by omega)) ?_)))))
  have hbi := hb i (by omega)
  have hv : wrap64 (wrap64 (rd c (i : Int) + rd d (i : Int)) - rd st (i : Int)) = rd (addL c d st) (i : Int) := by
   obtain ⟨p1, p2, p3, p4, p5, p6⟩ := hbi
   generalize hx : rd c (i : Int) = x at p1 p2
   generalize hy : rd d (i : Int) = y at p3 p4
   generalize hz : rd st (i : Int) = z at p5 p6
   have e1 : wrap64 (x + y) = x + y := wrap_id (by omega)
   have e2 : wrap64 (x + y - z) = x + y - z := wrap_id (by omega)
   rw [e1, e2, addL_rd c d st (by omega), hx, hy, hz]
  rw [hw, hv, take_snoc (by omega)]
  exact ih (i + 1) (by omega) (by omega)
theorem burn_l0 {g : List (List Int)} {s : Nat} (X : Ctx g s) {c : List Int} (hc : Low g s c) {st t : List Int} (h1 : st.length = g.length) (h2 : ∀ q : Nat, q < g.length → 0 ≤ rd st (q : Int) ∧ rd st (q : Int) ≤ 6) (hs : Ev (fun k => yg0.f k g s (dbl g (s : Int)) 3000000) (st, t, true)) : ∀ (e i : Nat), g.length - i = e → i ≤ g.length → Ev (fun k => yj0.l0 k s c ((dbl g (s : Int)).take i) (full g (s : Int)) g.length i g) (addL c (dbl g (s : Int)) st, true) := by
 have h5 := X.h5
 have hl := dbl_len g (s : Int)
 have hfl := full_len g (s : Int)
 intro e
 induction e with
 | zero =>
  intro i he hi
  refine Ev.succ ?_
  simp only [yj0.l0]
  refine Ev.neg (by omega) ?_
  rw [full_take_end (l := dbl g (s : Int)) (i := i) (by omega)]
  refine Ev.bind hs (Ev.pos rfl ?_)
  have := burn_l1 (c := c) (d := dbl g (s : Int)) (st := st) g.length (by omega) hc.1 hl h1 (fun q hq => by
   have a1 := hc.2.2 q hq; have a2 := X.full_b hq; have a3 := X.dbl_b q hq; have a4 := h2 q hq
   omega) g.length 0 (by omega) (by omega)
  rw [hc.1]
  exact this
 | succ e ih =>
  intro i he hi
  have hw := wrap_nat (n := i) (by omega)
  have a2 := X.full_b (p := i) (by omega)
  have hv : wrap64 (2 * rd (full g (s : Int)) (i : Int)) = rd (dbl g (s : Int)) (i : Int) := by rw [dbl_rd g _ (by omega), wrap_id (by omega)]
  refine Ev.succ ?_
  simp only [yj0.l0]
  refine Ev.pos (by omega) (Ev.pos (by omega) (Ev.pos (by omega) (Ev.pos (by rw [List.length_take]; omega) ?_)))
  rw [hw, hv, take_snoc (by omega)]
  exact ih (i + 1) (by omega) (by omega)
theorem isRecI {g : List (List Int)} {s : Nat} (X : Ctx g s) {c : List Int} (hc : Low g s c) : Ev (fun k => yx1.f k g s c) (recB g (s : Int) c, true) := by
 have h5 := X.h5
 obtain ⟨st, t, hR, h1, h2, h3, _⟩ := X.one
 obtain ⟨out, t2, hr, h4, h6, _⟩ := X.two hc
 have hb := burn_l0 X hc h1 h2 h3 g.length 0 (by omega) (by omega)
 rw [← mor_eq hR] at hb
 rw [hr]
 unfold yx1.f yj0.f
 refine Ev.bind (a := (mor g (s : Int) c, true)) (Ev.bind (fullHeap_ev X.hg (s : Int)) ?_) (Ev.pos rfl (Ev.bind (a := (out, t2, true)) h6 ?_))
 ·rw [full_len]; exact hb
 ·exact Ev.bind (equal_ev out c (by omega)) (Ev.now _)
theorem chRec_l1 {g : List (List Int)} {s : Nat} (X : Ctx g s) {c : List Int} (hc : Low g s c) {st : List Int} (h1 : st.length = g.length) (h2 : ∀ q : Nat, q < g.length → 0 ≤ rd st (q : Int) ∧ rd st (q : Int) ≤ 6) {out t : List Int} (h3 : out.length = g.length) (hs : Ev (fun k => yi0.f k g s (addL c (dbl g (s : Int)) st)) (out, t, true)) : ∀ (e i : Nat) (x : List Int), g.length - i = e → i ≤ g.length → x.length = g.length → x.take i = (addL c (dbl g (s : Int)) st).take i → (∀ q : Nat, i ≤ q → q < g.length → rd x (q : Int) = rd c (q : Int)) → Ev (fun k => yh0.l1 k s c (dbl g (s : Int)) st x g.length i g) (decide (out = c), true) := by
 have h5 := X.h5
 have hl := dbl_len g (s : Int)
 have hm : (addL c (dbl g (s : Int)) st).length = g.length := by rw [addL_len]; exact hc.1
 intro e
 induction e with
 | zero =>
  intro i x he hi hx ht hq
  rw [full_take_end (by omega), full_take_end (by omega)] at ht
  subst ht
  refine Ev.succ ?_
  simp only [yh0.l1]
  exact Ev.neg (by omega) (Ev.bind hs (Ev.pos rfl (Ev.bind (same_ev out c (by omega)) (Ev.now _))))
 | succ e ih =>
  intro i x he hi hx ht hq
  have hw := wrap_nat (n := i) (by omega)
  have a1 := hc.2.2 i (by omega); have a2 := X.full_b (p := i) (by omega); have a3 := X.dbl_b i (by omega); have a4 := h2 i (by omega)
  have hv : wrap64 (rd x (i : Int) + wrap64 (rd (dbl g (s : Int)) (i : Int) - rd st (i : Int))) = rd (addL c (dbl g (s : Int)) st) (i : Int) := by
   rw [hq i (Nat.le_refl _) (by omega), wrap_id (x := rd (dbl g (s : Int)) (i : Int) - rd st (i : Int)) (by omega), wrap_id (by omega), addL_rd c _ _ (by rw [hc.1]; omega)]; omega
  refine Ev.succ ?_
  simp only [yh0.l1]
  refine Ev.pos (by omega) (Ev.pos (by omega) (Ev.pos (by omega) (Ev.pos (by omega) (Ev.pos (by omega) ?_))))
  rw [hw, hv, Int.toNat_natCast]
  exact ih (i + 1) _ (by omega) (by omega) (by rw [List.length_set]; exact hx) (set_take (by omega) (by omega) ht) (fun q h1 h2 => by
   have := rd_set (o := x) (q := (i : Int)) (x := (q : Int)) (v := rd (addL c (dbl g (s : Int)) st) (i : Int)) (by omega) (by omega) (by omega)
   rw [Int.toNat_natCast] at this
   rw [this, if_neg (by omega)]
   exact hq q (by omega) h2)
theorem chRec_l0 {g : List (List Int)} {s : Nat} (X : Ctx g s) {c : List Int} (hc : Low g s c) {st t : List Int} (hs : Ev (fun k => yi0.f k g s (dbl g (s : Int))) (st, t, true)) {r : Bool} (fin : Ev (fun k => yh0.l1 k s c (dbl g (s : Int)) st c g.length ((0 : Nat) : Int) g) (r, true)) : ∀ (e i : Nat) (x : List Int), g.length - i = e → i ≤ g.length → x.length = g.length → x.take i = (dbl g (s : Int)).take i → Ev (fun k => yh0.l0 k s c x (full g (s : Int)) g.length i g) (r, true) := by
 have h5 := X.h5
 have hl := dbl_len g (s : Int)
 have hfl := full_len g (s : Int)
 intro e
 induction e with
 | zero =>
  intro i x he hi hx ht
  rw [full_take_end (by omega), full_take_end (by omega)] at ht
  subst ht
  refine Ev.succ ?_
  simp only [yh0.l0]
  refine Ev.neg (by omega) (Ev.bind hs (Ev.pos rfl (Ev.bind0 (own_ev c (by have := hc.1; omega)) ?_)))
  rw [hc.1]
  exact fin
 | succ e ih =>
  intro i x he hi hx ht
  have hw := wrap_nat (n := i) (by omega)
  have a2 := X.full_b (p := i) (by omega)
  have hv : wrap64 (2 * rd (full g (s : Int)) (i : Int)) = rd (dbl g (s : Int)) (i : Int) := by rw [dbl_rd g _ (by omega), wrap_id (by omega)]
  refine Ev.succ ?_
  simp only [yh0.l0]
  refine Ev.pos (by omega) (Ev.pos (by omega) (Ev.pos (by omega) (Ev.pos (by omega) ?_)))
  rw [hw, hv, Int.toNat_natCast]
  exact ih (i + 1) _ (by omega) (by omega) (by rw [List.length_set]; exact hx) (set_take (by omega) (by omega) ht)
theorem isRecS {g : List (List Int)} {s : Nat} (X : Ctx g s) {c : List Int} (hc : Low g s c) : Ev (fun k => yh0.f k g s c) (recB g (s : Int) c, true) := by
 have h5 := X.h5
 have hfl := full_len g (s : Int)
 obtain ⟨st, t, hR, h1, h2, _, h3⟩ := X.one
 obtain ⟨out, t2, hr, h4, _, h6⟩ := X.two hc
 rw [mor_eq hR] at h6
 have fin := chRec_l1 X hc h1 h2 h4 h6 g.length 0 c (by omega) (by omega) hc.1 rfl (fun _ _ _ => rfl)
 rw [hr]
 unfold yh0.f
 refine Ev.bind (chFull_ev X.hg (s : Int)) (Ev.pos (by omega) (Ev.pos (by omega) ?_))
 rw [hfl, show ((g.length : Int)).toNat = g.length by omega]
 exact chRec_l0 X hc h3 fin g.length 0 _ (by omega) (by omega) (by simp) rfl
theorem low_of {g : List (List Int)} {s : Nat} (hs : s < g.length) {c : List Int} (h : heapB g (s : Int) c = true) (hst : high g (s : Int) c < 0) : Low g s c := by
 obtain ⟨h1, h2, h3⟩ := heap_iff h
 have h0 : rd c (s : Int) = 0 := by
  unfold heapB at h
  simp only [Bool.and_eq_true, beq_iff_eq] at h
  exact h.2.2
 have hf : fst g (s : Int) c g.length 0 = g.length := by
  unfold high at hst
  by_cases e : fst g (s : Int) c g.length 0 = g.length
  ·exact e
  rw [if_neg e] at hst; omega
 refine ⟨h2, h0, fun p hp => ⟨(by rw [rd_at (by omega)]; exact (h3 _ (List.getElem_mem _)).1), ?_⟩⟩
 rw [full_rd g _ hp]
 by_cases e : (p : Int) = (s : Int)
 ·rw [if_pos e, e, h0]; omega
 rw [if_neg e]
 have := fst_none g.length 0 (g := g) (sink := (s : Int)) (c := c) (by omega) p (by omega) (by omega)
 apply Classical.byContradiction
 intro hn
 rw [can_iff.2 ⟨by omega, by omega⟩] at this
 exact absurd this (by simp)
theorem Low.stable {g : List (List Int)} {s : Nat} {c : List Int} (hc : Low g s c) : high g (s : Int) c < 0 := by
 unfold high
 rw [if_pos (fst_stop (fun j hj => ?_))]
 ·omega
 ·apply Bool.eq_false_iff.2
  intro hcan
  obtain ⟨h1, h2⟩ := can_iff.1 hcan
  have := hc.2.2 j hj
  rw [full_rd g _ hj, if_neg (by omega)] at this
  omega
theorem Ctx.heap {g : List (List Int)} {s : Nat} (X : Ctx g s) {c : List Int} (hc : Low g s c) : heapB g (s : Int) c = true := by
 unfold heapB sunkB
 rw [place_of X.hg X.hs, X.hl]
 simp only [Bool.and_eq_true, decide_eq_true_eq, List.all_eq_true, beq_iff_eq, Bool.true_and]
 refine ⟨⟨hc.1, fun x hx => ?_⟩, hc.2.1⟩
 obtain ⟨i, hi, rfl⟩ := List.getElem_of_mem hx
 have h1 := hc.2.2 i (by have := hc.1; omega)
 have h2 := X.full_b (p := i) (by have := hc.1; omega)
 rw [rd_at hi] at h1
 omega
def irR (g : List (List Int)) (s : Int) (c : List Int) : Bool × Bool := if heapB g s c = true ∧ high g s c < 0 then (recB g s c, true) else (false, false)
def Sml (g : List (List Int)) : Prop := g.length ≤ 5 ∧ ∀ p : Nat, p < g.length → (rd_L2 g (p : Int)).length ≤ 4
theorem ctx_of {g : List (List Int)} (hS : Sml g) {s : Int} (h : sunkB g s = true) : ∃ t : Nat, s = (t : Int) ∧ Ctx g t := by
 obtain ⟨h1, h2⟩ := sunk_iff h
 obtain ⟨hg, h0, hlt⟩ := place_iff h1
 have e : ((s.toNat : Nat) : Int) = s := by omega
 exact ⟨s.toNat, e.symm, ⟨hg, by omega, hS.1, hS.2, by rw [e]; exact h2⟩⟩
theorem irI {g : List (List Int)} (hS : Sml g) (s : Int) (c : List Int) : Ev (fun k => ya1.f k g s c) (irR g s c) := by
 unfold ya1.f irR
 by_cases h : heapB g s c = true
 rotate_left
 ·rw [if_neg (fun e => h e.1)]
  exact Ev.bind (isHeap_ev g s c) (Ev.neg h (Ev.now _))
 obtain ⟨t, rfl, X⟩ := ctx_of hS (heap_iff h).1
 have h8 := (good_iff X.hg).1.2
 refine Ev.bind (isHeap_ev g _ c) (Ev.pos h (Ev.bind (isStable_ev h8 _ c (heap_iff h).2.1) ?_))
 by_cases hs : high g (t : Int) c < 0
 ·rw [if_pos ⟨h, hs⟩]
  exact Ev.pos (decide_eq_true hs) (Ev.bind (isRecI X (low_of X.hs h hs)) (Ev.now _))
 rw [if_neg (fun e => hs e.2)]
 exact Ev.neg (by simpa using hs) (Ev.now _)
theorem irS {g : List (List Int)} (hl : okSS g) (hS : Sml g) (s : Int) {c : List Int} (hcc : okIs c) : Ev (fun k => yp1.f k g s c) (irR g s c) := by
 unfold yp1.f irR
 by_cases h : heapB g s c = true
 rotate_left
 ·rw [if_neg (fun e => h e.1)]
  exact Ev.bind (chHeap_ev g hl s c hcc) (Ev.neg h (Ev.now _))
 obtain ⟨t, rfl, X⟩ := ctx_of hS (heap_iff h).1
 have h8 := (good_iff X.hg).1.2
 refine Ev.bind (chHeap_ev g hl _ c hcc) (Ev.pos h (Ev.bind (chHigh_ev h8 _ c (heap_iff h).2.1) ?_))
 by_cases hs : high g (t : Int) c < 0
 ·rw [if_pos ⟨h, hs⟩]
  exact Ev.neg (by omega) (Ev.bind (isRecS X (low_of X.hs h hs)) (Ev.now _))
 rw [if_neg (fun e => hs e.2)]
 exact Ev.pos (by omega) (Ev.now _)
open DetKit
structure Rect (n : Nat) (a : List (List Int)) : Prop where
 len : a.length = n
 rows : ∀ row ∈ a, row.length = n
theorem Rect.row {n : Nat} {a : List (List Int)} (h : Rect n a) {i : Nat} (hi : i < n) : (rd_L2 a (i : Int)).length = n := by
 have hl := h.len
 exact h.rows (rd_L2 a (i : Int)) (by rw [rdL_at (by omega)]; exact List.getElem_mem _)
theorem rdL_set {a : List (List Int)} {i j : Nat} (hi : i < a.length) (row : List Int) : rd_L2 (a.set i row) (j : Int) = if j = i then row else rd_L2 a (j : Int) := by
 unfold rd_L2
 rw [Int.toNat_natCast]
 by_cases h : j = i
 ·subst h; rw [if_pos rfl]; simp [List.getD, hi]
 rw [if_neg h]; simp only [List.getD, List.getElem?_set_ne (fun e => h e.symm)]
theorem rdn_set {l : List Int} {i j : Nat} (hi : i < l.length) (v : Int) : rd (l.set i v) (j : Int) = if j = i then v else rd l (j : Int) := by
 unfold rd
 rw [Int.toNat_natCast]
 by_cases h : j = i
 ·subst h; rw [if_pos rfl]; simp [List.getD, hi]
 rw [if_neg h]; simp only [List.getD, List.getElem?_set_ne (fun e => h e.symm)]
theorem mat_set {n : Nat} {a : List (List Int)} (h : Rect n a) {i j : Nat} (hi : i < n) (hj : j < n) (v : Int) (p q : Nat) : mat (a.set i ((rd_L2 a (i : Int)).set j v)) p q = if p = i ∧ q = j then v else mat a p q := by
 have hl := h.len
 have hr := h.row hi
 unfold mat
 rw [rdL_set (by omega)]
 by_cases hp : p = i
 rotate_left
 ·rw [if_neg hp, if_neg (fun e => hp e.1)]
 rw [if_pos hp, rdn_set (by omega)]
 by_cases hq : q = j
 ·rw [if_pos hq, if_pos ⟨hp, hq⟩]
 rw [if_neg hq, if_neg (fun e => hq e.2), hp]
theorem rect_set {n : Nat} {a : List (List Int)} (h : Rect n a) {i : Nat} {row : List Int} (hr : row.length = n) : Rect n (a.set i row) :=
 ⟨by simp; exact h.len, fun x hx => by
  rcases List.mem_or_eq_of_mem_set hx with h2 | h2
  ·exact h.rows x h2
  ·rw [h2]; exact hr⟩
theorem getD_rd (a : List (List Int)) (i : Nat) : a.getD i [] = rd_L2 a (i : Int) := by unfold rd_L2; rw [Int.toNat_natCast]
theorem rdL_swp {a : List (List Int)} {p q : Nat} (hp : p < a.length) (hq : q < a.length) (i : Nat) : rd_L2 (swp a [] p q) (i : Int) = if i = q then rd_L2 a (p : Int) else if i = p then rd_L2 a (q : Int) else rd_L2 a (i : Int) := by
 unfold swp
 rw [rdL_set (by simp; exact hq), rdL_set hp, getD_rd, getD_rd]
theorem rect_swp {n : Nat} {a : List (List Int)} (h : Rect n a) {p q : Nat} (hp : p < n) (hq : q < n) : Rect n (swp a [] p q) := by
 unfold swp
 rw [getD_rd, getD_rd]
 exact rect_set (rect_set h (h.row hq)) (h.row hp)
def Upd (n kk : Nat) (A : Nat → Nat → Int) (a0 a : List (List Int)) (i j : Nat) : Prop :=
 ∀ p q, p < n → q < n → mat a p q = if kk < p ∧ kk < q ∧ (p < i ∨ (p = i ∧ q < j)) then B A (kk + 1) p q else mat a0 p q
theorem B_bound {n : Nat} {A : Nat → Nat → Int} (hA : ∀ i j, i < n → j < n → -10 ≤ A i j ∧ A i j ≤ 10) {k i j : Nat} (hk : k ≤ n) (hi : i < n) (hj : j < n) : -(bd (k + 1)) ≤ B A k i j ∧ B A k i j ≤ bd (k + 1) := by
 unfold B
 exact D_bound (k + 1) _ (fun a b ha hb => hA _ _ (by split <;> omega) (by split <;> omega))
section
variable {n kk : Nat} {A : Nat → Nat → Int} {a0 : List (List Int)} {s r : Int}
theorem bar_l4 (hn : n ≤ 7) (hA : ∀ i j, i < n → j < n → -10 ≤ A i j ∧ A i j ≤ 10) (hp : D kk A ≠ 0) (ha0 : ∀ i j, kk ≤ i → kk ≤ j → i < n → j < n → mat a0 i j = B A kk i j) {i : Nat} (hi : kk < i) (hin : i < n)
  (hnext : ∀ a, Rect n a → Upd n kk A a0 a (i + 1) (kk + 1) → Ev (fun k => yb0.l3 k n s (D kk A) a kk ((i + 1 : Nat) : Int) n kk) r) :
  ∀ (d j : Nat) (a : List (List Int)), n - j = d → j ≤ n → kk < j → Rect n a → Upd n kk A a0 a i j → Ev (fun k => yb0.l4 k n s (D kk A) a kk i j n kk) r := by
 intro d
 induction d with
 | zero =>
  intro j a hd hj hkj ha hu
  refine Ev.succ ?_
  simp only [yb0.l4]
  refine Ev.neg (by omega) ?_
  rw [wrap_nat (by omega)]
  refine hnext a ha (fun p q hp hq => ?_)
  rw [hu p q hp hq]
  by_cases c : kk < p ∧ kk < q ∧ (p < i ∨ (p = i ∧ q < j))
  ·rw [if_pos c, if_pos ⟨c.1, c.2.1, by omega⟩]
  rw [if_neg c, if_neg (fun c2 => c ⟨c2.1, c2.2.1, by omega⟩)]
 | succ d ih =>
  intro j a hd hj hkj ha hu
  have hl := ha.len
  have hri := ha.row hin
  have hrk := ha.row (i := kk) (by omega)
  have hX : mat a i j = B A kk i j := by rw [hu i j hin (by omega), if_neg (by omega)]; exact ha0 i j (by omega) (by omega) hin (by omega)
  have hY : mat a kk kk = B A kk kk kk := by rw [hu kk kk (by omega) (by omega), if_neg (by omega)]; exact ha0 kk kk (by omega) (by omega) (by omega) (by omega)
  have hZ : mat a i kk = B A kk i kk := by rw [hu i kk hin (by omega), if_neg (by omega)]; exact ha0 i kk (by omega) (by omega) hin (by omega)
  have hW : mat a kk j = B A kk kk j := by rw [hu kk j (by omega) (by omega), if_neg (by omega)]; exact ha0 kk j (by omega) (by omega) (by omega) (by omega)
  have b6 := bd_le6 (n := kk + 1) (by omega)
  have b7 := bd_le7 (n := kk + 1 + 1) (by omega)
  have bX := B_bound hA (k := kk) (i := i) (j := j) (by omega) hin (by omega)
  have bY := B_bound hA (k := kk) (i := kk) (j := kk) (by omega) (by omega) (by omega)
  have bZ := B_bound hA (k := kk) (i := i) (j := kk) (by omega) hin (by omega)
  have bW := B_bound hA (k := kk) (i := kk) (j := j) (by omega) (by omega) (by omega)
  have bN := B_bound hA (k := kk + 1) (i := i) (j := j) (by omega) hin (by omega)
  have m1 := mul_bound (x := B A kk i j) (y := B A kk kk kk) (a := 720000000) (b := 720000000) (by omega) (by omega)
  have m2 := mul_bound (x := B A kk i kk) (y := B A kk kk j) (a := 720000000) (b := 720000000) (by omega) (by omega)
  have st := B_step A kk i j hp
  rw [Int.mul_comm (B A kk kk kk)] at st
  have hval : wrap64 (Int.tdiv (wrap64 (wrap64 (rd (rd_L2 a (i : Int)) (j : Int) * rd (rd_L2 a (kk : Int)) (kk : Int)) - wrap64 (rd (rd_L2 a (i : Int)) (kk : Int) * rd (rd_L2 a (kk : Int)) (j : Int)))) (D kk A)) = B A (kk + 1) i j := by
   show wrap64 (Int.tdiv (wrap64 (wrap64 (mat a i j * mat a kk kk) - wrap64 (mat a i kk * mat a kk j))) (D kk A)) = _
   rw [hX, hY, hZ, hW, wrap_id (x := B A kk i j * B A kk kk kk) (by omega), wrap_id (x := B A kk i kk * B A kk kk j) (by omega), wrap_id (x := B A kk i j * B A kk kk kk - B A kk i kk * B A kk kk j) (by omega), ← st, Int.mul_tdiv_cancel_left _ hp]
   exact wrap_id (by omega)
  refine Ev.succ ?_
  simp only [yb0.l4]
  refine Ev.pos (by omega) (Ev.pos (by omega) (Ev.pos (by omega) (Ev.pos (by omega) (Ev.pos (by omega) (Ev.pos (by omega) (Ev.pos (by omega) (Ev.pos (by omega) (Ev.pos (by omega) (Ev.pos (by omega) (Ev.neg hp ?_))))))))))
  rw [hval, wrap_nat (by omega), Int.toNat_natCast, Int.toNat_natCast]
  refine ih (j + 1) _ (by omega) (by omega) (by omega) (rect_set ha (by simp; exact hri)) (fun p q hpn hqn => ?_)
  rw [mat_set ha hin (by omega)]
  by_cases c : p = i ∧ q = j
  ·rw [if_pos c, if_pos (by omega), c.1, c.2]
  rw [if_neg c, hu p q hpn hqn]
  by_cases c2 : kk < p ∧ kk < q ∧ (p < i ∨ (p = i ∧ q < j))
  ·rw [if_pos c2, if_pos (by omega)]
  rw [if_neg c2, if_neg (by omega)]
theorem bar_l3 (hn : n ≤ 7) (hkn : kk < n) (hA : ∀ i j, i < n → j < n → -10 ≤ A i j ∧ A i j ≤ 10) (hp : D kk A ≠ 0) (ha0 : ∀ i j, kk ≤ i → kk ≤ j → i < n → j < n → mat a0 i j = B A kk i j)
  (hnext : ∀ a, Rect n a → Upd n kk A a0 a n (kk + 1) → Ev (fun k => yb0.l1 k n s (mat a0 kk kk) a n ((kk + 1 : Nat) : Int)) r) :
  ∀ (d i : Nat) (a : List (List Int)), n - i = d → i ≤ n → kk < i → Rect n a → Upd n kk A a0 a i (kk + 1) → Ev (fun k => yb0.l3 k n s (D kk A) a kk i n kk) r := by
 intro d
 induction d with
 | zero =>
  intro i a hd hi hki ha hu
  have : i = n := by omega
  subst this
  have hl := ha.len
  have hrk := ha.row hkn
  have hY : rd (rd_L2 a (kk : Int)) (kk : Int) = mat a0 kk kk := by
   show mat a kk kk = _
   rw [hu kk kk hkn hkn, if_neg (by omega)]
  refine Ev.succ ?_
  simp only [yb0.l3]
  refine Ev.neg (by omega) (Ev.pos (by omega) (Ev.pos (by omega) (Ev.pos (by omega) ?_)))
  rw [hY, wrap_nat (by omega)]
  exact hnext a ha hu
 | succ d ih =>
  intro i a hd hi hki ha hu
  refine Ev.succ ?_
  simp only [yb0.l3]
  refine Ev.pos (by omega) ?_
  rw [wrap_nat (by omega)]
  exact bar_l4 hn hA hp ha0 hki (by omega) (fun a' ha' hu' => ih (i + 1) a' (by omega) (by omega) (by omega) ha' hu') (n - (kk + 1)) (kk + 1) a rfl (by omega) (by omega) ha hu
end
theorem B_swap {A : Nat → Nat → Int} {k p i j : Nat} (hp : k ≤ p) (hi : k ≤ i) : B (swapRows A p k) k i j = B A k (if i = p then k else if i = k then p else i) j := by
 unfold B
 refine D_congr (fun a ha b hb => ?_)
 by_cases hak : a < k
 ·rw [if_pos hak, if_pos hak]; unfold swapRows; rw [if_neg (by omega), if_neg (by omega)]
 rw [if_neg hak, if_neg hak]; unfold swapRows
 by_cases h1 : i = p
 ·rw [if_pos h1, if_pos h1]
 rw [if_neg h1, if_neg h1]
 by_cases h2 : i = k
 ·rw [if_pos h2, if_pos h2]
 rw [if_neg h2, if_neg h2]
theorem D_swap_low {A : Nat → Nat → Int} {k p : Nat} (hp : k ≤ p) : D k (swapRows A p k) = D k A :=
 D_congr (fun i hi j hj => by unfold swapRows; rw [if_neg (by omega), if_neg (by omega)])
theorem bar_l1 {n : Nat} (hn : n ≤ 7) (R : Int) : ∀ (d kk : Nat) (a : List (List Int)) (A : Nat → Nat → Int) (s : Int), n - kk = d → kk ≤ n → Rect n a → (∀ i j, i < n → j < n → -10 ≤ A i j ∧ A i j ≤ 10) → (s = 1 ∨ s = -1) → s * D n A = R → D kk A ≠ 0 → (∀ i j, kk ≤ i → kk ≤ j → i < n → j < n → mat a i j = B A kk i j) → Ev (fun k => yb0.l1 k n s (D kk A) a n kk) R := by
 intro d
 induction d with
 | zero =>
  intro kk a A s hd hk ha hA hs hR hp hm
  have : kk = n := by omega
  subst this
  have hb := D_bound kk A (fun i j hi hj => hA i j hi hj)
  have b7 := bd_le7 hn
  refine Ev.succ ?_
  simp only [yb0.l1]
  refine Ev.neg (by omega) ((Ev.now _).val ?_)
  rw [← hR]
  exact wrap_id (by rcases hs with rfl | rfl <;> omega)
 | succ d ih =>
  intro kk a A s hd hk ha hA hs hR hp hm
  have hkn : kk < n := by omega
  have hl := ha.len
  have round : ∀ (a1 : List (List Int)) (A1 : Nat → Nat → Int) (s1 : Int), Rect n a1 → (∀ i j, i < n → j < n → -10 ≤ A1 i j ∧ A1 i j ≤ 10) → (s1 = 1 ∨ s1 = -1) → s1 * D n A1 = R → D kk A1 = D kk A → (∀ i j, kk ≤ i → kk ≤ j → i < n → j < n → mat a1 i j = B A1 kk i j) → mat a1 kk kk ≠ 0 → Ev (fun k => yb0.j4 k n s1 (D kk A) a1 kk n kk) R := by
   intro a1 A1 s1 h1 h2 h3 h4 h5 h6 h7
   have hd1 : D (kk + 1) A1 = mat a1 kk kk := by rw [h6 kk kk (by omega) (by omega) hkn hkn, B_diag]
   refine Ev.succ ?_
   simp only [yb0.j4]
   rw [wrap_nat (by omega), ← h5]
   refine bar_l3 hn hkn h2 (by rw [h5]; exact hp) h6 (fun a' ha' hu' => ?_) (n - (kk + 1)) (kk + 1) a1 rfl (by omega) (by omega) h1 (fun p q _ _ => by rw [if_neg (by omega)])
   rw [← hd1]
   refine ih (kk + 1) a' A1 s1 (by omega) (by omega) ha' h2 h3 h4 (by rw [hd1]; exact h7) (fun i j hi hj hin hjn => ?_)
   rw [hu' i j hin hjn, if_pos ⟨by omega, by omega, .inl hin⟩]
  have pv : ∀ (e p : Nat), n - p = e → p ≤ n → kk ≤ p → (∀ q, kk ≤ q → q < p → B A kk q kk = 0) → Ev (fun k => yb0.l2 k n s (D kk A) a kk p n kk) R := by
   intro e
   induction e with
   | zero =>
    intro p he hpn hkp hz
    have h0 : D n A = 0 := B_none A n kk hkn hp (fun i hi hin => hz i hi (by omega))
    refine Ev.succ ?_
    simp only [yb0.l2]
    refine Ev.neg (by omega) (Ev.succ ?_)
    simp only [yb0.j3]
    refine Ev.pos (by omega) ((Ev.now _).val ?_)
    rw [← hR, h0, Int.mul_zero]
   | succ e ihe =>
    intro p he hpn hkp hz
    have hrp := ha.row (i := p) (by omega)
    have hx : rd (rd_L2 a (p : Int)) (kk : Int) = B A kk p kk := hm p kk hkp (by omega) (by omega) hkn
    refine Ev.succ ?_
    simp only [yb0.l2]
    refine Ev.pos (by omega) (Ev.pos (by omega) (Ev.pos (by omega) (Ev.pos (by omega) (Ev.pos (by omega) ?_))))
    rw [hx]
    by_cases h0 : B A kk p kk = 0
    ·refine Ev.pos h0 ?_
     rw [wrap_nat (by omega)]
     refine ihe (p + 1) (by omega) (by omega) (by omega) (fun q h1 h2 => ?_)
     by_cases hq : q = p
     ·rw [hq]; exact h0
     exact hz q h1 (by omega)
    refine Ev.neg h0 (Ev.succ ?_)
    simp only [yb0.j3]
    refine Ev.neg (by omega) ?_
    by_cases hpk : p = kk
    ·subst hpk
     refine Ev.pos rfl ?_
     exact round a A s ha hA hs hR rfl hm (by rw [hm p p (by omega) (by omega) hkn hkn]; exact h0)
    refine Ev.neg (by omega) (Ev.bind0 (a := swp a [] p kk) ?_ ?_)
    ·unfold fake_swap.f
     rw [if_pos (by omega), if_pos (by omega), if_pos (by omega), if_pos (by omega), Int.toNat_natCast, Int.toNat_natCast]
    ·have hs1 : wrap64 (-s) = -s := wrap_id (by rcases hs with rfl | rfl <;> omega)
     rw [hs1]
     have hmm : ∀ i j, kk ≤ i → kk ≤ j → i < n → j < n → mat (swp a [] p kk) i j = B (swapRows A p kk) kk i j := fun i j hi hj hin hjn => by
      rw [B_swap hkp hi]
      unfold mat
      rw [rdL_swp (by omega) (by omega)]
      by_cases h1 : i = kk
      ·rw [if_pos h1, if_neg (by omega), if_pos h1]; exact hm p j hkp hj (by omega) hjn
      rw [if_neg h1]
      by_cases h2 : i = p
      ·rw [if_pos h2, if_pos h2]; exact hm kk j (by omega) hj hkn hjn
      rw [if_neg h2, if_neg h2, if_neg h1]; exact hm i j hi hj hin hjn
     refine round (swp a [] p kk) (swapRows A p kk) (-s) (rect_swp ha (by omega) hkn) (fun i j hi hj => ?_) (by omega) ?_ (D_swap_low hkp) hmm ?_
     ·unfold swapRows
      split
      ·exact hA _ _ hkn hj
      ·split
       ·exact hA _ _ (by omega) hj
       ·exact hA _ _ hi hj
     ·rw [D_swap n A p kk (by omega) hkn hpk, Int.neg_mul_neg]; exact hR
     ·rw [hmm kk kk (by omega) (by omega) hkn hkn, B_swap hkp (by omega), if_neg (by omega), if_pos rfl]
      exact h0
  refine Ev.succ ?_
  simp only [yb0.l1]
  exact Ev.pos (by omega) (pv (n - kk) kk rfl (by omega) (by omega) (fun q h1 h2 => by omega))
theorem bar_l0 {n : Nat} (hn : n ≤ 7) (m : List (List Int)) (h : Sq n m) : ∀ (d i : Nat), n - i = d → i ≤ n → Ev (fun k => yb0.l0 k n 1 1 (m.take i) m n i) (D n (mat m)) := by
 have hl := h.len
 intro d
 induction d with
 | zero =>
  intro i hd hi
  refine Ev.succ ?_
  simp only [yb0.l0]
  refine Ev.neg (by omega) ?_
  rw [List.take_of_length_le (by omega)]
  have := bar_l1 hn (D n (mat m)) n 0 m (mat m) 1 (by omega) (by omega) ⟨hl, fun row hr => (h.rows row hr).1⟩ (fun i j hi hj => h.bnd i j hi hj) (.inl rfl) (by omega) (by show (1 : Int) ≠ 0; decide) (fun i j _ _ _ _ => by
   unfold B
   show _ = sm 1 _
   simp [sm, sg, D])
  exact this
 | succ d ih =>
  intro i hd hi
  have hlt : i < m.length := by omega
  have hrow := h.row (i := i) (by omega)
  refine Ev.succ ?_
  simp only [yb0.l0]
  refine Ev.pos (by omega) (Ev.pos (by omega) (Ev.pos (by omega) (Ev.bind0 (a := rd_L2 m (i : Int)) (by unfold yw1.f; first | rfl | rw [if_pos (by omega)]) (Ev.pos (by simp; omega) ?_))))
  rw [wrap_nat (by omega)]
  have e : m.take i ++ [rd_L2 m (i : Int)] = m.take (i + 1) := by rw [rdL_at hlt, List.take_succ_eq_append_getElem hlt]
  rw [e]
  exact ih (i + 1) (by omega) (by omega)
theorem determinant_ev {n : Nat} (hn : n ≤ 7) (m : List (List Int)) (h : Sq n m) : Ev (fun k => yb0.f k m) (D n (mat m)) := by
 have hl := h.len
 unfold yb0.f
 rw [hl]
 exact bar_l0 hn m h n 0 (by omega) (by omega)
end Go.Proofs.Ytdfabioienofhaa.M
