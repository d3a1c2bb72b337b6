-- Printed by a program of this session (pp.sh), out of the translation; Lean checks it.
-- (narrow)
import Derived.Test.YthjkhbfaenidpaaP0
namespace Go.Proofs.Ythjkhbfaenidpaa.P
open Go.RowKit Go.Proofs.YthjkhbfaenidpaaW.PrintWords Go.Proofs.YthjkhbfaenidpaaW.PrintLast Go.Proofs.YthjkhbfaenidpaaW.PrintMore
attribute [local go_sem] max2_int min2_int max_two min_two max_three min_three max_four min_four   -- for this text's walks alone
set_option linter.unusedVariables false
set_option linter.unusedSimpArgs false

/-! ### fake_swap: function 111 -/
/-- Two elements exchanged. -/
def swp {α : Type} (xs : List α) (z : α) (i j : Nat) : List α := (xs.set i (xs.getD j z)).set j (xs.getD i z)
theorem swp_len {α : Type} (xs : List α) (z : α) (i j : Nat) : (swp xs z i j).length = xs.length := by simp [swp]
theorem heap_set {W : World} {g e i : Nat} {cur : Array Value} {u : Value} (h : W.heap[g]? = some (.cells cur e (0, 0))) : (W.setCell ⟨g, i, none⟩ u).heap[g]? = some (.cells (cur.setIfInBounds i u) e (0, 0)) := by
 simp only [World.setCell, Array.getElem?_modify, if_true, h, Option.map_some]
 rfl
theorem heap_cells {W : World} {g e i : Nat} {f : Nat × Nat} {cur : Array Value} {u : Value} (h : W.heap[g]? = some (.cells cur e f)) : (W.setCell ⟨g, i, none⟩ u).heap[g]? = some (.cells (cur.setIfInBounds i u) e f) := by
 simp only [World.setCell, Array.getElem?_modify, if_true, h, Option.map_some]
 rfl
theorem S_swap {α : Type} {d : Kd α} (hz : d.sz = 1) {e base g n cap : Nat} {ok : Nat → Prop} {W : World} {xs : List α} (z : α) (h : Kd.S d e W base ok (.slice (some ⟨g, 0, none⟩) n cap) xs) {i j : Nat} (hi : i < n) (hj : j < n) {vi vj : Value}
  (hvi : W.cell? ⟨g, i, none⟩ = some vi) (hvj : W.cell? ⟨g, j, none⟩ = some vj) :
  Kd.S d e ((W.setCell ⟨g, i, none⟩ vj).setCell ⟨g, j, none⟩ vi) base ok (.slice (some ⟨g, 0, none⟩) n cap) (swp xs z i j) := by
 obtain ⟨f, hok, inner, ⟨hlen, hcase⟩, hreps⟩ := h
 rcases hcase with ⟨hv, _⟩ | ⟨g', cap', cur, hv, hbase, hheap, hn, hcap, hsz, htake⟩
 ·cases hv
 ·injection hv with hv1 hv2 hv3
  injection hv1 with hv1
  injection hv1 with hv1 _ _
  subst hv1
  subst hv3
  rw [List.length_zipIdx] at hv2 hlen htake hn
  have hsz1 : (Kd.tag f d).sz = 1 := hz
  rw [hsz1] at hlen htake hsz hreps
  rw [Nat.mul_one] at hlen htake hsz
  subst hv2
  have hc0 : ∀ m u, W.cell? ⟨g, m, none⟩ = some u → cur[m]? = some u := fun m u hu => by
   simp only [World.cell?, hheap] at hu; simpa using hu
  have hin : ∀ m, m < xs.length → inner[m]? = cur[m]? := fun m hm => by
   rw [← htake, List.getElem?_take, if_pos hm]; simp
  have hii : inner[i]? = some vi := (hin i hi).trans (hc0 i vi hvi)
  have hjj : inner[j]? = some vj := (hin j hj).trans (hc0 j vj hvj)
  have hh1 := heap_set (i := i) (u := vj) hheap
  have hh2 := heap_set (i := j) (u := vi) hh1
  have hfar : ∀ k, k ≠ g → ((W.setCell ⟨g, i, none⟩ vj).setCell ⟨g, j, none⟩ vi).heap[k]? = W.heap[k]? := fun k hk => by
   rw [Below.heap_setCell _ _ _ k hk, Below.heap_setCell _ _ _ k hk]
  refine ⟨fun k => if f k = i then j else if f k = j then i else f k, hok, (inner.set i vj).set j vi, ⟨?_, .inr ⟨g, cap, (cur.setIfInBounds i vj).setIfInBounds j vi, ?_, hbase, hh2, ?_, hcap, ?_, ?_⟩⟩, ?_, ?_⟩
  ·rw [List.length_zipIdx, swp_len]; show _ = xs.length * d.sz; rw [hz]; simp; exact hlen
  ·rw [List.length_zipIdx, swp_len]
  ·rw [List.length_zipIdx, swp_len]; exact hn
  ·show _ = cap * d.sz; rw [hz]; simp; exact hsz
  ·rw [List.length_zipIdx, swp_len]; show List.take (xs.length * d.sz) _ = _
   rw [hz, Nat.mul_one, ← htake]
   simp [List.take_set]
  ·rw [List.length_zipIdx, swp_len]; show _ = xs.length * d.sz; rw [hz]; simp; exact hlen
  ·intro m p hp
   rw [List.getElem?_zipIdx] at hp
   obtain ⟨x, hx, rfl⟩ := Option.map_eq_some_iff.1 hp
   rw [Nat.zero_add]
   have hm : m < xs.length := by have := (List.getElem?_eq_some_iff.1 hx).1; rwa [swp_len] at this
   have hold : ∀ q y u, xs[q]? = some y → inner[q]? = some u → d.M W base (fun k => (ok k ∧ some k ≠ (Value.slice (some ⟨g, 0, none⟩) xs.length cap).ownBlock) ∧ f k = q) y [u] := fun q y u hy hu => by
    have := hreps.2 q (y, q) (by rw [List.getElem?_zipIdx, hy, Nat.zero_add]; rfl)
    rw [Nat.mul_one] at this
    have hdt : (inner.drop q).take 1 = [u] := by
     obtain ⟨hq, rfl⟩ := List.getElem?_eq_some_iff.1 hu
     rw [List.drop_eq_getElem_cons hq]; rfl
    rw [hdt] at this; exact this
   have hmove : ∀ q y u, xs[q]? = some y → inner[q]? = some u → (∀ k, f k = q → (if f k = i then j else if f k = j then i else f k) = m) → d.M ((W.setCell ⟨g, i, none⟩ vj).setCell ⟨g, j, none⟩ vi) base (fun k => (ok k ∧ some k ≠ (Value.slice (some ⟨g, 0, none⟩) xs.length cap).ownBlock) ∧ (if f k = i then j else if f k = j then i else f k) = m) y [u] := fun q y u hy hu hf =>
    d.M_move (fun k hk => hfar k (fun he => hk.1.2 (by rw [he]; rfl))) (d.M_mono (fun k hk => ⟨hk.1, hf k hk.2⟩) (hold q y u hy hu))
   have hdt : ∀ u, ((inner.set i vj).set j vi)[m]? = some u → (((inner.set i vj).set j vi).drop (m * (Kd.tag (fun k => if f k = i then j else if f k = j then i else f k) d).sz)).take (Kd.tag (fun k => if f k = i then j else if f k = j then i else f k) d).sz = [u] := fun u hu => by
    show (((inner.set i vj).set j vi).drop (m * d.sz)).take d.sz = [u]
    rw [hz, Nat.mul_one]
    obtain ⟨hq, rfl⟩ := List.getElem?_eq_some_iff.1 hu
    rw [List.drop_eq_getElem_cons hq]; rfl
   have hil : inner.length = xs.length := hlen
   simp only [swp] at hx
   by_cases hmj : m = j
   ·subst hmj
    have hx2 : xs[i]? = some x := by
     rw [List.getElem?_set_self (by simp; exact hm)] at hx
     injection hx with hx; rw [← hx]; simp [List.getD, hi]
    rw [hdt vi (by rw [List.getElem?_set_self (by simp; omega)])]
    exact hmove i x vi hx2 hii (fun k hk => by rw [if_pos hk])
   ·rw [List.getElem?_set_ne (fun h => hmj h.symm)] at hx
    by_cases hmi : m = i
    ·subst hmi
     have hx2 : xs[j]? = some x := by
      rw [List.getElem?_set_self hm] at hx
      injection hx with hx; rw [← hx]; simp [List.getD, hj]
     rw [hdt vj (by rw [List.getElem?_set_ne (fun h => hmj h.symm), List.getElem?_set_self (by omega)])]
     exact hmove j x vj hx2 hjj (fun k hk => by rw [if_neg (by omega), if_pos hk])
    ·rw [List.getElem?_set_ne (fun h => hmi h.symm)] at hx
     obtain ⟨u, hu⟩ : ∃ u, inner[m]? = some u := ⟨inner[m]'(by omega), List.getElem?_eq_getElem (by omega)⟩
     rw [hdt u (by rw [List.getElem?_set_ne (fun h => hmj h.symm), List.getElem?_set_ne (fun h => hmi h.symm)]; exact hu)]
     exact hmove m x u hx hu (fun k hk => by rw [if_neg (by omega), if_neg (by omega)]; exact hk)
theorem cell_off {W : World} {g i j : Nat} {u v : Value} (h : W.cell? ⟨g, j, none⟩ = some u) (hne : i ≠ j) : (W.setCell ⟨g, i, none⟩ v).cell? ⟨g, j, none⟩ = some u := by
 simp only [World.cell?] at h ⊢
 cases hb : W.heap[g]? with
 | none => rw [hb] at h; cases h
 | some o =>
  rw [hb] at h
  cases o <;> first | (cases h; done) | skip
  rename_i c e f
  rw [heap_cells (i := i) (u := v) hb]
  simpa [Array.getElem?_setIfInBounds, hne] using h
theorem froz_off {W : World} {g i j : Nat} {v : Value} (h : W.frozen? ⟨g, j, none⟩ = false) : (W.setCell ⟨g, i, none⟩ v).frozen? ⟨g, j, none⟩ = false := by
 simp only [World.frozen?] at h ⊢
 cases hb : W.heap[g]? with
 | none => simp [World.setCell, Array.getElem?_modify, hb]
 | some o =>
  rw [hb] at h
  cases o <;> first | (simp [World.setCell, Array.getElem?_modify, hb]; done) | skip
  rename_i c e f
  rw [heap_cells (i := i) (u := v) hb]
  exact h

def fake_swap.f (l0 : List (List Int)) (a1 a2 : Int) : Option (List (List Int)) := if 0 ≤ a1 then (if a1 < (l0.length : Int) then (if 0 ≤ a2 then (if a2 < (l0.length : Int) then (some (swp l0 [] a1.toNat a2.toNat)) else (none)) else (none)) else (none)) else (none)
theorem fake_swap_some {l0 : List (List Int)} {a1 a2 : Int} {r : List (List Int)} (h : fake_swap.f l0 a1 a2 = some r) : 0 ≤ a1 ∧ a1 < (l0.length : Int) ∧ 0 ≤ a2 ∧ a2 < (l0.length : Int) ∧ swp l0 [] a1.toNat a2.toNat = r := by
 unfold fake_swap.f at h
 by_cases h1 : 0 ≤ a1
 ·rw [if_pos h1] at h
  by_cases h2 : a1 < (l0.length : Int)
  ·rw [if_pos h2] at h
   by_cases h3 : 0 ≤ a2
   ·rw [if_pos h3] at h
    by_cases h4 : a2 < (l0.length : Int)
    ·rw [if_pos h4] at h; exact ⟨h1, h2, h3, h4, Option.some.inj h⟩
    ·rw [if_neg h4] at h; cases h
   ·rw [if_neg h3] at h; cases h
  ·rw [if_neg h2] at h; cases h
 ·rw [if_neg h1] at h; cases h


end Go.Proofs.Ythjkhbfaenidpaa.P
