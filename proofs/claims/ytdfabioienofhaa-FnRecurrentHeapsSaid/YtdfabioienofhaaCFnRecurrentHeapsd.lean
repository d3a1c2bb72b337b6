/- Texts of this session on the way to the law FnRecurrentHeaps, part 4: words of the print, walks, plain laws; only what the law's proof uses. -/
import Derived.Test.YtdfabioienofhaaCFnRecurrentHeapsb
import Derived.Test.YtdfabioienofhaaCFnRecurrentHeapsc
namespace Go.Proofs.Ytdfabioienofhaa.P
set_option maxHeartbeats 8000000
set_option maxRecDepth 100000
open Go.RowKit Go.Proofs.YtdfabioienofhaaW.PrintWords Go.Proofs.YtdfabioienofhaaW.PrintLast Go.Proofs.YtdfabioienofhaaW.PrintMore
attribute [local go_sem] zr0 zp0 zw0 zv0 zn0 zo0 zq0 zs0
set_option linter.unusedVariables false
set_option linter.unusedSimpArgs false
def swp {α : Type} (xs : List α) (z : α) (i j : Nat) : List α := (xs.set i (xs.getD j z)).set j (xs.getD i z)
theorem swp_len {α : Type} (xs : List α) (z : α) (i j : Nat) : (swp xs z i j).length = xs.length := by simp [swp]
theorem heap_set {W : World} {g e i : Nat} {cur : Array Value} {u : Value} (h : W.heap[g]? = some (.cells cur e (0, 0))) : (W.setCell ⟨g, i, none⟩ u).heap[g]? = some (.cells (cur.setIfInBounds i u) e (0, 0)) := by
 simp only [World.setCell, Array.getElem?_modify, if_true, h, Option.map_some]
 rfl
theorem heap_cells {W : World} {g e i : Nat} {f : Nat × Nat} {cur : Array Value} {u : Value} (h : W.heap[g]? = some (.cells cur e f)) : (W.setCell ⟨g, i, none⟩ u).heap[g]? = some (.cells (cur.setIfInBounds i u) e f) := by
 simp only [World.setCell, Array.getElem?_modify, if_true, h, Option.map_some]
 rfl
theorem S_swap {α : Type} {d : Kd α} (hz : d.sz = 1) {e base g n cap : Nat} {ok : Nat → Prop} {W : World} {xs : List α} (z : α) (h : Kd.S d e W base ok (.slice (some ⟨g, 0, none⟩) n cap) xs) {i j : Nat} (hi : i < n) (hj : j < n) {vi vj : Value}
  (hvi : W.cell? ⟨g, i, none⟩ = some vi) (hvj : W.cell? ⟨g, j, none⟩ = some vj) :
  Kd.S d e ((W.setCell ⟨g, i, none⟩ vj).setCell ⟨g, j, none⟩ vi) base ok (.slice (some ⟨g, 0, none⟩) n cap) (swp xs z i j) := by
 obtain ⟨f, hok, inner, ⟨hlen, hcase⟩, hreps⟩ := h
 rcases hcase with ⟨hv, _⟩ | ⟨g', cap', cur, hv, hbase, hheap, hn, hcap, hsz, htake⟩
 ·cases hv
 ·injection hv with hv1 hv2 hv3
  injection hv1 with hv1
  injection hv1 with hv1 _ _
  subst hv1
  subst hv3
  rw [List.length_zipIdx] at hv2 hlen htake hn
  have hsz1 : (Kd.tag f d).sz = 1 := hz
  rw [hsz1] at hlen htake hsz hreps
  rw [Nat.mul_one] at hlen htake hsz
  subst hv2
  have hc0 : ∀ m u, W.cell? ⟨g, m, none⟩ = some u → cur[m]? = some u := fun m u hu => by
   simp only [World.cell?, hheap] at hu; simpa using hu
  have hin : ∀ m, m < xs.length → inner[m]? = cur[m]? := fun m hm => by
   rw [← htake, List.getElem?_take, if_pos hm]; simp
  have hii : inner[i]? = some vi := (hin i hi).trans (hc0 i vi hvi)
  have hjj : inner[j]? = some vj := (hin j hj).trans (hc0 j vj hvj)
  have hh1 := heap_set (i := i) (u := vj) hheap
  have hh2 := heap_set (i := j) (u := vi) hh1
  have hfar : ∀ k, k ≠ g → ((W.setCell ⟨g, i, none⟩ vj).setCell ⟨g, j, none⟩ vi).heap[k]? = W.heap[k]? := fun k hk => by
   rw [Below.heap_setCell _ _ _ k hk, Below.heap_setCell _ _ _ k hk]
  refine ⟨fun k => if f k = i then j else if f k = j then i else f k, hok, (inner.set i vj).set j vi, ⟨?_, .inr ⟨g, cap, (cur.setIfInBounds i vj).setIfInBounds j vi, ?_, hbase, hh2, ?_, hcap, ?_, ?_⟩⟩, ?_, ?_⟩
  ·rw [List.length_zipIdx, swp_len]; show _ = xs.length * d.sz; rw [hz]; simp; exact hlen
  ·rw [List.length_zipIdx, swp_len]
  ·rw [List.length_zipIdx, swp_len]; exact hn
  ·show _ = cap * d.sz; rw [hz]; simp; exact hsz
  ·rw [List.length_zipIdx, swp_len]; show List.take (xs.length * d.sz) _ = _
   rw [hz, Nat.mul_one, ← htake]
   simp [List.take_set]
  ·rw [List.length_zipIdx, swp_len]; show _ = xs.length * d.sz; rw [hz]; simp; exact hlen
  ·intro m p hp
   rw [List.getElem?_zipIdx] at hp
   obtain ⟨x, hx, rfl⟩ := Option.map_eq_some_iff.1 hp
   rw [Nat.zero_add]
   have hm : m < xs.length := by have := (List.getElem?_eq_some_iff.1 hx).1; rwa [swp_len] at this
   have hold : ∀ q y u, xs[q]? = some y → inner[q]? = some u → d.M W base (fun k => (ok k ∧ some k ≠ (Value.slice (some ⟨g, 0, none⟩) xs.length cap).ownBlock) ∧ f k = q) y [u] := fun q y u hy hu => by
    have := hreps.2 q (y, q) (by rw [List.getElem?_zipIdx, hy, Nat.zero_add]; rfl)
    rw [Nat.mul_one] at this
    have hdt : (inner.drop q).take 1 = [u] := by
     obtain ⟨hq, rfl⟩ := List.getElem?_eq_some_iff.1 hu
     rw [List.drop_eq_getElem_cons hq]; rfl
    rw [hdt] at this; exact this
   have hmove : ∀ q y u, xs[q]? = some y → inner[q]? = some u → (∀ k, f k = q → (if f k = i then j else if f k = j then i else f k) = m) → d.M ((W.setCell ⟨g, i, none⟩ vj).setCell ⟨g, j, none⟩ vi) base (fun k => (ok k ∧ some k ≠ (Value.slice (some ⟨g, 0, none⟩) xs.length cap).ownBlock) ∧ (if f k = i then j else if f k = j then i else f k) = m) y [u] := fun q y u hy hu hf =>
    d.M_move (fun k hk => hfar k (fun he => hk.1.2 (by rw [he]; rfl))) (d.M_mono (fun k hk => ⟨hk.1, hf k hk.2⟩) (hold q y u hy hu))
   have hdt : ∀ u, ((inner.set i vj).set j vi)[m]? = some u → (((inner.set i vj).set j vi).drop (m * (Kd.tag (fun k => if f k = i then j else if f k = j then i else f k) d).sz)).take (Kd.tag (fun k => if f k = i then j else if f k = j then i else f k) d).sz = [u] := fun u hu => by
    show (((inner.set i vj).set j vi).drop (m * d.sz)).take d.sz = [u]
    rw [hz, Nat.mul_one]
    obtain ⟨hq, rfl⟩ := List.getElem?_eq_some_iff.1 hu
    rw [List.drop_eq_getElem_cons hq]; rfl
   have hil : inner.length = xs.length := hlen
   simp only [swp] at hx
   by_cases hmj : m = j
   ·subst hmj
    have hx2 : xs[i]? = some x := by
     rw [List.getElem?_set_self (by simp; exact hm)] at hx
     injection hx with hx; rw [← hx]; simp [List.getD, hi]
    rw [hdt vi (by rw [List.getElem?_set_self (by simp; omega)])]
    exact hmove i x vi hx2 hii (fun k hk => by rw [if_pos hk])
   rw [List.getElem?_set_ne (fun h => hmj h.symm)] at hx
   by_cases hmi : m = i
   rotate_left
   ·rw [List.getElem?_set_ne (fun h => hmi h.symm)] at hx
    obtain ⟨u, hu⟩ : ∃ u, inner[m]? = some u := ⟨inner[m]'(by omega), List.getElem?_eq_getElem (by omega)⟩
    rw [hdt u (by rw [List.getElem?_set_ne (fun h => hmj h.symm), List.getElem?_set_ne (fun h => hmi h.symm)]; exact hu)]
    exact hmove m x u hx hu (fun k hk => by rw [if_neg (by omega), if_neg (by omega)]; exact hk)
   subst hmi
   have hx2 : xs[j]? = some x := by
    rw [List.getElem?_set_self hm] at hx
    injection hx with hx; rw [← hx]; simp [List.getD, hj]
   rw [hdt vj (by rw [List.getElem?_set_ne (fun h => hmj h.symm), List.getElem?_set_self (by omega)])]
   exact hmove j x vj hx2 hjj (fun k hk => by rw [if_neg (by omega), if_pos hk])
theorem cell_off {W : World} {g i j : Nat} {u v : Value} (h : W.cell? ⟨g, j, none⟩ = some u) (hne : i ≠ j) : (W.setCell ⟨g, i, none⟩ v).cell? ⟨g, j, none⟩ = some u := by
 simp only [World.cell?] at h ⊢
 cases hb : W.heap[g]? with
 | none => rw [hb] at h; cases h
 | some o =>
  rw [hb] at h
  cases o <;> first | (cases h; done) | skip
  rename_i c e f
  rw [heap_cells (i := i) (u := v) hb]
  simpa [Array.getElem?_setIfInBounds, hne] using h
theorem froz_off {W : World} {g i j : Nat} {v : Value} (h : W.frozen? ⟨g, j, none⟩ = false) : (W.setCell ⟨g, i, none⟩ v).frozen? ⟨g, j, none⟩ = false := by
 simp only [World.frozen?] at h ⊢
 cases hb : W.heap[g]? with
 | none => simp [World.setCell, Array.getElem?_modify, hb]
 | some o =>
  rw [hb] at h
  cases o <;> first | (simp [World.setCell, Array.getElem?_modify, hb]; done) | skip
  rename_i c e f
  rw [heap_cells (i := i) (u := v) hb]
  exact h
def fake_swap.f (l0 : List (List Int)) (a1 a2 : Int) : Option (List (List Int)) := if 0 ≤ a1 then (if a1 < (l0.length : Int) then (if 0 ≤ a2 then (if a2 < (l0.length : Int) then (some (swp l0 [] a1.toNat a2.toNat)) else (none)) else (none)) else (none)) else (none)
theorem fake_swap_some {l0 : List (List Int)} {a1 a2 : Int} {r : List (List Int)} (h : fake_swap.f l0 a1 a2 = some r) : 0 ≤ a1 ∧ a1 < (l0.length : Int) ∧ 0 ≤ a2 ∧ a2 < (l0.length : Int) ∧ swp l0 [] a1.toNat a2.toNat = r := by
 unfold fake_swap.f at h
 by_cases h1 : 0 ≤ a1
 rotate_left
 ·rw [if_neg h1] at h; cases h
 rw [if_pos h1] at h
 by_cases h2 : a1 < (l0.length : Int)
 rotate_left
 ·rw [if_neg h2] at h; cases h
 rw [if_pos h2] at h
 by_cases h3 : 0 ≤ a2
 rotate_left
 ·rw [if_neg h3] at h; cases h
 rw [if_pos h3] at h
 by_cases h4 : a2 < (l0.length : Int)
 ·rw [if_pos h4] at h; exact ⟨h1, h2, h3, h4, Option.some.inj h⟩
 rw [if_neg h4] at h; cases h
mutual
def yb0.l0 : Nat → Int → Int → Int → List (List Int) → List (List Int) → Int → Int → Option (Int)
 | 0, _, _, _, _, _, _, _ => none
 | k + 1, x3, x4, x5, x6, Uh, uY, Za => if Za < uY then (if 0 ≤ Za then (if Za < (Uh.length : Int) then ((yw1.f (rd_L2 Uh Za)).bind fun qE => (if x6.length < 5864062014805 then (yb0.l0 k x3 x4 x5 (x6 ++ [qE]) Uh uY (wrap64 (Za + 1))) else (none))) else (none)) else (none)) else (yb0.l1 k x3 x4 x5 x6 x3 0)
def yb0.l1 : Nat → Int → Int → Int → List (List Int) → Int → Int → Option (Int)
 | 0, _, _, _, _, _, _ => none
 | k + 1, x3, x4, x5, x6, vk, U1 => if U1 < vk then (yb0.l2 k x3 x4 x5 x6 U1 U1 vk U1) else (some (wrap64 (x4 * x5)))
def yb0.j3 : Nat → Int → Int → Int → List (List Int) → Int → Int → Int → Int → Option (Int)
 | 0, _, _, _, _, _, _, _, _ => none
 | k + 1, x3, x4, x5, x6, x9, vq, vk, U1 => if vq = x3 then (some 0) else (if vq = x9 then (yb0.j4 k x3 x4 x5 x6 x9 vk U1) else ((fake_swap.f x6 vq x9).bind fun m5 => (yb0.j4 k x3 (wrap64 (-x4)) x5 m5 x9 vk U1)))
def yb0.j4 : Nat → Int → Int → Int → List (List Int) → Int → Int → Int → Option (Int)
 | 0, _, _, _, _, _, _, _ => none
 | k + 1, x3, x4, x5, x6, x9, vk, U1 => yb0.l3 k x3 x4 x5 x6 x9 (wrap64 (x9 + 1)) vk U1
def yb0.l3 : Nat → Int → Int → Int → List (List Int) → Int → Int → Int → Int → Option (Int)
 | 0, _, _, _, _, _, _, _, _ => none
 | k + 1, x3, x4, x5, x6, x9, YE, vk, U1 => if YE < x3 then (yb0.l4 k x3 x4 x5 x6 x9 YE (wrap64 (x9 + 1)) vk U1) else (if 0 ≤ x9 then (if x9 < (x6.length : Int) then (if x9 < ((rd_L2 x6 x9).length : Int) then (yb0.l1 k x3 x4 (rd (rd_L2 x6 x9) x9) x6 vk (wrap64 (U1 + 1))) else (none)) else (none)) else (none))
def yb0.l4 : Nat → Int → Int → Int → List (List Int) → Int → Int → Int → Int → Int → Option (Int)
 | 0, _, _, _, _, _, _, _, _, _ => none
 | k + 1, x3, x4, x5, x6, x9, YE, YZ, vk, U1 => if YZ < x3 then (if 0 ≤ YE then (if YE < (x6.length : Int) then (if 0 ≤ YZ then (if YZ < ((rd_L2 x6 YE).length : Int) then (if 0 ≤ x9 then (if x9 < (x6.length : Int) then (if x9 < ((rd_L2 x6 x9).length : Int) then (if x9 < ((rd_L2 x6 YE).length : Int) then (if YZ < ((rd_L2 x6 x9).length : Int) then (if x5 = 0 then (none) else (yb0.l4 k x3 x4 x5 (x6.set (YE : Int).toNat ((rd_L2 x6 YE).set (YZ : Int).toNat (wrap64 (Int.tdiv (wrap64 ((wrap64 ((rd (rd_L2 x6 YE) YZ) * (rd (rd_L2 x6 x9) x9))) - (wrap64 ((rd (rd_L2 x6 YE) x9) * (rd (rd_L2 x6 x9) YZ))))) x5)))) x9 YE (wrap64 (YZ + 1)) vk U1)) else (none)) else (none)) else (none)) else (none)) else (none)) else (none)) else (none)) else (none)) else (none)) else (yb0.l3 k x3 x4 x5 x6 x9 (wrap64 (YE + 1)) vk U1)
def yb0.l2 : Nat → Int → Int → Int → List (List Int) → Int → Int → Int → Int → Option (Int)
 | 0, _, _, _, _, _, _, _, _ => none
 | k + 1, x3, x4, x5, x6, x9, vq, vk, U1 => if vq < x3 then (if 0 ≤ vq then (if vq < (x6.length : Int) then (if 0 ≤ x9 then (if x9 < ((rd_L2 x6 vq).length : Int) then (if (rd (rd_L2 x6 vq) x9) = 0 then (yb0.l2 k x3 x4 x5 x6 x9 (wrap64 (vq + 1)) vk U1) else (yb0.j3 k x3 x4 x5 x6 x9 vq vk U1)) else (none)) else (none)) else (none)) else (none)) else (yb0.j3 k x3 x4 x5 x6 x9 vq vk U1)
end
def yb0.f (k : Nat) (l0 : List (List Int)) : Option (Int) := yb0.l0 k (l0.length : Int) 1 1 (([] : List (List Int))) l0 (l0.length : Int) 0
theorem yb0.mono_l : ∀ k, (∀ y0 y1 y2 y3 y4 y5 y6, LeO (yb0.l0 k y0 y1 y2 y3 y4 y5 y6) (yb0.l0 (k + 1) y0 y1 y2 y3 y4 y5 y6)) ∧ (∀ y0 y1 y2 y3 y4 y5, LeO (yb0.l1 k y0 y1 y2 y3 y4 y5) (yb0.l1 (k + 1) y0 y1 y2 y3 y4 y5)) ∧ (∀ y0 y1 y2 y3 y4 y5 y6 y7, LeO (yb0.j3 k y0 y1 y2 y3 y4 y5 y6 y7) (yb0.j3 (k + 1) y0 y1 y2 y3 y4 y5 y6 y7)) ∧ (∀ y0 y1 y2 y3 y4 y5 y6, LeO (yb0.j4 k y0 y1 y2 y3 y4 y5 y6) (yb0.j4 (k + 1) y0 y1 y2 y3 y4 y5 y6)) ∧ (∀ y0 y1 y2 y3 y4 y5 y6 y7, LeO (yb0.l3 k y0 y1 y2 y3 y4 y5 y6 y7) (yb0.l3 (k + 1) y0 y1 y2 y3 y4 y5 y6 y7)) ∧ (∀ y0 y1 y2 y3 y4 y5 y6 y7 y8, LeO (yb0.l4 k y0 y1 y2 y3 y4 y5 y6 y7 y8) (yb0.l4 (k + 1) y0 y1 y2 y3 y4 y5 y6 y7 y8)) ∧ (∀ y0 y1 y2 y3 y4 y5 y6 y7, LeO (yb0.l2 k y0 y1 y2 y3 y4 y5 y6 y7) (yb0.l2 (k + 1) y0 y1 y2 y3 y4 y5 y6 y7))
 | 0 => ⟨fun _ _ _ _ _ _ _ r h => by simp [yb0.l0] at h, fun _ _ _ _ _ _ r h => by simp [yb0.l1] at h, fun _ _ _ _ _ _ _ _ r h => by simp [yb0.j3] at h, fun _ _ _ _ _ _ _ r h => by simp [yb0.j4] at h, fun _ _ _ _ _ _ _ _ r h => by simp [yb0.l3] at h, fun _ _ _ _ _ _ _ _ _ r h => by simp [yb0.l4] at h, fun _ _ _ _ _ _ _ _ r h => by simp [yb0.l2] at h⟩
 | k + 1 => by
  obtain ⟨ih0, ih1, ih2, ih3, ih4, ih5, ih6⟩ := yb0.mono_l k
  refine ⟨?_, ?_, ?_, ?_, ?_, ?_, ?_⟩
  ·intro y0 y1 y2 y3 y4 y5 y6
   unfold yb0.l0
   repeat' (with_reducible first | apply ih0 | apply ih1 | apply ih2 | apply ih3 | apply ih4 | apply ih5 | apply ih6 | apply LeO.refl | apply LeO.none | refine LeO.ite ?_ ?_ | refine LeO.bind ?_ (fun _ => ?_))
  ·intro y0 y1 y2 y3 y4 y5
   unfold yb0.l1
   repeat' (with_reducible first | apply ih0 | apply ih1 | apply ih2 | apply ih3 | apply ih4 | apply ih5 | apply ih6 | apply LeO.refl | apply LeO.none | refine LeO.ite ?_ ?_ | refine LeO.bind ?_ (fun _ => ?_))
  ·intro y0 y1 y2 y3 y4 y5 y6 y7
   unfold yb0.j3
   repeat' (with_reducible first | apply ih0 | apply ih1 | apply ih2 | apply ih3 | apply ih4 | apply ih5 | apply ih6 | apply LeO.refl | apply LeO.none | refine LeO.ite ?_ ?_ | refine LeO.bind ?_ (fun _ => ?_))
  ·intro y0 y1 y2 y3 y4 y5 y6
   unfold yb0.j4
   repeat' (with_reducible first | apply ih0 | apply ih1 | apply ih2 | apply ih3 | apply ih4 | apply ih5 | apply ih6 | apply LeO.refl | apply LeO.none | refine LeO.ite ?_ ?_ | refine LeO.bind ?_ (fun _ => ?_))
  ·intro y0 y1 y2 y3 y4 y5 y6 y7
   unfold yb0.l3
   repeat' (with_reducible first | apply ih0 | apply ih1 | apply ih2 | apply ih3 | apply ih4 | apply ih5 | apply ih6 | apply LeO.refl | apply LeO.none | refine LeO.ite ?_ ?_ | refine LeO.bind ?_ (fun _ => ?_))
  ·intro y0 y1 y2 y3 y4 y5 y6 y7 y8
   unfold yb0.l4
   repeat' (with_reducible first | apply ih0 | apply ih1 | apply ih2 | apply ih3 | apply ih4 | apply ih5 | apply ih6 | apply LeO.refl | apply LeO.none | refine LeO.ite ?_ ?_ | refine LeO.bind ?_ (fun _ => ?_))
  ·intro y0 y1 y2 y3 y4 y5 y6 y7
   unfold yb0.l2
   repeat' (with_reducible first | apply ih0 | apply ih1 | apply ih2 | apply ih3 | apply ih4 | apply ih5 | apply ih6 | apply LeO.refl | apply LeO.none | refine LeO.ite ?_ ?_ | refine LeO.bind ?_ (fun _ => ?_))
theorem yb0.mono : ∀ a0 k, LeO (yb0.f k a0) (yb0.f (k + 1) a0) := by
 intro a0 k
 obtain ⟨ih0, ih1, ih2, ih3, ih4, ih5, ih6⟩ := yb0.mono_l k
 unfold yb0.f
 repeat' (with_reducible first | apply ih0 | apply ih1 | apply ih2 | apply ih3 | apply ih4 | apply ih5 | apply ih6 | apply LeO.refl | apply LeO.none | refine LeO.ite ?_ ?_ | refine LeO.bind ?_ (fun _ => ?_))
def yb0.T25 : Bool × List (List Nat × List Nat) := (true, [([], []), ([], []), ([0, 1], [0, 1]), ([2], [2]), ([], []), ([], []), ([], []), ([5, 6], [5, 6]), ([7], [7]), ([], []), ([8, 9], [8, 9]), ([10], [10]), ([], []), ([], []), ([12, 13], [12, 13]), ([14], [14]), ([], []), ([15, 16], [15, 16]), ([17], [17]), ([11, 18], [11, 18]), ([], []), ([], []), ([20, 21], [20, 21]), ([22], [22]), ([], []), ([23, 24], [23, 24]), ([25], [25]), ([], []), ([], []), ([27, 28], [27, 28]), ([29], [29]), ([], []), ([30, 31], [30, 31]), ([32], [32]), ([26, 33], [26, 33]), ([19, 34], [19, 34]), ([], []), ([35, 36], [35, 36]), ([3, 4, 0, 1, 2, 3, 4, 5, 6, 7, 8, 9, 10, 11, 12, 13, 14, 15, 16, 17, 18, 19, 20, 21, 22, 23, 24, 25, 26, 27, 28, 29, 30, 31, 32, 33, 34, 35, 36, 37], [3, 4]), ([38, 37, 0, 1, 2, 3, 4, 5, 6, 7, 8, 9, 10, 11, 12, 13, 14, 15, 16, 17, 18, 19, 20, 21, 22, 23, 24, 25, 26, 27, 28, 29, 30, 31, 32, 33, 34, 35, 36, 37], [37, 38])])
def yb0.B25 : List Nat := [0, 0, 3, 7, 0, 0, 0, 96, 224, 0, 992, 2016, 0, 0, 12288, 28672, 0, 126976, 258048, 524256, 0, 0, 3145728, 7340032, 0, 32505856, 66060288, 0, 0, 402653184, 939524096, 0, 4160749568, 8455716864, 17178820608, 34359738336, 0, 137438953440, 274877906943, 549755813887]
theorem yb0.tab25 : rtab .any (opsOf Try.f48 25) = yb0.T25 := by kernel_rfl
theorem yb0.bits25 : waitsOk yb0.T25.2 yb0.B25 = true := by kernel_rfl
theorem yb0.calls (k : Nat) (A0 : Option Addr) (c0 : Nat) (l0 : List (List Int)) (r : Int) (w : World) (hr0 : Kd.C (Kd.slice 3 (Kd.int .i64)) w A0 l0.length l0) (hc0 : l0.length ≤ c0) (h : yb0.f k l0 = some r) :
  Calls Try.prog 48 #[.slice A0 l0.length c0] w fun e w' => e = .returned (.int .i64 r) ∧ Below w.heap.size w w' := by
 have uU := hqZ hr0
 have HC0 := hqZ hc0
 clear hr0 hc0
 have HB := hqZ (Below.refl w.heap.size w)
 have H : (yb0.l0 k (l0.length : Int) 1 1 (([] : List (List Int))) l0 (l0.length : Int) 0) = some r := h
 clear h
 obtain ⟨M0, hy585⟩ : ∃ y_ : List (List Int), y_ = (([] : List (List Int))) := ⟨_, rfl⟩
 replace H : (yb0.l0 k (l0.length : Int) 1 1 M0 l0 (l0.length : Int) 0) = some r := by (rw [hy585]; with_reducible exact H)
 have Ny585 := hqZ hy585
 clear hy585
 have H' := hqZ H
 clear H
 go_enter Try.func48, Try.ntmps48
 go_wp2_with (((with_reducible refine zi0 (N := 15) rfl ?_); refine Kd.S_lit (Kd.slice 3 (Kd.int .i64)) _ 27 ?hg (N := 15) ?hd (xs := ([] : List (List Int))) (inner := []) (ok := fun _ => True) (okp := fun _ => True) ?hr ?hp (fun _ hk => hk) trivial (Below.refl _ _) (Nat.le_refl _) (by simp) ?_; (case hd | hg => rfl); (case hr => go_simp); (case hp => exact (Reps.none _ _)); intro v586 w2 ho3 hb hg_ hnew_; clear hg_ hnew_; (rw [← Ny585.1] at ho3); have M1 := hqZ (Kd.S_lower ho3 (zb0 (HB.1))); replace HB := hqZ (za0 (HB.1) hb); clear hb ho3))
 go_loopg [6, 18] k (fun kq v6 v18 w' => ∃ (JB : List (List Int)) (jp : Int), v18 = .int .i64 jp ∧ zg0 (yb0.l0 kq (l0.length : Int) 1 1 JB l0 (l0.length : Int) jp = some r) ∧ zg0 (kq ≤ k) ∧ zg0 (Kd.S (Kd.slice 3 (Kd.int .i64)) 27 w' w.heap.size (fun _ => True) v6 JB) ∧ zg0 (Below w.heap.size w w'))
 case atStart => exact ⟨(M0), (0), (rfl), H', ⟨Nat.le_refl _⟩, ⟨M1.1⟩, ⟨HB.1⟩⟩
 case round =>
  clear H'
  try clear p2
  obtain ⟨JB, jp, rfl, HA, V8, Jy, HB⟩ := hrel
  obtain _ | k1 := gk
  ·exact absurd HA.1 (by simp [yb0.l0])
  have H := HA.1
  clear HA
  simp only [yb0.l0] at H
  by_cases c4 : jp < (l0.length : Int)
  ·rw [if_pos c4] at H
   have c4b0 : decide (jp < (l0.length : Int)) = true := decide_eq_true c4
   clear c4
   by_cases c5 : 0 ≤ jp
   rotate_left
   ·rw [if_neg c5] at H
    exact absurd H (by simp)
   rw [if_pos c5] at H
   have c5b0 : decide (0 ≤ jp) = true := decide_eq_true c5
   clear c5
   by_cases c6 : jp < (l0.length : Int)
   rotate_left
   ·rw [if_neg c6] at H
    exact absurd H (by simp)
   rw [if_pos c6] at H
   have c6b0 : decide (jp < (l0.length : Int)) = true := decide_eq_true c6
   clear c6
   replace H := Option.bind_eq_some_iff.mp H
   obtain ⟨qE, A70, H⟩ := H
   try dsimp only at H
   have A7 := hqZ A70
   clear A70
   by_cases c8 : JB.length < 5864062014805
   rotate_left
   ·rw [if_neg c8] at H
    exact absurd H (by simp)
   rw [if_pos c8] at H
   have LMc8 := hqZ c8
   clear c8
   obtain ⟨M2, hy592⟩ : ∃ y_ : List (List Int), y_ = (JB ++ [qE]) := ⟨_, rfl⟩
   replace H : (yb0.l0 k1 (l0.length : Int) 1 1 M2 l0 (l0.length : Int) (wrap64 (jp + 1))) = some r := by (rw [hy592]; with_reducible exact H)
   have Ny592 := hqZ hy592
   clear hy592
   have H' := hqZ H
   clear H
   have p588 : 0 ≤ (jp : Int) := oA
   have q588 : jp < (l0.length : Int) := oA
   obtain ⟨ad588, m6, m7, e588, hx588_0, hl588_0, hi588_0⟩ := at_L2 uU.1 jp p588 q588
   cases e588
   replace hx588_0 := (HB.1.cell (World.block_lt_of_cell? w _ hx588_0)).trans hx588_0
   have ZC := hqZ hi588_0
   have HC588_0 := hqZ hl588_0
   clear hi588_0 hl588_0
   replace p588 := eq_true p588
   replace q588 := eq_true q588
   go_wp2_with (first | ((with_reducible refine ze0 (f := 38) rfl ?_); refine zM (some 24) Try.func38 #[.slice m6 (rd_L2 l0 jp).length m7] ?_; (with_reducible refine (yw1.calls _ _ (rd_L2 l0 jp) qE _ ?side1 ?side2 A7.1).mono ?_); (case side1 => exact (Kd.C_below ZC.1 HB.1)); (case side2 => exact HC588_0.1); rintro e w9 ⟨v590, rfl, ho0, hb⟩; refine ⟨_, rfl, ?_⟩; replace Jy := hqZ (Kd.S_elder' (Jy.1) (Kd.R_base ho0) hb); have d8 := hqZ (Kd.R_lower ho0 (zb0 (HB.1))); replace HB := hqZ (za0 (HB.1) hb); clear hb ho0; obtain ⟨j5, Yt, eo11⟩ := Kd.R_slice d8.1; subst eo11) | ((with_reducible refine zu0 (b := .append) (xs := #[.tmp 22, .tmp 25]) rfl ?_); at_builtin; refine Kd.S_append (Kd.slice 3 (Kd.int .i64)) (w0 := w) w.heap.size rfl (.tmp 22) (.tmp 25) 24 27 (.slice none 0 0) 24 rfl Try.underlying24 info27 rfl (by decide) (by omega) u6 JB qE [.slice j5 qE.length Yt] (fun _ => True) (fun k_ => some k_ = (.slice j5 qE.length Yt : Value).ownBlock) rfl rfl ?aP (fun k_ hk_ => ((Kd.R_mono (ok' := fun k_ => ((fun _ => True)) k_ ∧ some k_ ≠ (u6 : Value).ownBlock) (Kd.R_apart' (d8.1) (Kd.S_typed Jy.1) (by decide)) (fun k_ hk => ⟨trivial, hk.2⟩))).1 k_ hk_.symm) ?aF ?aO ?aB ?aS ?aL ?_; (case aP => exact Kd.M_row (Kd.R_mono (Kd.R_tight rfl (Kd.R_mono (ok' := fun k_ => ((fun _ => True)) k_ ∧ some k_ ≠ (u6 : Value).ownBlock) (Kd.R_apart' (d8.1) (Kd.S_typed Jy.1) (by decide)) (fun k_ hk => ⟨trivial, hk.2⟩))) (fun _ h_ => h_))); (case aB => exact (HB.1)); (case aF => exact (fun _ _ => trivial)); (case aO => exact (Kd.S_mono Jy.1 (fun k_ hk => ⟨trivial, fun e_ => hk.2 e_⟩))); (case aS => exact (zb0 (HB.1))); (case aL => have := LMc8.1; omega); intro v593 w10 ho hb hg hat; rw [← Ny592.1] at ho; have n0_ := hqZ (hb); have n1_ := hqZ (ho); clear HB; clear Jy; clear d8; have HB := n0_; have M3 := n1_; clear n0_ n1_; clear ho hb hg hat))
   go_roundg k1
   case measure => have := V8.1; omega
   case rel => exact ⟨(M2), (wrap64 (jp + 1)), (rfl), H', ⟨by have := V8.1; omega⟩, ⟨M3.1⟩, ⟨HB.1⟩⟩
  rw [if_neg c4] at H
  have c4b0 : decide (jp < (l0.length : Int)) = false := decide_eq_false c4
  clear c4
  have H' := hqZ H
  clear H
  go_wp2
  go_loopg [4, 5, 29] k1 (fun kq v4 v5 v29 w' => ∃ (qF : Int) (Vp : Int) (V9 : List (List Int)) (J9 : Int), v4 = .int .i64 qF ∧ v5 = .int .i64 Vp ∧ v29 = .int .i64 J9 ∧ zg0 (yb0.l1 kq (l0.length : Int) qF Vp V9 (l0.length : Int) J9 = some r) ∧ zg0 (kq ≤ k1) ∧ zg0 (Kd.S (Kd.slice 3 (Kd.int .i64)) 27 w' w.heap.size (fun _ => True) u6 V9) ∧ zg0 (Below w.heap.size w w'))
  case atStart => exact ⟨(1), (1), (JB), (0), (rfl), (rfl), (rfl), H', ⟨Nat.le_refl _⟩, ⟨Jy.1⟩, ⟨HB.1⟩⟩
  case round =>
   clear H'
   try clear p2
   try clear c3
   try clear c4
   try clear c4b0
   try clear c5
   try clear c5b0
   try clear p5
   try clear q5
   try clear hx5
   try clear c6
   try clear c6b0
   try clear p6
   try clear c8
   try clear hx588_0
   try clear p2
   try clear p588
   try clear q588
   obtain ⟨qF, Vp, V9, J9, rfl, rfl, rfl, HA, YO, Jy, HB⟩ := hrel
   obtain _ | k2 := gk
   ·exact absurd HA.1 (by simp [yb0.l1])
   have H := HA.1
   clear HA
   simp only [yb0.l1] at H
   by_cases c12 : J9 < (l0.length : Int)
   rotate_left
   ·rw [if_neg c12] at H
    have c12b0 : decide (J9 < (l0.length : Int)) = false := decide_eq_false c12
    clear c12
    obtain rfl := Option.some.inj H
    go_wp2
    go_ret
    exact ⟨rfl, HB.1⟩
   rw [if_pos c12] at H
   have c12b0 : decide (J9 < (l0.length : Int)) = true := decide_eq_true c12
   clear c12
   have HC13 := hqZ H
   clear H
   go_upto_block 4 with (fail)
   go_cut [10] (fun v10 wc => ∃ (kq : Nat) (VV : Int), v10 = .int .i64 VV ∧ zg0 (yb0.j3 kq (l0.length : Int) qF Vp V9 J9 VV (l0.length : Int) J9 = some r) ∧ zg0 (kq ≤ k2) ∧ zg0 (Kd.S (Kd.slice 3 (Kd.int .i64)) 27 wc w.heap.size (fun _ => True) u6 V9) ∧ zg0 (Below w.heap.size w wc))
   case first =>
    have H := HC13.1
    clear HC13
    have H' := hqZ H
    clear H
    go_wp2
    go_loopg [10] k2 (fun kq v10 w' => ∃ (VU : Int), v10 = .int .i64 VU ∧ zg0 (yb0.l2 kq (l0.length : Int) qF Vp V9 J9 VU (l0.length : Int) J9 = some r) ∧ zg0 (kq ≤ k2) ∧ zg0 (Kd.S (Kd.slice 3 (Kd.int .i64)) 27 w' w.heap.size (fun _ => True) u6 V9) ∧ zg0 (Below w.heap.size w w'))
    case atStart => exact ⟨(J9), (rfl), H', ⟨Nat.le_refl _⟩, ⟨Jy.1⟩, ⟨HB.1⟩⟩
    case round =>
     clear H'
     try clear c1
     try clear p2
     try clear c3
     try clear c4
     try clear c4b0
     try clear c5
     try clear c5b0
     try clear p5
     try clear q5
     try clear hx5
     try clear c6
     try clear c6b0
     try clear p6
     try clear c8
     try clear c12
     try clear c12b0
     try clear hx588_0
     try clear p2
     try clear p5
     try clear p588
     try clear p6
     try clear q5
     try clear q588
     obtain ⟨VU, rfl, HA, Ux, Jy, HB⟩ := hrel
     obtain _ | k3 := gk
     ·exact absurd HA.1 (by simp [yb0.l2])
     have H := HA.1
     clear HA
     simp only [yb0.l2] at H
     by_cases c14 : VU < (l0.length : Int)
     rotate_left
     ·rw [if_neg c14] at H
      have c14b0 : decide (VU < (l0.length : Int)) = false := decide_eq_false c14
      clear c14
      (skip)
      have H' := hqZ H
      clear H
      go_wp2
      go_meet
      case rel => exact ⟨_, (VU), (rfl), H', ⟨by have := V8.1; have := YO.1; have := Ux.1; omega⟩, ⟨Jy.1⟩, ⟨HB.1⟩⟩
     rw [if_pos c14] at H
     have c14b0 : decide (VU < (l0.length : Int)) = true := decide_eq_true c14
     clear c14
     (skip)
     by_cases c15 : 0 ≤ VU
     rotate_left
     ·rw [if_neg c15] at H
      exact absurd H (by simp)
     rw [if_pos c15] at H
     have c15b0 : decide (0 ≤ VU) = true := decide_eq_true c15
     clear c15
     by_cases c16 : VU < (V9.length : Int)
     rotate_left
     ·rw [if_neg c16] at H
      exact absurd H (by simp)
     rw [if_pos c16] at H
     have c16b0 : decide (VU < (V9.length : Int)) = true := decide_eq_true c16
     clear c16
     by_cases c17 : 0 ≤ J9
     rotate_left
     ·rw [if_neg c17] at H
      exact absurd H (by simp)
     rw [if_pos c17] at H
     have c17b0 : decide (0 ≤ J9) = true := decide_eq_true c17
     clear c17
     by_cases c18 : J9 < ((rd_L2 V9 VU).length : Int)
     rotate_left
     ·rw [if_neg c18] at H
      exact absurd H (by simp)
     rw [if_pos c18] at H
     have c18b0 : decide (J9 < ((rd_L2 V9 VU).length : Int)) = true := decide_eq_true c18
     clear c18
     by_cases c19 : (rd (rd_L2 V9 VU) J9) = 0
     rotate_left
     ·rw [if_neg c19] at H
      have c19b0 : ((rd (rd_L2 V9 VU) J9) == 0) = false := beq_eq_false_iff_ne.mpr c19
      have c19b1 : ((rd (rd_L2 V9 VU) J9) != 0) = true := bne_iff_ne.mpr c19
      have H' := hqZ H
      clear H
      obtain ⟨qv, qw, eo21⟩ := Kd.S_slice Jy.1
      subst eo21
      have p595 : 0 ≤ (VU : Int) := oA
      have q595 : VU < (V9.length : Int) := oA
      obtain ⟨ad595, m8, m9, e595, hx595_0, hl595_0, hi595_0⟩ := at_L2 (Kd.S_reads' Jy.1).2.2 VU p595 q595
      cases e595
      obtain ⟨ce595, hce595, hMe595, hcc595⟩ := Kd.S_get Jy.1 [] VU p595 (by exact q595)
      obtain ⟨ve595_0, rfl, ge595_0⟩ := hMe595
      have hv595_0 := hcc595 0 _ rfl
      rw [Nat.add_zero, show ((Kd.slice 3 (Kd.int .i64))).sz = 1 from rfl, Nat.mul_one] at hv595_0
      replace hv595_0 := Option.some.inj (hv595_0.symm.trans hx595_0)
      rw [hv595_0] at ge595_0
      have HL595_0 := hqZ (show Kd.R (Kd.int .i64) 3 _ _ _ _ (rd_L2 V9 VU) from ge595_0)
      clear hv595_0 ge595_0
      have HX595_0 := hqZ hx595_0
      clear hcc595 hce595
      have Uo := hqZ hi595_0
      have HC595_0 := hqZ hl595_0
      clear hi595_0 hl595_0
      replace p595 := eq_true p595
      replace q595 := eq_true q595
      have p596 : 0 ≤ (J9 : Int) := oA
      have q596 : J9 < ((rd_L2 V9 VU).length : Int) := oA
      obtain ⟨ad596, e596, hx596_0⟩ := Kd.at_int (by exact Uo.1) J9 p596 q596
      cases e596
      replace p596 := eq_true p596
      replace q596 := eq_true q596
      go_wp2
      go_meet
      case rel => exact ⟨_, (VU), (rfl), H', ⟨by have := V8.1; have := YO.1; have := Ux.1; omega⟩, ⟨Jy.1⟩, ⟨HB.1⟩⟩
     rw [if_pos c19] at H
     have c19b0 : ((rd (rd_L2 V9 VU) J9) == 0) = true := beq_iff_eq.mpr c19
     have c19b1 : ((rd (rd_L2 V9 VU) J9) != 0) = false := bne_eq_false_iff_eq.mpr c19
     clear c19
     have H' := hqZ H
     clear H
     obtain ⟨oZ, U0, eo20⟩ := Kd.S_slice Jy.1
     subst eo20
     have p595 : 0 ≤ (VU : Int) := oA
     have q595 : VU < (V9.length : Int) := oA
     obtain ⟨ad595, m8, m9, e595, hx595_0, hl595_0, hi595_0⟩ := at_L2 (Kd.S_reads' Jy.1).2.2 VU p595 q595
     cases e595
     obtain ⟨ce595, hce595, hMe595, hcc595⟩ := Kd.S_get Jy.1 [] VU p595 (by exact q595)
     obtain ⟨ve595_0, rfl, ge595_0⟩ := hMe595
     have hv595_0 := hcc595 0 _ rfl
     rw [Nat.add_zero, show ((Kd.slice 3 (Kd.int .i64))).sz = 1 from rfl, Nat.mul_one] at hv595_0
     replace hv595_0 := Option.some.inj (hv595_0.symm.trans hx595_0)
     rw [hv595_0] at ge595_0
     have HL595_0 := hqZ (show Kd.R (Kd.int .i64) 3 _ _ _ _ (rd_L2 V9 VU) from ge595_0)
     clear hv595_0 ge595_0
     have HX595_0 := hqZ hx595_0
     clear hcc595 hce595
     have Uo := hqZ hi595_0
     have HC595_0 := hqZ hl595_0
     clear hi595_0 hl595_0
     replace p595 := eq_true p595
     replace q595 := eq_true q595
     have p596 : 0 ≤ (J9 : Int) := oA
     have q596 : J9 < ((rd_L2 V9 VU).length : Int) := oA
     obtain ⟨ad596, e596, hx596_0⟩ := Kd.at_int (by exact Uo.1) J9 p596 q596
     cases e596
     replace p596 := eq_true p596
     replace q596 := eq_true q596
     go_wp2
     go_roundg k3
     case measure => have := V8.1; have := YO.1; have := Ux.1; omega
     case rel => exact ⟨(wrap64 (VU + 1)), (rfl), H', ⟨by have := V8.1; have := YO.1; have := Ux.1; omega⟩, ⟨Jy.1⟩, ⟨HB.1⟩⟩
   case rest =>
    clear HC13
    try clear c1
    try clear p2
    try clear c3
    try clear c4
    try clear c4b0
    try clear c5
    try clear c5b0
    try clear p5
    try clear q5
    try clear hx5
    try clear c6
    try clear c6b0
    try clear p6
    try clear c8
    try clear c12
    try clear c12b0
    try clear c14
    try clear c14b0
    try clear c15
    try clear c15b0
    try clear c16
    try clear c16b0
    try clear c17
    try clear c17b0
    try clear c18
    try clear c18b0
    try clear c19
    try clear c19b0
    try clear c19b1
    try clear hx588_0
    try clear hx595_0
    try clear hx596_0
    try clear p2
    try clear p5
    try clear p588
    try clear p595
    try clear p596
    try clear p6
    try clear q5
    try clear q588
    try clear q595
    try clear q596
    obtain ⟨kq, VV, rfl, HA, UN, Jy, HB⟩ := hcut
    cases kq with
    | zero => exact absurd HA.1 (by simp [yb0.j3])
    | succ kj12 =>
     have H := HA.1
     clear HA
     simp only [yb0.j3] at H
     by_cases c22 : VV = (l0.length : Int)
     ·rw [if_pos c22] at H
      have c22b0 : (VV == (l0.length : Int)) = true := beq_iff_eq.mpr c22
      have c22b1 : (VV != (l0.length : Int)) = false := bne_eq_false_iff_eq.mpr c22
      clear c22
      obtain rfl := Option.some.inj H
      go_wp2
      go_ret
      exact ⟨rfl, HB.1⟩
     rw [if_neg c22] at H
     have c22b0 : (VV == (l0.length : Int)) = false := beq_eq_false_iff_ne.mpr c22
     have c22b1 : (VV != (l0.length : Int)) = true := bne_iff_ne.mpr c22
     have HC23 := hqZ H
     clear H
     go_upto_if 53 with (fail)
     go_cut [4] (fun v4 wc => ∃ (kq : Nat) (XU : Int) (d9 : List (List Int)), v4 = .int .i64 XU ∧ zg0 (yb0.j4 kq (l0.length : Int) XU Vp d9 J9 (l0.length : Int) J9 = some r) ∧ zg0 (kq ≤ kj12) ∧ zg0 (Kd.S (Kd.slice 3 (Kd.int .i64)) 27 wc w.heap.size (fun _ => True) u6 d9) ∧ zg0 (Below w.heap.size w wc))
     case first =>
      have H := HC23.1
      clear HC23
      by_cases c24 : VV = J9
      ·rw [if_pos c24] at H
       have c24b0 : (VV == J9) = true := beq_iff_eq.mpr c24
       have c24b1 : (VV != J9) = false := bne_eq_false_iff_eq.mpr c24
       clear c24
       (skip)
       have H' := hqZ H
       clear H
       go_wp2
       go_meet
       case rel => exact ⟨_, (qF), (V9), (rfl), H', ⟨by have := V8.1; have := YO.1; have := UN.1; omega⟩, ⟨Jy.1⟩, ⟨HB.1⟩⟩
      rw [if_neg c24] at H
      have c24b0 : (VV == J9) = false := beq_eq_false_iff_ne.mpr c24
      have c24b1 : (VV != J9) = true := bne_iff_ne.mpr c24
      (skip)
      replace H := Option.bind_eq_some_iff.mp H
      obtain ⟨m5, A250, H⟩ := H
      try dsimp only at H
      have A25 := hqZ A250
      clear A250
      have H' := hqZ H
      clear H
      obtain ⟨b1, b2, b3, b4, hsw⟩ := fake_swap_some A25.1
      obtain ⟨dM, Jg1, eo26, M4, _, cl26, HG26⟩ := Kd.S_form Jy.1 (by omega)
      subst eo26
      have hne_ : VV.toNat ≠ J9.toNat := by omega
      have HNE := hqZ hne_
      clear hne_
      have HGB := hqZ M4
      clear M4 HG26
      try go_wp2
      obtain ⟨ad1, A1, c1_, e1, hx1, _, _⟩ := at_L2 (Kd.S_reads' Jy.1).2.2 J9 b3 b4
      cases e1
      rw [add_plain] at hx1
      obtain ⟨ad2, A2, c2_, e2, hx2, _, _⟩ := at_L2 (Kd.S_reads' Jy.1).2.2 VV b1 b2
      cases e2
      rw [add_plain] at hx2
      have hf1 : wc.frozen? ⟨dM, VV.toNat, none⟩ = false := by obtain ⟨_, _, _, _, hfr⟩ := Kd.R_elem (Kd.S_R Jy.1) ([] : List Int) VV b1 b2; have := hfr 0; simpa [Kd.slice] using this
      have hf2 : wc.frozen? ⟨dM, J9.toNat, none⟩ = false := by obtain ⟨_, _, _, _, hfr⟩ := Kd.R_elem (Kd.S_R Jy.1) ([] : List Int) J9 b3 b4; have := hfr 0; simpa [Kd.slice] using this
      have HBB := hqZ (And.intro (And.intro b1 b2) (And.intro b3 b4))
      replace b1 := eq_true b1
      replace b2 := eq_true b2
      replace b3 := eq_true b3
      replace b4 := eq_true b4
      have n0_ := hqZ (Kd.S_drew Jy.1)
      have n1_ := hqZ (below_drew1 HB.1)
      clear Jy HB
      have Jy := n0_
      have HB := n1_
      clear n0_ n1_
      refine start_ (n := 16) (S := fun w' => w'.cell? ⟨dM, J9.toNat, none⟩ = some (.slice A1 (rd_L2 V9 J9).length c1_) ∧ w'.cell? ⟨dM, VV.toNat, none⟩ = some (.slice A2 (rd_L2 V9 VV).length c2_)) (ds := [13, 15]) #[false, false, false, false, false, false, false, false, false, false, false, false, false, false, false, false] (by kernel_rfl) rfl rfl ⟨hx1, hx2⟩ (fun hHeld => ?_)
      replace hx1 := (show wc.drew.cell? _ = _ from hx1)
      replace hx2 := (show wc.drew.cell? _ = _ from hx2)
      replace hf1 := (show wc.drew.frozen? _ = _ from hf1)
      replace hf2 := (show wc.drew.frozen? _ = _ from hf2)
      generalize wc.drew = w26 at Jy HB hx1 hx2 hf1 hf2 hHeld ⊢
      refine pu 0 (some 54) (v := ?_) (a' := ?_) (bf 16 1) ?_ ?_ ?_
      rotate_left
      ·intro w'; go_simp; with_reducible rfl
      rotate_left
      ·simp only [Act.put, zA, zB, zC, i64_w, i32_w]; rfl
      refine pu 1 (some 55) (v := ?_) (a' := ?_) (bf 16 3) ?_ ?_ ?_
      rotate_left
      ·intro w'; go_simp; with_reducible rfl
      rotate_left
      ·simp only [Act.put, zA, zB, zC, i64_w, i32_w]; rfl
      refine pu 2 (some 56) (v := ?_) (a' := ?_) (bf 16 7) ?_ ?_ ?_
      rotate_left
      ·intro w'; go_simp; with_reducible rfl
      rotate_left
      ·simp only [Act.put, zA, zB, zC, i64_w, i32_w]; rfl
      refine pu 3 (some 57) (v := ?_) (a' := ?_) (bf 16 15) ?_ ?_ ?_
      rotate_left
      ·intro w'; go_simp; with_reducible rfl
      rotate_left
      ·simp only [Act.put, zA, zB, zC, i64_w, i32_w]; rfl
      refine pu 4 (some 58) (v := ?_) (a' := ?_) (bf 16 31) ?_ ?_ ?_
      rotate_left
      ·intro w'; go_simp; with_reducible rfl
      rotate_left
      ·simp only [Act.put, zA, zB, zC, i64_w, i32_w]; rfl
      refine pu 5 (some 59) (v := ?_) (a' := ?_) (bf 16 63) ?_ ?_ ?_
      rotate_left
      ·intro w'; go_simp; with_reducible rfl
      rotate_left
      ·simp only [Act.put, zA, zB, zC, i64_w, i32_w]; rfl
      refine pu 6 (some 60) (v := ?_) (a' := ?_) (bf 16 127) ?_ ?_ ?_
      rotate_left
      ·intro w'; go_simp; with_reducible rfl
      rotate_left
      ·simp only [Act.put, zA, zB, zC, i64_w, i32_w]; rfl
      refine take_ (i := 7) (N := some 61) (v := ?_) (a' := ?_) (bf 16 255) rfl rfl (by kernel_rfl) (fun _ _ _ h => h) (Or.inl ⟨by rfl, ?_⟩) hHeld ?_ ?_
      rotate_left
      ·rintro w' ⟨s0, s1⟩; go_simp; with_reducible rfl
      rotate_left
      ·simp only [Act.put, zA, zB, zC, i64_w, i32_w]; rfl
      refine pu 8 (some 62) (v := ?_) (a' := ?_) (bf 16 511) ?_ ?_ ?_
      rotate_left
      ·intro w'; go_simp; with_reducible rfl
      rotate_left
      ·simp only [Act.put, zA, zB, zC, i64_w, i32_w]; rfl
      refine pu 9 (some 63) (v := ?_) (a' := ?_) (bf 16 1023) ?_ ?_ ?_
      rotate_left
      ·intro w'; go_simp; with_reducible rfl
      rotate_left
      ·simp only [Act.put, zA, zB, zC, i64_w, i32_w]; rfl
      refine pu 10 (some 64) (v := ?_) (a' := ?_) (bf 16 2047) ?_ ?_ ?_
      rotate_left
      ·intro w'; go_simp; with_reducible rfl
      rotate_left
      ·simp only [Act.put, zA, zB, zC, i64_w, i32_w]; rfl
      refine take_ (i := 11) (N := some 65) (v := ?_) (a' := ?_) (bf 16 4095) rfl rfl (by kernel_rfl) (fun _ _ _ h => h) (Or.inl ⟨by rfl, ?_⟩) hHeld ?_ ?_
      rotate_left
      ·rintro w' ⟨s0, s1⟩; go_simp; with_reducible rfl
      rotate_left
      ·simp only [Act.put, zA, zB, zC, i64_w, i32_w]; rfl
      refine pu 12 (some 66) (v := ?_) (a' := ?_) (bf 16 8191) ?_ ?_ ?_
      rotate_left
      ·intro w'; go_simp; with_reducible rfl
      rotate_left
      ·simp only [Act.put, zA, zB, zC, i64_w, i32_w]; rfl
      refine last_ (i := 13) (N := none) (bf 16 16383) rfl rfl (by kernel_rfl) (by decide) (fun K hK => ?_)
      refine skip_ (w1 := ?_) (by rfl) rfl ?_ ?_
      rotate_left
      ·go_simp
       rfl
      refine hK.out _ _ ?_
      clear hK K
      have hx3 := cell_off (v := .slice A1 (rd_L2 V9 J9).length c1_) hx1 HNE.1
      have hf3 := froz_off (i := VV.toNat) (v := .slice A1 (rd_L2 V9 J9).length c1_) hf2
      refine pu 14 (some 67) (v := ?_) (a' := ?_) (bf 16 32767) ?_ ?_ ?_
      rotate_left
      ·intro w'; go_simp; with_reducible rfl
      rotate_left
      ·simp only [Act.put, zA, zB, zC, i64_w, i32_w]; rfl
      refine last_ (i := 15) (N := none) (bf 16 65535) rfl rfl (by kernel_rfl) (by decide) (fun K hK => ?_)
      refine skip_ (w1 := ?_) (by rfl) rfl ?_ ?_
      rotate_left
      ·go_simp
       rfl
      refine hK.out _ _ ?_
      clear hK K
      refine done_ (by kernel_rfl) ?_
      have Di := hqZ (S_swap rfl ([] : List Int) Jy.1 (i := VV.toNat) (j := J9.toNat) (by have := HBB.1; omega) (by have := HBB.1; omega) hx2 hx1)
      rw [hsw] at Di
      have n1_ := hqZ (zm0 (zm0 HB.1 HGB.1) HGB.1 : Below w.heap.size w ((w26.setCell ⟨dM, VV.toNat, none⟩ (.slice A1 (rd_L2 V9 J9).length c1_)).setCell ⟨dM, J9.toNat, none⟩ (.slice A2 (rd_L2 V9 VV).length c2_)))
      clear HB
      have HB := n1_
      clear n1_ hx1 hx2 hx3 hf1 hf2 hf3 hHeld
      try go_wp2
      go_meet
      case rel => exact ⟨_, (wrap64 (-qF)), (m5), (rfl), H', ⟨by have := V8.1; have := YO.1; have := UN.1; omega⟩, ⟨Kd.S_mono Di.1 (fun _ hk => trivial)⟩, ⟨HB.1⟩⟩
     case rest =>
      clear HC23
      try clear c1
      try clear c2
      try clear p2
      try clear c3
      try clear c4
      try clear c4b0
      try clear c5
      try clear c5b0
      try clear p5
      try clear q5
      try clear hx5
      try clear c6
      try clear c6b0
      try clear p6
      try clear c8
      try clear c9
      try clear c12
      try clear c12b0
      try clear c14
      try clear c14b0
      try clear c15
      try clear c15b0
      try clear c16
      try clear c16b0
      try clear c17
      try clear c17b0
      try clear c18
      try clear c18b0
      try clear c19
      try clear c19b0
      try clear c19b1
      try clear c22
      try clear c22b0
      try clear c22b1
      try clear c24
      try clear c24b0
      try clear c24b1
      try clear hx588_0
      try clear hx595_0
      try clear hx596_0
      try clear p2
      try clear p5
      try clear p588
      try clear p595
      try clear p596
      try clear p6
      try clear q5
      try clear q588
      try clear q595
      try clear q596
      obtain ⟨kq, XU, d9, rfl, HA, dN, Jy, HB⟩ := hcut
      cases kq with
      | zero => exact absurd HA.1 (by simp [yb0.j4])
      | succ kj22 =>
       have H := HA.1
       clear HA
       simp only [yb0.j4] at H
       have H' := hqZ H
       clear H
       go_wp2
       go_loopg [11] kj22 (fun kq v11 w' => ∃ (XK : List (List Int)) (JW : Int), v11 = .int .i64 JW ∧ zg0 (yb0.l3 kq (l0.length : Int) XU Vp XK J9 JW (l0.length : Int) J9 = some r) ∧ zg0 (kq ≤ kj22) ∧ zg0 (Kd.S (Kd.slice 3 (Kd.int .i64)) 27 w' w.heap.size (fun _ => True) u6 XK) ∧ zg0 (Below w.heap.size w w'))
       case atStart => exact ⟨(d9), (wrap64 (J9 + 1)), (rfl), H', ⟨Nat.le_refl _⟩, ⟨Jy.1⟩, ⟨HB.1⟩⟩
       case round =>
        clear H'
        try clear c1
        try clear c2
        try clear p2
        try clear c3
        try clear c4
        try clear c4b0
        try clear c5
        try clear c5b0
        try clear p5
        try clear q5
        try clear hx5
        try clear c6
        try clear c6b0
        try clear p6
        try clear c8
        try clear c9
        try clear c12
        try clear c12b0
        try clear c14
        try clear c14b0
        try clear c15
        try clear c15b0
        try clear c16
        try clear c16b0
        try clear c17
        try clear c17b0
        try clear c18
        try clear c18b0
        try clear c19
        try clear c19b0
        try clear c19b1
        try clear c22
        try clear c22b0
        try clear c22b1
        try clear c24
        try clear c24b0
        try clear c24b1
        try clear hx588_0
        try clear hx595_0
        try clear hx596_0
        try clear p2
        try clear p5
        try clear p588
        try clear p595
        try clear p596
        try clear p6
        try clear q5
        try clear q588
        try clear q595
        try clear q596
        obtain ⟨XK, JW, rfl, HA, dO, Jy, HB⟩ := hrel
        obtain _ | k5 := gk
        ·exact absurd HA.1 (by simp [yb0.l3])
        have H := HA.1
        clear HA
        simp only [yb0.l3] at H
        by_cases c28 : JW < (l0.length : Int)
        rotate_left
        ·rw [if_neg c28] at H
         have c28b0 : decide (JW < (l0.length : Int)) = false := decide_eq_false c28
         clear c28
         by_cases c45 : 0 ≤ J9
         rotate_left
         ·rw [if_neg c45] at H
          exact absurd H (by simp)
         rw [if_pos c45] at H
         have c45b0 : decide (0 ≤ J9) = true := decide_eq_true c45
         clear c45
         by_cases c46 : J9 < (XK.length : Int)
         rotate_left
         ·rw [if_neg c46] at H
          exact absurd H (by simp)
         rw [if_pos c46] at H
         have c46b0 : decide (J9 < (XK.length : Int)) = true := decide_eq_true c46
         clear c46
         by_cases c47 : J9 < ((rd_L2 XK J9).length : Int)
         rotate_left
         ·rw [if_neg c47] at H
          exact absurd H (by simp)
         rw [if_pos c47] at H
         have c47b0 : decide (J9 < ((rd_L2 XK J9).length : Int)) = true := decide_eq_true c47
         clear c47
         have H' := hqZ H
         clear H
         obtain ⟨DJ, DK, eo48⟩ := Kd.S_slice Jy.1
         subst eo48
         have p600 : 0 ≤ (J9 : Int) := oA
         have q600 : J9 < (XK.length : Int) := oA
         obtain ⟨ad600, Jg2, Jg3, e600, hx600_0, hl600_0, hi600_0⟩ := at_L2 (Kd.S_reads' Jy.1).2.2 J9 p600 q600
         cases e600
         obtain ⟨ce600, hce600, hMe600, hcc600⟩ := Kd.S_get Jy.1 [] J9 p600 (by exact q600)
         obtain ⟨ve600_0, rfl, ge600_0⟩ := hMe600
         have hv600_0 := hcc600 0 _ rfl
         rw [Nat.add_zero, show ((Kd.slice 3 (Kd.int .i64))).sz = 1 from rfl, Nat.mul_one] at hv600_0
         replace hv600_0 := Option.some.inj (hv600_0.symm.trans hx600_0)
         rw [hv600_0] at ge600_0
         have HL600_0 := hqZ (show Kd.R (Kd.int .i64) 3 _ _ _ _ (rd_L2 XK J9) from ge600_0)
         clear hv600_0 ge600_0
         have HX600_0 := hqZ hx600_0
         clear hcc600 hce600
         have ZD := hqZ hi600_0
         have HC600_0 := hqZ hl600_0
         clear hi600_0 hl600_0
         replace p600 := eq_true p600
         replace q600 := eq_true q600
         have p601 : 0 ≤ (J9 : Int) := oA
         have q601 : J9 < ((rd_L2 XK J9).length : Int) := oA
         obtain ⟨ad601, e601, hx601_0⟩ := Kd.at_int (by exact ZD.1) J9 p601 q601
         cases e601
         replace p601 := eq_true p601
         replace q601 := eq_true q601
         go_wp2
         go_roundg k5
         case measure => have := V8.1; have := YO.1; have := UN.1; have := dN.1; have := dO.1; omega
         case rel => exact ⟨(XU), (rd (rd_L2 XK J9) J9), (XK), (wrap64 (J9 + 1)), (rfl), (rfl), (rfl), H', ⟨by have := V8.1; have := YO.1; have := UN.1; have := dN.1; have := dO.1; omega⟩, ⟨Jy.1⟩, ⟨HB.1⟩⟩
        rw [if_pos c28] at H
        have c28b0 : decide (JW < (l0.length : Int)) = true := decide_eq_true c28
        clear c28
        have H' := hqZ H
        clear H
        go_wp2
        go_loopg [12] k5 (fun kq v12 w' => ∃ (VF : List (List Int)) (VK : Int), v12 = .int .i64 VK ∧ zg0 (yb0.l4 kq (l0.length : Int) XU Vp VF J9 JW VK (l0.length : Int) J9 = some r) ∧ zg0 (kq ≤ k5) ∧ zg0 (Kd.S (Kd.slice 3 (Kd.int .i64)) 27 w' w.heap.size (fun _ => True) u6 VF) ∧ zg0 (Below w.heap.size w w'))
        case atStart => exact ⟨(XK), (wrap64 (J9 + 1)), (rfl), H', ⟨Nat.le_refl _⟩, ⟨Jy.1⟩, ⟨HB.1⟩⟩
        case round =>
         clear H'
         try clear c1
         try clear c2
         try clear p2
         try clear c3
         try clear c4
         try clear c4b0
         try clear c5
         try clear c5b0
         try clear p5
         try clear q5
         try clear hx5
         try clear c6
         try clear c6b0
         try clear p6
         try clear c8
         try clear c9
         try clear c12
         try clear c12b0
         try clear c14
         try clear c14b0
         try clear c15
         try clear c15b0
         try clear c16
         try clear c16b0
         try clear c17
         try clear c17b0
         try clear c18
         try clear c18b0
         try clear c19
         try clear c19b0
         try clear c19b1
         try clear c22
         try clear c22b0
         try clear c22b1
         try clear c24
         try clear c24b0
         try clear c24b1
         try clear c28
         try clear c28b0
         try clear hx588_0
         try clear hx595_0
         try clear hx596_0
         try clear p2
         try clear p5
         try clear p588
         try clear p595
         try clear p596
         try clear p6
         try clear q5
         try clear q588
         try clear q595
         try clear q596
         obtain ⟨VF, VK, rfl, HA, NK, Jy, HB⟩ := hrel
         obtain _ | k6 := gk
         ·exact absurd HA.1 (by simp [yb0.l4])
         have H := HA.1
         clear HA
         simp only [yb0.l4] at H
         by_cases c29 : VK < (l0.length : Int)
         rotate_left
         ·rw [if_neg c29] at H
          have c29b0 : decide (VK < (l0.length : Int)) = false := decide_eq_false c29
          clear c29
          have H' := hqZ H
          clear H
          go_wp2
          go_roundg k6
          case measure => have := V8.1; have := YO.1; have := UN.1; have := dN.1; have := dO.1; have := NK.1; omega
          case rel => exact ⟨(VF), (wrap64 (JW + 1)), (rfl), H', ⟨by have := V8.1; have := YO.1; have := UN.1; have := dN.1; have := dO.1; have := NK.1; omega⟩, ⟨Jy.1⟩, ⟨HB.1⟩⟩
         rw [if_pos c29] at H
         have c29b0 : decide (VK < (l0.length : Int)) = true := decide_eq_true c29
         clear c29
         by_cases c30 : 0 ≤ JW
         rotate_left
         ·rw [if_neg c30] at H
          exact absurd H (by simp)
         rw [if_pos c30] at H
         have c30b0 : decide (0 ≤ JW) = true := decide_eq_true c30
         clear c30
         by_cases c31 : JW < (VF.length : Int)
         rotate_left
         ·rw [if_neg c31] at H
          exact absurd H (by simp)
         rw [if_pos c31] at H
         have c31b0 : decide (JW < (VF.length : Int)) = true := decide_eq_true c31
         clear c31
         by_cases c32 : 0 ≤ VK
         rotate_left
         ·rw [if_neg c32] at H
          exact absurd H (by simp)
         rw [if_pos c32] at H
         have c32b0 : decide (0 ≤ VK) = true := decide_eq_true c32
         clear c32
         by_cases c33 : VK < ((rd_L2 VF JW).length : Int)
         rotate_left
         ·rw [if_neg c33] at H
          exact absurd H (by simp)
         rw [if_pos c33] at H
         have c33b0 : decide (VK < ((rd_L2 VF JW).length : Int)) = true := decide_eq_true c33
         clear c33
         by_cases c34 : 0 ≤ J9
         rotate_left
         ·rw [if_neg c34] at H
          exact absurd H (by simp)
         rw [if_pos c34] at H
         have c34b0 : decide (0 ≤ J9) = true := decide_eq_true c34
         clear c34
         by_cases c35 : J9 < (VF.length : Int)
         rotate_left
         ·rw [if_neg c35] at H
          exact absurd H (by simp)
         rw [if_pos c35] at H
         have c35b0 : decide (J9 < (VF.length : Int)) = true := decide_eq_true c35
         clear c35
         by_cases c36 : J9 < ((rd_L2 VF J9).length : Int)
         rotate_left
         ·rw [if_neg c36] at H
          exact absurd H (by simp)
         rw [if_pos c36] at H
         have c36b0 : decide (J9 < ((rd_L2 VF J9).length : Int)) = true := decide_eq_true c36
         clear c36
         by_cases c37 : J9 < ((rd_L2 VF JW).length : Int)
         rotate_left
         ·rw [if_neg c37] at H
          exact absurd H (by simp)
         rw [if_pos c37] at H
         have c37b0 : decide (J9 < ((rd_L2 VF JW).length : Int)) = true := decide_eq_true c37
         clear c37
         by_cases c38 : VK < ((rd_L2 VF J9).length : Int)
         rotate_left
         ·rw [if_neg c38] at H
          exact absurd H (by simp)
         rw [if_pos c38] at H
         have c38b0 : decide (VK < ((rd_L2 VF J9).length : Int)) = true := decide_eq_true c38
         clear c38
         by_cases c39 : Vp = 0
         ·rw [if_pos c39] at H
          exact absurd H (by simp)
         rw [if_neg c39] at H
         have c39b0 : (Vp == 0) = false := beq_eq_false_iff_ne.mpr c39
         have c39b1 : (Vp != 0) = true := bne_iff_ne.mpr c39
         obtain ⟨ma, hy611⟩ : ∃ y_ : List Int, y_ = ((rd_L2 VF JW).set (VK : Int).toNat (wrap64 (Int.tdiv (wrap64 ((wrap64 ((rd (rd_L2 VF JW) VK) * (rd (rd_L2 VF J9) J9))) - (wrap64 ((rd (rd_L2 VF JW) J9) * (rd (rd_L2 VF J9) VK))))) Vp))) := ⟨_, rfl⟩
         replace H : (yb0.l4 k6 (l0.length : Int) XU Vp (VF.set (JW : Int).toNat ma) J9 JW (wrap64 (VK + 1)) (l0.length : Int) J9) = some r := by (rw [hy611]; with_reducible exact H)
         have Ny611 := hqZ hy611
         clear hy611
         obtain ⟨M5, hy613⟩ : ∃ y_ : List (List Int), y_ = (VF.set (JW : Int).toNat ma) := ⟨_, rfl⟩
         replace H : (yb0.l4 k6 (l0.length : Int) XU Vp M5 J9 JW (wrap64 (VK + 1)) (l0.length : Int) J9) = some r := by (rw [hy613]; with_reducible exact H)
         have Ny613 := hqZ hy613
         clear hy613
         have H' := hqZ H
         clear H
         try go_wp2
         have n0_ := hqZ (Kd.S_drew Jy.1)
         have n1_ := hqZ (below_drew1 HB.1)
         clear Jy HB
         have Jy := n0_
         have HB := n1_
         clear n0_ n1_
         obtain ⟨dG, dH, eo42⟩ := Kd.S_slice Jy.1
         (subst eo42)
         have p602 : 0 ≤ (JW : Int) := oA
         have q602 : JW < (VF.length : Int) := oA
         obtain ⟨ad602, Jg4, qG, e602, hx602_0, hl602_0, hi602_0⟩ := at_L2 (Kd.S_reads' Jy.1).2.2 JW p602 q602
         cases e602
         obtain ⟨ce602, hce602, hMe602, hcc602⟩ := Kd.S_get Jy.1 [] JW p602 (by exact q602)
         obtain ⟨ve602_0, rfl, ge602_0⟩ := hMe602
         have hv602_0 := hcc602 0 _ rfl
         rw [Nat.add_zero, show ((Kd.slice 3 (Kd.int .i64))).sz = 1 from rfl, Nat.mul_one] at hv602_0
         replace hv602_0 := Option.some.inj (hv602_0.symm.trans hx602_0)
         rw [hv602_0] at ge602_0
         have HL602_0 := hqZ (show Kd.R (Kd.int .i64) 3 _ _ _ _ (rd_L2 VF JW) from ge602_0)
         clear hv602_0 ge602_0
         have HX602_0 := hqZ hx602_0
         clear hcc602 hce602
         have ZE := hqZ hi602_0
         have HC602_0 := hqZ hl602_0
         clear hi602_0 hl602_0
         replace p602 := eq_true p602
         replace q602 := eq_true q602
         have p603 : 0 ≤ (JW : Int) := oA
         have q603 : JW < (VF.length : Int) := oA
         obtain ⟨ad603, Jg5, Jg6, e603, hx603_0, hl603_0, hi603_0⟩ := at_L2 (Kd.S_reads' Jy.1).2.2 JW p603 q603
         obtain rfl : ad602 = ad603 := (by injection e603)
         obtain ⟨ce603, hce603, hMe603, hcc603⟩ := Kd.S_get Jy.1 [] JW p603 (by exact q603)
         obtain ⟨ve603_0, rfl, ge603_0⟩ := hMe603
         have hv603_0 := hcc603 0 _ rfl
         rw [Nat.add_zero, show ((Kd.slice 3 (Kd.int .i64))).sz = 1 from rfl, Nat.mul_one] at hv603_0
         replace hv603_0 := Option.some.inj (hv603_0.symm.trans hx603_0)
         rw [hv603_0] at ge603_0
         have HL603_0 := hqZ (show Kd.R (Kd.int .i64) 3 _ _ _ _ (rd_L2 VF JW) from ge603_0)
         clear hv603_0 ge603_0
         have HX603_0 := hqZ hx603_0
         clear hcc603 hce603
         have da := hqZ hi603_0
         have HC603_0 := hqZ hl603_0
         clear hi603_0 hl603_0
         replace p603 := eq_true p603
         replace q603 := eq_true q603
         have ea_ := Option.some.inj (hx602_0.symm.trans hx603_0)
         injection ea_ with ea_ en_ ec_
         subst ea_
         subst ec_
         clear en_
         have p604 : 0 ≤ (VK : Int) := oA
         have q604 : VK < ((rd_L2 VF JW).length : Int) := oA
         obtain ⟨ad604, e604, hx604_0⟩ := Kd.at_int (by exact da.1) VK p604 q604
         cases e604
         replace p604 := eq_true p604
         replace q604 := eq_true q604
         have p605 : 0 ≤ (J9 : Int) := oA
         have q605 : J9 < (VF.length : Int) := oA
         obtain ⟨ad605, Jg7, Eo, e605, hx605_0, hl605_0, hi605_0⟩ := at_L2 (Kd.S_reads' Jy.1).2.2 J9 p605 q605
         obtain rfl : ad602 = ad605 := (by injection e605)
         obtain ⟨ce605, hce605, hMe605, hcc605⟩ := Kd.S_get Jy.1 [] J9 p605 (by exact q605)
         obtain ⟨ve605_0, rfl, ge605_0⟩ := hMe605
         have hv605_0 := hcc605 0 _ rfl
         rw [Nat.add_zero, show ((Kd.slice 3 (Kd.int .i64))).sz = 1 from rfl, Nat.mul_one] at hv605_0
         replace hv605_0 := Option.some.inj (hv605_0.symm.trans hx605_0)
         rw [hv605_0] at ge605_0
         have HL605_0 := hqZ (show Kd.R (Kd.int .i64) 3 _ _ _ _ (rd_L2 VF J9) from ge605_0)
         clear hv605_0 ge605_0
         have HX605_0 := hqZ hx605_0
         clear hcc605 hce605
         have db := hqZ hi605_0
         have HC605_0 := hqZ hl605_0
         clear hi605_0 hl605_0
         replace p605 := eq_true p605
         replace q605 := eq_true q605
         have p606 : 0 ≤ (J9 : Int) := oA
         have q606 : J9 < ((rd_L2 VF J9).length : Int) := oA
         obtain ⟨ad606, e606, hx606_0⟩ := Kd.at_int (by exact db.1) J9 p606 q606
         cases e606
         replace p606 := eq_true p606
         replace q606 := eq_true q606
         have p607 : 0 ≤ (JW : Int) := oA
         have q607 : JW < (VF.length : Int) := oA
         obtain ⟨ad607, Jg8, Jg9, e607, hx607_0, hl607_0, hi607_0⟩ := at_L2 (Kd.S_reads' Jy.1).2.2 JW p607 q607
         obtain rfl : ad602 = ad607 := (by injection e607)
         obtain ⟨ce607, hce607, hMe607, hcc607⟩ := Kd.S_get Jy.1 [] JW p607 (by exact q607)
         obtain ⟨ve607_0, rfl, ge607_0⟩ := hMe607
         have hv607_0 := hcc607 0 _ rfl
         rw [Nat.add_zero, show ((Kd.slice 3 (Kd.int .i64))).sz = 1 from rfl, Nat.mul_one] at hv607_0
         replace hv607_0 := Option.some.inj (hv607_0.symm.trans hx607_0)
         rw [hv607_0] at ge607_0
         have HL607_0 := hqZ (show Kd.R (Kd.int .i64) 3 _ _ _ _ (rd_L2 VF JW) from ge607_0)
         clear hv607_0 ge607_0
         have HX607_0 := hqZ hx607_0
         clear hcc607 hce607
         have dc := hqZ hi607_0
         have HC607_0 := hqZ hl607_0
         clear hi607_0 hl607_0
         replace p607 := eq_true p607
         replace q607 := eq_true q607
         have ea_ := Option.some.inj (hx602_0.symm.trans hx607_0)
         injection ea_ with ea_ en_ ec_
         subst ea_
         subst ec_
         clear en_
         have p608 : 0 ≤ (J9 : Int) := oA
         have q608 : J9 < ((rd_L2 VF JW).length : Int) := oA
         obtain ⟨ad608, e608, hx608_0⟩ := Kd.at_int (by exact dc.1) J9 p608 q608
         cases e608
         replace p608 := eq_true p608
         replace q608 := eq_true q608
         have p609 : 0 ≤ (J9 : Int) := oA
         have q609 : J9 < (VF.length : Int) := oA
         obtain ⟨ad609, Jh0, Jh1, e609, hx609_0, hl609_0, hi609_0⟩ := at_L2 (Kd.S_reads' Jy.1).2.2 J9 p609 q609
         obtain rfl : ad602 = ad609 := (by injection e609)
         obtain ⟨ce609, hce609, hMe609, hcc609⟩ := Kd.S_get Jy.1 [] J9 p609 (by exact q609)
         obtain ⟨ve609_0, rfl, ge609_0⟩ := hMe609
         have hv609_0 := hcc609 0 _ rfl
         rw [Nat.add_zero, show ((Kd.slice 3 (Kd.int .i64))).sz = 1 from rfl, Nat.mul_one] at hv609_0
         replace hv609_0 := Option.some.inj (hv609_0.symm.trans hx609_0)
         rw [hv609_0] at ge609_0
         have HL609_0 := hqZ (show Kd.R (Kd.int .i64) 3 _ _ _ _ (rd_L2 VF J9) from ge609_0)
         clear hv609_0 ge609_0
         have HX609_0 := hqZ hx609_0
         clear hcc609 hce609
         have de := hqZ hi609_0
         have HC609_0 := hqZ hl609_0
         clear hi609_0 hl609_0
         replace p609 := eq_true p609
         replace q609 := eq_true q609
         have ea_ := Option.some.inj (hx605_0.symm.trans hx609_0)
         injection ea_ with ea_ en_ ec_
         subst ea_
         subst ec_
         clear en_
         have p610 : 0 ≤ (VK : Int) := oA
         have q610 : VK < ((rd_L2 VF J9).length : Int) := oA
         obtain ⟨ad610, e610, hx610_0⟩ := Kd.at_int (by exact de.1) VK p610 q610
         cases e610
         replace p610 := eq_true p610
         replace q610 := eq_true q610
         have p40 : 0 ≤ (VK : Int) := oA
         have q40 : (VK : Int) < (((rd_L2 VF JW).length : Int) : Int) := oA
         obtain ⟨Ep, Jp8, eo40, M6, gl40, cl40, HG40⟩ := Kd.R_form HL602_0.1 (by omega)
         (cases eo40)
         have GB40 := hqZ M6
         have GG40 := hqZ HG40
         clear M6 gl40 HG40
         (simp only [add_plain] at hx608_0)
         obtain ⟨hx40_0, hf40_0⟩ := Kd.R_celln 0 HL602_0.1 (VK : Int) p40 q40
         replace p40 := eq_true p40
         replace q40 := eq_true q40
         have hq43 : (JW : Int) < (VF.length : Int) := (by have h_ : (JW : Int) < ((VF.length : Int) : Int) := oA; exact h_)
         obtain ⟨oki43, ce43, hcl43, hM43, hcc43, hok43, hbk43⟩ := Kd.S_borrow Jy.1 [] (JW : Int) (oA) hq43
         obtain ⟨ve43_0, rfl, ge43_0⟩ := hM43
         have hv43 := hcc43 0 _ rfl
         rw [Nat.add_zero, show ((Kd.slice 3 (Kd.int .i64))).sz = 1 from rfl, Nat.mul_one] at hv43
         replace hv43 := Option.some.inj (hv43.symm.trans HX602_0.1)
         subst hv43
         clear hcc43 hcl43
         replace ge43_0 := (show Kd.R (Kd.int .i64) 3 _ _ _ _ (rd_L2 VF JW) from ge43_0)
         have HP43 := Kd.R_putg ge43_0 (VK : Int) (wrap64 (Int.tdiv (wrap64 ((wrap64 ((rd (rd_L2 VF JW) VK) * (rd (rd_L2 VF J9) J9))) - (wrap64 ((rd (rd_L2 VF JW) J9) * (rd (rd_L2 VF J9) VK))))) Vp))
         rw [← Ny611.1] at HP43
         have HS43 := hbk43 HP43.2 (fun k_ e_ => by injection e_ with e_; subst e_; exact ge43_0.1 _ rfl) (x' := ma) (Kd.M_row HP43.1)
         rw [← Ny613.1] at HS43
         have M7 := hqZ HS43
         clear HP43 HS43 hbk43 hok43
         (try simp only [add_plain] at hx604_0)
         refine start_ (n := 40) (S := fun w' => w'.cell? (ad602.add (JW).toNat) = some (.slice (some ⟨Ep, 0, none⟩) (rd_L2 VF JW).length qG) ∧ w'.cell? (ad602.add (JW).toNat) = some (.slice (some ⟨Ep, 0, none⟩) (rd_L2 VF JW).length qG) ∧ w'.cell? ⟨Ep, (VK).toNat, none⟩ = some (.int .i64 (rd (rd_L2 VF JW) VK)) ∧ w'.cell? (ad602.add (J9).toNat) = some (.slice (some ad606) (rd_L2 VF J9).length Eo) ∧ w'.cell? (ad606.add (J9).toNat) = some (.int .i64 (rd (rd_L2 VF J9) J9)) ∧ w'.cell? (ad602.add (JW).toNat) = some (.slice (some ⟨Ep, 0, none⟩) (rd_L2 VF JW).length qG) ∧ w'.cell? ⟨Ep, (J9).toNat, none⟩ = some (.int .i64 (rd (rd_L2 VF JW) J9)) ∧ w'.cell? (ad602.add (J9).toNat) = some (.slice (some ad606) (rd_L2 VF J9).length Eo) ∧ w'.cell? (ad606.add (VK).toNat) = some (.int .i64 (rd (rd_L2 VF J9) VK))) (ds := [39]) #[false, false, false, false, false, false, false, false, false, false, false, false, false, false, false, false, false, false, false, false, false, false, false, false, false, false, false, false, false, false, false, false, false, false, false, false, false, false, false, false] (by kernel_rfl) rfl rfl ⟨hx602_0, hx603_0, hx604_0, hx605_0, hx606_0, hx607_0, hx608_0, hx609_0, hx610_0⟩ (fun hHeld => ?_); refine with_tabW yb0.tab25 yb0.bits25 (fun HT_ HW_ => ?_)
         generalize wr.drew = w41 at Jy HB GG40 HL602_0 HL603_0 HL605_0 HL607_0 HL609_0 M7 ZE da db dc de HX602_0 HX603_0 HX605_0 HX607_0 HX609_0 hf40_0 hx40_0 hx602_0 hx603_0 hx604_0 hx605_0 hx606_0 hx607_0 hx608_0 hx609_0 hx610_0 hHeld ⊢
         refine pure_ (i := 0) (N := some 84) (v := ?_) (a' := ?_) (bf 40 1) rfl rfl (zt0 HT_.1 (by kernel_rfl)) (fun _ _ _ h => h) (Or.inl ⟨by rfl, ?_⟩) ?_ ?_
         rotate_left
         ·intro w'; go_simp; with_reducible rfl
         rotate_left
         ·simp only [Act.put, zA, zB, zC, i64_w, i32_w]; rfl
         refine pure_ (i := 1) (N := some 85) (v := ?_) (a' := ?_) (bf 40 3) rfl rfl (zt0 HT_.1 (by kernel_rfl)) (fun _ _ _ h => h) (Or.inl ⟨by rfl, ?_⟩) ?_ ?_
         rotate_left
         ·intro w'; go_simp; with_reducible rfl
         rotate_left
         ·simp only [Act.put, zA, zB, zC, i64_w, i32_w]; rfl
         refine pure_ (i := 2) (N := some 86) (v := ?_) (a' := ?_) (bf 40 7) rfl rfl (zt0 HT_.1 (by kernel_rfl)) (fun _ _ _ h => h) (Or.inl ⟨by rfl, ?_⟩) ?_ ?_
         rotate_left
         ·intro w'; go_simp; with_reducible rfl
         rotate_left
         ·simp only [Act.put, zA, zB, zC, i64_w, i32_w]; rfl
         refine pure_ (i := 4) (N := some 88) (v := ?_) (a' := ?_) (bf 40 23) rfl rfl (zt0 HT_.1 (by kernel_rfl)) (fun _ _ _ h => h) (Or.inl ⟨by rfl, ?_⟩) ?_ ?_
         rotate_left
         ·intro w'; go_simp; with_reducible rfl
         rotate_left
         ·simp only [Act.put, zA, zB, zC, i64_w, i32_w]; rfl
         refine pure_ (i := 5) (N := some 89) (v := ?_) (a' := ?_) (bf 40 55) rfl rfl (zt0 HT_.1 (by kernel_rfl)) (fun _ _ _ h => h) (Or.inl ⟨by rfl, ?_⟩) ?_ ?_
         rotate_left
         ·intro w'; go_simp; with_reducible rfl
         rotate_left
         ·simp only [Act.put, zA, zB, zC, i64_w, i32_w]; rfl
         refine pure_ (i := 6) (N := some 90) (v := ?_) (a' := ?_) (bf 40 119) rfl rfl (zt0 HT_.1 (by kernel_rfl)) (fun _ _ _ h => h) (Or.inl ⟨by rfl, ?_⟩) ?_ ?_
         rotate_left
         ·intro w'; go_simp; with_reducible rfl
         rotate_left
         ·simp only [Act.put, zA, zB, zC, i64_w, i32_w]; rfl
         refine pure_ (i := 7) (N := some 91) (v := ?_) (a' := ?_) (bf 40 247) rfl rfl (zt0 HT_.1 (by kernel_rfl)) (fun _ _ _ h => h) (Or.inl ⟨by rfl, ?_⟩) ?_ ?_
         rotate_left
         ·intro w'; go_simp; with_reducible rfl
         rotate_left
         ·simp only [Act.put, zA, zB, zC, i64_w, i32_w]; rfl
         refine pure_ (i := 9) (N := some 93) (v := ?_) (a' := ?_) (bf 40 759) rfl rfl (zt0 HT_.1 (by kernel_rfl)) (fun _ _ _ h => h) (Or.inl ⟨by rfl, ?_⟩) ?_ ?_
         rotate_left
         ·intro w'; go_simp; with_reducible rfl
         rotate_left
         ·simp only [Act.put, zA, zB, zC, i64_w, i32_w]; rfl
         refine pure_ (i := 12) (N := some 96) (v := ?_) (a' := ?_) (bf 40 4855) rfl rfl (zt0 HT_.1 (by kernel_rfl)) (fun _ _ _ h => h) (Or.inl ⟨by rfl, ?_⟩) ?_ ?_
         rotate_left
         ·intro w'; go_simp; with_reducible rfl
         rotate_left
         ·simp only [Act.put, zA, zB, zC, i64_w, i32_w]; rfl
         refine pure_ (i := 13) (N := some 97) (v := ?_) (a' := ?_) (bf 40 13047) rfl rfl (zt0 HT_.1 (by kernel_rfl)) (fun _ _ _ h => h) (Or.inl ⟨by rfl, ?_⟩) ?_ ?_
         rotate_left
         ·intro w'; go_simp; with_reducible rfl
         rotate_left
         ·simp only [Act.put, zA, zB, zC, i64_w, i32_w]; rfl
         refine pure_ (i := 14) (N := some 98) (v := ?_) (a' := ?_) (bf 40 29431) rfl rfl (zt0 HT_.1 (by kernel_rfl)) (fun _ _ _ h => h) (Or.inl ⟨by rfl, ?_⟩) ?_ ?_
         rotate_left
         ·intro w'; go_simp; with_reducible rfl
         rotate_left
         ·simp only [Act.put, zA, zB, zC, i64_w, i32_w]; rfl
         refine pure_ (i := 16) (N := some 100) (v := ?_) (a' := ?_) (bf 40 94967) rfl rfl (zt0 HT_.1 (by kernel_rfl)) (fun _ _ _ h => h) (Or.inl ⟨by rfl, ?_⟩) ?_ ?_
         rotate_left
         ·intro w'; go_simp; with_reducible rfl
         rotate_left
         ·simp only [Act.put, zA, zB, zC, i64_w, i32_w]; rfl
         refine pure_ (i := 20) (N := some 104) (v := ?_) (a' := ?_) (bf 40 1143543) rfl rfl (zt0 HT_.1 (by kernel_rfl)) (fun _ _ _ h => h) (Or.inl ⟨by rfl, ?_⟩) ?_ ?_
         rotate_left
         ·intro w'; go_simp; with_reducible rfl
         rotate_left
         ·simp only [Act.put, zA, zB, zC, i64_w, i32_w]; rfl
         refine pure_ (i := 21) (N := some 105) (v := ?_) (a' := ?_) (bf 40 3240695) rfl rfl (zt0 HT_.1 (by kernel_rfl)) (fun _ _ _ h => h) (Or.inl ⟨by rfl, ?_⟩) ?_ ?_
         rotate_left
         ·intro w'; go_simp; with_reducible rfl
         rotate_left
         ·simp only [Act.put, zA, zB, zC, i64_w, i32_w]; rfl
         refine pure_ (i := 22) (N := some 106) (v := ?_) (a' := ?_) (bf 40 7434999) rfl rfl (zt0 HT_.1 (by kernel_rfl)) (fun _ _ _ h => h) (Or.inl ⟨by rfl, ?_⟩) ?_ ?_
         rotate_left
         ·intro w'; go_simp; with_reducible rfl
         rotate_left
         ·simp only [Act.put, zA, zB, zC, i64_w, i32_w]; rfl
         refine pure_ (i := 24) (N := some 108) (v := ?_) (a' := ?_) (bf 40 24212215) rfl rfl (zt0 HT_.1 (by kernel_rfl)) (fun _ _ _ h => h) (Or.inl ⟨by rfl, ?_⟩) ?_ ?_
         rotate_left
         ·intro w'; go_simp; with_reducible rfl
         rotate_left
         ·simp only [Act.put, zA, zB, zC, i64_w, i32_w]; rfl
         refine pure_ (i := 27) (N := some 111) (v := ?_) (a' := ?_) (bf 40 158429943) rfl rfl (zt0 HT_.1 (by kernel_rfl)) (fun _ _ _ h => h) (Or.inl ⟨by rfl, ?_⟩) ?_ ?_
         rotate_left
         ·intro w'; go_simp; with_reducible rfl
         rotate_left
         ·simp only [Act.put, zA, zB, zC, i64_w, i32_w]; rfl
         refine pure_ (i := 28) (N := some 112) (v := ?_) (a' := ?_) (bf 40 426865399) rfl rfl (zt0 HT_.1 (by kernel_rfl)) (fun _ _ _ h => h) (Or.inl ⟨by rfl, ?_⟩) ?_ ?_
         rotate_left
         ·intro w'; go_simp; with_reducible rfl
         rotate_left
         ·simp only [Act.put, zA, zB, zC, i64_w, i32_w]; rfl
         refine pure_ (i := 29) (N := some 113) (v := ?_) (a' := ?_) (bf 40 963736311) rfl rfl (zt0 HT_.1 (by kernel_rfl)) (fun _ _ _ h => h) (Or.inl ⟨by rfl, ?_⟩) ?_ ?_
         rotate_left
         ·intro w'; go_simp; with_reducible rfl
         rotate_left
         ·simp only [Act.put, zA, zB, zC, i64_w, i32_w]; rfl
         refine pure_ (i := 31) (N := some 115) (v := ?_) (a' := ?_) (bf 40 3111219959) rfl rfl (zt0 HT_.1 (by kernel_rfl)) (fun _ _ _ h => h) (Or.inl ⟨by rfl, ?_⟩) ?_ ?_
         rotate_left
         ·intro w'; go_simp; with_reducible rfl
         rotate_left
         ·simp only [Act.put, zA, zB, zC, i64_w, i32_w]; rfl
         refine pure_ (i := 36) (N := some 120) (v := ?_) (a' := ?_) (bf 40 71830696695) rfl rfl (zt0 HT_.1 (by kernel_rfl)) (fun _ _ _ h => h) (Or.inl ⟨by rfl, ?_⟩) ?_ ?_
         rotate_left
         ·intro w'; go_simp; with_reducible rfl
         rotate_left
         ·simp only [Act.put, zA, zB, zC, i64_w, i32_w]; rfl
         refine take_ (i := 3) (N := some 87) (v := ?_) (a' := ?_) (bf 40 71830696703) rfl rfl (take_ofW HT_.1 HW_.1 (by kernel_rfl)) (fun _ _ _ h => h) (Or.inl ⟨by rfl, ?_⟩) hHeld ?_ ?_
         rotate_left
         ·rintro w' ⟨s0, s1, s2, s3, s4, s5, s6, s7, s8⟩; go_simp; with_reducible rfl
         rotate_left
         ·simp only [Act.put, zA, zB, zC, i64_w, i32_w]; rfl
         refine take_ (i := 8) (N := some 92) (v := ?_) (a' := ?_) (bf 40 71830696959) rfl rfl (take_ofW HT_.1 HW_.1 (by kernel_rfl)) (fun _ _ _ h => h) (Or.inl ⟨by rfl, ?_⟩) hHeld ?_ ?_
         rotate_left
         ·rintro w' ⟨s0, s1, s2, s3, s4, s5, s6, s7, s8⟩; go_simp; with_reducible rfl
         rotate_left
         ·simp only [Act.put, zA, zB, zC, i64_w, i32_w]; rfl
         refine pure_ (i := 10) (N := some 94) (v := ?_) (a' := ?_) (bf 40 71830697983) rfl rfl (zt0 HT_.1 (by kernel_rfl)) (fun _ _ _ h => h) (Or.inl ⟨by rfl, ?_⟩) ?_ ?_
         rotate_left
         ·intro w'; go_simp; with_reducible rfl
         rotate_left
         ·simp only [Act.put, zA, zB, zC, i64_w, i32_w]; rfl
         refine take_ (i := 11) (N := some 95) (v := ?_) (a' := ?_) (bf 40 71830700031) rfl rfl (take_ofW HT_.1 HW_.1 (by kernel_rfl)) (fun _ _ _ h => h) (Or.inl ⟨by rfl, ?_⟩) hHeld ?_ ?_
         rotate_left
         ·rintro w' ⟨s0, s1, s2, s3, s4, s5, s6, s7, s8⟩; go_simp; with_reducible rfl
         rotate_left
         ·simp only [Act.put, zA, zB, zC, i64_w, i32_w]; rfl
         refine take_ (i := 15) (N := some 99) (v := ?_) (a' := ?_) (bf 40 71830732799) rfl rfl (take_ofW HT_.1 HW_.1 (by kernel_rfl)) (fun _ _ _ h => h) (Or.inl ⟨by rfl, ?_⟩) hHeld ?_ ?_
         rotate_left
         ·rintro w' ⟨s0, s1, s2, s3, s4, s5, s6, s7, s8⟩; go_simp; with_reducible rfl
         rotate_left
         ·simp only [Act.put, zA, zB, zC, i64_w, i32_w]; rfl
         refine pure_ (i := 17) (N := some 101) (v := ?_) (a' := ?_) (bf 40 71830863871) rfl rfl (zt0 HT_.1 (by kernel_rfl)) (fun _ _ _ h => h) (Or.inl ⟨by rfl, ?_⟩) ?_ ?_
         rotate_left
         ·intro w'; go_simp; with_reducible rfl
         rotate_left
         ·simp only [Act.put, zA, zB, zC, i64_w, i32_w]; rfl
         refine take_ (i := 18) (N := some 102) (v := ?_) (a' := ?_) (bf 40 71831126015) rfl rfl (take_ofW HT_.1 HW_.1 (by kernel_rfl)) (fun _ _ _ h => h) (Or.inl ⟨by rfl, ?_⟩) hHeld ?_ ?_
         rotate_left
         ·rintro w' ⟨s0, s1, s2, s3, s4, s5, s6, s7, s8⟩; go_simp; with_reducible rfl
         rotate_left
         ·simp only [Act.put, zA, zB, zC, i64_w, i32_w]; rfl
         refine pure_ (i := 19) (N := some 103) (v := ?_) (a' := ?_) (bf 40 71831650303) rfl rfl (zt0 HT_.1 (by kernel_rfl)) (fun _ _ _ h => h) (Or.inl ⟨by rfl, ?_⟩) ?_ ?_
         rotate_left
         ·intro w'; go_simp; with_reducible rfl
         rotate_left
         ·simp only [Act.put, zA, zB, zC, i64_w, i32_w]; rfl
         refine take_ (i := 23) (N := some 107) (v := ?_) (a' := ?_) (bf 40 71840038911) rfl rfl (take_ofW HT_.1 HW_.1 (by kernel_rfl)) (fun _ _ _ h => h) (Or.inl ⟨by rfl, ?_⟩) hHeld ?_ ?_
         rotate_left
         ·rintro w' ⟨s0, s1, s2, s3, s4, s5, s6, s7, s8⟩; go_simp; with_reducible rfl
         rotate_left
         ·simp only [Act.put, zA, zB, zC, i64_w, i32_w]; rfl
         refine pure_ (i := 25) (N := some 109) (v := ?_) (a' := ?_) (bf 40 71873593343) rfl rfl (zt0 HT_.1 (by kernel_rfl)) (fun _ _ _ h => h) (Or.inl ⟨by rfl, ?_⟩) ?_ ?_
         rotate_left
         ·intro w'; go_simp; with_reducible rfl
         rotate_left
         ·simp only [Act.put, zA, zB, zC, i64_w, i32_w]; rfl
         refine take_ (i := 26) (N := some 110) (v := ?_) (a' := ?_) (bf 40 71940702207) rfl rfl (take_ofW HT_.1 HW_.1 (by kernel_rfl)) (fun _ _ _ h => h) (Or.inl ⟨by rfl, ?_⟩) hHeld ?_ ?_
         rotate_left
         ·rintro w' ⟨s0, s1, s2, s3, s4, s5, s6, s7, s8⟩; go_simp; with_reducible rfl
         rotate_left
         ·simp only [Act.put, zA, zB, zC, i64_w, i32_w]; rfl
         refine take_ (i := 30) (N := some 114) (v := ?_) (a' := ?_) (bf 40 73014444031) rfl rfl (take_ofW HT_.1 HW_.1 (by kernel_rfl)) (fun _ _ _ h => h) (Or.inl ⟨by rfl, ?_⟩) hHeld ?_ ?_
         rotate_left
         ·rintro w' ⟨s0, s1, s2, s3, s4, s5, s6, s7, s8⟩; go_simp; with_reducible rfl
         rotate_left
         ·simp only [Act.put, zA, zB, zC, i64_w, i32_w]; rfl
         refine pure_ (i := 32) (N := some 116) (v := ?_) (a' := ?_) (bf 40 77309411327) rfl rfl (zt0 HT_.1 (by kernel_rfl)) (fun _ _ _ h => h) (Or.inl ⟨by rfl, ?_⟩) ?_ ?_
         rotate_left
         ·intro w'; go_simp; with_reducible rfl
         rotate_left
         ·simp only [Act.put, zA, zB, zC, i64_w, i32_w]; rfl
         refine take_ (i := 33) (N := some 117) (v := ?_) (a' := ?_) (bf 40 85899345919) rfl rfl (take_ofW HT_.1 HW_.1 (by kernel_rfl)) (fun _ _ _ h => h) (Or.inl ⟨by rfl, ?_⟩) hHeld ?_ ?_
         rotate_left
         ·rintro w' ⟨s0, s1, s2, s3, s4, s5, s6, s7, s8⟩; go_simp; with_reducible rfl
         rotate_left
         ·simp only [Act.put, zA, zB, zC, i64_w, i32_w]; rfl
         refine pure_ (i := 34) (N := some 118) (v := ?_) (a' := ?_) (bf 40 103079215103) rfl rfl (zt0 HT_.1 (by kernel_rfl)) (fun _ _ _ h => h) (Or.inl ⟨by rfl, ?_⟩) ?_ ?_
         rotate_left
         ·intro w'; go_simp; with_reducible rfl
         rotate_left
         ·simp only [Act.put, zA, zB, zC, i64_w, i32_w]; rfl
         refine pure_ (i := 35) (N := some 119) (v := ?_) (a' := ?_) (bf 40 137438953471) rfl rfl (zt0 HT_.1 (by kernel_rfl)) (fun _ _ _ h => h) (Or.inl ⟨by rfl, ?_⟩) ?_ ?_
         rotate_left
         ·intro w'; go_simp; with_reducible rfl
         rotate_left
         ·simp only [Act.put, zA, zB, zC, i64_w, i32_w]; rfl
         refine pure_ (i := 37) (N := some 121) (v := ?_) (a' := ?_) (bf 40 274877906943) rfl rfl (zt0 HT_.1 (by kernel_rfl)) (fun _ _ _ h => h) (Or.inl ⟨by rfl, ?_⟩) ?_ ?_
         rotate_left
         ·intro w'; go_simp; with_reducible rfl
         rotate_left
         ·simp only [Act.put, zA, zB, zC, i64_w, i32_w]; rfl
         refine pure_ (i := 38) (N := some 122) (v := ?_) (a' := ?_) (bf 40 549755813887) rfl rfl (zt0 HT_.1 (by kernel_rfl)) (fun _ _ _ h => h) (Or.inl ⟨by rfl, ?_⟩) ?_ ?_
         rotate_left
         ·intro w'; go_simp; with_reducible rfl
         rotate_left
         ·simp only [Act.put, zA, zB, zC, i64_w, i32_w]; rfl
         refine last_ (i := 39) (N := none) (bf 40 1099511627775) rfl rfl (one_of HT_.1 (by kernel_rfl)) (by decide) (fun K hK => ?_)
         refine skip_ (w1 := ?_) (by rfl) rfl ?_ ?_
         rotate_left
         ·go_simp
          rfl
         refine hK.out _ _ ?_
         clear hK K
         refine done_ (done_of HT_.1 (by kernel_rfl)) ?_
         try go_wp2
         go_roundg k6
         case measure => have := V8.1; have := YO.1; have := UN.1; have := dN.1; have := dO.1; have := NK.1; omega
         case rel => exact ⟨(M5), (wrap64 (VK + 1)), (rfl), H', ⟨by have := V8.1; have := YO.1; have := UN.1; have := dN.1; have := dO.1; have := NK.1; omega⟩, ⟨M7.1⟩, ⟨zm0 HB.1 GB40.1⟩⟩
def yh2.f (l0 : List Int) (a1 a2 : Int) : Option (List Int) := if 0 ≤ a1 then (if a1 < (l0.length : Int) then (if a2 = a1 + 1 then (some (l0.eraseIdx a1.toNat)) else (none)) else (none)) else (none)
theorem slices_Delete_int_int_some {l0 : List Int} {a1 a2 : Int} {r : List Int} (h : yh2.f l0 a1 a2 = some r) : ∃ i : Nat, a1 = i ∧ i < l0.length ∧ a2 = ((i + 1 : Nat) : Int) ∧ r = l0.eraseIdx i := by
 unfold yh2.f at h
 by_cases h1 : 0 ≤ a1
 rotate_left
 ·rw [if_neg h1] at h; cases h
 rw [if_pos h1] at h
 by_cases h2 : a1 < (l0.length : Int)
 rotate_left
 ·rw [if_neg h2] at h; cases h
 rw [if_pos h2] at h
 by_cases h3 : a2 = a1 + 1
 rotate_left
 ·rw [if_neg h3] at h; cases h
 rw [if_pos h3] at h
 exact ⟨a1.toNat, by omega, by omega, by omega, (Option.some.inj h).symm⟩
theorem R_spare {α : Type} {d : Kd α} (hz : d.sz = 1) {e base g n c : Nat} {ok : Nat → Prop} {W : World} {xs : List α} (h : d.R e W base ok (.slice (some ⟨g, 0, none⟩) n c) xs) {j : Nat} (hj : j < c) : (W.cell? ⟨g, j, none⟩).isSome = true ∧ W.frozen? ⟨g, j, none⟩ = false := by
 obtain ⟨_, inner, ⟨_, hcase⟩, _⟩ := h
 rcases hcase with ⟨hv, _⟩ | ⟨g', cap', cur, hv, _, hheap, _, _, hsz, _⟩
 ·cases hv
 ·injection hv with hv1 _ hv3
  injection hv1 with hv1
  injection hv1 with hv1 _ _
  subst hv1
  subst hv3
  rw [hz, Nat.mul_one] at hsz
  refine ⟨?_, by simp [World.frozen?, hheap]⟩
  simp only [World.cell?, hheap]
  simp [hsz, hj]
theorem R_past {α : Type} {d : Kd α} (hz : d.sz = 1) {e base g n c : Nat} {ok : Nat → Prop} {W : World} {xs : List α} (h : d.R e W base ok (.slice (some ⟨g, 0, none⟩) n c) xs) {j : Nat} (hj : n ≤ j) (u : Value) : d.R e (W.setCell ⟨g, j, none⟩ u) base ok (.slice (some ⟨g, 0, none⟩) n c) xs := by
 obtain ⟨hok, inner, ⟨hlen, hcase⟩, hreps⟩ := h
 rcases hcase with ⟨hv, _⟩ | ⟨g', cap', cur, hv, hb, hheap, hn, hc, hsz, ht⟩
 ·cases hv
 ·injection hv with hv1 hv2 hv3
  injection hv1 with hv1
  injection hv1 with hv1 _ _
  subst hv1
  subst hv3
  refine ⟨hok, inner, ⟨hlen, .inr ⟨g, c, cur.setIfInBounds j u, by rw [hv2], hb, ?_, hn, hc, by simpa using hsz, ?_⟩⟩, hreps.imp_ (fun p cs hp => d.M_move (fun k hk => Below.heap_setCell W ⟨g, j, none⟩ u k (fun he => hk.2 (by rw [he]; rfl))) hp)⟩
  ·simp only [World.setCell, Array.getElem?_modify, if_true, hheap, Option.map_some]
   rfl
  ·rw [← ht, hz, Nat.mul_one, ← hv2, Array.toList_setIfInBounds, List.take_set_of_le hj]
theorem zeroInt (w : World) : (zeroValue 3).run Try.prog w = .ok (.int .i64 0) w := by kernel_rfl
theorem yh2.calls (P0_ : Nat → Prop) (u0_ : Value) (l0 : List Int) (a1 : Int) (a2 : Int) (r : List Int) (w0 w : World) (hB : Below w0.heap.size w0 w) (ho0 : Kd.R (Kd.int .i64) 3 w w0.heap.size P0_ u0_ l0) (h : yh2.f l0 a1 a2 = some r) :
  Calls Try.prog 65 #[u0_, .int .i64 a1, .int .i64 a2] w fun e w' => ∃ v0_ : Value, e = .returned v0_ ∧ Kd.R (Kd.int .i64) 3 w' w0.heap.size (fun k_ => (P0_ k_ ∨ w.heap.size ≤ k_)) v0_ r ∧ Below w0.heap.size w0 w' ∧ Kept w w' (fun k_ => P0_ k_) := by
 obtain ⟨i, rfl, hi, rfl, rfl⟩ := slices_Delete_int_int_some h
 clear h
 obtain ⟨g, c, rfl, hgb, hgl, cl, hcl⟩ := Kd.R_form ho0 (by omega)
 have hcap := (Kd.R_reads' ho0).2.1
 obtain ⟨n, hn⟩ : ∃ n, n = l0.length := ⟨_, rfl⟩
 rw [← hn] at ho0 hi hcap ⊢
 obtain ⟨j, hj⟩ : ∃ j, j = i + 1 := ⟨_, rfl⟩
 rw [← hj]
 have hij : i < j := by omega
 have hjn : j ≤ n := by omega
 have hic : i ≤ c := by omega
 have hjc : j ≤ c := by omega
 obtain ⟨i0, hi0, hz0, hz1, hz2⟩ := info_parts info3
 have ht := Try.underlying27
 have HO := hqZ (Kd.R_drew ho0)
 have HB := hqZ (below_drew1 hB)
 have HW := hqZ hB.size
 have HG := hqZ (ho0.1 g rfl)
 have HJ := hqZ hj
 have HN := hqZ hn
 have hne : ¬ ((i : Int) = (j : Int)) := by omega
 have hneb : ((i : Int) == (j : Int)) = false := beq_eq_false_iff_ne.mpr hne
 clear hcl hj hn ho0 hB hgb
 go_enter Try.func65, Try.ntmps65
 go_wp2_with fail
 have hAj : ∀ (x : Option Addr), x = (if c = j then (some (⟨g, 0, none⟩ : Addr)) else some ⟨g, j, none⟩) → x = if c = i + 1 then (some (⟨g, 0, none⟩ : Addr)) else (some (⟨g, 0, none⟩ : Addr)).map (·.add ((i + 1) * (Kd.int .i64).sz)) := by
  intro x hx
  rw [hx, HJ.1]
  split
  ·rfl
  ·show _ = some (Addr.add ⟨g, 0, none⟩ ((i + 1) * 1)); rw [Nat.mul_one, add_plain]
 have HAJ := hqZ hAj
 clear hAj
 refine start_ (n := 8) (S := fun _ => True) (ds := []) #[false, false, false, false, false, false, false, false] (by kernel_rfl) rfl rfl trivial (fun hHeld => ?_)
 refine pu 0 (some 20) (v := ?_) (a' := ?_) (bf 8 1) ?_ ?_ ?_
 rotate_left
 ·intro w'; go_simp; with_reducible rfl
 rotate_left
 ·simp only [Act.put, zA, zB, zC, i64_w, i32_w]; rfl
 refine pu 1 (some 21) (v := ?_) (a' := ?_) (bf 8 3) ?_ ?_ ?_
 rotate_left
 ·intro w'; go_simp; with_reducible rfl
 rotate_left
 ·simp only [Act.put, zA, zB, zC, i64_w, i32_w]; rfl
 refine pu 2 (some 22) (v := ?_) (a' := ?_) (bf 8 7) ?_ ?_ ?_
 rotate_left
 ·intro w'; go_simp; with_reducible rfl
 rotate_left
 ·simp only [Act.put, zA, zB, zC, i64_w, i32_w]; rfl
 refine pu 3 (some 23) (v := ?_) (a' := ?_) (bf 8 15) ?_ ?_ ?_
 rotate_left
 ·intro w'; go_simp; with_reducible rfl
 rotate_left
 ·simp only [Act.put, zA, zB, zC, i64_w, i32_w]; rfl
 refine pu 4 (some 24) (v := ?_) (a' := ?_) (bf 8 31) ?_ ?_ ?_
 rotate_left
 ·intro w'; go_simp; with_reducible rfl
 rotate_left
 ·simp only [Act.put, zA, zB, zC, i64_w, i32_w]; rfl
 refine pu 5 (some 25) (v := ?_) (a' := ?_) (bf 8 63) ?_ ?_ ?_
 rotate_left
 ·intro w'; go_simp; with_reducible rfl
 rotate_left
 ·simp only [Act.put, zA, zB, zC, i64_w, i32_w]; rfl
 refine one_ (i := 6) (N := some 26) (bf 8 127) rfl rfl (by kernel_rfl) (by decide) (fun K hK => ?_)
 refine Kd.R_delete_step (Kd.int .i64) (w0 := w0) w0.heap.size (by rfl) (.tmp 22) (.tmp 25) 27 3 rfl ht (by rw [hi0]; simp only [Option.map_some, hz1]; rfl) rfl rfl (HAJ.1 _ (by rfl)) (by rw [HJ.1]) HO.1 hi HB.1 (by have := HW.1; exact this) ?_
 intro w1 hr hb hg
 have HR := hqZ hr
 have HB1 := hqZ hb
 have HG1 := hqZ hg
 clear hr hb hg
 refine hK.out _ _ trivial (fun hHeld => ?_)
 clear hK K
 refine norm_ (a' := ?_) ?_ ?_
 rotate_left
 ·show Act.put _ (some 26) _ = _; simp only [Act.put, zA, zB, zC, i64_w, i32_w]; rfl
 refine pu 7 (some 0) (v := ?_) (a' := ?_) (bf 8 255) ?_ ?_ ?_
 rotate_left
 ·intro w'; go_simp; with_reducible rfl
 rotate_left
 ·simp only [Act.put, zA, zB, zC, i64_w, i32_w]; rfl
 refine done_ (by kernel_rfl) ?_
 generalize (if c = j then (some (⟨g, 0, none⟩ : Addr)) else some ⟨g, j, none⟩) = zz_
 obtain ⟨m, hm⟩ : ∃ m, m = n - 1 := ⟨_, rfl⟩
 have hr := HR.1
 rw [← hm] at hr ⊢
 have jz := hqZ hr
 clear HR hr HAJ
 have hmn : m < n := by omega
 have hmn2 : m ≤ n := by omega
 have hmc : m < c := by omega
 have hnc : n ≤ c := hcap
 have h1 : n - m = 1 := by omega
 have hcl : ∀ ty, (Builtin.clear_ #[27] ty #[.slice (some ⟨g, m, none⟩) (n - m) (c - m)]).run Try.prog w1 = .ok (.tuple #[]) (w1.setCell ⟨g, m, none⟩ (.int .i64 0)) := fun ty => by
  have hh := Lib.run_clear_slice w1 27 3 ty (.int .i64 0) ht zeroInt rfl rfl g m (n - m) (c - m) (by omega) (fun q hq => by rw [show m + q = m by omega]; exact (R_spare rfl jz.1 hmc).1) (fun q hq => by rw [show m + q = m by omega]; exact (R_spare rfl jz.1 hmc).2)
  rw [h1] at hh ⊢
  exact hh
 clear hm h1
 go_wp2
 go_ret
 refine ⟨_, rfl, Kd.R_mono (R_past rfl jz.1 (Nat.le_refl m) (.int .i64 0)) (fun _ hk => .inl hk), ?_, ?_⟩
 ·exact zm0 HB1.1 (Kd.R_base jz.1 g rfl)
 ·exact Kept.setCell (Kept.of_grown (S := fun k_ => P0_ k_) HG1.1 (Kept.drew (Kept.refl w _)) (fun k_ e_ => by injection e_ with e_; subst e_; exact .inl HG.1)) (.inl HG.1) _
mutual
def yk0.l0 : Nat → Int → List (List Int) → List (List Int) → Int → Int → List (List Int) → Option ((List (List Int)))
 | 0, _, _, _, _, _, _ => none
 | k + 1, x1, x5, jA, oY, us, vy => if us < oY then (if 0 ≤ us then (if us < (jA.length : Int) then (if us = x1 then (yk0.l0 k x1 x5 jA oY (wrap64 (us + 1)) vy) else (if 0 ≤ (vy.length : Int) then (if ((vy.length : Int) : Int).toNat ≤ 35184372088832 then ((some (List.replicate ((vy.length : Int) : Int).toNat 0 : List Int)).bind fun Xn => (if us < (Xn.length : Int) then (yk0.l1 k x1 x5 (Xn.set (us : Int).toNat ((rd_L2 jA us).length : Int)) jA oY us (rd_L2 jA us) ((rd_L2 jA us).length : Int) 0 vy) else (none))) else (none)) else (none))) else (none)) else (none)) else (some x5)
def yk0.l1 : Nat → Int → List (List Int) → List Int → List (List Int) → Int → Int → List Int → Int → Int → List (List Int) → Option ((List (List Int)))
 | 0, _, _, _, _, _, _, _, _, _, _ => none
 | k + 1, x1, x5, x8, jA, oY, us, UL, x33, Dj, vy => if Dj < x33 then (if 0 ≤ Dj then (if Dj < (UL.length : Int) then (if 0 ≤ (rd UL Dj) then (if (rd UL Dj) < (x8.length : Int) then (yk0.l1 k x1 x5 (x8.set ((rd UL Dj) : Int).toNat (wrap64 ((rd x8 (rd UL Dj)) - 1))) jA oY us UL x33 (wrap64 (Dj + 1)) vy) else (none)) else (none)) else (none)) else (none)) else ((yh2.f x8 x1 (wrap64 (x1 + 1))).bind fun qH => (if x5.length < 5864062014805 then (yk0.l0 k x1 (x5 ++ [qH]) jA oY (wrap64 (us + 1)) vy) else (none)))
end
def yk0.f (k : Nat) (J0 : List (List Int)) (a1 : Int) : Option ((List (List Int))) := yk0.l0 k a1 (([] : List (List Int))) J0 (J0.length : Int) 0 J0
theorem yk0.mono_l : ∀ k, (∀ y0 y1 y2 y3 y4 y5, LeO (yk0.l0 k y0 y1 y2 y3 y4 y5) (yk0.l0 (k + 1) y0 y1 y2 y3 y4 y5)) ∧ (∀ y0 y1 y2 y3 y4 y5 y6 y7 y8 y9, LeO (yk0.l1 k y0 y1 y2 y3 y4 y5 y6 y7 y8 y9) (yk0.l1 (k + 1) y0 y1 y2 y3 y4 y5 y6 y7 y8 y9))
 | 0 => ⟨fun _ _ _ _ _ _ r h => by simp [yk0.l0] at h, fun _ _ _ _ _ _ _ _ _ _ r h => by simp [yk0.l1] at h⟩
 | k + 1 => by
  obtain ⟨ih0, ih1⟩ := yk0.mono_l k
  refine ⟨?_, ?_⟩
  ·intro y0 y1 y2 y3 y4 y5
   unfold yk0.l0
   repeat' (with_reducible first | apply ih0 | apply ih1 | apply LeO.refl | apply LeO.none | refine LeO.ite ?_ ?_ | refine LeO.bind ?_ (fun _ => ?_))
  ·intro y0 y1 y2 y3 y4 y5 y6 y7 y8 y9
   unfold yk0.l1
   repeat' (with_reducible first | apply ih0 | apply ih1 | apply LeO.refl | apply LeO.none | refine LeO.ite ?_ ?_ | refine LeO.bind ?_ (fun _ => ?_))
theorem yk0.mono : ∀ a0 a1 k, LeO (yk0.f k a0 a1) (yk0.f (k + 1) a0 a1) := by
 intro a0 a1 k
 obtain ⟨ih0, ih1⟩ := yk0.mono_l k
 unfold yk0.f
 repeat' (with_reducible first | apply ih0 | apply ih1 | apply LeO.refl | apply LeO.none | refine LeO.ite ?_ ?_ | refine LeO.bind ?_ (fun _ => ?_))
theorem yk0.calls (k : Nat) (J4 : Option Addr) (J2 : Nat) (J0 : List (List Int)) (a1 : Int) (r : List (List Int)) (w : World) (hr0_0 : Kd.C (Kd.slice 3 (Kd.int .i64)) w J4 J0.length J0) (hc0_0 : J0.length ≤ J2) (h : yk0.f k J0 a1 = some r) :
  Calls Try.prog 49 #[.agg #[.slice J4 J0.length J2], .int .i64 a1] w fun e w' => ∃ v0_ : Value, e = .returned (v0_) ∧ Kd.S (Kd.slice 3 (Kd.int .i64)) 27 w' w.heap.size (fun _ => True) v0_ r ∧ Below w.heap.size w w' := by
 have hu26 := Try.underlying26
 have Ja := hqZ hr0_0
 have HC0_0 := hqZ hc0_0
 clear hr0_0 hc0_0
 have HB := hqZ (Below.refl w.heap.size w)
 have H : (yk0.l0 k a1 (([] : List (List Int))) J0 (J0.length : Int) 0 J0) = some r := h
 clear h
 obtain ⟨M8, hy615⟩ : ∃ y_ : List (List Int), y_ = (([] : List (List Int))) := ⟨_, rfl⟩
 replace H : (yk0.l0 k a1 M8 J0 (J0.length : Int) 0 J0) = some r := by (rw [hy615]; with_reducible exact H)
 have Ny615 := hqZ hy615
 clear hy615
 have H' := hqZ H
 clear H
 go_enter Try.func49, Try.ntmps49
 go_wp2_with (first | ((with_reducible refine zi0 (N := 2) rfl ?_); refine zk0 ?hg (N := 2) ?hd (cs := #[.slice J4 J0.length J2]) (t := 26) ?hr ?_; (case hd | hg => rfl); (case hr => go_simp); intro ut hg w3 hbox hb; have VX := hqZ (hbox); have Jl3 := hqZ ((by rw [hg]; exact (zb0 (HB.1)) : w.heap.size ≤ ut)); have Jl4 := hqZ ((by rw [hg]; exact (zb0 (HB.1)) : w.heap.size ≤ ut)); replace HB := hqZ (za0 (HB.1) hb); clear hb hbox hg) | ((with_reducible refine zi0 (N := 11) rfl ?_); refine Kd.S_lit (Kd.slice 3 (Kd.int .i64)) _ 27 ?hg (N := 11) ?hd (xs := ([] : List (List Int))) (inner := []) (ok := fun _ => True) (okp := fun _ => True) ?hr ?hp (fun _ hk => hk) trivial (Below.refl _ _) (Nat.le_refl _) (by simp) ?_; (case hd | hg => rfl); (case hr => go_simp); (case hp => exact (Reps.none _ _)); intro v616 w4 ho5 hb hg_ hnew_; clear hg_ hnew_; (rw [← Ny615.1] at ho5); have M9 := hqZ (Kd.S_lower ho5 (zb0 (HB.1))); replace VX := hqZ (zd0 (g := ut) (VX.1) hb); replace HB := hqZ (za0 (HB.1) hb); clear hb ho5; have Yk : w4.cell? ⟨ut, 0, none⟩ = some (.slice J4 J0.length J2) := (zf0 VX.1 0).trans rfl; have Yz := zc0 VX.1 0))
 go_loopg [5, 15] k (fun kq v5 v15 w' => ∃ (Vv : List (List Int)) (Jm : Int), v15 = .int .i64 Jm ∧ zg0 (yk0.l0 kq a1 Vv J0 (J0.length : Int) Jm J0 = some r) ∧ zg0 (kq ≤ k) ∧ zg0 (Kd.S (Kd.slice 3 (Kd.int .i64)) 27 w' w.heap.size (fun _ => True) v5 Vv) ∧ zg0 (w'.heap[ut]? = some (.cells #[(.slice J4 J0.length J2)] 26 (0, 0))) ∧ zg0 (Below w.heap.size w w'))
 case atStart => exact ⟨(M8), (0), (rfl), H', ⟨Nat.le_refl _⟩, ⟨M9.1⟩, ⟨VX.1⟩, ⟨HB.1⟩⟩
 case round =>
  clear H'
  try clear p2
  try clear c4
  try clear Yk
  try clear Yz
  obtain ⟨Vv, Jm, rfl, HA, V8, Jc, VX, HB⟩ := hrel
  obtain _ | k1 := gk
  ·exact absurd HA.1 (by simp [yk0.l0])
  have H := HA.1
  clear HA
  simp only [yk0.l0] at H
  by_cases c7 : Jm < (J0.length : Int)
  rotate_left
  ·rw [if_neg c7] at H
   have c7b0 : decide (Jm < (J0.length : Int)) = false := decide_eq_false c7
   clear c7
   obtain rfl := Option.some.inj H
   go_wp2
   go_ret
   exact ⟨_, rfl, Jc.1, HB.1⟩
  rw [if_pos c7] at H
  have c7b0 : decide (Jm < (J0.length : Int)) = true := decide_eq_true c7
  clear c7
  by_cases c8 : 0 ≤ Jm
  rotate_left
  ·rw [if_neg c8] at H
   exact absurd H (by simp)
  rw [if_pos c8] at H
  have c8b0 : decide (0 ≤ Jm) = true := decide_eq_true c8
  clear c8
  by_cases c9 : Jm < (J0.length : Int)
  rotate_left
  ·rw [if_neg c9] at H
   exact absurd H (by simp)
  rw [if_pos c9] at H
  have c9b0 : decide (Jm < (J0.length : Int)) = true := decide_eq_true c9
  clear c9
  by_cases c10 : Jm = a1
  ·rw [if_pos c10] at H
   have c10b0 : (Jm == a1) = true := beq_iff_eq.mpr c10
   have c10b1 : (Jm != a1) = false := bne_eq_false_iff_eq.mpr c10
   clear c10
   have H' := hqZ H
   clear H
   have p618 : 0 ≤ (Jm : Int) := oA
   have q618 : Jm < (J0.length : Int) := oA
   obtain ⟨ad618, mb, mc, e618, hx618_0, hl618_0, hi618_0⟩ := at_L2 Ja.1 Jm p618 q618
   cases e618
   replace hx618_0 := (HB.1.cell (World.block_lt_of_cell? w _ hx618_0)).trans hx618_0
   have df := hqZ hi618_0
   have HC618_0 := hqZ hl618_0
   clear hi618_0 hl618_0
   replace p618 := eq_true p618
   replace q618 := eq_true q618
   go_wp2
   go_roundg k1
   case measure => have := V8.1; omega
   case rel => exact ⟨(Vv), (wrap64 (Jm + 1)), (rfl), H', ⟨by have := V8.1; omega⟩, ⟨Jc.1⟩, ⟨VX.1⟩, ⟨HB.1⟩⟩
  rw [if_neg c10] at H
  have c10b0 : (Jm == a1) = false := beq_eq_false_iff_ne.mpr c10
  have c10b1 : (Jm != a1) = true := bne_iff_ne.mpr c10
  by_cases c11 : 0 ≤ (J0.length : Int)
  rotate_left
  ·rw [if_neg c11] at H
   exact absurd H (by simp)
  rw [if_pos c11] at H
  have c11b0 := eq_true c11
  have c11b1 : decide (0 ≤ (J0.length : Int)) = true := decide_eq_true c11
  clear c11
  by_cases c12 : ((J0.length : Int) : Int).toNat ≤ 35184372088832
  rotate_left
  ·rw [if_neg c12] at H
   exact absurd H (by simp)
  rw [if_pos c12] at H
  have c12b0 := eq_true c12
  have c12b1 : decide (((J0.length : Int) : Int).toNat ≤ 35184372088832) = true := decide_eq_true c12
  clear c12
  obtain ⟨Xn, hy619⟩ : ∃ y_ : List Int, y_ = (List.replicate ((J0.length : Int) : Int).toNat 0) := ⟨_, rfl⟩
  replace H : (if Jm < (Xn.length : Int) then (yk0.l1 k1 a1 Vv (Xn.set (Jm : Int).toNat ((rd_L2 J0 Jm).length : Int)) J0 (J0.length : Int) Jm (rd_L2 J0 Jm) ((rd_L2 J0 Jm).length : Int) 0 J0) else (none)) = some r := by (have H2_ := (Option.bind_some _ _).symm.trans H; rw [hy619]; with_reducible exact H2_)
  have Ny619 := hqZ hy619
  clear hy619
  by_cases c13 : Jm < (Xn.length : Int)
  rotate_left
  ·rw [if_neg c13] at H
   exact absurd H (by simp)
  rw [if_pos c13] at H
  have c13b0 : decide (Jm < (Xn.length : Int)) = true := decide_eq_true c13
  clear c13
  obtain ⟨me, hy622⟩ : ∃ y_ : List Int, y_ = (Xn.set (Jm : Int).toNat ((rd_L2 J0 Jm).length : Int)) := ⟨_, rfl⟩
  replace H : (yk0.l1 k1 a1 Vv me J0 (J0.length : Int) Jm (rd_L2 J0 Jm) ((rd_L2 J0 Jm).length : Int) 0 J0) = some r := by (rw [hy622]; with_reducible exact H)
  have Ny622 := hqZ hy622
  clear hy622
  have H' := hqZ H
  clear H
  have p618 : 0 ≤ (Jm : Int) := oA
  have q618 : Jm < (J0.length : Int) := oA
  obtain ⟨ad618, mb, mc, e618, hx618_0, hl618_0, hi618_0⟩ := at_L2 Ja.1 Jm p618 q618
  cases e618
  replace hx618_0 := (HB.1.cell (World.block_lt_of_cell? w _ hx618_0)).trans hx618_0
  have df := hqZ hi618_0
  have HC618_0 := hqZ hl618_0
  clear hi618_0 hl618_0
  replace p618 := eq_true p618
  replace q618 := eq_true q618
  have jL : wr.cell? ⟨ut, 0, none⟩ = some (.slice (some ad618) J0.length J2) := (zf0 VX.1 0).trans rfl
  have jM := zc0 VX.1 0
  go_wp2_with (first | ((with_reducible refine zi0 (N := 26) rfl ?_); refine Kd.R_make (Kd.int .i64) _ 3 rfl (N := 26) rfl 27 _ _ rfl (J0.length : Int) rfl rfl Try.underlying27 (.int .i64 0) 8 info3 rfl (by decide) (by omega) 0 (ok := fun _ => True) (okp := fun _ => True) rfl (fun _ hk => hk) trivial (oA) (Nat.le_trans (Nat.mul_le_mul_right _ (oA : (J0.length : Int).toNat ≤ 35184372088832)) (by omega)) (Below.refl _ _) (Nat.le_refl _) ?_; intro v620 w16 ho17 hb hg_ hnew_; clear hg_ hnew_; (rw [← Ny619.1] at ho17); replace Jc := hqZ (Kd.S_elder' (Jc.1) (Kd.R_base ho17) hb); have oS := hqZ (Kd.R_lower ho17 (zb0 (HB.1))); replace VX := hqZ (zd0 (g := ut) (VX.1) hb); replace HB := hqZ (za0 (HB.1) hb); clear hb ho17; have p14 : 0 ≤ (Jm : Int) := oA; have q14 : (Jm : Int) < ((Xn.length : Int) : Int) := oA; obtain ⟨uW, XL, eo14, Ma, gl14, cl14, HG14⟩ := Kd.R_form oS.1 (by omega); (cases eo14); have GB14 := hqZ Ma; have GG14 := hqZ HG14; clear Ma gl14 HG14; obtain ⟨hx14_0, hf14_0⟩ := Kd.R_celln 0 oS.1 (Jm : Int) p14 q14; replace p14 := eq_true p14; replace q14 := eq_true q14; obtain ⟨hy18_, hz18_⟩ := Kd.R_celln 0 oS.1 (Jm : Int) (oA) (oA); have HP18 := Kd.R_putg oS.1 (Jm : Int) ((rd_L2 J0 Jm).length : Int)) | ((with_reducible refine gate_store (t := 3) (p := 31) rfl ?_); refine store_event (t := 3) (p := 31) (v := ?vo_w19) (w1 := (w16.setCell ⟨uW, (Jm : Int).toNat, none⟩ (.int .i64 ((rd_L2 J0 Jm).length : Int)))) ?hg ?ho ?hn ?hr ?_; (case ho => rfl); (case hg => rfl); (case hn => rfl); (case hr => go_simp); intro w19 hw; have hg : w16.grownBy w19 (some uW) := (by rw [hw]; exact HP18.2); have hp_ : Kd.R (Kd.int .i64) 3 w19 w.heap.size (fun _ => True) (.slice (some ⟨uW, 0, none⟩) Xn.length XL) me := (by rw [hw, Ny622.1]; exact HP18.1); clear HP18; replace Jc := hqZ (Kd.S_after (v := (.slice (some ⟨uW, 0, none⟩) Xn.length XL)) (v1 := (.slice (some ⟨uW, 0, none⟩) Xn.length XL)) (ok := (fun _ => True)) (Jc.1) hg (.inl rfl)); replace VX := hqZ (zl0 (g := ut) (VX.1) hg (Kd.R_ne oS.1 VX.1 (by decide))); replace oS := hqZ (hp_); replace HB := hqZ ((by rw [hw]; exact zm0 (HB.1) GB14.1 : Below w.heap.size w w19)); clear hg hw hp_))
  go_loopg [34] k1 (fun kq v34 w' => ∃ (Jw : List Int) (VW : Int), v34 = .int .i64 VW ∧ zg0 (yk0.l1 kq a1 Vv Jw J0 (J0.length : Int) Jm (rd_L2 J0 Jm) ((rd_L2 J0 Jm).length : Int) VW J0 = some r) ∧ zg0 (kq ≤ k1) ∧ zg0 (Kd.S (Kd.slice 3 (Kd.int .i64)) 27 w' w.heap.size (fun k_ => some k_ ≠ ((.slice (some ⟨uW, 0, none⟩) Xn.length XL) : Value).ownBlock) u5 Vv) ∧ zg0 (Kd.R (Kd.int .i64) 3 w' w.heap.size (fun _ => True) (.slice (some ⟨uW, 0, none⟩) Xn.length XL) Jw) ∧ zg0 (w'.heap[ut]? = some (.cells #[(.slice (some ad618) J0.length J2)] 26 (0, 0))) ∧ zg0 (Below w.heap.size w w'))
  case atStart => exact ⟨(me), (0), (rfl), H', ⟨Nat.le_refl _⟩, ⟨Kd.S_mono Jc.1 (fun _ hk => hk.2)⟩, ⟨oS.1⟩, ⟨VX.1⟩, ⟨HB.1⟩⟩
  case round =>
   clear H'
   try clear c1
   try clear p1
   try clear q1
   try clear hx1
   try clear p2
   try clear c4
   try clear c6
   try clear p6
   try clear q6
   try clear hx6
   try clear c7
   try clear c7b0
   try clear c8
   try clear c8b0
   try clear c9
   try clear c9b0
   try clear c10
   try clear c10b0
   try clear c10b1
   try clear c11
   try clear c11b0
   try clear c11b1
   try clear c12
   try clear c12b0
   try clear c12b1
   try clear c13
   try clear c13b0
   try clear p14
   try clear q14
   try clear hx14
   try clear hf14
   try clear jL
   try clear Yk
   try clear jM
   try clear Yz
   try clear hx14_0
   try clear hx618_0
   try clear p14
   try clear p2
   try clear p618
   try clear q14
   try clear q618
   obtain ⟨Jw, VW, rfl, HA, YO, Jc, VP, VX, HB⟩ := hrel
   have hl8_2 := (Kd.R_reads' VP.1).1
   rw [hl8_2] at VP
   (try simp only [hl8_2])
   (try simp only [hl8_2] at VX)
   (try simp only [hl8_2] at Jc)
   obtain _ | k2 := gk
   ·exact absurd HA.1 (by simp [yk0.l1])
   have H := HA.1
   clear HA
   simp only [yk0.l1] at H
   by_cases c20 : VW < ((rd_L2 J0 Jm).length : Int)
   rotate_left
   ·rw [if_neg c20] at H
    have c20b0 : decide (VW < ((rd_L2 J0 Jm).length : Int)) = false := decide_eq_false c20
    (try (have c20b0h := c20b0; simp only [hl8_2] at c20b0h))
    clear c20
    replace H := Option.bind_eq_some_iff.mp H
    obtain ⟨qH, A280, H⟩ := H
    try dsimp only at H
    have A28 := hqZ A280
    clear A280
    by_cases c29 : Vv.length < 5864062014805
    rotate_left
    ·rw [if_neg c29] at H
     exact absurd H (by simp)
    rw [if_pos c29] at H
    have LMc29 := hqZ c29
    clear c29
    obtain ⟨Mb, hy629⟩ : ∃ y_ : List (List Int), y_ = (Vv ++ [qH]) := ⟨_, rfl⟩
    replace H : (yk0.l0 k2 a1 Mb J0 (J0.length : Int) (wrap64 (Jm + 1)) J0) = some r := by (rw [hy629]; with_reducible exact H)
    have Ny629 := hqZ hy629
    clear hy629
    have H' := hqZ H
    clear H
    go_wp2_with (first | ((with_reducible refine ze0 (f := 65) rfl ?_); refine zM (some 50) Try.func65 #[.slice (some ⟨uW, 0, none⟩) Jw.length XL, .int .i64 a1, .int .i64 (wrap64 (a1 + 1))] ?_; (with_reducible refine (yh2.calls (fun k_ => some k_ = (.slice (some ⟨uW, 0, none⟩) Jw.length XL : Value).ownBlock) (.slice (some ⟨uW, 0, none⟩) Jw.length XL) Jw a1 (wrap64 (a1 + 1)) qH w _ ?side1 ?side2 A28.1).mono ?_); (case side1 => exact HB.1); (case side2 => exact Kd.R_tight rfl VP.1); rintro e w30 ⟨v627, rfl, ho0, hb, hkp⟩; refine ⟨_, rfl, ?_⟩; have n0_ := hqZ (Kd.S_mono (ok' := fun k_ => some k_ ≠ (v627 : Value).ownBlock) (Kd.S_keptB (Jc.1) hkp (fun k_ hk_ hs_ => (hk_) hs_)) (fun k_ hk_ => fun e_ => Or.elim (ho0.1 k_ e_.symm) (fun hs_ => hk_.2.1 hs_) (fun hn_ => Nat.not_le.2 hk_.2.2 hn_))); have n1_ := hqZ (blk_kept (VX.1) hkp (fun hs_ => (fun e_ => (Kd.R_ne VP.1 VX.1 (by decide)) e_) hs_)); have n2_ := hqZ (Kd.R_mono (ok' := fun k_ => True) ho0 (fun k_ hk_ => trivial)); have n3_ := hqZ (hb); clear Jc; clear VX; clear HB; clear VP; have Jc := n0_; have VX := n1_; have dg := n2_; have HB := n3_; clear n0_ n1_ n2_ n3_; clear hb hkp ho0; obtain ⟨o6, XE, eo32⟩ := Kd.R_slice dg.1; subst eo32) | ((with_reducible refine zu0 (b := .append) (xs := #[.tmp 45, .tmp 51]) rfl ?_); at_builtin; refine Kd.S_append (Kd.slice 3 (Kd.int .i64)) (w0 := w) w.heap.size rfl (.tmp 45) (.tmp 51) 24 27 (.slice none 0 0) 24 rfl Try.underlying24 info27 rfl (by decide) (by omega) u5 Vv qH [.slice o6 qH.length XE] (fun _ => True) (fun k_ => some k_ = (.slice o6 qH.length XE : Value).ownBlock) rfl rfl ?aP (fun k_ hk_ => ((Kd.R_mono (ok' := fun k_ => ((fun _ => True)) k_ ∧ some k_ ≠ (u5 : Value).ownBlock) (Kd.R_apart' (dg.1) (Kd.S_typed Jc.1) (by decide)) (fun k_ hk => ⟨trivial, hk.2⟩))).1 k_ hk_.symm) ?aF ?aO ?aB ?aS ?aL ?_; (case aP => exact Kd.M_row (Kd.R_mono (Kd.R_tight rfl (Kd.R_mono (ok' := fun k_ => ((fun _ => True)) k_ ∧ some k_ ≠ (u5 : Value).ownBlock) (Kd.R_apart' (dg.1) (Kd.S_typed Jc.1) (by decide)) (fun k_ hk => ⟨trivial, hk.2⟩))) (fun _ h_ => h_))); (case aB => exact (HB.1)); (case aF => exact (fun _ _ => trivial)); (case aO => exact (Kd.S_mono Jc.1 (fun k_ hk => ⟨trivial, fun e_ => hk e_⟩))); (case aS => exact (zb0 (HB.1))); (case aL => have := LMc29.1; omega); intro v630 w31 ho hb hg hat; rw [← Ny629.1] at ho; have n0_ := hqZ (zl0 (g := ut) (VX.1) hg (Kd.S_ne Jc.1 VX.1 (by decide))); have n1_ := hqZ (hb); have n2_ := hqZ (ho); clear VX; clear HB; clear Jc; clear dg; have VX := n0_; have HB := n1_; have Mc := n2_; clear n0_ n1_ n2_; clear ho hb hg hat))
    (try simp only [← hl8_2])
    go_roundg k2
    case measure => have := V8.1; have := YO.1; omega
    case rel => exact ⟨(Mb), (wrap64 (Jm + 1)), (rfl), H', ⟨by have := V8.1; have := YO.1; omega⟩, ⟨by (try simp only [hl8_2]); exact Mc.1⟩, ⟨by (try simp only [hl8_2]); exact VX.1⟩, ⟨HB.1⟩⟩
   rw [if_pos c20] at H
   have c20b0 : decide (VW < ((rd_L2 J0 Jm).length : Int)) = true := decide_eq_true c20
   (try (have c20b0h := c20b0; simp only [hl8_2] at c20b0h))
   clear c20
   by_cases c21 : 0 ≤ VW
   rotate_left
   ·rw [if_neg c21] at H
    exact absurd H (by simp)
   rw [if_pos c21] at H
   have c21b0 : decide (0 ≤ VW) = true := decide_eq_true c21
   (try (have c21b0h := c21b0; simp only [hl8_2] at c21b0h))
   clear c21
   by_cases c22 : VW < ((rd_L2 J0 Jm).length : Int)
   rotate_left
   ·rw [if_neg c22] at H
    exact absurd H (by simp)
   rw [if_pos c22] at H
   have c22b0 : decide (VW < ((rd_L2 J0 Jm).length : Int)) = true := decide_eq_true c22
   (try (have c22b0h := c22b0; simp only [hl8_2] at c22b0h))
   clear c22
   by_cases c23 : 0 ≤ (rd (rd_L2 J0 Jm) VW)
   rotate_left
   ·rw [if_neg c23] at H
    exact absurd H (by simp)
   rw [if_pos c23] at H
   have c23b0 : decide (0 ≤ (rd (rd_L2 J0 Jm) VW)) = true := decide_eq_true c23
   (try (have c23b0h := c23b0; simp only [hl8_2] at c23b0h))
   clear c23
   by_cases c24 : (rd (rd_L2 J0 Jm) VW) < (Jw.length : Int)
   rotate_left
   ·rw [if_neg c24] at H
    exact absurd H (by simp)
   rw [if_pos c24] at H
   have c24b0 : decide ((rd (rd_L2 J0 Jm) VW) < (Jw.length : Int)) = true := decide_eq_true c24
   (try (have c24b0h := c24b0; simp only [hl8_2] at c24b0h))
   clear c24
   obtain ⟨mf, hy625⟩ : ∃ y_ : List Int, y_ = (Jw.set ((rd (rd_L2 J0 Jm) VW) : Int).toNat (wrap64 ((rd Jw (rd (rd_L2 J0 Jm) VW)) - 1))) := ⟨_, rfl⟩
   replace H : (yk0.l1 k2 a1 Vv mf J0 (J0.length : Int) Jm (rd_L2 J0 Jm) ((rd_L2 J0 Jm).length : Int) (wrap64 (VW + 1)) J0) = some r := by (rw [hy625]; with_reducible exact H)
   have Ny625 := hqZ hy625
   clear hy625
   have H' := hqZ H
   clear H
   have p623 : 0 ≤ (VW : Int) := oA
   have q623 : VW < ((rd_L2 J0 Jm).length : Int) := oA
   obtain ⟨ad623, e623, hx623_0⟩ := Kd.at_int df.1 VW p623 q623
   cases e623
   replace hx623_0 := (HB.1.cell (World.block_lt_of_cell? w _ hx623_0)).trans hx623_0
   replace p623 := eq_true p623
   replace q623 := eq_true q623
   have p624 : 0 ≤ ((rd (rd_L2 J0 Jm) VW) : Int) := oA
   have q624 : (rd (rd_L2 J0 Jm) VW) < (Jw.length : Int) := oA
   obtain ⟨ad624, e624, hx624_0⟩ := Kd.at_int (Kd.R_reads' VP.1).2.2 (rd (rd_L2 J0 Jm) VW) p624 q624
   obtain rfl : (⟨uW, 0, none⟩ : Addr) = ad624 := (by injection e624)
   (simp only [add_plain] at hx624_0)
   replace p624 := eq_true p624
   replace q624 := eq_true q624
   have p25 : 0 ≤ ((rd (rd_L2 J0 Jm) VW) : Int) := oA
   have q25 : ((rd (rd_L2 J0 Jm) VW) : Int) < ((Jw.length : Int) : Int) := oA
   obtain ⟨hx25_0, hf25_0⟩ := Kd.R_celln 0 VP.1 ((rd (rd_L2 J0 Jm) VW) : Int) p25 q25
   replace p25 := eq_true p25
   replace q25 := eq_true q25
   have HP26 := Kd.R_putg VP.1 ((rd (rd_L2 J0 Jm) VW) : Int) (wrap64 ((rd Jw (rd (rd_L2 J0 Jm) VW)) - 1))
   go_wp2_with (((with_reducible refine gate_store (t := 3) (p := 43) rfl ?_); refine store_event (t := 3) (p := 43) (v := ?vo_w27) (w1 := (wr.setCell ⟨uW, ((rd (rd_L2 J0 Jm) VW) : Int).toNat, none⟩ (.int .i64 (wrap64 ((rd Jw (rd (rd_L2 J0 Jm) VW)) - 1))))) ?hg ?ho ?hn ?hr ?_; (case ho => rfl); (case hg => rfl); (case hn => rfl); (case hr => go_simp); intro w27 hw; have hg : wr.grownBy w27 (some uW) := (by rw [hw]; exact HP26.2); have hp_ : Kd.R (Kd.int .i64) 3 w27 w.heap.size (fun _ => True) (.slice (some ⟨uW, 0, none⟩) Jw.length XL) mf := (by rw [hw, Ny625.1]; exact HP26.1); clear HP26; replace Jc := hqZ (Kd.S_after (v := (.slice (some ⟨uW, 0, none⟩) Jw.length XL)) (v1 := (.slice (some ⟨uW, 0, none⟩) Jw.length XL)) (ok := (fun _ => True)) (Kd.S_mono Jc.1 (fun _ hk => ⟨trivial, hk⟩)) hg (.inl rfl)); replace VX := hqZ (zl0 (g := ut) (VX.1) hg (Kd.R_ne VP.1 VX.1 (by decide))); replace VP := hqZ (hp_); replace HB := hqZ ((by rw [hw]; exact zm0 (HB.1) GB14.1 : Below w.heap.size w w27)); clear hg hw hp_))
   (try simp only [← hl8_2])
   go_roundg k2
   case measure => have := V8.1; have := YO.1; omega
   case rel => exact ⟨(mf), (wrap64 (VW + 1)), (rfl), H', ⟨by have := V8.1; have := YO.1; omega⟩, ⟨by (try simp only [hl8_2]); exact Kd.S_mono Jc.1 (fun _ hk => hk.2)⟩, ⟨by (try simp only [hl8_2]); exact VP.1⟩, ⟨by (try simp only [hl8_2]); exact VX.1⟩, ⟨HB.1⟩⟩
def yw0.l0 : Nat → Int → Int → List Int → Int → Int → List (List Int) → Option (Int × Bool)
 | 0, _, _, _, _, _, _ => none
 | k + 1, x1, x6, us, Uh, uY, dh => if uY < Uh then (if 0 ≤ uY then (if uY < (us.length : Int) then (if (wrap64 (x6 * (wrap64 ((rd us uY) + 1)))) > 5000 then (some (0, false)) else (yw0.l0 k x1 (wrap64 (x6 * (wrap64 ((rd us uY) + 1)))) us Uh (wrap64 (uY + 1)) dh)) else (none)) else (none)) else ((yk0.f k dh x1).bind fun Eq => ((yb0.f k Eq).bind fun mg => (some (mg, true))))
def yw0.f (k : Nat) (J0 : List (List Int)) (a1 : Int) : Option (Int × Bool) := (yj1.f k J0 a1).bind fun Er => (if Er = true then ((yp0.f k J0 a1).bind fun vr => (yw0.l0 k a1 1 vr (vr.length : Int) 0 J0)) else (some (0, false)))
theorem yw0.mono_l : ∀ k, (∀ y0 y1 y2 y3 y4 y5, LeO (yw0.l0 k y0 y1 y2 y3 y4 y5) (yw0.l0 (k + 1) y0 y1 y2 y3 y4 y5))
 | 0 => fun _ _ _ _ _ _ r h => by simp [yw0.l0] at h
 | k + 1 => by
  have ih0 := yw0.mono_l k
  ·intro y0 y1 y2 y3 y4 y5
   unfold yw0.l0
   repeat' (with_reducible first | apply ih0 | apply yb0.mono | apply yp0.mono | apply yj1.mono | apply yk0.mono | apply LeO.refl | apply LeO.none | refine LeO.ite ?_ ?_ | refine LeO.bind ?_ (fun _ => ?_))
theorem yw0.mono : ∀ a0 a1 k, LeO (yw0.f k a0 a1) (yw0.f (k + 1) a0 a1) := by
 intro a0 a1 k
 have ih0 := yw0.mono_l k
 unfold yw0.f
 repeat' (with_reducible first | apply ih0 | apply yb0.mono | apply yp0.mono | apply yj1.mono | apply yk0.mono | apply LeO.refl | apply LeO.none | refine LeO.ite ?_ ?_ | refine LeO.bind ?_ (fun _ => ?_))
theorem yw0.calls (k : Nat) (J4 : Option Addr) (J2 : Nat) (J0 : List (List Int)) (a1 : Int) (r1 : Int) (r2 : Bool) (w : World) (hr0_0 : Kd.C (Kd.slice 3 (Kd.int .i64)) w J4 J0.length J0) (hc0_0 : J0.length ≤ J2) (h : yw0.f k J0 a1 = some (r1, r2)) :
  Calls Try.prog 19 #[.agg #[.slice J4 J0.length J2], .int .i64 a1] w fun e w' => e = .returned (.tuple #[.int .i64 r1, .bool r2]) ∧ Below w.heap.size w w' := by
 have hu26 := Try.underlying26
 have Ja := hqZ hr0_0
 have HC0_0 := hqZ hc0_0
 clear hr0_0 hc0_0
 have HB := hqZ (Below.refl w.heap.size w)
 have H : ((yj1.f k J0 a1).bind fun Er => (if Er = true then ((yp0.f k J0 a1).bind fun vr => (yw0.l0 k a1 1 vr (vr.length : Int) 0 J0)) else (some (0, false)))) = some (r1, r2) := h
 clear h
 replace H := Option.bind_eq_some_iff.mp H
 obtain ⟨Er, A30, H⟩ := H
 try dsimp only at H
 have A3 := hqZ A30
 clear A30
 by_cases c4 : Er = true
 rotate_left
 ·replace c4 := Bool.eq_false_iff.mpr c4
  subst c4
  rw [if_neg (show ¬ (false = true) by decide)] at H
  simp only [Option.some.injEq, Prod.mk.injEq] at H
  obtain ⟨rfl, rfl⟩ := H
  go_enter Try.func19, Try.ntmps19
  go_wp2_with (first | ((with_reducible refine zi0 (N := 2) rfl ?_); refine zk0 ?hg (N := 2) ?hd (cs := #[.slice J4 J0.length J2]) (t := 26) ?hr ?_; (case hd | hg => rfl); (case hr => go_simp); intro vl hg w22 hbox hb; have Yx := hqZ (hbox); have Md := hqZ ((by rw [hg]; exact (zb0 (HB.1)) : w.heap.size ≤ vl)); have Me := hqZ ((by rw [hg]; exact (zb0 (HB.1)) : w.heap.size ≤ vl)); replace HB := hqZ (za0 (HB.1) hb); clear hb hbox hg; have Ul : w22.cell? ⟨vl, 0, none⟩ = some (.slice J4 J0.length J2) := (zf0 Yx.1 0).trans rfl; have Um := zc0 Yx.1 0) | ((with_reducible refine ze0 (f := 46) rfl ?_); refine zM (some 11) Try.func46 #[.agg #[.slice J4 J0.length J2], .int .i64 a1] ?_; (with_reducible refine (yj1.calls k _ _ J0 a1 false _ ?side1 ?side2 A3.1).mono ?_); (case side1 => exact (Kd.C_below Ja.1 HB.1)); (case side2 => exact HC0_0.1); rintro e w24 ⟨rfl, hb⟩; refine ⟨_, rfl, ?_⟩; replace Yx := hqZ (zd0 (g := vl) (Yx.1) hb); replace HB := hqZ (za0 (HB.1) hb); clear hb))
  go_ret2
  exact ⟨rfl, HB.1⟩
 subst c4
 rw [if_pos rfl] at H
 replace H := Option.bind_eq_some_iff.mp H
 obtain ⟨vr, A50, H⟩ := H
 try dsimp only at H
 have A5 := hqZ A50
 clear A50
 have H' := hqZ H
 clear H
 go_enter Try.func19, Try.ntmps19
 go_wp2_with (first | ((with_reducible refine zi0 (N := 2) rfl ?_); refine zk0 ?hg (N := 2) ?hd (cs := #[.slice J4 J0.length J2]) (t := 26) ?hr ?_; (case hd | hg => rfl); (case hr => go_simp); intro vl hg w6 hbox hb; have Yx := hqZ (hbox); have Md := hqZ ((by rw [hg]; exact (zb0 (HB.1)) : w.heap.size ≤ vl)); have Me := hqZ ((by rw [hg]; exact (zb0 (HB.1)) : w.heap.size ≤ vl)); replace HB := hqZ (za0 (HB.1) hb); clear hb hbox hg; have jC : w6.cell? ⟨vl, 0, none⟩ = some (.slice J4 J0.length J2) := (zf0 Yx.1 0).trans rfl; have jD := zc0 Yx.1 0) | ((with_reducible refine ze0 (f := 46) rfl ?_); refine zM (some 11) Try.func46 #[.agg #[.slice J4 J0.length J2], .int .i64 a1] ?_; (with_reducible refine (yj1.calls k _ _ J0 a1 true _ ?side1 ?side2 A3.1).mono ?_); (case side1 => exact (Kd.C_below Ja.1 HB.1)); (case side2 => exact HC0_0.1); rintro e w8 ⟨rfl, hb⟩; refine ⟨_, rfl, ?_⟩; replace Yx := hqZ (zd0 (g := vl) (Yx.1) hb); replace HB := hqZ (za0 (HB.1) hb); clear hb; have jB : w8.cell? ⟨vl, 0, none⟩ = some (.slice J4 J0.length J2) := (zf0 Yx.1 0).trans rfl; have vm := zc0 Yx.1 0) | ((with_reducible refine ze0 (f := 47) rfl ?_); refine zM (some 15) Try.func47 #[.agg #[.slice J4 J0.length J2], .int .i64 a1] ?_; (with_reducible refine (yp0.calls k _ _ J0 a1 vr _ ?side1 ?side2 A5.1).mono ?_); (case side1 => exact (Kd.C_below Ja.1 HB.1)); (case side2 => exact HC0_0.1); rintro e w10 ⟨v635, rfl, ho0, hb⟩; refine ⟨_, rfl, ?_⟩; have Dk := hqZ (Kd.R_lower ho0 (zb0 (HB.1))); replace Yx := hqZ (zd0 (g := vl) (Yx.1) hb); replace HB := hqZ (za0 (HB.1) hb); clear hb ho0; obtain ⟨j5, Yt, eo11⟩ := Kd.R_slice Dk.1; subst eo11))
 go_loopg [6, 17] k (fun kq v6 v17 w' => ∃ (JB : Int) (J7 : Int), v6 = .int .i64 JB ∧ v17 = .int .i64 J7 ∧ zg0 (yw0.l0 kq a1 JB vr (vr.length : Int) J7 J0 = some (r1, r2)) ∧ zg0 (kq ≤ k) ∧ zg0 (Kd.R (Kd.int .i64) 3 w' w.heap.size (fun _ => True) (.slice j5 vr.length Yt) vr) ∧ zg0 (w'.heap[vl]? = some (.cells #[(.slice J4 J0.length J2)] 26 (0, 0))) ∧ zg0 (Below w.heap.size w w'))
 case atStart => exact ⟨(1), (0), (rfl), (rfl), H', ⟨Nat.le_refl _⟩, ⟨Dk.1⟩, ⟨Yx.1⟩, ⟨HB.1⟩⟩
 case round =>
  clear H'
  try clear c1
  try clear p2
  try clear c4
  try clear jC
  try clear jB
  try clear jD
  try clear vm
  obtain ⟨JB, J7, rfl, rfl, HA, V8, Vq, Yx, HB⟩ := hrel
  obtain _ | k1 := gk
  ·exact absurd HA.1 (by simp [yw0.l0])
  have H := HA.1
  clear HA
  simp only [yw0.l0] at H
  by_cases c12 : J7 < (vr.length : Int)
  rotate_left
  ·rw [if_neg c12] at H
   have c12b0 : decide (J7 < (vr.length : Int)) = false := decide_eq_false c12
   clear c12
   replace H := Option.bind_eq_some_iff.mp H
   obtain ⟨Eq, A160, H⟩ := H
   try dsimp only at H
   have A16 := hqZ A160
   clear A160
   replace H := Option.bind_eq_some_iff.mp H
   obtain ⟨mg, A170, H⟩ := H
   try dsimp only at H
   have A17 := hqZ A170
   clear A170
   simp only [Option.some.injEq, Prod.mk.injEq] at H
   obtain ⟨rfl, rfl⟩ := H
   have YT : wr.cell? ⟨vl, 0, none⟩ = some (.slice J4 J0.length J2) := (zf0 Yx.1 0).trans rfl
   have YU := zc0 Yx.1 0
   go_wp2_with (first | ((with_reducible refine ze0 (f := 49) rfl ?_); refine zM (some 30) Try.func49 #[.agg #[.slice J4 J0.length J2], .int .i64 a1] ?_; (with_reducible refine (yk0.calls k1 _ _ J0 a1 Eq _ ?side1 ?side2 A16.1).mono ?_); (case side1 => exact (Kd.C_below Ja.1 HB.1)); (case side2 => exact HC0_0.1); rintro e w19 ⟨v639, rfl, ho0, hb⟩; refine ⟨_, rfl, ?_⟩; have UO := hqZ (Kd.S_lower (Kd.S_new' ho0 (Kd.R_lt (Vq.1))) (zb0 (HB.1))); replace Vq := hqZ (Kd.R_below (Vq.1) hb); replace Yx := hqZ (zd0 (g := vl) (Yx.1) hb); replace HB := hqZ (za0 (HB.1) hb); clear hb ho0; obtain ⟨oZ, U0, eo20⟩ := Kd.S_slice UO.1; subst eo20) | ((with_reducible refine ze0 (f := 48) rfl ?_); refine zM (some 31) Try.func48 #[.slice oZ Eq.length U0] ?_; (with_reducible refine (yb0.calls k1 _ _ Eq mg _ ?side1 ?side2 A17.1).mono ?_); (case side1 => exact (Kd.S_reads' UO.1).2.2); (case side2 => exact (Kd.S_reads' UO.1).2.1); rintro e w21 ⟨rfl, hb⟩; refine ⟨_, rfl, ?_⟩; replace Vq := hqZ (Kd.R_below (Vq.1) hb); replace UO := hqZ (Kd.S_below (UO.1) hb); replace Yx := hqZ (zd0 (g := vl) (Yx.1) hb); replace HB := hqZ (za0 (HB.1) hb); clear hb))
   go_ret2
   exact ⟨rfl, HB.1⟩
  rw [if_pos c12] at H
  have c12b0 : decide (J7 < (vr.length : Int)) = true := decide_eq_true c12
  clear c12
  by_cases c13 : 0 ≤ J7
  rotate_left
  ·rw [if_neg c13] at H
   exact absurd H (by simp)
  rw [if_pos c13] at H
  have c13b0 : decide (0 ≤ J7) = true := decide_eq_true c13
  clear c13
  by_cases c14 : J7 < (vr.length : Int)
  rotate_left
  ·rw [if_neg c14] at H
   exact absurd H (by simp)
  rw [if_pos c14] at H
  have c14b0 : decide (J7 < (vr.length : Int)) = true := decide_eq_true c14
  clear c14
  by_cases c15 : (wrap64 (JB * (wrap64 ((rd vr J7) + 1)))) > 5000
  ·rw [if_pos c15] at H
   have c15b0 : decide (5000 < (wrap64 (JB * (wrap64 ((rd vr J7) + 1))))) = true := decide_eq_true c15
   clear c15
   simp only [Option.some.injEq, Prod.mk.injEq] at H
   obtain ⟨rfl, rfl⟩ := H
   have p637 : 0 ≤ (J7 : Int) := oA
   have q637 : J7 < (vr.length : Int) := oA
   obtain ⟨ad637, e637, hx637_0⟩ := Kd.at_int (Kd.R_reads' Vq.1).2.2 J7 p637 q637
   cases e637
   replace p637 := eq_true p637
   replace q637 := eq_true q637
   go_wp2
   go_ret2
   exact ⟨rfl, HB.1⟩
  rw [if_neg c15] at H
  have c15b0 : decide (5000 < (wrap64 (JB * (wrap64 ((rd vr J7) + 1))))) = false := decide_eq_false c15
  clear c15
  have H' := hqZ H
  clear H
  have p637 : 0 ≤ (J7 : Int) := oA
  have q637 : J7 < (vr.length : Int) := oA
  obtain ⟨ad637, e637, hx637_0⟩ := Kd.at_int (Kd.R_reads' Vq.1).2.2 J7 p637 q637
  cases e637
  replace p637 := eq_true p637
  replace q637 := eq_true q637
  go_wp2
  go_roundg k1
  case measure => have := V8.1; omega
  case rel => exact ⟨(wrap64 (JB * (wrap64 ((rd vr J7) + 1)))), (wrap64 (J7 + 1)), (rfl), (rfl), H', ⟨by have := V8.1; omega⟩, ⟨Vq.1⟩, ⟨Yx.1⟩, ⟨HB.1⟩⟩
def yt1.f (a0 : Int) (a1 : Int) (a2 : Int) : Option (Bool) := if a0 ≥ a1 then (some (decide (a0 ≤ a2))) else (some false)
theorem yt1.calls (a0 : Int) (a1 : Int) (a2 : Int) (r : Bool) (w : World) (h : yt1.f a0 a1 a2 = some r) :
  Calls Try.prog 63 #[.int .i64 a0, .int .i64 a1, .int .i64 a2] w fun e w' => e = .returned (.bool r) ∧ Drawn0 w w' := by
 have H : (if a0 ≥ a1 then (some (decide (a0 ≤ a2))) else (some false)) = some r := h
 clear h
 by_cases c4 : a0 ≥ a1
 ·rw [if_pos c4] at H
  have c4b0 : decide (a1 ≤ a0) = true := decide_eq_true c4
  clear c4
  obtain rfl := Option.some.inj H
  go_enter Try.func63, Try.ntmps63
  go_wp2
  go_ret
  exact ⟨rfl, by repeat (exact Drawn0.refl _)⟩
 rw [if_neg c4] at H
 have c4b0 : decide (a1 ≤ a0) = false := decide_eq_false c4
 clear c4
 obtain rfl := Option.some.inj H
 go_enter Try.func63, Try.ntmps63
 go_wp2
 go_ret
 exact ⟨rfl, by repeat (exact Drawn0.refl _)⟩
def yu0.l0 : Nat → Int → Int → List Int → Int → Int → Option (Bool)
 | 0, _, _, _, _, _ => none
 | k + 1, x1, x2, x9, vq, YE => if YE < vq then (if 0 ≤ YE then (if YE < (x9.length : Int) then ((yt1.f (rd x9 YE) x1 x2).bind fun mh => (if mh = true then (yu0.l0 k x1 x2 x9 vq (wrap64 (YE + 1))) else (some false))) else (none)) else (none)) else (some true)
def yu0.f (k : Nat) (l0 : List Int) (a1 : Int) (a2 : Int) : Option (Bool) := yu0.l0 k a1 a2 l0 (l0.length : Int) 0
theorem yu0.mono_l : ∀ k, (∀ y0 y1 y2 y3 y4, LeO (yu0.l0 k y0 y1 y2 y3 y4) (yu0.l0 (k + 1) y0 y1 y2 y3 y4))
 | 0 => fun _ _ _ _ _ r h => by simp [yu0.l0] at h
 | k + 1 => by
  have ih0 := yu0.mono_l k
  ·intro y0 y1 y2 y3 y4
   unfold yu0.l0
   repeat' (with_reducible first | apply ih0 | apply LeO.refl | apply LeO.none | refine LeO.ite ?_ ?_ | refine LeO.bind ?_ (fun _ => ?_))
theorem yu0.mono : ∀ a0 a1 a2 k, LeO (yu0.f k a0 a1 a2) (yu0.f (k + 1) a0 a1 a2) := by
 intro a0 a1 a2 k
 have ih0 := yu0.mono_l k
 unfold yu0.f
 repeat' (with_reducible first | apply ih0 | apply LeO.refl | apply LeO.none | refine LeO.ite ?_ ?_ | refine LeO.bind ?_ (fun _ => ?_))
theorem yu0.calls (k : Nat) (A0 : Option Addr) (c0 : Nat) (l0 : List Int) (a1 : Int) (a2 : Int) (r : Bool) (w : World) (hr0 : Kd.C (Kd.int .i64) w A0 l0.length l0) (hc0 : l0.length ≤ c0) (h : yu0.f k l0 a1 a2 = some r) :
  Calls Try.prog 44 #[.slice A0 l0.length c0, .int .i64 a1, .int .i64 a2] w fun e w' => e = .returned (.bool r) ∧ Drawn0 w w' := by
 have uU := hqZ hr0
 have HC0 := hqZ hc0
 clear hr0 hc0
 have H : (yu0.l0 k a1 a2 l0 (l0.length : Int) 0) = some r := h
 clear h
 have H' := hqZ H
 clear H
 go_enter Try.func44, Try.ntmps44
 go_wp2
 go_loopg [11] k (fun kq v11 w' => ∃ (Jo : Int), v11 = .int .i64 Jo ∧ zg0 (yu0.l0 kq a1 a2 l0 (l0.length : Int) Jo = some r) ∧ zg0 (kq ≤ k) ∧ Drawn0 w w')
 case atStart => exact ⟨(0), (rfl), H', ⟨Nat.le_refl _⟩, by repeat (exact Drawn0.refl _)⟩
 case round =>
  clear H'
  try clear p2
  obtain ⟨Jo, rfl, HA, V8, ⟨m1, rfl⟩⟩ := hrel
  obtain _ | k1 := gk
  ·exact absurd HA.1 (by simp [yu0.l0])
  have H := HA.1
  clear HA
  simp only [yu0.l0] at H
  by_cases c4 : Jo < (l0.length : Int)
  rotate_left
  ·rw [if_neg c4] at H
   have c4b0 : decide (Jo < (l0.length : Int)) = false := decide_eq_false c4
   clear c4
   obtain rfl := Option.some.inj H
   go_wp2
   go_ret
   exact ⟨rfl, by repeat (first | exact Drawn0.refl _ | apply Drawn0.step)⟩
  rw [if_pos c4] at H
  have c4b0 : decide (Jo < (l0.length : Int)) = true := decide_eq_true c4
  clear c4
  by_cases c5 : 0 ≤ Jo
  rotate_left
  ·rw [if_neg c5] at H
   exact absurd H (by simp)
  rw [if_pos c5] at H
  have c5b0 : decide (0 ≤ Jo) = true := decide_eq_true c5
  clear c5
  by_cases c6 : Jo < (l0.length : Int)
  rotate_left
  ·rw [if_neg c6] at H
   exact absurd H (by simp)
  rw [if_pos c6] at H
  have c6b0 : decide (Jo < (l0.length : Int)) = true := decide_eq_true c6
  clear c6
  replace H := Option.bind_eq_some_iff.mp H
  obtain ⟨mh, A70, H⟩ := H
  try dsimp only at H
  have A7 := hqZ A70
  clear A70
  by_cases c8 : mh = true
  rotate_left
  ·replace c8 := Bool.eq_false_iff.mpr c8
   subst c8
   rw [if_neg (show ¬ (false = true) by decide)] at H
   obtain rfl := Option.some.inj H
   have p353 : 0 ≤ (Jo : Int) := oA
   have q353 : Jo < (l0.length : Int) := oA
   obtain ⟨ad353, e353, hx353_0⟩ := Kd.at_int uU.1 Jo p353 q353
   cases e353
   replace p353 := eq_true p353
   replace q353 := eq_true q353
   go_wp2_with (((with_reducible refine ze0 (f := 63) rfl ?_); refine zM (some 18) Try.func63 #[.int .i64 (rd l0 Jo), .int .i64 a1, .int .i64 a2] ?_; (with_reducible refine (yt1.calls (rd l0 Jo) a1 a2 false _ A7.1).mono ?_); rintro e w' ⟨rfl, ⟨nd, rfl⟩⟩; refine ⟨_, rfl, ?_⟩))
   go_ret
   exact ⟨rfl, by repeat (first | exact Drawn0.refl _ | apply Drawn0.step)⟩
  subst c8
  rw [if_pos rfl] at H
  have H' := hqZ H
  clear H
  have p353 : 0 ≤ (Jo : Int) := oA
  have q353 : Jo < (l0.length : Int) := oA
  obtain ⟨ad353, e353, hx353_0⟩ := Kd.at_int uU.1 Jo p353 q353
  cases e353
  replace p353 := eq_true p353
  replace q353 := eq_true q353
  go_wp2_with (((with_reducible refine ze0 (f := 63) rfl ?_); refine zM (some 18) Try.func63 #[.int .i64 (rd l0 Jo), .int .i64 a1, .int .i64 a2] ?_; (with_reducible refine (yt1.calls (rd l0 Jo) a1 a2 true _ A7.1).mono ?_); rintro e w' ⟨rfl, ⟨nd, rfl⟩⟩; refine ⟨_, rfl, ?_⟩))
  go_roundg k1
  case measure => have := V8.1; omega
  case rel => exact ⟨(wrap64 (Jo + 1)), (rfl), H', ⟨by have := V8.1; omega⟩, by repeat (first | exact Drawn0.refl _ | apply Drawn0.step)⟩
def yb1.l0 : Nat → Int → List (List Int) → Int → Int → Option (Bool)
 | 0, _, _, _, _ => none
 | k + 1, x3, jA, oY, us => if us < oY then (if 0 ≤ us then (if us < (jA.length : Int) then (if ((rd_L2 jA us).length : Int) > 5 then (some false) else ((yu0.f k (rd_L2 jA us) 0 (wrap64 (x3 - 1))).bind fun mi => (if mi = true then (yb1.l0 k x3 jA oY (wrap64 (us + 1))) else (some false)))) else (none)) else (none)) else (some true)
def yb1.f (k : Nat) (J0 : List (List Int)) : Option (Bool) := (yt1.f (J0.length : Int) 1 8).bind fun Es => (if Es = true then (yb1.l0 k (J0.length : Int) J0 (J0.length : Int) 0) else (some false))
theorem yb1.mono_l : ∀ k, (∀ y0 y1 y2 y3, LeO (yb1.l0 k y0 y1 y2 y3) (yb1.l0 (k + 1) y0 y1 y2 y3))
 | 0 => fun _ _ _ _ r h => by simp [yb1.l0] at h
 | k + 1 => by
  have ih0 := yb1.mono_l k
  ·intro y0 y1 y2 y3
   unfold yb1.l0
   repeat' (with_reducible first | apply ih0 | apply yu0.mono | apply LeO.refl | apply LeO.none | refine LeO.ite ?_ ?_ | refine LeO.bind ?_ (fun _ => ?_))
theorem yb1.mono : ∀ a0 k, LeO (yb1.f k a0) (yb1.f (k + 1) a0) := by
 intro a0 k
 have ih0 := yb1.mono_l k
 unfold yb1.f
 repeat' (with_reducible first | apply ih0 | apply yu0.mono | apply LeO.refl | apply LeO.none | refine LeO.ite ?_ ?_ | refine LeO.bind ?_ (fun _ => ?_))
theorem yb1.calls (k : Nat) (J4 : Option Addr) (J2 : Nat) (J0 : List (List Int)) (r : Bool) (w : World) (hr0_0 : Kd.C (Kd.slice 3 (Kd.int .i64)) w J4 J0.length J0) (hc0_0 : J0.length ≤ J2) (h : yb1.f k J0 = some r) :
  Calls Try.prog 62 #[.agg #[.slice J4 J0.length J2]] w fun e w' => e = .returned (.bool r) ∧ Below w.heap.size w w' := by
 have hu26 := Try.underlying26
 have Ja := hqZ hr0_0
 have HC0_0 := hqZ hc0_0
 clear hr0_0 hc0_0
 have HB := hqZ (Below.refl w.heap.size w)
 have H : ((yt1.f (J0.length : Int) 1 8).bind fun Es => (if Es = true then (yb1.l0 k (J0.length : Int) J0 (J0.length : Int) 0) else (some false))) = some r := h
 clear h
 replace H := Option.bind_eq_some_iff.mp H
 obtain ⟨Es, A20, H⟩ := H
 try dsimp only at H
 have A2 := hqZ A20
 clear A20
 by_cases c3 : Es = true
 rotate_left
 ·replace c3 := Bool.eq_false_iff.mpr c3
  subst c3
  rw [if_neg (show ¬ (false = true) by decide)] at H
  obtain rfl := Option.some.inj H
  go_enter Try.func62, Try.ntmps62
  go_wp2_with (first | ((with_reducible refine zi0 (N := 1) rfl ?_); refine zk0 ?hg (N := 1) ?hd (cs := #[.slice J4 J0.length J2]) (t := 26) ?hr ?_; (case hd | hg => rfl); (case hr => go_simp); intro XV hg w12 hbox hb; have XW := hqZ (hbox); have Mf := hqZ ((by rw [hg]; exact (zb0 (HB.1)) : w.heap.size ≤ XV)); have Mg := hqZ ((by rw [hg]; exact (zb0 (HB.1)) : w.heap.size ≤ XV)); replace HB := hqZ (za0 (HB.1) hb); clear hb hbox hg; have vw : w12.cell? ⟨XV, 0, none⟩ = some (.slice J4 J0.length J2) := (zf0 XW.1 0).trans rfl; have vx := zc0 XW.1 0) | ((with_reducible refine ze0 (f := 63) rfl ?_); refine zM (some 10) Try.func63 #[.int .i64 (J0.length : Int), .int .i64 1, .int .i64 8] ?_; (with_reducible refine (yt1.calls (J0.length : Int) 1 8 false _ A2.1).mono ?_); rintro e w' ⟨rfl, ⟨nd, rfl⟩⟩; refine ⟨_, rfl, ?_⟩))
  go_ret
  exact ⟨rfl, hqB HB.1⟩
 subst c3
 rw [if_pos rfl] at H
 have H' := hqZ H
 clear H
 go_enter Try.func62, Try.ntmps62
 go_wp2_with (first | ((with_reducible refine zi0 (N := 1) rfl ?_); refine zk0 ?hg (N := 1) ?hd (cs := #[.slice J4 J0.length J2]) (t := 26) ?hr ?_; (case hd | hg => rfl); (case hr => go_simp); intro XV hg w4 hbox hb; have XW := hqZ (hbox); have Mf := hqZ ((by rw [hg]; exact (zb0 (HB.1)) : w.heap.size ≤ XV)); have Mg := hqZ ((by rw [hg]; exact (zb0 (HB.1)) : w.heap.size ≤ XV)); replace HB := hqZ (za0 (HB.1) hb); clear hb hbox hg; have E1 : w4.cell? ⟨XV, 0, none⟩ = some (.slice J4 J0.length J2) := (zf0 XW.1 0).trans rfl; have mj := zc0 XW.1 0) | ((with_reducible refine ze0 (f := 63) rfl ?_); refine zM (some 10) Try.func63 #[.int .i64 (J0.length : Int), .int .i64 1, .int .i64 8] ?_; (with_reducible refine (yt1.calls (J0.length : Int) 1 8 true _ A2.1).mono ?_); rintro e w' ⟨rfl, ⟨nd, rfl⟩⟩; refine ⟨_, rfl, ?_⟩))
 go_loopg [15] k (fun kq v15 w' => ∃ (Jm : Int), v15 = .int .i64 Jm ∧ zg0 (yb1.l0 kq (J0.length : Int) J0 (J0.length : Int) Jm = some r) ∧ zg0 (kq ≤ k) ∧ zg0 (w'.heap[XV]? = some (.cells #[(.slice J4 J0.length J2)] 26 (0, 0))) ∧ zg0 (Below w.heap.size w w'))
 case atStart => exact ⟨(0), (rfl), H', ⟨Nat.le_refl _⟩, ⟨XW.1⟩, ⟨hqB HB.1⟩⟩
 case round =>
  clear H'
  try clear p2
  try clear c3
  try clear E1
  try clear mj
  obtain ⟨Jm, rfl, HA, V8, XW, HB⟩ := hrel
  obtain _ | k1 := gk
  ·exact absurd HA.1 (by simp [yb1.l0])
  have H := HA.1
  clear HA
  simp only [yb1.l0] at H
  by_cases c6 : Jm < (J0.length : Int)
  rotate_left
  ·rw [if_neg c6] at H
   have c6b0 : decide (Jm < (J0.length : Int)) = false := decide_eq_false c6
   clear c6
   obtain rfl := Option.some.inj H
   go_wp2
   go_ret
   exact ⟨rfl, HB.1⟩
  rw [if_pos c6] at H
  have c6b0 : decide (Jm < (J0.length : Int)) = true := decide_eq_true c6
  clear c6
  by_cases c7 : 0 ≤ Jm
  rotate_left
  ·rw [if_neg c7] at H
   exact absurd H (by simp)
  rw [if_pos c7] at H
  have c7b0 : decide (0 ≤ Jm) = true := decide_eq_true c7
  clear c7
  by_cases c8 : Jm < (J0.length : Int)
  rotate_left
  ·rw [if_neg c8] at H
   exact absurd H (by simp)
  rw [if_pos c8] at H
  have c8b0 : decide (Jm < (J0.length : Int)) = true := decide_eq_true c8
  clear c8
  by_cases c9 : ((rd_L2 J0 Jm).length : Int) > 5
  ·rw [if_pos c9] at H
   have c9b0 : decide (5 < ((rd_L2 J0 Jm).length : Int)) = true := decide_eq_true c9
   have c9b1 : decide (5 < (rd_L2 J0 Jm).length) = true := decide_eq_true (by omega)
   clear c9
   obtain rfl := Option.some.inj H
   have p357 : 0 ≤ (Jm : Int) := oA
   have q357 : Jm < (J0.length : Int) := oA
   obtain ⟨ad357, Et, Eu, e357, hx357_0, hl357_0, hi357_0⟩ := at_L2 Ja.1 Jm p357 q357
   cases e357
   replace hx357_0 := (HB.1.cell (World.block_lt_of_cell? w _ hx357_0)).trans hx357_0
   have om := hqZ hi357_0
   have HC357_0 := hqZ hl357_0
   clear hi357_0 hl357_0
   replace p357 := eq_true p357
   replace q357 := eq_true q357
   go_wp2
   go_ret
   exact ⟨rfl, HB.1⟩
  rw [if_neg c9] at H
  have c9b0 : decide (5 < ((rd_L2 J0 Jm).length : Int)) = false := decide_eq_false c9
  have c9b1 : decide (5 < (rd_L2 J0 Jm).length) = false := decide_eq_false (by omega)
  clear c9
  replace H := Option.bind_eq_some_iff.mp H
  obtain ⟨mi, A100, H⟩ := H
  try dsimp only at H
  have A10 := hqZ A100
  clear A100
  by_cases c11 : mi = true
  rotate_left
  ·replace c11 := Bool.eq_false_iff.mpr c11
   subst c11
   rw [if_neg (show ¬ (false = true) by decide)] at H
   obtain rfl := Option.some.inj H
   have p357 : 0 ≤ (Jm : Int) := oA
   have q357 : Jm < (J0.length : Int) := oA
   obtain ⟨ad357, Et, Eu, e357, hx357_0, hl357_0, hi357_0⟩ := at_L2 Ja.1 Jm p357 q357
   cases e357
   replace hx357_0 := (HB.1.cell (World.block_lt_of_cell? w _ hx357_0)).trans hx357_0
   have om := hqZ hi357_0
   have HC357_0 := hqZ hl357_0
   clear hi357_0 hl357_0
   replace p357 := eq_true p357
   replace q357 := eq_true q357
   go_wp2_with ((go_at_call 44; (with_reducible refine (yu0.calls k1 _ _ (rd_L2 J0 Jm) 0 (wrap64 ((J0.length : Int) - 1)) false _ ?side1 ?side2 A10.1).mono ?_); (case side1 => exact (Kd.C_below om.1 HB.1)); (case side2 => exact HC357_0.1); rintro e w' ⟨rfl, ⟨nd, rfl⟩⟩))
   go_ret
   exact ⟨rfl, hqB HB.1⟩
  subst c11
  rw [if_pos rfl] at H
  have H' := hqZ H
  clear H
  have p357 : 0 ≤ (Jm : Int) := oA
  have q357 : Jm < (J0.length : Int) := oA
  obtain ⟨ad357, Et, Eu, e357, hx357_0, hl357_0, hi357_0⟩ := at_L2 Ja.1 Jm p357 q357
  cases e357
  replace hx357_0 := (HB.1.cell (World.block_lt_of_cell? w _ hx357_0)).trans hx357_0
  have om := hqZ hi357_0
  have HC357_0 := hqZ hl357_0
  clear hi357_0 hl357_0
  replace p357 := eq_true p357
  replace q357 := eq_true q357
  go_wp2_with ((go_at_call 44; (with_reducible refine (yu0.calls k1 _ _ (rd_L2 J0 Jm) 0 (wrap64 ((J0.length : Int) - 1)) true _ ?side1 ?side2 A10.1).mono ?_); (case side1 => exact (Kd.C_below om.1 HB.1)); (case side2 => exact HC357_0.1); rintro e w' ⟨rfl, ⟨nd, rfl⟩⟩))
  go_roundg k1
  case measure => have := V8.1; omega
  case rel => exact ⟨(wrap64 (Jm + 1)), (rfl), H', ⟨by have := V8.1; omega⟩, ⟨XW.1⟩, ⟨hqB HB.1⟩⟩
def yv1.f (k : Nat) (J0 : List (List Int)) (a1 : Int) : Option (Bool) := (yb1.f k J0).bind fun Ew => (if Ew = true then ((yt1.f a1 0 (wrap64 ((J0.length : Int) - 1))).bind fun Ex => (some Ex)) else (some false))
theorem yv1.mono : ∀ a0 a1 k, LeO (yv1.f k a0 a1) (yv1.f (k + 1) a0 a1) := by
 intro a0 a1 k
 unfold yv1.f
 repeat' (with_reducible first | apply yb1.mono | apply LeO.refl | apply LeO.none | refine LeO.ite ?_ ?_ | refine LeO.bind ?_ (fun _ => ?_))
theorem yv1.calls (k : Nat) (J4 : Option Addr) (J2 : Nat) (J0 : List (List Int)) (a1 : Int) (r : Bool) (w : World) (hr0_0 : Kd.C (Kd.slice 3 (Kd.int .i64)) w J4 J0.length J0) (hc0_0 : J0.length ≤ J2) (h : yv1.f k J0 a1 = some r) :
  Calls Try.prog 41 #[.agg #[.slice J4 J0.length J2], .int .i64 a1] w fun e w' => e = .returned (.bool r) ∧ Below w.heap.size w w' := by
 have hu26 := Try.underlying26
 have Ja := hqZ hr0_0
 have HC0_0 := hqZ hc0_0
 clear hr0_0 hc0_0
 have HB := hqZ (Below.refl w.heap.size w)
 have H : ((yb1.f k J0).bind fun Ew => (if Ew = true then ((yt1.f a1 0 (wrap64 ((J0.length : Int) - 1))).bind fun Ex => (some Ex)) else (some false))) = some r := h
 clear h
 replace H := Option.bind_eq_some_iff.mp H
 obtain ⟨Ew, A30, H⟩ := H
 try dsimp only at H
 have A3 := hqZ A30
 clear A30
 by_cases c4 : Ew = true
 rotate_left
 ·replace c4 := Bool.eq_false_iff.mpr c4
  subst c4
  rw [if_neg (show ¬ (false = true) by decide)] at H
  obtain rfl := Option.some.inj H
  go_enter Try.func41, Try.ntmps41
  go_wp2_with (first | ((with_reducible refine zi0 (N := 2) rfl ?_); (try (refine gate_guard (by rfl) ?_; dsimp only)); refine zk0 ?hg (N := 2) ?hd (cs := #[.slice J4 J0.length J2]) (t := 26) ?hr ?_; (case hd | hg => rfl); (case hr => go_simp); intro uZ hg w10 hbox hb; have uu := hqZ (hbox); have Mh := hqZ ((by rw [hg]; exact (zb0 (HB.1)) : w.heap.size ≤ uZ)); have Mi := hqZ ((by rw [hg]; exact (zb0 (HB.1)) : w.heap.size ≤ uZ)); replace HB := hqZ (za0 (HB.1) hb); clear hb hbox hg; have vZ : w10.cell? ⟨uZ, 0, none⟩ = some (.slice J4 J0.length J2) := (zf0 uu.1 0).trans rfl; have u0 := zc0 uu.1 0) | ((with_reducible refine ze0 (f := 62) rfl ?_); refine zM (some 6) Try.func62 #[.agg #[.slice J4 J0.length J2]] ?_; (with_reducible refine (yb1.calls k _ _ J0 false _ ?side1 ?side2 A3.1).mono ?_); (case side1 => exact (Kd.C_below Ja.1 HB.1)); (case side2 => exact HC0_0.1); rintro e w12 ⟨rfl, hb⟩; refine ⟨_, rfl, ?_⟩; replace uu := hqZ (zd0 (g := uZ) (uu.1) hb); replace HB := hqZ (za0 (HB.1) hb); clear hb))
  go_ret
  exact ⟨rfl, HB.1⟩
 subst c4
 rw [if_pos rfl] at H
 replace H := Option.bind_eq_some_iff.mp H
 obtain ⟨Ex, A50, H⟩ := H
 try dsimp only at H
 have A5 := hqZ A50
 clear A50
 obtain rfl := Option.some.inj H
 go_enter Try.func41, Try.ntmps41
 go_wp2_with (first | ((with_reducible refine zi0 (N := 2) rfl ?_); (try (refine gate_guard (by rfl) ?_; dsimp only)); refine zk0 ?hg (N := 2) ?hd (cs := #[.slice J4 J0.length J2]) (t := 26) ?hr ?_; (case hd | hg => rfl); (case hr => go_simp); intro uZ hg w6 hbox hb; have uu := hqZ (hbox); have Mh := hqZ ((by rw [hg]; exact (zb0 (HB.1)) : w.heap.size ≤ uZ)); have Mi := hqZ ((by rw [hg]; exact (zb0 (HB.1)) : w.heap.size ≤ uZ)); replace HB := hqZ (za0 (HB.1) hb); clear hb hbox hg; have jC : w6.cell? ⟨uZ, 0, none⟩ = some (.slice J4 J0.length J2) := (zf0 uu.1 0).trans rfl; have jD := zc0 uu.1 0) | ((with_reducible refine ze0 (f := 62) rfl ?_); refine zM (some 6) Try.func62 #[.agg #[.slice J4 J0.length J2]] ?_; (with_reducible refine (yb1.calls k _ _ J0 true _ ?side1 ?side2 A3.1).mono ?_); (case side1 => exact (Kd.C_below Ja.1 HB.1)); (case side2 => exact HC0_0.1); rintro e w8 ⟨rfl, hb⟩; refine ⟨_, rfl, ?_⟩; replace uu := hqZ (zd0 (g := uZ) (uu.1) hb); replace HB := hqZ (za0 (HB.1) hb); clear hb; have jB : w8.cell? ⟨uZ, 0, none⟩ = some (.slice J4 J0.length J2) := (zf0 uu.1 0).trans rfl; have vm := zc0 uu.1 0) | (go_at_call 63; (with_reducible refine (yt1.calls a1 0 (wrap64 ((J0.length : Int) - 1)) Ex _ A5.1).mono ?_); rintro e w' ⟨rfl, ⟨nd, rfl⟩⟩))
 go_ret
 exact ⟨rfl, hqB HB.1⟩
def yg1.l0 : Nat → Int → Int → Int → List (List Int) → Option (Bool)
 | 0, _, _, _, _ => none
 | k + 1, x1, x8, x9, di => if x9 < x8 then ((yd0.f k di x9).bind fun o9 => (if 0 ≤ x1 then (if x1 < (o9.length : Int) then (if (rd o9 x1) < 0 then (some false) else (yg1.l0 k x1 x8 (wrap64 (x9 + 1)) di)) else (none)) else (none))) else (some true)
def yg1.f (k : Nat) (J0 : List (List Int)) (a1 : Int) : Option (Bool) := yg1.l0 k a1 (J0.length : Int) 0 J0
theorem yg1.mono_l : ∀ k, (∀ y0 y1 y2 y3, LeO (yg1.l0 k y0 y1 y2 y3) (yg1.l0 (k + 1) y0 y1 y2 y3))
 | 0 => fun _ _ _ _ r h => by simp [yg1.l0] at h
 | k + 1 => by
  have ih0 := yg1.mono_l k
  ·intro y0 y1 y2 y3
   unfold yg1.l0
   repeat' (with_reducible first | apply ih0 | apply yd0.mono | apply LeO.refl | apply LeO.none | refine LeO.ite ?_ ?_ | refine LeO.bind ?_ (fun _ => ?_))
theorem yg1.mono : ∀ a0 a1 k, LeO (yg1.f k a0 a1) (yg1.f (k + 1) a0 a1) := by
 intro a0 a1 k
 have ih0 := yg1.mono_l k
 unfold yg1.f
 repeat' (with_reducible first | apply ih0 | apply yd0.mono | apply LeO.refl | apply LeO.none | refine LeO.ite ?_ ?_ | refine LeO.bind ?_ (fun _ => ?_))
theorem yg1.calls (k : Nat) (J4 : Option Addr) (J2 : Nat) (J0 : List (List Int)) (a1 : Int) (r : Bool) (w : World) (hr0_0 : Kd.C (Kd.slice 3 (Kd.int .i64)) w J4 J0.length J0) (hc0_0 : J0.length ≤ J2) (h : yg1.f k J0 a1 = some r) :
  Calls Try.prog 66 #[.agg #[.slice J4 J0.length J2], .int .i64 a1] w fun e w' => e = .returned (.bool r) ∧ Below w.heap.size w w' := by
 have hu26 := Try.underlying26
 have Ja := hqZ hr0_0
 have HC0_0 := hqZ hc0_0
 clear hr0_0 hc0_0
 have HB := hqZ (Below.refl w.heap.size w)
 have H : (yg1.l0 k a1 (J0.length : Int) 0 J0) = some r := h
 clear h
 have H' := hqZ H
 clear H
 go_enter Try.func66, Try.ntmps66
 go_wp2_with (((with_reducible refine zi0 (N := 2) rfl ?_); refine zk0 ?hg (N := 2) ?hd (cs := #[.slice J4 J0.length J2]) (t := 26) ?hr ?_; (case hd | hg => rfl); (case hr => go_simp); intro XX hg w3 hbox hb; have vM := hqZ (hbox); have Jl5 := hqZ ((by rw [hg]; exact (zb0 (HB.1)) : w.heap.size ≤ XX)); have Jl6 := hqZ ((by rw [hg]; exact (zb0 (HB.1)) : w.heap.size ≤ XX)); replace HB := hqZ (za0 (HB.1) hb); clear hb hbox hg; have oP : w3.cell? ⟨XX, 0, none⟩ = some (.slice J4 J0.length J2) := (zf0 vM.1 0).trans rfl; have oQ := zc0 vM.1 0))
 go_loopg [9] k (fun kq v9 w' => ∃ (Jt : Int), v9 = .int .i64 Jt ∧ zg0 (yg1.l0 kq a1 (J0.length : Int) Jt J0 = some r) ∧ zg0 (kq ≤ k) ∧ zg0 (w'.heap[XX]? = some (.cells #[(.slice J4 J0.length J2)] 26 (0, 0))) ∧ zg0 (Below w.heap.size w w'))
 case atStart => exact ⟨(0), (rfl), H', ⟨Nat.le_refl _⟩, ⟨vM.1⟩, ⟨HB.1⟩⟩
 case round =>
  clear H'
  try clear p2
  try clear oP
  try clear oQ
  obtain ⟨Jt, rfl, HA, V8, vM, HB⟩ := hrel
  obtain _ | k1 := gk
  ·exact absurd HA.1 (by simp [yg1.l0])
  have H := HA.1
  clear HA
  simp only [yg1.l0] at H
  by_cases c5 : Jt < (J0.length : Int)
  rotate_left
  ·rw [if_neg c5] at H
   have c5b0 : decide (Jt < (J0.length : Int)) = false := decide_eq_false c5
   clear c5
   obtain rfl := Option.some.inj H
   go_wp2
   go_ret
   exact ⟨rfl, HB.1⟩
  rw [if_pos c5] at H
  have c5b0 : decide (Jt < (J0.length : Int)) = true := decide_eq_true c5
  clear c5
  replace H := Option.bind_eq_some_iff.mp H
  obtain ⟨o9, A60, H⟩ := H
  try dsimp only at H
  have A6 := hqZ A60
  clear A60
  by_cases c7 : 0 ≤ a1
  rotate_left
  ·rw [if_neg c7] at H
   exact absurd H (by simp)
  rw [if_pos c7] at H
  have c7b0 : decide (0 ≤ a1) = true := decide_eq_true c7
  clear c7
  by_cases c8 : a1 < (o9.length : Int)
  rotate_left
  ·rw [if_neg c8] at H
   exact absurd H (by simp)
  rw [if_pos c8] at H
  have c8b0 : decide (a1 < (o9.length : Int)) = true := decide_eq_true c8
  clear c8
  by_cases c9 : (rd o9 a1) < 0
  ·rw [if_pos c9] at H
   have c9b0 : decide ((rd o9 a1) < 0) = true := decide_eq_true c9
   clear c9
   obtain rfl := Option.some.inj H
   have Y0 : wr.cell? ⟨XX, 0, none⟩ = some (.slice J4 J0.length J2) := (zf0 vM.1 0).trans rfl
   have Y1 := zc0 vM.1 0
   go_wp2_with (((with_reducible refine ze0 (f := 71) rfl ?_); refine zM (some 14) Try.func71 #[.agg #[.slice J4 J0.length J2], .int .i64 Jt] ?_; (with_reducible refine (yd0.calls k1 _ _ J0 Jt o9 _ ?side1 ?side2 A6.1).mono ?_); (case side1 => exact (Kd.C_below Ja.1 HB.1)); (case side2 => exact HC0_0.1); rintro e w11 ⟨v364, rfl, ho0, hb⟩; refine ⟨_, rfl, ?_⟩; have UP := hqZ (Kd.R_lower ho0 (zb0 (HB.1))); replace vM := hqZ (zd0 (g := XX) (vM.1) hb); replace HB := hqZ (za0 (HB.1) hb); clear hb ho0; obtain ⟨DW, DX, eo12⟩ := Kd.R_slice UP.1; subst eo12; have p366 : 0 ≤ (a1 : Int) := oA; have q366 : a1 < (o9.length : Int) := oA; obtain ⟨ad366, e366, hx366_0⟩ := Kd.at_int (Kd.R_reads' UP.1).2.2 a1 p366 q366; cases e366; replace p366 := eq_true p366; replace q366 := eq_true q366))
   go_ret
   exact ⟨rfl, HB.1⟩
  rw [if_neg c9] at H
  have c9b0 : decide ((rd o9 a1) < 0) = false := decide_eq_false c9
  clear c9
  have H' := hqZ H
  clear H
  have vw : wr.cell? ⟨XX, 0, none⟩ = some (.slice J4 J0.length J2) := (zf0 vM.1 0).trans rfl
  have vx := zc0 vM.1 0
  go_wp2_with (((with_reducible refine ze0 (f := 71) rfl ?_); refine zM (some 14) Try.func71 #[.agg #[.slice J4 J0.length J2], .int .i64 Jt] ?_; (with_reducible refine (yd0.calls k1 _ _ J0 Jt o9 _ ?side1 ?side2 A6.1).mono ?_); (case side1 => exact (Kd.C_below Ja.1 HB.1)); (case side2 => exact HC0_0.1); rintro e w14 ⟨v364, rfl, ho0, hb⟩; refine ⟨_, rfl, ?_⟩; have UP := hqZ (Kd.R_lower ho0 (zb0 (HB.1))); replace vM := hqZ (zd0 (g := XX) (vM.1) hb); replace HB := hqZ (za0 (HB.1) hb); clear hb ho0; obtain ⟨DY, DZ, eo15⟩ := Kd.R_slice UP.1; subst eo15; have p366 : 0 ≤ (a1 : Int) := oA; have q366 : a1 < (o9.length : Int) := oA; obtain ⟨ad366, e366, hx366_0⟩ := Kd.at_int (Kd.R_reads' UP.1).2.2 a1 p366 q366; cases e366; replace p366 := eq_true p366; replace q366 := eq_true q366))
  go_roundg k1
  case measure => have := V8.1; omega
  case rel => exact ⟨(wrap64 (Jt + 1)), (rfl), H', ⟨by have := V8.1; omega⟩, ⟨vM.1⟩, ⟨HB.1⟩⟩
def yh1.f (k : Nat) (J0 : List (List Int)) (a1 : Int) : Option (Bool) := (yv1.f k J0 a1).bind fun X7 => (if X7 = true then ((yg1.f k J0 a1).bind fun X8 => (some X8)) else (some false))
theorem yh1.mono : ∀ a0 a1 k, LeO (yh1.f k a0 a1) (yh1.f (k + 1) a0 a1) := by
 intro a0 a1 k
 unfold yh1.f
 repeat' (with_reducible first | apply yg1.mono | apply yv1.mono | apply LeO.refl | apply LeO.none | refine LeO.ite ?_ ?_ | refine LeO.bind ?_ (fun _ => ?_))
theorem yh1.calls (k : Nat) (J4 : Option Addr) (J2 : Nat) (J0 : List (List Int)) (a1 : Int) (r : Bool) (w : World) (hr0_0 : Kd.C (Kd.slice 3 (Kd.int .i64)) w J4 J0.length J0) (hc0_0 : J0.length ≤ J2) (h : yh1.f k J0 a1 = some r) :
  Calls Try.prog 50 #[.agg #[.slice J4 J0.length J2], .int .i64 a1] w fun e w' => e = .returned (.bool r) ∧ Below w.heap.size w w' := by
 have hu26 := Try.underlying26
 have Ja := hqZ hr0_0
 have HC0_0 := hqZ hc0_0
 clear hr0_0 hc0_0
 have HB := hqZ (Below.refl w.heap.size w)
 have H : ((yv1.f k J0 a1).bind fun X7 => (if X7 = true then ((yg1.f k J0 a1).bind fun X8 => (some X8)) else (some false))) = some r := h
 clear h
 replace H := Option.bind_eq_some_iff.mp H
 obtain ⟨X7, A30, H⟩ := H
 try dsimp only at H
 have A3 := hqZ A30
 clear A30
 by_cases c4 : X7 = true
 rotate_left
 ·replace c4 := Bool.eq_false_iff.mpr c4
  subst c4
  rw [if_neg (show ¬ (false = true) by decide)] at H
  obtain rfl := Option.some.inj H
  go_enter Try.func50, Try.ntmps50
  go_wp2_with (first | ((with_reducible refine zi0 (N := 2) rfl ?_); refine zk0 ?hg (N := 2) ?hd (cs := #[.slice J4 J0.length J2]) (t := 26) ?hr ?_; (case hd | hg => rfl); (case hr => go_simp); intro uv hg w11 hbox hb; have vN := hqZ (hbox); have Mj := hqZ ((by rw [hg]; exact (zb0 (HB.1)) : w.heap.size ≤ uv)); have Mk := hqZ ((by rw [hg]; exact (zb0 (HB.1)) : w.heap.size ≤ uv)); replace HB := hqZ (za0 (HB.1) hb); clear hb hbox hg; have jj : w11.cell? ⟨uv, 0, none⟩ = some (.slice J4 J0.length J2) := (zf0 vN.1 0).trans rfl; have jk := zc0 vN.1 0) | ((with_reducible refine ze0 (f := 41) rfl ?_); refine zM (some 7) Try.func41 #[.agg #[.slice J4 J0.length J2], .int .i64 a1] ?_; (with_reducible refine (yv1.calls k _ _ J0 a1 false _ ?side1 ?side2 A3.1).mono ?_); (case side1 => exact (Kd.C_below Ja.1 HB.1)); (case side2 => exact HC0_0.1); rintro e w13 ⟨rfl, hb⟩; refine ⟨_, rfl, ?_⟩; replace vN := hqZ (zd0 (g := uv) (vN.1) hb); replace HB := hqZ (za0 (HB.1) hb); clear hb))
  go_ret
  exact ⟨rfl, HB.1⟩
 subst c4
 rw [if_pos rfl] at H
 replace H := Option.bind_eq_some_iff.mp H
 obtain ⟨X8, A50, H⟩ := H
 try dsimp only at H
 have A5 := hqZ A50
 clear A50
 obtain rfl := Option.some.inj H
 go_enter Try.func50, Try.ntmps50
 go_wp2_with (first | ((with_reducible refine zi0 (N := 2) rfl ?_); refine zk0 ?hg (N := 2) ?hd (cs := #[.slice J4 J0.length J2]) (t := 26) ?hr ?_; (case hd | hg => rfl); (case hr => go_simp); intro uv hg w6 hbox hb; have vN := hqZ (hbox); have Mj := hqZ ((by rw [hg]; exact (zb0 (HB.1)) : w.heap.size ≤ uv)); have Mk := hqZ ((by rw [hg]; exact (zb0 (HB.1)) : w.heap.size ≤ uv)); replace HB := hqZ (za0 (HB.1) hb); clear hb hbox hg; have jC : w6.cell? ⟨uv, 0, none⟩ = some (.slice J4 J0.length J2) := (zf0 vN.1 0).trans rfl; have jD := zc0 vN.1 0) | ((with_reducible refine ze0 (f := 41) rfl ?_); refine zM (some 7) Try.func41 #[.agg #[.slice J4 J0.length J2], .int .i64 a1] ?_; (with_reducible refine (yv1.calls k _ _ J0 a1 true _ ?side1 ?side2 A3.1).mono ?_); (case side1 => exact (Kd.C_below Ja.1 HB.1)); (case side2 => exact HC0_0.1); rintro e w8 ⟨rfl, hb⟩; refine ⟨_, rfl, ?_⟩; replace vN := hqZ (zd0 (g := uv) (vN.1) hb); replace HB := hqZ (za0 (HB.1) hb); clear hb; have jB : w8.cell? ⟨uv, 0, none⟩ = some (.slice J4 J0.length J2) := (zf0 vN.1 0).trans rfl; have vm := zc0 vN.1 0) | (go_at_call 66; (with_reducible refine (yg1.calls k _ _ J0 a1 X8 _ ?side1 ?side2 A5.1).mono ?_); (case side1 => exact (Kd.C_below Ja.1 HB.1)); (case side2 => exact HC0_0.1); rintro e w10 ⟨rfl, hb⟩; replace vN := hqZ (zd0 (g := uv) (vN.1) hb); replace HB := hqZ (za0 (HB.1) hb); clear hb))
 go_ret
 exact ⟨rfl, HB.1⟩
def yo0.l0 : Nat → Int → List Int → List (List Int) → Int → Int → Option (List Int)
 | 0, _, _, _, _, _ => none
 | k + 1, x1, x5, vq, YE, YZ => if YZ < YE then (if 0 ≤ YZ then (if YZ < (vq.length : Int) then (if YZ = x1 then (if x5.length < 17592186044416 then (yo0.l0 k x1 (x5 ++ [0]) vq YE (wrap64 (YZ + 1))) else (none)) else (if x5.length < 17592186044416 then (yo0.l0 k x1 (x5 ++ [wrap64 (((rd_L2 vq YZ).length : Int) - 1)]) vq YE (wrap64 (YZ + 1))) else (none))) else (none)) else (none)) else (some x5)
def yo0.f (k : Nat) (J0 : List (List Int)) (a1 : Int) : Option (List Int) := yo0.l0 k a1 ([] : List Int) J0 (J0.length : Int) 0
theorem yo0.mono_l : ∀ k, (∀ y0 y1 y2 y3 y4, LeO (yo0.l0 k y0 y1 y2 y3 y4) (yo0.l0 (k + 1) y0 y1 y2 y3 y4))
 | 0 => fun _ _ _ _ _ r h => by simp [yo0.l0] at h
 | k + 1 => by
  have ih0 := yo0.mono_l k
  ·intro y0 y1 y2 y3 y4
   unfold yo0.l0
   repeat' (with_reducible first | apply ih0 | apply LeO.refl | apply LeO.none | refine LeO.ite ?_ ?_ | refine LeO.bind ?_ (fun _ => ?_))
theorem yo0.mono : ∀ a0 a1 k, LeO (yo0.f k a0 a1) (yo0.f (k + 1) a0 a1) := by
 intro a0 a1 k
 have ih0 := yo0.mono_l k
 unfold yo0.f
 repeat' (with_reducible first | apply ih0 | apply LeO.refl | apply LeO.none | refine LeO.ite ?_ ?_ | refine LeO.bind ?_ (fun _ => ?_))
theorem yo0.calls (k : Nat) (J4 : Option Addr) (J2 : Nat) (J0 : List (List Int)) (a1 : Int) (r : List Int) (w : World) (hr0_0 : Kd.C (Kd.slice 3 (Kd.int .i64)) w J4 J0.length J0) (hc0_0 : J0.length ≤ J2) (h : yo0.f k J0 a1 = some r) :
  Calls Try.prog 51 #[.agg #[.slice J4 J0.length J2], .int .i64 a1] w fun e w' => ∃ v0_ : Value, e = .returned (v0_) ∧ Kd.R (Kd.int .i64) 3 w' w.heap.size (fun _ => True) v0_ r ∧ Below w.heap.size w w' := by
 have hu26 := Try.underlying26
 have Ja := hqZ hr0_0
 have HC0_0 := hqZ hc0_0
 clear hr0_0 hc0_0
 have HB := hqZ (Below.refl w.heap.size w)
 have H : (yo0.l0 k a1 ([] : List Int) J0 (J0.length : Int) 0) = some r := h
 clear h
 have H' := hqZ H
 clear H
 go_enter Try.func51, Try.ntmps51
 go_wp2_with (((with_reducible refine zi0 (N := 2) rfl ?_); refine zk0 ?hg (N := 2) ?hd (cs := #[.slice J4 J0.length J2]) (t := 26) ?hr ?_; (case hd | hg => rfl); (case hr => go_simp); intro Ud hg w3 hbox hb; have vz := hqZ (hbox); have Jl7 := hqZ ((by rw [hg]; exact (zb0 (HB.1)) : w.heap.size ≤ Ud)); have Jl8 := hqZ ((by rw [hg]; exact (zb0 (HB.1)) : w.heap.size ≤ Ud)); replace HB := hqZ (za0 (HB.1) hb); clear hb hbox hg; have oP : w3.cell? ⟨Ud, 0, none⟩ = some (.slice J4 J0.length J2) := (zf0 vz.1 0).trans rfl; have oQ := zc0 vz.1 0))
 go_loopg [5, 12] k (fun kq v5 v12 w' => ∃ (Vv : List Int) (Jz : Int), v12 = .int .i64 Jz ∧ zg0 (yo0.l0 kq a1 Vv J0 (J0.length : Int) Jz = some r) ∧ zg0 (kq ≤ k) ∧ zg0 (Kd.R (Kd.int .i64) 3 w' w.heap.size (fun _ => True) v5 Vv) ∧ zg0 (w'.heap[Ud]? = some (.cells #[(.slice J4 J0.length J2)] 26 (0, 0))) ∧ zg0 (Below w.heap.size w w'))
 case atStart => exact ⟨(([] : List Int)), (0), (rfl), H', ⟨Nat.le_refl _⟩, ⟨by exact Kd.R_nil _ _ _ _ _⟩, ⟨vz.1⟩, ⟨HB.1⟩⟩
 case round =>
  clear H'
  try clear p2
  try clear oP
  try clear oQ
  obtain ⟨Vv, Jz, rfl, HA, V8, Jc, vz, HB⟩ := hrel
  obtain _ | k1 := gk
  ·exact absurd HA.1 (by simp [yo0.l0])
  have H := HA.1
  clear HA
  simp only [yo0.l0] at H
  by_cases c5 : Jz < (J0.length : Int)
  rotate_left
  ·rw [if_neg c5] at H
   have c5b0 : decide (Jz < (J0.length : Int)) = false := decide_eq_false c5
   clear c5
   obtain rfl := Option.some.inj H
   go_wp2
   go_ret
   exact ⟨_, rfl, Jc.1, HB.1⟩
  rw [if_pos c5] at H
  have c5b0 : decide (Jz < (J0.length : Int)) = true := decide_eq_true c5
  clear c5
  by_cases c6 : 0 ≤ Jz
  rotate_left
  ·rw [if_neg c6] at H
   exact absurd H (by simp)
  rw [if_pos c6] at H
  have c6b0 : decide (0 ≤ Jz) = true := decide_eq_true c6
  clear c6
  by_cases c7 : Jz < (J0.length : Int)
  rotate_left
  ·rw [if_neg c7] at H
   exact absurd H (by simp)
  rw [if_pos c7] at H
  have c7b0 : decide (Jz < (J0.length : Int)) = true := decide_eq_true c7
  clear c7
  by_cases c8 : Jz = a1
  rotate_left
  ·rw [if_neg c8] at H
   have c8b0 : (Jz == a1) = false := beq_eq_false_iff_ne.mpr c8
   have c8b1 : (Jz != a1) = true := bne_iff_ne.mpr c8
   by_cases c11 : Vv.length < 17592186044416
   rotate_left
   ·rw [if_neg c11] at H
    exact absurd H (by simp)
   rw [if_pos c11] at H
   have LMc11 := hqZ c11
   clear c11
   obtain ⟨Ml, hy647⟩ : ∃ y_ : List Int, y_ = (Vv ++ [wrap64 (((rd_L2 J0 Jz).length : Int) - 1)]) := ⟨_, rfl⟩
   replace H : (yo0.l0 k1 a1 Ml J0 (J0.length : Int) (wrap64 (Jz + 1))) = some r := by (rw [hy647]; with_reducible exact H)
   have Ny647 := hqZ hy647
   clear hy647
   have H' := hqZ H
   clear H
   have p643 : 0 ≤ (Jz : Int) := oA
   have q643 : Jz < (J0.length : Int) := oA
   obtain ⟨ad643, ml, mm, e643, hx643_0, hl643_0, hi643_0⟩ := at_L2 Ja.1 Jz p643 q643
   cases e643
   replace hx643_0 := (HB.1.cell (World.block_lt_of_cell? w _ hx643_0)).trans hx643_0
   have ZF := hqZ hi643_0
   have HC643_0 := hqZ hl643_0
   clear hi643_0 hl643_0
   replace p643 := eq_true p643
   replace q643 := eq_true q643
   go_wp2_with (((with_reducible refine zu0 (b := .append) (xs := #[.tmp 23, .tmp 25]) rfl ?_); at_builtin; refine Kd.R_append (Kd.int .i64) (w0 := w) w.heap.size rfl (.tmp 23) (.tmp 25) 27 3 (.int .i64 0) 8 rfl Try.underlying27 info3 rfl (by decide) (by omega) u5 Vv (wrap64 (((rd_L2 J0 Jz).length : Int) - 1)) [.int .i64 (wrap64 (((rd_L2 J0 Jz).length : Int) - 1))] (fun _ => True) (fun _ => False) rfl rfl ?aP (fun _ hk => hk.elim) ?aF ?aO ?aB ?aS ?aL ?_; (case aP => exact rfl); (case aB => exact (HB.1)); (case aF => exact (fun _ _ => trivial)); (case aO => exact (by (with_reducible repeat (first | apply Kd.R_alloc | apply Kd.R_drewN | apply Kd.R_drew)); exact Jc.1)); (case aS => exact (zb0 (HB.1))); (case aL => have := LMc11.1; omega); intro v648 w12 ho hb hg hat; rw [← Ny647.1] at ho; have n0_ := hqZ (zl0 (g := Ud) (vz.1) hg (Kd.R_ne Jc.1 vz.1 (by decide))); have n1_ := hqZ (hb); have n2_ := hqZ (ho); clear vz; clear HB; clear Jc; have vz := n0_; have HB := n1_; have Mm := n2_; clear n0_ n1_ n2_; clear ho hb hg hat))
   go_roundg k1
   case measure => have := V8.1; omega
   case rel => exact ⟨(Ml), (wrap64 (Jz + 1)), (rfl), H', ⟨by have := V8.1; omega⟩, ⟨Mm.1⟩, ⟨vz.1⟩, ⟨HB.1⟩⟩
  rw [if_pos c8] at H
  have c8b0 : (Jz == a1) = true := beq_iff_eq.mpr c8
  have c8b1 : (Jz != a1) = false := bne_eq_false_iff_eq.mpr c8
  clear c8
  by_cases c9 : Vv.length < 17592186044416
  rotate_left
  ·rw [if_neg c9] at H
   exact absurd H (by simp)
  rw [if_pos c9] at H
  have LMc9 := hqZ c9
  clear c9
  obtain ⟨Mo, hy644⟩ : ∃ y_ : List Int, y_ = (Vv ++ [0]) := ⟨_, rfl⟩
  replace H : (yo0.l0 k1 a1 Mo J0 (J0.length : Int) (wrap64 (Jz + 1))) = some r := by (rw [hy644]; with_reducible exact H)
  have Ny644 := hqZ hy644
  clear hy644
  have H' := hqZ H
  clear H
  have p643 : 0 ≤ (Jz : Int) := oA
  have q643 : Jz < (J0.length : Int) := oA
  obtain ⟨ad643, ml, mm, e643, hx643_0, hl643_0, hi643_0⟩ := at_L2 Ja.1 Jz p643 q643
  cases e643
  replace hx643_0 := (HB.1.cell (World.block_lt_of_cell? w _ hx643_0)).trans hx643_0
  have ZF := hqZ hi643_0
  have HC643_0 := hqZ hl643_0
  clear hi643_0 hl643_0
  replace p643 := eq_true p643
  replace q643 := eq_true q643
  go_wp2_with (((with_reducible refine zu0 (b := .append) (xs := #[.tmp 23, .tmp 25]) rfl ?_); at_builtin; refine Kd.R_append (Kd.int .i64) (w0 := w) w.heap.size rfl (.tmp 23) (.tmp 25) 27 3 (.int .i64 0) 8 rfl Try.underlying27 info3 rfl (by decide) (by omega) u5 Vv 0 [.int .i64 0] (fun _ => True) (fun _ => False) rfl rfl ?aP (fun _ hk => hk.elim) ?aF ?aO ?aB ?aS ?aL ?_; (case aP => exact rfl); (case aB => exact (HB.1)); (case aF => exact (fun _ _ => trivial)); (case aO => exact (by (with_reducible repeat (first | apply Kd.R_alloc | apply Kd.R_drewN | apply Kd.R_drew)); exact Jc.1)); (case aS => exact (zb0 (HB.1))); (case aL => have := LMc9.1; omega); intro v645 w10 ho hb hg hat; rw [← Ny644.1] at ho; have n0_ := hqZ (zl0 (g := Ud) (vz.1) hg (Kd.R_ne Jc.1 vz.1 (by decide))); have n1_ := hqZ (hb); have n2_ := hqZ (ho); clear vz; clear HB; clear Jc; have vz := n0_; have HB := n1_; have Mp := n2_; clear n0_ n1_ n2_; clear ho hb hg hat))
  go_roundg k1
  case measure => have := V8.1; omega
  case rel => exact ⟨(Mo), (wrap64 (Jz + 1)), (rfl), H', ⟨by have := V8.1; omega⟩, ⟨Mp.1⟩, ⟨vz.1⟩, ⟨HB.1⟩⟩
def yt0.l0 : Nat → Int → List Int → Int → Int → List (List Int) → Option (Int)
 | 0, _, _, _, _, _ => none
 | k + 1, x1, x9, vq, YE, oo => if YE < vq then (if 0 ≤ YE then (if YE < (x9.length : Int) then (if YE = x1 then (yt0.l0 k x1 x9 vq (wrap64 (YE + 1)) oo) else (if YE < (oo.length : Int) then (if (rd x9 YE) ≥ ((rd_L2 oo YE).length : Int) then (some YE) else (yt0.l0 k x1 x9 vq (wrap64 (YE + 1)) oo)) else (none))) else (none)) else (none)) else (some (-1))
def yt0.f (k : Nat) (J0 : List (List Int)) (a1 : Int) (l2 : List Int) : Option (Int) := yt0.l0 k a1 l2 (l2.length : Int) 0 J0
theorem yt0.mono_l : ∀ k, (∀ y0 y1 y2 y3 y4, LeO (yt0.l0 k y0 y1 y2 y3 y4) (yt0.l0 (k + 1) y0 y1 y2 y3 y4))
 | 0 => fun _ _ _ _ _ r h => by simp [yt0.l0] at h
 | k + 1 => by
  have ih0 := yt0.mono_l k
  ·intro y0 y1 y2 y3 y4
   unfold yt0.l0
   repeat' (with_reducible first | apply ih0 | apply LeO.refl | apply LeO.none | refine LeO.ite ?_ ?_ | refine LeO.bind ?_ (fun _ => ?_))
theorem yt0.mono : ∀ a0 a1 a2 k, LeO (yt0.f k a0 a1 a2) (yt0.f (k + 1) a0 a1 a2) := by
 intro a0 a1 a2 k
 have ih0 := yt0.mono_l k
 unfold yt0.f
 repeat' (with_reducible first | apply ih0 | apply LeO.refl | apply LeO.none | refine LeO.ite ?_ ?_ | refine LeO.bind ?_ (fun _ => ?_))
theorem yt0.calls (k : Nat) (J4 : Option Addr) (J2 : Nat) (J0 : List (List Int)) (a1 : Int) (A2 : Option Addr) (c2 : Nat) (l2 : List Int) (r : Int) (w : World) (hr0_0 : Kd.C (Kd.slice 3 (Kd.int .i64)) w J4 J0.length J0) (hc0_0 : J0.length ≤ J2) (hr2 : Kd.C (Kd.int .i64) w A2 l2.length l2) (hc2 : l2.length ≤ c2) (h : yt0.f k J0 a1 l2 = some r) :
  Calls Try.prog 33 #[.agg #[.slice J4 J0.length J2], .int .i64 a1, .slice A2 l2.length c2] w fun e w' => e = .returned (.int .i64 r) ∧ Below w.heap.size w w' := by
 have hu26 := Try.underlying26
 have Ja := hqZ hr0_0
 have HC0_0 := hqZ hc0_0
 clear hr0_0 hc0_0
 have jz := hqZ hr2
 have HC2 := hqZ hc2
 clear hr2 hc2
 have HB := hqZ (Below.refl w.heap.size w)
 have H : (yt0.l0 k a1 l2 (l2.length : Int) 0 J0) = some r := h
 clear h
 have H' := hqZ H
 clear H
 go_enter Try.func33, Try.ntmps33
 go_wp2_with (((with_reducible refine zi0 (N := 3) rfl ?_); (try (refine gate_guard (by rfl) ?_; dsimp only)); refine zk0 ?hg (N := 3) ?hd (cs := #[.slice J4 J0.length J2]) (t := 26) ?hr ?_; (case hd | hg => rfl); (case hr => go_simp); intro UQ hg w4 hbox hb; have XY := hqZ (hbox); have Jl9 := hqZ ((by rw [hg]; exact (zb0 (HB.1)) : w.heap.size ≤ UQ)); have Jm0 := hqZ ((by rw [hg]; exact (zb0 (HB.1)) : w.heap.size ≤ UQ)); replace HB := hqZ (za0 (HB.1) hb); clear hb hbox hg))
 go_loopg [11] k (fun kq v11 w' => ∃ (Jo : Int), v11 = .int .i64 Jo ∧ zg0 (yt0.l0 kq a1 l2 (l2.length : Int) Jo J0 = some r) ∧ zg0 (kq ≤ k) ∧ zg0 (w'.heap[UQ]? = some (.cells #[(.slice J4 J0.length J2)] 26 (0, 0))) ∧ zg0 (Below w.heap.size w w'))
 case atStart => exact ⟨(0), (rfl), H', ⟨Nat.le_refl _⟩, ⟨XY.1⟩, ⟨HB.1⟩⟩
 case round =>
  clear H'
  try clear c2
  try clear p2
  try clear c3
  obtain ⟨Jo, rfl, HA, V8, XY, HB⟩ := hrel
  obtain _ | k1 := gk
  ·exact absurd HA.1 (by simp [yt0.l0])
  have H := HA.1
  clear HA
  simp only [yt0.l0] at H
  by_cases c5 : Jo < (l2.length : Int)
  rotate_left
  ·rw [if_neg c5] at H
   have c5b0 : decide (Jo < (l2.length : Int)) = false := decide_eq_false c5
   clear c5
   obtain rfl := Option.some.inj H
   go_wp2
   go_ret
   exact ⟨rfl, HB.1⟩
  rw [if_pos c5] at H
  have c5b0 : decide (Jo < (l2.length : Int)) = true := decide_eq_true c5
  clear c5
  by_cases c6 : 0 ≤ Jo
  rotate_left
  ·rw [if_neg c6] at H
   exact absurd H (by simp)
  rw [if_pos c6] at H
  have c6b0 : decide (0 ≤ Jo) = true := decide_eq_true c6
  clear c6
  by_cases c7 : Jo < (l2.length : Int)
  rotate_left
  ·rw [if_neg c7] at H
   exact absurd H (by simp)
  rw [if_pos c7] at H
  have c7b0 : decide (Jo < (l2.length : Int)) = true := decide_eq_true c7
  clear c7
  by_cases c8 : Jo = a1
  ·rw [if_pos c8] at H
   have c8b0 : (Jo == a1) = true := beq_iff_eq.mpr c8
   have c8b1 : (Jo != a1) = false := bne_eq_false_iff_eq.mpr c8
   clear c8
   have H' := hqZ H
   clear H
   have p375 : 0 ≤ (Jo : Int) := oA
   have q375 : Jo < (l2.length : Int) := oA
   obtain ⟨ad375, e375, hx375_0⟩ := Kd.at_int jz.1 Jo p375 q375
   cases e375
   replace hx375_0 := (HB.1.cell (World.block_lt_of_cell? w _ hx375_0)).trans hx375_0
   replace p375 := eq_true p375
   replace q375 := eq_true q375
   go_wp2
   go_roundg k1
   case measure => have := V8.1; omega
   case rel => exact ⟨(wrap64 (Jo + 1)), (rfl), H', ⟨by have := V8.1; omega⟩, ⟨XY.1⟩, ⟨HB.1⟩⟩
  rw [if_neg c8] at H
  have c8b0 : (Jo == a1) = false := beq_eq_false_iff_ne.mpr c8
  have c8b1 : (Jo != a1) = true := bne_iff_ne.mpr c8
  by_cases c9 : Jo < (J0.length : Int)
  rotate_left
  ·rw [if_neg c9] at H
   exact absurd H (by simp)
  rw [if_pos c9] at H
  have c9b0 : decide (Jo < (J0.length : Int)) = true := decide_eq_true c9
  clear c9
  by_cases c10 : (rd l2 Jo) ≥ ((rd_L2 J0 Jo).length : Int)
  ·rw [if_pos c10] at H
   have c10b0 : decide (((rd_L2 J0 Jo).length : Int) ≤ (rd l2 Jo)) = true := decide_eq_true c10
   clear c10
   obtain rfl := Option.some.inj H
   have p375 : 0 ≤ (Jo : Int) := oA
   have q375 : Jo < (l2.length : Int) := oA
   obtain ⟨ad375, e375, hx375_0⟩ := Kd.at_int jz.1 Jo p375 q375
   cases e375
   replace hx375_0 := (HB.1.cell (World.block_lt_of_cell? w _ hx375_0)).trans hx375_0
   replace p375 := eq_true p375
   replace q375 := eq_true q375
   have vZ : wr.cell? ⟨UQ, 0, none⟩ = some (.slice J4 J0.length J2) := (zf0 XY.1 0).trans rfl
   have u0 := zc0 XY.1 0
   have p376 : 0 ≤ (Jo : Int) := oA
   have q376 : Jo < (J0.length : Int) := oA
   obtain ⟨ad376, mn, mo, e376, hx376_0, hl376_0, hi376_0⟩ := at_L2 Ja.1 Jo p376 q376
   cases e376
   replace hx376_0 := (HB.1.cell (World.block_lt_of_cell? w _ hx376_0)).trans hx376_0
   have ZG := hqZ hi376_0
   have HC376_0 := hqZ hl376_0
   clear hi376_0 hl376_0
   replace p376 := eq_true p376
   replace q376 := eq_true q376
   go_wp2
   go_ret
   exact ⟨rfl, HB.1⟩
  rw [if_neg c10] at H
  have c10b0 : decide (((rd_L2 J0 Jo).length : Int) ≤ (rd l2 Jo)) = false := decide_eq_false c10
  clear c10
  have H' := hqZ H
  clear H
  have p375 : 0 ≤ (Jo : Int) := oA
  have q375 : Jo < (l2.length : Int) := oA
  obtain ⟨ad375, e375, hx375_0⟩ := Kd.at_int jz.1 Jo p375 q375
  cases e375
  replace hx375_0 := (HB.1.cell (World.block_lt_of_cell? w _ hx375_0)).trans hx375_0
  replace p375 := eq_true p375
  replace q375 := eq_true q375
  have jj : wr.cell? ⟨UQ, 0, none⟩ = some (.slice J4 J0.length J2) := (zf0 XY.1 0).trans rfl
  have jk := zc0 XY.1 0
  have p376 : 0 ≤ (Jo : Int) := oA
  have q376 : Jo < (J0.length : Int) := oA
  obtain ⟨ad376, mn, mo, e376, hx376_0, hl376_0, hi376_0⟩ := at_L2 Ja.1 Jo p376 q376
  cases e376
  replace hx376_0 := (HB.1.cell (World.block_lt_of_cell? w _ hx376_0)).trans hx376_0
  have ZG := hqZ hi376_0
  have HC376_0 := hqZ hl376_0
  clear hi376_0 hl376_0
  replace p376 := eq_true p376
  replace q376 := eq_true q376
  go_wp2
  go_roundg k1
  case measure => have := V8.1; omega
  case rel => exact ⟨(wrap64 (Jo + 1)), (rfl), H', ⟨by have := V8.1; omega⟩, ⟨XY.1⟩, ⟨HB.1⟩⟩
def yr0.l0 : Nat → Int → List Int → List Int → Int → Int → Option (List Int)
 | 0, _, _, _, _, _ => none
 | k + 1, x1, x2, X9, qm, vk => if vk < qm then (if 0 ≤ vk then (if vk < (X9.length : Int) then (if (rd X9 vk) = x1 then (yr0.l0 k x1 x2 X9 qm (wrap64 (vk + 1))) else (if 0 ≤ (rd X9 vk) then (if (rd X9 vk) < (x2.length : Int) then (yr0.l0 k x1 (x2.set ((rd X9 vk) : Int).toNat (wrap64 ((rd x2 (rd X9 vk)) + 1))) X9 qm (wrap64 (vk + 1))) else (none)) else (none))) else (none)) else (none)) else (some x2)
def yr0.f (k : Nat) (J0 : List (List Int)) (a1 : Int) (l2 : List Int) (a3 : Int) : Option (List Int) := if 0 ≤ a3 then (if a3 < (l2.length : Int) then (if a3 < (J0.length : Int) then (yr0.l0 k a1 (l2.set (a3 : Int).toNat (wrap64 ((rd l2 a3) - ((rd_L2 J0 a3).length : Int)))) (rd_L2 J0 a3) ((rd_L2 J0 a3).length : Int) 0) else (none)) else (none)) else (none)
theorem yr0.mono_l : ∀ k, (∀ y0 y1 y2 y3 y4, LeO (yr0.l0 k y0 y1 y2 y3 y4) (yr0.l0 (k + 1) y0 y1 y2 y3 y4))
 | 0 => fun _ _ _ _ _ r h => by simp [yr0.l0] at h
 | k + 1 => by
  have ih0 := yr0.mono_l k
  ·intro y0 y1 y2 y3 y4
   unfold yr0.l0
   repeat' (with_reducible first | apply ih0 | apply LeO.refl | apply LeO.none | refine LeO.ite ?_ ?_ | refine LeO.bind ?_ (fun _ => ?_))
theorem yr0.mono : ∀ a0 a1 a2 a3 k, LeO (yr0.f k a0 a1 a2 a3) (yr0.f (k + 1) a0 a1 a2 a3) := by
 intro a0 a1 a2 a3 k
 have ih0 := yr0.mono_l k
 unfold yr0.f
 repeat' (with_reducible first | apply ih0 | apply LeO.refl | apply LeO.none | refine LeO.ite ?_ ?_ | refine LeO.bind ?_ (fun _ => ?_))
def yr0.T1 : Bool × List (List Nat × List Nat) := (true, [([], []), ([], []), ([0, 1], [0, 1]), ([2], [2]), ([], []), ([4], [4]), ([], []), ([5, 6], [5, 6]), ([7], [7]), ([8], [8]), ([3, 9], [3, 9]), ([0, 1, 0, 1, 2, 3, 4, 5, 6, 7, 8, 9, 10], [0, 1]), ([11, 10, 0, 1, 2, 3, 4, 5, 6, 7, 8, 9, 10], [10, 11])])
def yr0.B1 : List Nat := [0, 0, 3, 7, 0, 16, 0, 112, 240, 496, 1023, 2047, 4095]
theorem yr0.tab1 : rtab .any (opsOf Try.f43 1) = yr0.T1 := by kernel_rfl
theorem yr0.bits1 : waitsOk yr0.T1.2 yr0.B1 = true := by kernel_rfl
theorem yr0.calls (k : Nat) (J4 : Option Addr) (J2 : Nat) (J0 : List (List Int)) (a1 : Int) (P2_ : Nat → Prop) (u9000_ : Value) (l2 : List Int) (a3 : Int) (r : List Int) (w0 w : World) (hB : Below w0.heap.size w0 w) (hr0_0 : ∀ W_, Kept w W_ (fun k_ => P2_ k_) → Kd.C (Kd.slice 3 (Kd.int .i64)) W_ J4 J0.length J0) (hc0_0 : J0.length ≤ J2) (ho2 : Kd.R (Kd.int .i64) 3 w w0.heap.size P2_ u9000_ l2) (h : yr0.f k J0 a1 l2 a3 = some r) :
  Calls Try.prog 43 #[.agg #[.slice J4 J0.length J2], .int .i64 a1, u9000_, .int .i64 a3] w fun e w' => e = .returned (.tuple #[]) ∧ Kd.R (Kd.int .i64) 3 w' w0.heap.size (fun k_ => (P2_ k_ ∨ w.heap.size ≤ k_)) u9000_ r ∧ Below w0.heap.size w0 w' ∧ Kept w w' (fun k_ => P2_ k_) := by
 have hu26 := Try.underlying26
 have Ja := hqZ hr0_0
 have HC0_0 := hqZ hc0_0
 clear hr0_0 hc0_0
 have Xo := hqZ (show Kd.R (Kd.int .i64) 3 w w0.heap.size (fun k_ => (P2_ k_ ∨ w.heap.size ≤ k_)) u9000_ l2 from Kd.R_mono ho2 (fun k_ hk => (.inl hk)))
 have HK := hqZ (Kept.refl w (fun k_ => P2_ k_))
 have HW0 := hqZ hB.size
 have HB := hqZ hB
 clear hB
 have H : (if 0 ≤ a3 then (if a3 < (l2.length : Int) then (if a3 < (J0.length : Int) then (yr0.l0 k a1 (l2.set (a3 : Int).toNat (wrap64 ((rd l2 a3) - ((rd_L2 J0 a3).length : Int)))) (rd_L2 J0 a3) ((rd_L2 J0 a3).length : Int) 0) else (none)) else (none)) else (none)) = some r := h
 clear h
 by_cases c5 : 0 ≤ a3
 rotate_left
 ·rw [if_neg c5] at H
  exact absurd H (by simp)
 rw [if_pos c5] at H
 have c5b0 : decide (0 ≤ a3) = true := decide_eq_true c5
 clear c5
 by_cases c6 : a3 < (l2.length : Int)
 rotate_left
 ·rw [if_neg c6] at H
  exact absurd H (by simp)
 rw [if_pos c6] at H
 have c6b0 : decide (a3 < (l2.length : Int)) = true := decide_eq_true c6
 clear c6
 by_cases c7 : a3 < (J0.length : Int)
 rotate_left
 ·rw [if_neg c7] at H
  exact absurd H (by simp)
 rw [if_pos c7] at H
 have c7b0 : decide (a3 < (J0.length : Int)) = true := decide_eq_true c7
 clear c7
 obtain ⟨Mq, hy380⟩ : ∃ y_ : List Int, y_ = (l2.set (a3 : Int).toNat (wrap64 ((rd l2 a3) - ((rd_L2 J0 a3).length : Int)))) := ⟨_, rfl⟩
 replace H : (yr0.l0 k a1 Mq (rd_L2 J0 a3) ((rd_L2 J0 a3).length : Int) 0) = some r := by (rw [hy380]; with_reducible exact H)
 have Ny380 := hqZ hy380
 clear hy380
 have H' := hqZ H
 clear H
 go_enter Try.func43, Try.ntmps43
 try go_wp2_with (((with_reducible refine zi0 (N := 4) rfl ?_); refine zk0 ?hg (N := 4) ?hd (cs := #[.slice J4 J0.length J2]) (t := 26) ?hr ?_; (case hd | hg => rfl); (case hr => go_simp); intro oT hg w9 hbox hb; replace Xo := hqZ (Kd.R_below (Xo.1) hb); have jq := hqZ (hbox); have Jm1 := hqZ ((by rw [hg]; exact (by exact HK.1.1) : w.heap.size ≤ oT)); replace HK := hqZ (Kept.below (S := (fun k_ => P2_ k_)) (HK.1) hb); have Jm2 := hqZ ((by rw [hg]; exact (zb0 (HB.1)) : w0.heap.size ≤ oT)); replace HB := hqZ (za0 (HB.1) hb); clear hb hbox hg))
 have n0_ := hqZ (Kd.R_drew Xo.1)
 have n1_ := hqZ (blk_drew jq.1)
 have n2_ := hqZ (Kept.drew HK.1)
 have n3_ := hqZ (below_drew1 HB.1)
 clear Xo jq HK HB
 have Xo := n0_
 have jq := n1_
 have HK := n2_
 have HB := n3_
 clear n0_ n1_ n2_ n3_
 obtain ⟨j5, Yt, eo11⟩ := Kd.R_slice Xo.1
 (subst eo11)
 have p378 : 0 ≤ (a3 : Int) := oA
 have q378 : a3 < (l2.length : Int) := oA
 obtain ⟨ad378, e378, hx378_0⟩ := Kd.at_int (Kd.R_reads' Xo.1).2.2 a3 p378 q378
 cases e378
 replace p378 := eq_true p378
 replace q378 := eq_true q378
 have p379 : 0 ≤ (a3 : Int) := oA
 have q379 : a3 < (J0.length : Int) := oA
 obtain ⟨ad379, mq, mr, e379, hx379_0, hl379_0, hi379_0⟩ := kept_L2 Ja.1 HK.1 a3 p379 q379
 have hw379_0 := hx379_0
 cases e379
 have ZH := hqZ hi379_0
 have HC379_0 := hqZ hl379_0
 clear hi379_0 hl379_0
 replace p379 := eq_true p379
 replace q379 := eq_true q379
 have p8 : 0 ≤ (a3 : Int) := oA
 have q8 : (a3 : Int) < ((l2.length : Int) : Int) := oA
 obtain ⟨oa, co8, eo8, Mr, gl8, cl8, HG8⟩ := Kd.R_form Xo.1 (by omega)
 (cases eo8)
 have GB8 := hqZ Mr
 have GG8 := hqZ HG8
 clear Mr gl8 HG8
 have HMgo8 := hqZ (show (P2_ oa ∨ w.heap.size ≤ oa) from (Xo.1.1 _ rfl))
 (simp only [add_plain] at hx378_0)
 obtain ⟨hx8_0, hf8_0⟩ := Kd.R_celln 0 Xo.1 (a3 : Int) p8 q8
 replace p8 := eq_true p8
 replace q8 := eq_true q8
 have HP12 := Kd.R_putn Xo.1 (a3 : Int) (wrap64 ((rd l2 a3) - ((rd_L2 J0 a3).length : Int)))
 rw [← Ny380.1] at HP12
 have Ey := hqZ HP12
 clear HP12
 refine start_ (n := 13) (S := fun w' => w'.cell? ⟨oT, 0, none⟩ = some (.slice (some ad379) J0.length J2) ∧ w'.cell? ⟨oa, (a3).toNat, none⟩ = some (.int .i64 (rd l2 a3)) ∧ w'.cell? (ad379.add (a3).toNat) = some (.slice mq (rd_L2 J0 a3).length mr)) (ds := [12]) #[false, false, false, false, false, false, false, false, false, false, false, false, false] (by kernel_rfl) rfl rfl ⟨(zf0 jq.1 0).trans rfl, hx378_0, hx379_0⟩ (fun hHeld => ?_); refine with_tabW yr0.tab1 yr0.bits1 (fun HT_ HW_ => ?_)
 generalize w9.drew = w10 at Xo jq HK HB GG8 Ey ZH hf8_0 hx378_0 hx379_0 hx8_0 hHeld ⊢
 refine pure_ (i := 0) (N := some 10) (v := ?_) (a' := ?_) (bf 13 1) rfl rfl (zt0 HT_.1 (by kernel_rfl)) (fun _ _ _ h => h) (Or.inl ⟨by rfl, ?_⟩) ?_ ?_
 rotate_left
 ·intro w'; go_simp; with_reducible rfl
 rotate_left
 ·simp only [Act.put, zA, zB, zC, i64_w, i32_w]; rfl
 refine pure_ (i := 1) (N := some 11) (v := ?_) (a' := ?_) (bf 13 3) rfl rfl (zt0 HT_.1 (by kernel_rfl)) (fun _ _ _ h => h) (Or.inl ⟨by rfl, ?_⟩) ?_ ?_
 rotate_left
 ·intro w'; go_simp; with_reducible rfl
 rotate_left
 ·simp only [Act.put, zA, zB, zC, i64_w, i32_w]; rfl
 refine pure_ (i := 2) (N := some 12) (v := ?_) (a' := ?_) (bf 13 7) rfl rfl (zt0 HT_.1 (by kernel_rfl)) (fun _ _ _ h => h) (Or.inl ⟨by rfl, ?_⟩) ?_ ?_
 rotate_left
 ·intro w'; go_simp; with_reducible rfl
 rotate_left
 ·simp only [Act.put, zA, zB, zC, i64_w, i32_w]; rfl
 refine pure_ (i := 4) (N := some 14) (v := ?_) (a' := ?_) (bf 13 23) rfl rfl (zt0 HT_.1 (by kernel_rfl)) (fun _ _ _ h => h) (Or.inl ⟨by rfl, ?_⟩) ?_ ?_
 rotate_left
 ·intro w'; go_simp; with_reducible rfl
 rotate_left
 ·simp only [Act.put, zA, zB, zC, i64_w, i32_w]; rfl
 refine pure_ (i := 6) (N := some 16) (v := ?_) (a' := ?_) (bf 13 87) rfl rfl (zt0 HT_.1 (by kernel_rfl)) (fun _ _ _ h => h) (Or.inl ⟨by rfl, ?_⟩) ?_ ?_
 rotate_left
 ·intro w'; go_simp; with_reducible rfl
 rotate_left
 ·simp only [Act.put, zA, zB, zC, i64_w, i32_w]; rfl
 refine take_ (i := 3) (N := some 13) (v := ?_) (a' := ?_) (bf 13 95) rfl rfl (take_ofW HT_.1 HW_.1 (by kernel_rfl)) (fun _ _ _ h => h) (Or.inl ⟨by rfl, ?_⟩) hHeld ?_ ?_
 rotate_left
 ·rintro w' ⟨s0, s1, s2⟩; go_simp; with_reducible rfl
 rotate_left
 ·simp only [Act.put, zA, zB, zC, i64_w, i32_w]; rfl
 refine take_ (i := 5) (N := some 15) (v := ?_) (a' := ?_) (bf 13 127) rfl rfl (take_ofW HT_.1 HW_.1 (by kernel_rfl)) (fun _ _ _ h => h) (Or.inl ⟨by rfl, ?_⟩) hHeld ?_ ?_
 rotate_left
 ·rintro w' ⟨s0, s1, s2⟩; go_simp; with_reducible rfl
 rotate_left
 ·simp only [Act.put, zA, zB, zC, i64_w, i32_w]; rfl
 refine pure_ (i := 7) (N := some 17) (v := ?_) (a' := ?_) (bf 13 255) rfl rfl (zt0 HT_.1 (by kernel_rfl)) (fun _ _ _ h => h) (Or.inl ⟨by rfl, ?_⟩) ?_ ?_
 rotate_left
 ·intro w'; go_simp; with_reducible rfl
 rotate_left
 ·simp only [Act.put, zA, zB, zC, i64_w, i32_w]; rfl
 refine take_ (i := 8) (N := some 18) (v := ?_) (a' := ?_) (bf 13 511) rfl rfl (take_ofW HT_.1 HW_.1 (by kernel_rfl)) (fun _ _ _ h => h) (Or.inl ⟨by rfl, ?_⟩) hHeld ?_ ?_
 rotate_left
 ·rintro w' ⟨s0, s1, s2⟩; go_simp; with_reducible rfl
 rotate_left
 ·simp only [Act.put, zA, zB, zC, i64_w, i32_w]; rfl
 refine pure_ (i := 9) (N := some 19) (v := ?_) (a' := ?_) (bf 13 1023) rfl rfl (zt0 HT_.1 (by kernel_rfl)) (fun _ _ _ h => h) (Or.inl ⟨by rfl, ?_⟩) ?_ ?_
 rotate_left
 ·intro w'; go_simp; with_reducible rfl
 rotate_left
 ·simp only [Act.put, zA, zB, zC, i64_w, i32_w]; rfl
 refine pure_ (i := 10) (N := some 20) (v := ?_) (a' := ?_) (bf 13 2047) rfl rfl (zt0 HT_.1 (by kernel_rfl)) (fun _ _ _ h => h) (Or.inl ⟨by rfl, ?_⟩) ?_ ?_
 rotate_left
 ·intro w'; go_simp; with_reducible rfl
 rotate_left
 ·simp only [Act.put, zA, zB, zC, i64_w, i32_w]; rfl
 refine pure_ (i := 11) (N := some 21) (v := ?_) (a' := ?_) (bf 13 4095) rfl rfl (zt0 HT_.1 (by kernel_rfl)) (fun _ _ _ h => h) (Or.inl ⟨by rfl, ?_⟩) ?_ ?_
 rotate_left
 ·intro w'; go_simp; with_reducible rfl
 rotate_left
 ·simp only [Act.put, zA, zB, zC, i64_w, i32_w]; rfl
 refine last_ (i := 12) (N := none) (bf 13 8191) rfl rfl (one_of HT_.1 (by kernel_rfl)) (by decide) (fun K hK => ?_)
 refine skip_ (w1 := ?_) (by rfl) rfl ?_ ?_
 rotate_left
 ·go_simp
  rfl
 refine hK.out _ _ ?_
 clear hK K
 refine done_ (done_of HT_.1 (by kernel_rfl)) ?_
 have vw : (w10.setCell ⟨oa, (a3 : Int).toNat, none⟩ (.int .i64 (wrap64 ((rd l2 a3) - ((rd_L2 J0 a3).length : Int))))).cell? ⟨oT, 0, none⟩ = some (.slice (some ad379) J0.length J2) := (cell_far (p := ⟨oa, (a3 : Int).toNat, none⟩) (show oT ≠ oa from (by have h_ := Kd.R_ne Xo.1 jq.1 (by decide); intro e_; exact h_ (by rw [e_]; rfl))) (.int .i64 (wrap64 ((rd l2 a3) - ((rd_L2 J0 a3).length : Int))))).trans ((zf0 jq.1 0).trans rfl)
 have vx := zc0 jq.1 0
 have p381 : 0 ≤ (a3 : Int) := oA
 have q381 : a3 < (J0.length : Int) := oA
 obtain ⟨ad381, Jh2, Jh3, e381, hx381_0, hl381_0, hi381_0⟩ := kept_L2 Ja.1 (show Kept w (w10.setCell ⟨oa, (a3 : Int).toNat, none⟩ (.int .i64 (wrap64 ((rd l2 a3) - ((rd_L2 J0 a3).length : Int))))) (fun k_ => P2_ k_) from by repeat ((with_reducible first | exact HK.1 | refine Kept.setCell ?_ HMgo8.1 _))) a3 p381 q381
 obtain rfl : ad379 = ad381 := (by injection e381)
 have dj := hqZ hi381_0
 have HC381_0 := hqZ hl381_0
 clear hi381_0 hl381_0
 replace p381 := eq_true p381
 replace q381 := eq_true q381
 try go_wp2
 go_loopg [28] k (fun kq v28 w' => ∃ (je : List Int) (Jh : Int), v28 = .int .i64 Jh ∧ zg0 (yr0.l0 kq a1 je (rd_L2 J0 a3) ((rd_L2 J0 a3).length : Int) Jh = some r) ∧ zg0 (kq ≤ k) ∧ zg0 (Kd.R (Kd.int .i64) 3 w' w0.heap.size (fun k_ => (P2_ k_ ∨ w.heap.size ≤ k_)) (.slice (some ⟨oa, 0, none⟩) l2.length Yt) je) ∧ zg0 (w'.heap[oT]? = some (.cells #[(.slice (some ad379) J0.length J2)] 26 (0, 0))) ∧ zg0 (Kept w w' (fun k_ => P2_ k_)) ∧ zg0 (Below w0.heap.size w0 w'))
 case atStart => exact ⟨(Mq), (0), (rfl), H', ⟨Nat.le_refl _⟩, ⟨Ey.1⟩, ⟨by refine blk_far ?_ (by have h_ := Kd.R_ne Xo.1 jq.1 (by decide); intro e_; exact h_ (by rw [e_]; rfl)) _; exact jq.1⟩, ⟨by repeat ((with_reducible first | exact HK.1 | refine Kept.setCell ?_ HMgo8.1 _))⟩, ⟨zm0 HB.1 GB8.1⟩⟩
 case round =>
  clear H'
  try clear p2
  try clear c3
  try clear p3
  try clear q3
  try clear hx3
  try clear c4
  try clear c5
  try clear c5b0
  try clear c6
  try clear c6b0
  try clear p6
  try clear c7
  try clear c7b0
  try clear p8
  try clear q8
  try clear hx8
  try clear hf8
  try clear vw
  try clear vx
  try clear hx378_0
  try clear hx379_0
  try clear hx381_0
  try clear hx8_0
  try clear p378
  try clear p379
  try clear p381
  try clear p8
  try clear q378
  try clear q379
  try clear q381
  try clear q8
  obtain ⟨je, Jh, rfl, HA, V8, vn, jq, HK, HB⟩ := hrel
  have hl2_1 := (Kd.R_reads' vn.1).1
  rw [hl2_1] at vn
  (try simp only [hl2_1])
  (try simp only [hl2_1] at jq)
  obtain _ | k1 := gk
  ·exact absurd HA.1 (by simp [yr0.l0])
  have H := HA.1
  clear HA
  simp only [yr0.l0] at H
  by_cases c14 : Jh < ((rd_L2 J0 a3).length : Int)
  rotate_left
  ·rw [if_neg c14] at H
   have c14b0 : decide (Jh < ((rd_L2 J0 a3).length : Int)) = false := decide_eq_false c14
   (try (have c14b0h := c14b0; simp only [hl2_1] at c14b0h))
   clear c14
   obtain rfl := Option.some.inj H
   go_wp2
   go_end0
   exact ⟨rfl, (by exact (vn.1)), HB.1, HK.1⟩
  rw [if_pos c14] at H
  have c14b0 : decide (Jh < ((rd_L2 J0 a3).length : Int)) = true := decide_eq_true c14
  (try (have c14b0h := c14b0; simp only [hl2_1] at c14b0h))
  clear c14
  by_cases c15 : 0 ≤ Jh
  rotate_left
  ·rw [if_neg c15] at H
   exact absurd H (by simp)
  rw [if_pos c15] at H
  have c15b0 : decide (0 ≤ Jh) = true := decide_eq_true c15
  (try (have c15b0h := c15b0; simp only [hl2_1] at c15b0h))
  clear c15
  by_cases c16 : Jh < ((rd_L2 J0 a3).length : Int)
  rotate_left
  ·rw [if_neg c16] at H
   exact absurd H (by simp)
  rw [if_pos c16] at H
  have c16b0 : decide (Jh < ((rd_L2 J0 a3).length : Int)) = true := decide_eq_true c16
  (try (have c16b0h := c16b0; simp only [hl2_1] at c16b0h))
  clear c16
  by_cases c17 : (rd (rd_L2 J0 a3) Jh) = a1
  ·rw [if_pos c17] at H
   have c17b0 : ((rd (rd_L2 J0 a3) Jh) == a1) = true := beq_iff_eq.mpr c17
   (try (have c17b0h := c17b0; simp only [hl2_1] at c17b0h))
   have c17b1 : ((rd (rd_L2 J0 a3) Jh) != a1) = false := bne_eq_false_iff_eq.mpr c17
   (try (have c17b1h := c17b1; simp only [hl2_1] at c17b1h))
   clear c17
   have H' := hqZ H
   clear H
   have p382 : 0 ≤ (Jh : Int) := oA
   have q382 : Jh < ((rd_L2 J0 a3).length : Int) := oA
   obtain ⟨ad382, e382, hx382_0⟩ := Kd.at_int (Kd.C_kept_now dj.1 HK.1) Jh p382 q382
   cases e382
   replace p382 := eq_true p382
   replace q382 := eq_true q382
   go_wp2
   (try simp only [← hl2_1])
   go_roundg k1
   case measure => have := V8.1; omega
   case rel => exact ⟨(je), (wrap64 (Jh + 1)), (rfl), H', ⟨by have := V8.1; omega⟩, ⟨by (try simp only [hl2_1]); exact vn.1⟩, ⟨by (try simp only [hl2_1]); exact jq.1⟩, ⟨HK.1⟩, ⟨HB.1⟩⟩
  rw [if_neg c17] at H
  have c17b0 : ((rd (rd_L2 J0 a3) Jh) == a1) = false := beq_eq_false_iff_ne.mpr c17
  (try (have c17b0h := c17b0; simp only [hl2_1] at c17b0h))
  have c17b1 : ((rd (rd_L2 J0 a3) Jh) != a1) = true := bne_iff_ne.mpr c17
  (try (have c17b1h := c17b1; simp only [hl2_1] at c17b1h))
  by_cases c18 : 0 ≤ (rd (rd_L2 J0 a3) Jh)
  rotate_left
  ·rw [if_neg c18] at H
   exact absurd H (by simp)
  rw [if_pos c18] at H
  have c18b0 : decide (0 ≤ (rd (rd_L2 J0 a3) Jh)) = true := decide_eq_true c18
  (try (have c18b0h := c18b0; simp only [hl2_1] at c18b0h))
  clear c18
  by_cases c19 : (rd (rd_L2 J0 a3) Jh) < (je.length : Int)
  rotate_left
  ·rw [if_neg c19] at H
   exact absurd H (by simp)
  rw [if_pos c19] at H
  have c19b0 : decide ((rd (rd_L2 J0 a3) Jh) < (je.length : Int)) = true := decide_eq_true c19
  (try (have c19b0h := c19b0; simp only [hl2_1] at c19b0h))
  clear c19
  obtain ⟨ms, hy384⟩ : ∃ y_ : List Int, y_ = (je.set ((rd (rd_L2 J0 a3) Jh) : Int).toNat (wrap64 ((rd je (rd (rd_L2 J0 a3) Jh)) + 1))) := ⟨_, rfl⟩
  replace H : (yr0.l0 k1 a1 ms (rd_L2 J0 a3) ((rd_L2 J0 a3).length : Int) (wrap64 (Jh + 1))) = some r := by (rw [hy384]; with_reducible exact H)
  have Ny384 := hqZ hy384
  clear hy384
  have H' := hqZ H
  clear H
  have p382 : 0 ≤ (Jh : Int) := oA
  have q382 : Jh < ((rd_L2 J0 a3).length : Int) := oA
  obtain ⟨ad382, e382, hx382_0⟩ := Kd.at_int (Kd.C_kept_now dj.1 HK.1) Jh p382 q382
  cases e382
  replace p382 := eq_true p382
  replace q382 := eq_true q382
  have p383 : 0 ≤ ((rd (rd_L2 J0 a3) Jh) : Int) := oA
  have q383 : (rd (rd_L2 J0 a3) Jh) < (je.length : Int) := oA
  obtain ⟨ad383, e383, hx383_0⟩ := Kd.at_int (Kd.R_reads' vn.1).2.2 (rd (rd_L2 J0 a3) Jh) p383 q383
  obtain rfl : (⟨oa, 0, none⟩ : Addr) = ad383 := (by injection e383)
  (simp only [add_plain] at hx383_0)
  replace p383 := eq_true p383
  replace q383 := eq_true q383
  have p20 : 0 ≤ ((rd (rd_L2 J0 a3) Jh) : Int) := oA
  have q20 : ((rd (rd_L2 J0 a3) Jh) : Int) < ((je.length : Int) : Int) := oA
  obtain ⟨hx20_0, hf20_0⟩ := Kd.R_celln 0 vn.1 ((rd (rd_L2 J0 a3) Jh) : Int) p20 q20
  replace p20 := eq_true p20
  replace q20 := eq_true q20
  have HP21 := Kd.R_putg vn.1 ((rd (rd_L2 J0 a3) Jh) : Int) (wrap64 ((rd je (rd (rd_L2 J0 a3) Jh)) + 1))
  go_wp2_with (((with_reducible refine gate_store (t := 3) (p := 40) rfl ?_); refine store_event (t := 3) (p := 40) (v := ?vo_w22) (w1 := (wr.setCell ⟨oa, ((rd (rd_L2 J0 a3) Jh) : Int).toNat, none⟩ (.int .i64 (wrap64 ((rd je (rd (rd_L2 J0 a3) Jh)) + 1))))) ?hg ?ho ?hn ?hr ?_; (case ho => rfl); (case hg => rfl); (case hn => rfl); (case hr => go_simp); intro w22 hw; have hg : wr.grownBy w22 (some oa) := (by rw [hw]; exact HP21.2); have hp_ : Kd.R (Kd.int .i64) 3 w22 w0.heap.size (fun k_ => (P2_ k_ ∨ w.heap.size ≤ k_)) (.slice (some ⟨oa, 0, none⟩) je.length Yt) ms := (by rw [hw, Ny384.1]; exact HP21.1); clear HP21; replace jq := hqZ (zl0 (g := oT) (jq.1) hg (Kd.R_ne vn.1 jq.1 (by decide))); replace HB := hqZ ((by rw [hw]; exact zm0 (HB.1) GB8.1 : Below w0.heap.size w0 w22)); replace HK := hqZ (Kept.of_grown (S := (fun k_ => P2_ k_)) hg (HK.1) (fun k_ e_ => (vn.1.1 k_ e_))); replace vn := hqZ (hp_); clear hg hw hp_))
  (try simp only [← hl2_1])
  go_roundg k1
  case measure => have := V8.1; omega
  case rel => exact ⟨(ms), (wrap64 (Jh + 1)), (rfl), H', ⟨by have := V8.1; omega⟩, ⟨by (try simp only [hl2_1]); exact vn.1⟩, ⟨by (try simp only [hl2_1]); exact jq.1⟩, ⟨HK.1⟩, ⟨HB.1⟩⟩
def yi0.l0 : Nat → Int → List Int → List Int → Int → List (List Int) → Option (List Int × List Int × Bool)
 | 0, _, _, _, _, _ => none
 | k + 1, x1, x9, vq, YE, Up => (yt0.f k Up x1 x9).bind fun YB => (if YB < 0 then (some (x9, vq, true)) else (if YE ≥ 4000 then (some (([] : List Int), ([] : List Int), false)) else ((yr0.f k Up x1 x9 YB).bind fun Ez => (if 0 ≤ YB then (if YB < (vq.length : Int) then (yi0.l0 k x1 Ez (vq.set (YB : Int).toNat (wrap64 ((rd vq YB) + 1))) (wrap64 (YE + 1)) Up) else (none)) else (none)))))
def yi0.f (k : Nat) (J0 : List (List Int)) (a1 : Int) (l2 : List Int) : Option (List Int × List Int × Bool) := (yr1.f l2).bind fun U2 => (if 0 ≤ (J0.length : Int) then (if ((J0.length : Int) : Int).toNat ≤ 35184372088832 then (yi0.l0 k a1 U2 (List.replicate ((J0.length : Int) : Int).toNat 0) 0 J0) else (none)) else (none))
theorem yi0.mono_l : ∀ k, (∀ y0 y1 y2 y3 y4, LeO (yi0.l0 k y0 y1 y2 y3 y4) (yi0.l0 (k + 1) y0 y1 y2 y3 y4))
 | 0 => fun _ _ _ _ _ r h => by simp [yi0.l0] at h
 | k + 1 => by
  have ih0 := yi0.mono_l k
  ·intro y0 y1 y2 y3 y4
   unfold yi0.l0
   repeat' (with_reducible first | apply ih0 | apply yt0.mono | apply yr0.mono | apply LeO.refl | apply LeO.none | refine LeO.ite ?_ ?_ | refine LeO.bind ?_ (fun _ => ?_))
theorem yi0.mono : ∀ a0 a1 a2 k, LeO (yi0.f k a0 a1 a2) (yi0.f (k + 1) a0 a1 a2) := by
 intro a0 a1 a2 k
 have ih0 := yi0.mono_l k
 unfold yi0.f
 repeat' (with_reducible first | apply ih0 | apply yt0.mono | apply yr0.mono | apply LeO.refl | apply LeO.none | refine LeO.ite ?_ ?_ | refine LeO.bind ?_ (fun _ => ?_))
def yi0.T1 : Bool × List (List Nat × List Nat) := (true, [([], []), ([0], [0]), ([], []), ([2], [2]), ([3], [3]), ([4, 4], [4]), ([1, 1, 0, 1], [1]), ([5, 6, 0, 1, 2, 3, 4, 5, 6], [5])])
def yi0.B1 : List Nat := [0, 1, 0, 4, 12, 28, 3, 127]
theorem yi0.tab1 : rtab .any (opsOf Try.f31 1) = yi0.T1 := by kernel_rfl
theorem yi0.bits1 : waitsOk yi0.T1.2 yi0.B1 = true := by kernel_rfl
theorem yi0.calls (k : Nat) (J4 : Option Addr) (J2 : Nat) (J0 : List (List Int)) (a1 : Int) (A2 : Option Addr) (c2 : Nat) (l2 : List Int) (r1 : List Int) (r2 : List Int) (r3 : Bool) (w : World) (hr0_0 : Kd.C (Kd.slice 3 (Kd.int .i64)) w J4 J0.length J0) (hc0_0 : J0.length ≤ J2) (hr2 : Kd.C (Kd.int .i64) w A2 l2.length l2) (hc2 : l2.length ≤ c2) (h : yi0.f k J0 a1 l2 = some (r1, r2, r3)) :
  Calls Try.prog 31 #[.agg #[.slice J4 J0.length J2], .int .i64 a1, .slice A2 l2.length c2] w fun e w' => ∃ v0_ v1_ : Value, e = .returned (.tuple #[v0_, v1_, .bool r3]) ∧ Kd.R (Kd.int .i64) 3 w' w.heap.size (fun k_ => some k_ ≠ (v1_ : Value).ownBlock) v0_ r1 ∧ Kd.R (Kd.int .i64) 3 w' w.heap.size (fun k_ => some k_ ≠ (v0_ : Value).ownBlock) v1_ r2 ∧ Below w.heap.size w w' := by
 have hu26 := Try.underlying26
 have Ja := hqZ hr0_0
 have HC0_0 := hqZ hc0_0
 clear hr0_0 hc0_0
 have jz := hqZ hr2
 have HC2 := hqZ hc2
 clear hr2 hc2
 have HB := hqZ (Below.refl w.heap.size w)
 have H : ((yr1.f l2).bind fun U2 => (if 0 ≤ (J0.length : Int) then (if ((J0.length : Int) : Int).toNat ≤ 35184372088832 then (yi0.l0 k a1 U2 (List.replicate ((J0.length : Int) : Int).toNat 0) 0 J0) else (none)) else (none))) = some (r1, r2, r3) := h
 clear h
 replace H := Option.bind_eq_some_iff.mp H
 obtain ⟨U2, A40, H⟩ := H
 try dsimp only at H
 have A4 := hqZ A40
 clear A40
 by_cases c5 : 0 ≤ (J0.length : Int)
 rotate_left
 ·rw [if_neg c5] at H
  exact absurd H (by simp)
 rw [if_pos c5] at H
 have c5b0 := eq_true c5
 have c5b1 : decide (0 ≤ (J0.length : Int)) = true := decide_eq_true c5
 clear c5
 by_cases c6 : ((J0.length : Int) : Int).toNat ≤ 35184372088832
 rotate_left
 ·rw [if_neg c6] at H
  exact absurd H (by simp)
 rw [if_pos c6] at H
 have c6b0 := eq_true c6
 have c6b1 : decide (((J0.length : Int) : Int).toNat ≤ 35184372088832) = true := decide_eq_true c6
 clear c6
 obtain ⟨ZI, hy389⟩ : ∃ y_ : List Int, y_ = (List.replicate ((J0.length : Int) : Int).toNat 0) := ⟨_, rfl⟩
 replace H : (yi0.l0 k a1 U2 ZI 0 J0) = some (r1, r2, r3) := by (rw [hy389]; with_reducible exact H)
 have Ny389 := hqZ hy389
 clear hy389
 have H' := hqZ H
 clear H
 go_enter Try.func31, Try.ntmps31
 try go_wp2_with (((with_reducible refine zi0 (N := 3) rfl ?_); refine zk0 ?hg (N := 3) ?hd (cs := #[.slice J4 J0.length J2]) (t := 26) ?hr ?_; (case hd | hg => rfl); (case hr => go_simp); intro YH hg w7 hbox hb; have Va := hqZ (hbox); have Jm3 := hqZ ((by rw [hg]; exact (zb0 (HB.1)) : w.heap.size ≤ YH)); have Jm4 := hqZ ((by rw [hg]; exact (zb0 (HB.1)) : w.heap.size ≤ YH)); replace HB := hqZ (za0 (HB.1) hb); clear hb hbox hg))
 have n0_ := hqZ (blk_drew Va.1)
 have n1_ := hqZ (below_drew1 HB.1)
 clear Va HB
 have Va := n0_
 have HB := n1_
 clear n0_ n1_
 refine start_ (n := 8) (S := fun w' => w'.cell? ⟨YH, 0, none⟩ = some (.slice J4 J0.length J2)) (ds := []) #[false, false, false, false, false, false, false, false] (by kernel_rfl) rfl rfl ((zf0 Va.1 0).trans rfl) (fun hHeld => ?_); refine with_tabW yi0.tab1 yi0.bits1 (fun HT_ HW_ => ?_)
 generalize w7.drew = w8 at Va HB hHeld ⊢
 refine pure_ (i := 0) (N := some 13) (v := ?_) (a' := ?_) (bf 8 1) rfl rfl (zt0 HT_.1 (by kernel_rfl)) (fun _ _ _ h => h) (Or.inl ⟨by rfl, ?_⟩) ?_ ?_
 rotate_left
 ·intro w'; go_simp; with_reducible rfl
 rotate_left
 ·simp only [Act.put, zA, zB, zC, i64_w, i32_w]; rfl
 refine pure_ (i := 2) (N := some 15) (v := ?_) (a' := ?_) (bf 8 5) rfl rfl (zt0 HT_.1 (by kernel_rfl)) (fun _ _ _ h => h) (Or.inl ⟨by rfl, ?_⟩) ?_ ?_
 rotate_left
 ·intro w'; go_simp; with_reducible rfl
 rotate_left
 ·simp only [Act.put, zA, zB, zC, i64_w, i32_w]; rfl
 refine take_ (i := 3) (N := some 16) (v := ?_) (a' := ?_) (bf 8 13) rfl rfl (take_ofW HT_.1 HW_.1 (by kernel_rfl)) (fun _ _ _ h => h) (Or.inl ⟨by rfl, ?_⟩) hHeld ?_ ?_
 rotate_left
 ·intro w' s0
  go_simp
  with_reducible rfl
 rotate_left
 ·simp only [Act.put, zA, zB, zC, i64_w, i32_w]; rfl
 refine pure_ (i := 4) (N := some 17) (v := ?_) (a' := ?_) (bf 8 29) rfl rfl (zt0 HT_.1 (by kernel_rfl)) (fun _ _ _ h => h) (Or.inl ⟨by rfl, ?_⟩) ?_ ?_
 rotate_left
 ·intro w'; go_simp; with_reducible rfl
 rotate_left
 ·simp only [Act.put, zA, zB, zC, i64_w, i32_w]; rfl
 refine join_ (σ := Value × Value) 1 (bf 8 127) (fun s_ => [(14, s_.1), (18, s_.2), (9, s_.1)]) (fun s_ w' => (w'.cell? ⟨YH, 0, none⟩ = some (.slice J4 J0.length J2)) ∧ (Kd.R (Kd.int .i64) 3 w' w.heap.size (fun k_ => some k_ ≠ (s_.2 : Value).ownBlock) s_.1 U2) ∧ (Kd.R (Kd.int .i64) 3 w' w.heap.size (fun k_ => some k_ ≠ (s_.1 : Value).ownBlock) s_.2 ZI) ∧ (w'.heap[YH]? = some (.cells #[.slice J4 J0.length J2] 26 (0, 0))) ∧ (Below w.heap.size w w')) ?_ ?_
 rotate_left
 ·intro hCont
  refine two_ (i := 1) (j := 5) (Ni := some 14) (Nj := some 18) #[true, true, true, true, true, false, false, false] (bf 8 61) rfl rfl rfl rfl (two_of HT_.1 (by kernel_rfl)) (by decide) (by decide) (fun K hK => ?_) (fun K hK => ?_)
  ·skip
   refine goes_ Try.func42 (by kernel_rfl) rfl #[.slice A2 l2.length c2] (by rfl) rfl rfl (by simp only [hqa, hqb, hqc]; rfl) ?_
   with_reducible refine (yr1.calls _ _ l2 U2 _ ?side1 ?side2 A4.1).mono ?_
   (case side1 => exact (Kd.C_below jz.1 HB.1))
   (case side2 => exact HC2.1)
   rintro e w9 ⟨v387, rfl, ho0, hb⟩
   refine ⟨_, rfl, ?_⟩
   have n0_ := hqZ (Kd.R_lower ho0 (zb0 (HB.1)))
   have n1_ := hqZ (zd0 (g := YH) (Va.1) hb)
   have n2_ := hqZ (za0 (HB.1) hb)
   clear Va HB
   have Xp := n0_
   have Va := n1_
   have HB := n2_
   clear n0_ n1_ n2_
   (try clear hb)
   (try clear hb2)
   (try clear hk)
   (try clear hi)
   (try clear ho0)
   refine hK.out _ _ ((zf0 Va.1 0).trans rfl) (fun hHeld => ?_)
   clear hK K
   refine norm_ (a' := ?_) ?_ ?_
   rotate_left
   ·show Act.put _ (some 14) _ = _; simp only [Act.put, zA, zB, zC, i64_w, i32_w]; rfl
   refine pure_ (i := 6) (N := some 9) (v := ?_) (a' := ?_) (bf 8 95) rfl rfl (zt0 HT_.1 (by kernel_rfl)) (fun _ _ _ h => h) (Or.inl ⟨by rfl, ?_⟩) ?_ ?_
   rotate_left
   ·intro w'; go_simp; with_reducible rfl
   rotate_left
   ·simp only [Act.put, zA, zB, zC, i64_w, i32_w]; rfl
   refine one_ (i := 5) (N := some 18) (bf 8 127) rfl rfl (one_of HT_.1 (by kernel_rfl)) (by decide) (fun K hK => ?_)
   refine Kd.R_make_step (Kd.int .i64) _ 3 (by rfl) (N := 18) rfl 27 _ _ rfl (J0.length : Int) rfl rfl Try.underlying27 (.int .i64 0) 8 info3 rfl (by decide) (by omega) 0 (ok := fun _ => True) (okp := fun _ => True) rfl (fun _ hk => hk) trivial (oA) (Nat.le_trans (Nat.mul_le_mul_right _ (oA : (J0.length : Int).toNat ≤ 35184372088832)) (by omega)) (Below.refl _ _) (Nat.le_refl _) ?_
   intro v390 w10 ho11 hb hg_ hnew_
   clear hg_ hnew_
   (rw [← Ny389.1] at ho11)
   have n0_ := hqZ (Kd.R_elder' (Xp.1) (Kd.R_base ho11) hb)
   have n1_ := hqZ (Kd.R_lower (Kd.R_new' ho11 (Kd.R_lt (Xp.1))) (zb0 (HB.1)))
   have n2_ := hqZ (zd0 (g := YH) (Va.1) hb)
   have n3_ := hqZ (za0 (HB.1) hb)
   clear Xp Va HB
   have Xp := n0_
   have Xq := n1_
   have Va := n2_
   have HB := n3_
   clear n0_ n1_ n2_ n3_ hb ho11
   refine hK.out _ _ ((zf0 Va.1 0).trans rfl) (fun hHeld => ?_)
   clear hK K
   refine norm_ (a' := ?_) ?_ ?_
   rotate_left
   ·show Act.put _ (some 18) _ = _; simp only [Act.put, zA, zB, zC, i64_w, i32_w]; rfl
   exact norm_ (by simp only [putAll, Act.put, zA, zB, zC]) (hCont (v387, v390) _ ⟨hHeld, (Kd.R_mono Xp.1 (fun _ hk => hk.2)), (Kd.R_mono Xq.1 (fun _ hk => hk.2)), (Va.1), (HB.1)⟩)
  ·skip
   refine Kd.R_make_step (Kd.int .i64) _ 3 (by rfl) (N := 18) rfl 27 _ _ rfl (J0.length : Int) rfl rfl Try.underlying27 (.int .i64 0) 8 info3 rfl (by decide) (by omega) 0 (ok := fun _ => True) (okp := fun _ => True) rfl (fun _ hk => hk) trivial (oA) (Nat.le_trans (Nat.mul_le_mul_right _ (oA : (J0.length : Int).toNat ≤ 35184372088832)) (by omega)) (Below.refl _ _) (Nat.le_refl _) ?_
   intro v390 w9 ho10 hb hg_ hnew_
   clear hg_ hnew_
   (rw [← Ny389.1] at ho10)
   have n0_ := hqZ (Kd.R_lower ho10 (zb0 (HB.1)))
   have n1_ := hqZ (zd0 (g := YH) (Va.1) hb)
   have n2_ := hqZ (za0 (HB.1) hb)
   clear Va HB
   have Xq := n0_
   have Va := n1_
   have HB := n2_
   clear n0_ n1_ n2_ hb ho10
   refine hK.out _ _ ((zf0 Va.1 0).trans rfl) (fun hHeld => ?_)
   clear hK K
   refine norm_ (a' := ?_) ?_ ?_
   rotate_left
   ·show Act.put _ (some 18) _ = _; simp only [Act.put, zA, zB, zC, i64_w, i32_w]; rfl
   refine one_ (i := 1) (N := some 14) (bf 8 63) rfl rfl (one_of HT_.1 (by kernel_rfl)) (by decide) (fun K hK => ?_)
   refine goes_ Try.func42 (by kernel_rfl) rfl #[.slice A2 l2.length c2] (by rfl) rfl rfl (by simp only [hqa, hqb, hqc]; rfl) ?_
   with_reducible refine (yr1.calls _ _ l2 U2 _ ?side1 ?side2 A4.1).mono ?_
   (case side1 => exact (Kd.C_below jz.1 HB.1))
   (case side2 => exact HC2.1)
   rintro e w11 ⟨v387, rfl, ho0, hb⟩
   refine ⟨_, rfl, ?_⟩
   have n0_ := hqZ (Kd.R_elder' (Xq.1) (Kd.R_base ho0) hb)
   have n1_ := hqZ (Kd.R_lower (Kd.R_new' ho0 (Kd.R_lt (Xq.1))) (zb0 (HB.1)))
   have n2_ := hqZ (zd0 (g := YH) (Va.1) hb)
   have n3_ := hqZ (za0 (HB.1) hb)
   clear Xq Va HB
   have Xq := n0_
   have Xp := n1_
   have Va := n2_
   have HB := n3_
   clear n0_ n1_ n2_ n3_
   (try clear hb)
   (try clear hb2)
   (try clear hk)
   (try clear hi)
   (try clear ho0)
   refine hK.out _ _ ((zf0 Va.1 0).trans rfl) (fun hHeld => ?_)
   clear hK K
   refine norm_ (a' := ?_) ?_ ?_
   rotate_left
   ·show Act.put _ (some 14) _ = _; simp only [Act.put, zA, zB, zC, i64_w, i32_w]; rfl
   refine pure_ (i := 6) (N := some 9) (v := ?_) (a' := ?_) (bf 8 127) rfl rfl (zt0 HT_.1 (by kernel_rfl)) (fun _ _ _ h => h) (Or.inl ⟨by rfl, ?_⟩) ?_ ?_
   rotate_left
   ·intro w'; go_simp; with_reducible rfl
   rotate_left
   ·simp only [Act.put, zA, zB, zC, i64_w, i32_w]; rfl
   exact norm_ (by simp only [putAll, Act.put, zA, zB, zC]) (hCont (v387, v390) _ ⟨hHeld, (Kd.R_mono Xp.1 (fun _ hk => hk.2)), (Kd.R_mono Xq.1 (fun _ hk => hk.2)), (Va.1), (HB.1)⟩)
 rintro ⟨v387, v390⟩ w12 ⟨hS_, h0_, h1_, h2_, h3_⟩
 have n0_ : zg0 (Kd.R (Kd.int .i64) 3 w12 w.heap.size (fun k_ => some k_ ≠ (v390 : Value).ownBlock) v387 U2) := ⟨h0_⟩
 have n1_ : zg0 (Kd.R (Kd.int .i64) 3 w12 w.heap.size (fun k_ => some k_ ≠ (v387 : Value).ownBlock) v390 ZI) := ⟨h1_⟩
 have n2_ : zg0 (w12.heap[YH]? = some (.cells #[.slice J4 J0.length J2] 26 (0, 0))) := ⟨h2_⟩
 have n3_ : zg0 (Below w.heap.size w w12) := ⟨h3_⟩
 clear Va HB h0_ h1_ h2_ h3_
 have Xp := n0_
 have Xq := n1_
 have Va := n2_
 have HB := n3_
 clear n0_ n1_ n2_ n3_
 have hHeld : w12.cell? ⟨YH, 0, none⟩ = some (.slice J4 J0.length J2) := hS_
 refine norm_ (a' := ?_) ?_ ?_
 rotate_left
 ·simp only [putAll, Act.put, zA, zB, zC]
  rfl
 refine pure_ (i := 7) (N := some 10) (v := ?_) (a' := ?_) (bf 8 255) rfl rfl (zt0 HT_.1 (by kernel_rfl)) (fun _ _ _ h => h) (Or.inl ⟨by rfl, ?_⟩) ?_ ?_
 rotate_left
 ·intro w'; go_simp; with_reducible rfl
 rotate_left
 ·simp only [Act.put, zA, zB, zC, i64_w, i32_w]; rfl
 refine done_ (done_of HT_.1 (by kernel_rfl)) ?_
 try go_wp2
 go_loopg [11] k (fun kq v11 w' => ∃ (Jt : List Int) (Y9 : List Int) (Jo : Int), v11 = .int .i64 Jo ∧ zg0 (yi0.l0 kq a1 Jt Y9 Jo J0 = some (r1, r2, r3)) ∧ zg0 (kq ≤ k) ∧ zg0 (Kd.R (Kd.int .i64) 3 w' w.heap.size (fun k_ => some k_ ≠ (v390 : Value).ownBlock) v387 Jt) ∧ zg0 (Kd.R (Kd.int .i64) 3 w' w.heap.size (fun k_ => some k_ ≠ (v387 : Value).ownBlock) v390 Y9) ∧ zg0 (w'.heap[YH]? = some (.cells #[(.slice J4 J0.length J2)] 26 (0, 0))) ∧ zg0 (Below w.heap.size w w'))
 case atStart => exact ⟨(U2), (ZI), (0), (rfl), H', ⟨Nat.le_refl _⟩, ⟨Xp.1⟩, ⟨Xq.1⟩, ⟨Va.1⟩, ⟨HB.1⟩⟩
 case round =>
  clear H'
  try clear c2
  try clear p2
  try clear c3
  try clear c4
  try clear c5
  try clear c5b0
  try clear c5b1
  try clear c6
  try clear c6b0
  try clear c6b1
  obtain ⟨Jt, Y9, Jo, rfl, HA, V8, Jj, j8, Va, HB⟩ := hrel
  obtain _ | k1 := gk
  ·exact absurd HA.1 (by simp [yi0.l0])
  have H := HA.1
  clear HA
  simp only [yi0.l0] at H
  replace H := Option.bind_eq_some_iff.mp H
  obtain ⟨YB, A130, H⟩ := H
  try dsimp only at H
  have A13 := hqZ A130
  clear A130
  by_cases c14 : YB < 0
  ·rw [if_pos c14] at H
   have c14b0 : decide (YB < 0) = true := decide_eq_true c14
   clear c14
   simp only [Option.some.injEq, Prod.mk.injEq] at H
   obtain ⟨rfl, rfl, rfl⟩ := H
   have jL : wr.cell? ⟨YH, 0, none⟩ = some (.slice J4 J0.length J2) := (zf0 Va.1 0).trans rfl
   have jM := zc0 Va.1 0
   obtain ⟨Jh4, Jh5, eo16⟩ := Kd.R_slice Jj.1
   subst eo16
   go_wp2_with (((with_reducible refine ze0 (f := 33) rfl ?_); refine zM (some 24) Try.func33 #[.agg #[.slice J4 J0.length J2], .int .i64 a1, .slice Jh4 Jt.length Jh5] ?_; (with_reducible refine (yt0.calls k1 _ _ J0 a1 _ _ Jt YB _ ?side1 ?side2 ?side3 ?side4 A13.1).mono ?_); (case side1 => exact (Kd.C_below Ja.1 HB.1)); (case side2 => exact HC0_0.1); (case side3 => exact (Kd.R_reads' Jj.1).2.2); (case side4 => exact (Kd.R_reads' Jj.1).2.1); rintro e w17 ⟨rfl, hb⟩; refine ⟨_, rfl, ?_⟩; replace Jj := hqZ (Kd.R_below (Jj.1) hb); replace j8 := hqZ (Kd.R_below (j8.1) hb); replace Va := hqZ (zd0 (g := YH) (Va.1) hb); replace HB := hqZ (za0 (HB.1) hb); clear hb))
   go_ret3
   exact ⟨_, _, rfl, Jj.1, j8.1, HB.1⟩
  rw [if_neg c14] at H
  have c14b0 : decide (YB < 0) = false := decide_eq_false c14
  clear c14
  by_cases c18 : Jo ≥ 4000
  ·rw [if_pos c18] at H
   have c18b0 : decide (4000 ≤ Jo) = true := decide_eq_true c18
   clear c18
   simp only [Option.some.injEq, Prod.mk.injEq] at H
   obtain ⟨rfl, rfl, rfl⟩ := H
   have oq : wr.cell? ⟨YH, 0, none⟩ = some (.slice J4 J0.length J2) := (zf0 Va.1 0).trans rfl
   have or := zc0 Va.1 0
   obtain ⟨oZ, U0, eo20⟩ := Kd.R_slice Jj.1
   subst eo20
   go_wp2_with (((with_reducible refine ze0 (f := 33) rfl ?_); refine zM (some 24) Try.func33 #[.agg #[.slice J4 J0.length J2], .int .i64 a1, .slice oZ Jt.length U0] ?_; (with_reducible refine (yt0.calls k1 _ _ J0 a1 _ _ Jt YB _ ?side1 ?side2 ?side3 ?side4 A13.1).mono ?_); (case side1 => exact (Kd.C_below Ja.1 HB.1)); (case side2 => exact HC0_0.1); (case side3 => exact (Kd.R_reads' Jj.1).2.2); (case side4 => exact (Kd.R_reads' Jj.1).2.1); rintro e w21 ⟨rfl, hb⟩; refine ⟨_, rfl, ?_⟩; replace Jj := hqZ (Kd.R_below (Jj.1) hb); replace j8 := hqZ (Kd.R_below (j8.1) hb); replace Va := hqZ (zd0 (g := YH) (Va.1) hb); replace HB := hqZ (za0 (HB.1) hb); clear hb))
   go_ret3
   exact ⟨_, _, rfl, by exact Kd.R_nil _ _ _ _ _, by exact Kd.R_nil _ _ _ _ _, HB.1⟩
  rw [if_neg c18] at H
  have c18b0 : decide (4000 ≤ Jo) = false := decide_eq_false c18
  clear c18
  replace H := Option.bind_eq_some_iff.mp H
  obtain ⟨Ez, A220, H⟩ := H
  try dsimp only at H
  have A22 := hqZ A220
  clear A220
  by_cases c23 : 0 ≤ YB
  rotate_left
  ·rw [if_neg c23] at H
   exact absurd H (by simp)
  rw [if_pos c23] at H
  have c23b0 : decide (0 ≤ YB) = true := decide_eq_true c23
  clear c23
  by_cases c24 : YB < (Y9.length : Int)
  rotate_left
  ·rw [if_neg c24] at H
   exact absurd H (by simp)
  rw [if_pos c24] at H
  have c24b0 : decide (YB < (Y9.length : Int)) = true := decide_eq_true c24
  clear c24
  obtain ⟨mt, hy395⟩ : ∃ y_ : List Int, y_ = (Y9.set (YB : Int).toNat (wrap64 ((rd Y9 YB) + 1))) := ⟨_, rfl⟩
  replace H : (yi0.l0 k1 a1 Ez mt (wrap64 (Jo + 1)) J0) = some (r1, r2, r3) := by (rw [hy395]; with_reducible exact H)
  have Ny395 := hqZ hy395
  clear hy395
  have H' := hqZ H
  clear H
  have ZJ : wr.cell? ⟨YH, 0, none⟩ = some (.slice J4 J0.length J2) := (zf0 Va.1 0).trans rfl
  have ZK := zc0 Va.1 0
  obtain ⟨uh, ui, eo27⟩ := Kd.R_slice Jj.1
  subst eo27
  go_wp2_with (first | ((with_reducible refine ze0 (f := 33) rfl ?_); refine zM (some 24) Try.func33 #[.agg #[.slice J4 J0.length J2], .int .i64 a1, .slice uh Jt.length ui] ?_; (with_reducible refine (yt0.calls k1 _ _ J0 a1 _ _ Jt YB _ ?side1 ?side2 ?side3 ?side4 A13.1).mono ?_); (case side1 => exact (Kd.C_below Ja.1 HB.1)); (case side2 => exact HC0_0.1); (case side3 => exact (Kd.R_reads' Jj.1).2.2); (case side4 => exact (Kd.R_reads' Jj.1).2.1); rintro e w28 ⟨rfl, hb⟩; refine ⟨_, rfl, ?_⟩; replace Jj := hqZ (Kd.R_below (Jj.1) hb); replace j8 := hqZ (Kd.R_below (j8.1) hb); replace Va := hqZ (zd0 (g := YH) (Va.1) hb); replace HB := hqZ (za0 (HB.1) hb); clear hb; have qN : w28.cell? ⟨YH, 0, none⟩ = some (.slice J4 J0.length J2) := (zf0 Va.1 0).trans rfl; have qO := zc0 Va.1 0) | ((with_reducible refine ze0 (f := 43) rfl ?_); refine zM (some 35) Try.func43 #[.agg #[.slice J4 J0.length J2], .int .i64 a1, .slice uh Jt.length ui, .int .i64 YB] ?_; (with_reducible refine (yr0.calls k1 _ _ J0 a1 (fun k_ => some k_ = (.slice uh Jt.length ui : Value).ownBlock) (.slice uh Jt.length ui) Jt YB Ez w _ ?side1 ?side2 ?side3 ?side4 A22.1).mono ?_); (case side1 => exact HB.1); (case side2 => exact Kd.C_kept_came (Kd.heap_slice 3 (Kd.heap_int .i64)) Ja.1 (HB.1) (fun k_ hs_ => (fun e_ => Kd.R_base Jj.1 k_ e_.symm) hs_)); (case side3 => exact HC0_0.1); (case side4 => exact Kd.R_tight rfl Jj.1); rintro e w30 ⟨rfl, hy0, hb, hkp⟩; refine ⟨_, rfl, ?_⟩; replace j8 := hqZ (Kd.R_mono (ok' := fun k_ => some k_ ≠ (.slice uh Jt.length ui : Value).ownBlock) (Kd.R_keptB (j8.1) hkp (fun k_ hk_ hs_ => (hk_) hs_)) (fun k_ hk_ => hk_.1)); replace Va := hqZ (blk_kept (Va.1) hkp (fun hs_ => (fun e_ => (Kd.R_ne Jj.1 Va.1 (by decide)) e_) hs_)); replace Jj := hqZ (Kd.R_reok rfl hy0 (fun k_ e_ => Jj.1.1 k_ e_)); replace HB := hqZ (hb); clear hb hkp hy0; obtain ⟨mu, dP, eo31⟩ := Kd.R_slice j8.1; subst eo31; have p394 : 0 ≤ (YB : Int) := oA; have q394 : YB < (Y9.length : Int) := oA; obtain ⟨ad394, e394, hx394_0⟩ := Kd.at_int (Kd.R_reads' j8.1).2.2 YB p394 q394; cases e394; replace p394 := eq_true p394; replace q394 := eq_true q394; have p25 : 0 ≤ (YB : Int) := oA; have q25 : (YB : Int) < ((Y9.length : Int) : Int) := oA; obtain ⟨EA, Jq0, eo25, Ms, gl25, cl25, HG25⟩ := Kd.R_form j8.1 (by omega); (cases eo25); have GB25 := hqZ Ms; have GG25 := hqZ HG25; clear Ms gl25 HG25; (simp only [add_plain] at hx394_0); obtain ⟨hx25_0, hf25_0⟩ := Kd.R_celln 0 j8.1 (YB : Int) p25 q25; replace p25 := eq_true p25; replace q25 := eq_true q25; obtain ⟨hy32_, hz32_⟩ := Kd.R_celln 0 j8.1 (YB : Int) (oA) (oA); have HP32 := Kd.R_putg j8.1 (YB : Int) (wrap64 ((rd Y9 YB) + 1))) | ((with_reducible refine gate_store (t := 3) (p := 41) rfl ?_); refine store_event (t := 3) (p := 41) (v := ?vo_w33) (w1 := (w30.setCell ⟨EA, (YB : Int).toNat, none⟩ (.int .i64 (wrap64 ((rd Y9 YB) + 1))))) ?hg ?ho ?hn ?hr ?_; (case ho => rfl); (case hg => rfl); (case hn => rfl); (case hr => go_simp); intro w33 hw; have hg : w30.grownBy w33 (some EA) := (by rw [hw]; exact HP32.2); have hp_ : Kd.R (Kd.int .i64) 3 w33 w.heap.size (fun k_ => some k_ ≠ (.slice uh Jt.length ui : Value).ownBlock) (.slice (some ⟨EA, 0, none⟩) Y9.length dP) mt := (by rw [hw, Ny395.1]; exact HP32.1); clear HP32; replace Jj := hqZ (Kd.R_after (v := (.slice (some ⟨EA, 0, none⟩) Y9.length dP)) (v1 := (.slice (some ⟨EA, 0, none⟩) Y9.length dP)) (ok := (fun _ => True)) (Kd.R_mono Jj.1 (fun _ hk => ⟨trivial, hk⟩)) hg (.inl rfl)); replace Va := hqZ (zl0 (g := YH) (Va.1) hg (Kd.R_ne j8.1 Va.1 (by decide))); replace j8 := hqZ (hp_); replace HB := hqZ ((by rw [hw]; exact zm0 (HB.1) GB25.1 : Below w.heap.size w w33)); clear hg hw hp_))
  go_roundg k1
  case measure => have := V8.1; omega
  case rel => exact ⟨(Ez), (mt), (wrap64 (Jo + 1)), (rfl), H', ⟨by have := V8.1; omega⟩, ⟨Kd.R_mono Jj.1 (fun _ hk => hk.2)⟩, ⟨j8.1⟩, ⟨Va.1⟩, ⟨HB.1⟩⟩
def yc1.l0 : Nat → List Int → List Int → Int → Int → Option (Bool)
 | 0, _, _, _, _ => none
 | k + 1, x0, x1, YZ, jA => if jA < YZ then (if 0 ≤ jA then (if jA < (x0.length : Int) then (if jA < (x1.length : Int) then (if (rd x0 jA) = (rd x1 jA) then (yc1.l0 k x0 x1 YZ (wrap64 (jA + 1))) else (some false)) else (none)) else (none)) else (none)) else (some true)
def yc1.f (k : Nat) (l0 : List Int) (l1 : List Int) : Option (Bool) := if (l0.length : Int) = (l1.length : Int) then (yc1.l0 k l0 l1 (l0.length : Int) 0) else (some false)
theorem yc1.mono_l : ∀ k, (∀ y0 y1 y2 y3, LeO (yc1.l0 k y0 y1 y2 y3) (yc1.l0 (k + 1) y0 y1 y2 y3))
 | 0 => fun _ _ _ _ r h => by simp [yc1.l0] at h
 | k + 1 => by
  have ih0 := yc1.mono_l k
  ·intro y0 y1 y2 y3
   unfold yc1.l0
   repeat' (with_reducible first | apply ih0 | apply LeO.refl | apply LeO.none | refine LeO.ite ?_ ?_ | refine LeO.bind ?_ (fun _ => ?_))
theorem yc1.mono : ∀ a0 a1 k, LeO (yc1.f k a0 a1) (yc1.f (k + 1) a0 a1) := by
 intro a0 a1 k
 have ih0 := yc1.mono_l k
 unfold yc1.f
 repeat' (with_reducible first | apply ih0 | apply LeO.refl | apply LeO.none | refine LeO.ite ?_ ?_ | refine LeO.bind ?_ (fun _ => ?_))
theorem yc1.calls (k : Nat) (A0 : Option Addr) (c0 : Nat) (l0 : List Int) (A1 : Option Addr) (c1 : Nat) (l1 : List Int) (r : Bool) (w : World) (hr0 : Kd.C (Kd.int .i64) w A0 l0.length l0) (hc0 : l0.length ≤ c0) (hr1 : Kd.C (Kd.int .i64) w A1 l1.length l1) (hc1 : l1.length ≤ c1) (h : yc1.f k l0 l1 = some r) :
  Calls Try.prog 67 #[.slice A0 l0.length c0, .slice A1 l1.length c1] w fun e w' => e = .returned (.bool r) ∧ Drawn0 w w' := by
 have uU := hqZ hr0
 have HC0 := hqZ hc0
 clear hr0 hc0
 have Ue := hqZ hr1
 have HC1 := hqZ hc1
 clear hr1 hc1
 have H : (if (l0.length : Int) = (l1.length : Int) then (yc1.l0 k l0 l1 (l0.length : Int) 0) else (some false)) = some r := h
 clear h
 by_cases c3 : (l0.length : Int) = (l1.length : Int)
 rotate_left
 ·rw [if_neg c3] at H
  have c3b0 : ((l0.length : Int) == (l1.length : Int)) = false := beq_eq_false_iff_ne.mpr c3
  have c3b1 : ((l0.length : Int) != (l1.length : Int)) = true := bne_iff_ne.mpr c3
  have c3b2 : (l0.length == l1.length) = false := by (simp at c3 ⊢; omega)
  obtain rfl := Option.some.inj H
  go_enter Try.func67, Try.ntmps67
  go_wp2
  repeat (go_quiet (fail); try go_wp2)
  go_ret
  exact ⟨rfl, by repeat (exact Drawn0.refl _)⟩
 rw [if_pos c3] at H
 have c3b0 : ((l0.length : Int) == (l1.length : Int)) = true := beq_iff_eq.mpr c3
 have c3b1 : ((l0.length : Int) != (l1.length : Int)) = false := bne_eq_false_iff_eq.mpr c3
 have c3b2 : (l0.length == l1.length) = true := by (simp at c3 ⊢; omega)
 clear c3
 have H' := hqZ H
 clear H
 go_enter Try.func67, Try.ntmps67
 go_wp2
 repeat (go_quiet (fail); try go_wp2)
 go_loopg [13] k (fun kq v13 w' => ∃ (Je : Int), v13 = .int .i64 Je ∧ zg0 (yc1.l0 kq l0 l1 (l0.length : Int) Je = some r) ∧ zg0 (kq ≤ k) ∧ Drawn0 w w')
 case atStart => exact ⟨(0), (rfl), H', ⟨Nat.le_refl _⟩, by repeat (exact Drawn0.refl _)⟩
 case round =>
  clear H'
  try clear c1
  try clear p2
  try clear c3
  try clear c3b0
  try clear c3b1
  try clear c3b2
  obtain ⟨Je, rfl, HA, V8, ⟨m1, rfl⟩⟩ := hrel
  obtain _ | k1 := gk
  ·exact absurd HA.1 (by simp [yc1.l0])
  have H := HA.1
  clear HA
  simp only [yc1.l0] at H
  by_cases c4 : Je < (l0.length : Int)
  rotate_left
  ·rw [if_neg c4] at H
   have c4b0 : decide (Je < (l0.length : Int)) = false := decide_eq_false c4
   clear c4
   obtain rfl := Option.some.inj H
   go_wp2
   repeat (go_quiet (fail); try go_wp2)
   go_ret
   exact ⟨rfl, by repeat (first | exact Drawn0.refl _ | apply Drawn0.step)⟩
  rw [if_pos c4] at H
  have c4b0 : decide (Je < (l0.length : Int)) = true := decide_eq_true c4
  clear c4
  by_cases c5 : 0 ≤ Je
  rotate_left
  ·rw [if_neg c5] at H
   exact absurd H (by simp)
  rw [if_pos c5] at H
  have c5b0 : decide (0 ≤ Je) = true := decide_eq_true c5
  clear c5
  by_cases c6 : Je < (l0.length : Int)
  rotate_left
  ·rw [if_neg c6] at H
   exact absurd H (by simp)
  rw [if_pos c6] at H
  have c6b0 : decide (Je < (l0.length : Int)) = true := decide_eq_true c6
  clear c6
  by_cases c7 : Je < (l1.length : Int)
  rotate_left
  ·rw [if_neg c7] at H
   exact absurd H (by simp)
  rw [if_pos c7] at H
  have c7b0 : decide (Je < (l1.length : Int)) = true := decide_eq_true c7
  clear c7
  by_cases c8 : (rd l0 Je) = (rd l1 Je)
  rotate_left
  ·rw [if_neg c8] at H
   have c8b0 : ((rd l0 Je) == (rd l1 Je)) = false := beq_eq_false_iff_ne.mpr c8
   have c8b1 : ((rd l0 Je) != (rd l1 Je)) = true := bne_iff_ne.mpr c8
   obtain rfl := Option.some.inj H
   have p650 : 0 ≤ (Je : Int) := oA
   have q650 : Je < (l0.length : Int) := oA
   obtain ⟨ad650, e650, hx650_0⟩ := Kd.at_int uU.1 Je p650 q650
   cases e650
   replace p650 := eq_true p650
   replace q650 := eq_true q650
   have p651 : 0 ≤ (Je : Int) := oA
   have q651 : Je < (l1.length : Int) := oA
   obtain ⟨ad651, e651, hx651_0⟩ := Kd.at_int Ue.1 Je p651 q651
   cases e651
   replace p651 := eq_true p651
   replace q651 := eq_true q651
   go_wp2
   repeat (go_quiet (fail); try go_wp2)
   go_ret
   exact ⟨rfl, by repeat (first | exact Drawn0.refl _ | apply Drawn0.step)⟩
  rw [if_pos c8] at H
  have c8b0 : ((rd l0 Je) == (rd l1 Je)) = true := beq_iff_eq.mpr c8
  have c8b1 : ((rd l0 Je) != (rd l1 Je)) = false := bne_eq_false_iff_eq.mpr c8
  clear c8
  have H' := hqZ H
  clear H
  have p650 : 0 ≤ (Je : Int) := oA
  have q650 : Je < (l0.length : Int) := oA
  obtain ⟨ad650, e650, hx650_0⟩ := Kd.at_int uU.1 Je p650 q650
  cases e650
  replace p650 := eq_true p650
  replace q650 := eq_true q650
  have p651 : 0 ≤ (Je : Int) := oA
  have q651 : Je < (l1.length : Int) := oA
  obtain ⟨ad651, e651, hx651_0⟩ := Kd.at_int Ue.1 Je p651 q651
  cases e651
  replace p651 := eq_true p651
  replace q651 := eq_true q651
  go_wp2
  repeat (go_quiet (fail); try go_wp2)
  go_roundg k1
  case measure => have := V8.1; omega
  case rel => exact ⟨(wrap64 (Je + 1)), (rfl), H', ⟨by have := V8.1; omega⟩, by repeat (first | exact Drawn0.refl _ | apply Drawn0.step)⟩
end Go.Proofs.Ytdfabioienofhaa.P
