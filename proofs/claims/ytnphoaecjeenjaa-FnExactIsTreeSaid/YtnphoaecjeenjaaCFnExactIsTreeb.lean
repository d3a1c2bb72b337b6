/- The law FnExactIsTree holds for every input: the program returns what the reference returns (or what the law says), for all arguments. -/
import Derived.Test.YtnphoaecjeenjaaCFnExactIsTreea
import Derived.Test.YtnphoaecjeenjaaP0
import Derived.Test.YtnphoaecjeenjaaPimplGraphnext
import Derived.Test.YtnphoaecjeenjaaPspectrNext
import Derived.Test.YtnphoaecjeenjaaPimplGraphtreeWays
import Derived.Test.YtnphoaecjeenjaaPimplGraphisTree
import Derived.Test.YtnphoaecjeenjaaPspectrFar
import Derived.Test.YtnphoaecjeenjaaPspectrIs
import Derived.Test.YtnphoaecjeenjaaPimplareSinkRotors
import Derived.Test.YtnphoaecjeenjaaPimplareRotors
import Derived.Test.YtnphoaecjeenjaaPspectrGood
import Derived.Test.YtnphoaecjeenjaaPlawsFnExactIsTree
import Derived.Test.YtnphoaecjeenjaaRows
import Derived.WalkKit
import Derived.ProofKit
import Derived.OpenShut
import Derived.ShutString
import Derived.ChangeOld
import Derived.Below
import Derived.SizedLaws
import Derived.Deep.Matrix
import Derived.Lib.SmallJoins
namespace Go.Proofs.Ytnphoaecjeenjaa.M
open Go.RowKit Go.Proofs.Ytnphoaecjeenjaa.P Go.Proofs.Ytnphoaecjeenjaa.In Go.Proofs.YtnphoaecjeenjaaW.PrintWords Go.Proofs.YtnphoaecjeenjaaW.PrintLast
set_option linter.unusedVariables false
set_option linter.unusedSimpArgs false
theorem pigeon : ∀ (n : Nat) (l : List Int), l.Nodup → (∀ x ∈ l, 0 ≤ x ∧ x < (n : Int)) → l.length ≤ n
  | 0, l, _, h => by
    cases l with
    | nil => simp
    | cons x l => have := h x (by simp); omega
  | n + 1, l, hn, h => by
    have h1 := pigeon n (l.erase (n : Int)) (hn.erase _) (fun x hx => by
      have hx' := hn.mem_erase_iff.1 hx
      have h2 := h x hx'.2
      have h3 := hx'.1
      omega)
    by_cases hm : (n : Int) ∈ l
    · have := List.length_erase_of_mem hm; omega
    · rw [List.erase_of_not_mem hm] at h1; omega
def it (f : Int → Int) : Nat → Int → Int
  | 0, p => p
  | i + 1, p => it f i (f p)
theorem it_succ (f : Int → Int) (i : Nat) (p : Int) : it f (i + 1) p = f (it f i p) := by
  induction i generalizing p with
  | zero => rfl
  | succ i ih => rw [it, ih]; rfl
theorem it_add (f : Int → Int) (i j : Nat) (p : Int) : it f (i + j) p = it f j (it f i p) := by
  induction i generalizing p with
  | zero => simp [it]
  | succ i ih => rw [Nat.succ_add, it, ih]; rfl
def orb (f : Int → Int) (p : Int) (m : Nat) : List Int := (List.range m).map fun j => it f j p
theorem orb_len (f : Int → Int) (p : Int) (m : Nat) : (orb f p m).length = m := by simp [orb]
theorem orb_succ (f : Int → Int) (p : Int) (m : Nat) : orb f p (m + 1) = orb f p m ++ [it f m p] := by simp [orb, List.range_succ]
theorem orb_mem {f : Int → Int} {p x : Int} {m : Nat} : x ∈ orb f p m ↔ ∃ j, j < m ∧ it f j p = x := by simp [orb]
theorem orb_get {f : Int → Int} {p : Int} {m j : Nat} (h : j < m) : (orb f p m)[j]'(by rw [orb_len]; exact h) = it f j p := by simp [orb]
theorem orb_drop (f : Int → Int) (p : Int) (s per : Nat) : (orb f p (s + per)).drop s = orb f (it f s p) per := by
  apply List.ext_getElem
  · simp [orb]
  · intro i h1 h2
    simp only [orb, List.getElem_drop, List.getElem_map, List.getElem_range]
    rw [it_add]
theorem orb_inj {f : Int → Int} {p : Int} {m i j : Nat} (hn : (orb f p m).Nodup) (hi : i < m) (hj : j < m) (h : it f i p = it f j p) : i = j := by
  have h1 : (orb f p m)[i]'(by rw [orb_len]; exact hi) = (orb f p m)[j]'(by rw [orb_len]; exact hj) := by rw [orb_get hi, orb_get hj, h]
  exact (List.getElem_inj hn).1 h1
theorem nodup_snoc {l : List Int} {x : Int} (hn : l.Nodup) (hx : x ∉ l) : (l ++ [x]).Nodup := by
  rw [List.nodup_append]
  refine ⟨hn, by simp, ?_⟩
  intro a ha b hb
  simp at hb
  subst hb
  intro e; subst e; exact hx ha
/-- A way that comes again: p leads over s places into a circle of per places. -/
structure Rho (f : Int → Int) (n : Nat) (p : Int) (s per : Nat) : Prop where
  pos : 0 < per
  le : s + per ≤ n
  nodup : (orb f p (s + per)).Nodup
  back : it f per (it f s p) = it f s p
theorem Rho.all {f : Int → Int} {n : Nat} {p : Int} {s per : Nat} (h : Rho f n p s per) (j : Nat) : it f j p ∈ orb f p (s + per) := by
  induction j with
  | zero => exact orb_mem.2 ⟨0, by have := h.pos; omega, rfl⟩
  | succ j ih =>
    obtain ⟨m, hm, he⟩ := orb_mem.1 ih
    rw [it_succ, ← he, ← it_succ f m p]
    by_cases h2 : m + 1 < s + per
    · exact orb_mem.2 ⟨m + 1, h2, rfl⟩
    · have h3 : m + 1 = s + per := by omega
      rw [h3, it_add, h.back]
      exact orb_mem.2 ⟨s, by have := h.pos; omega, rfl⟩
theorem Rho.far {f : Int → Int} {n : Nat} {p : Int} {s per : Nat} (h : Rho f n p s per) (j : Nat) : it f (s + j + per) p = it f (s + j) p := by
  rw [show s + j + per = s + per + j by omega, it_add f (s + per), it_add f s per, h.back, ← it_add]
/-- From s steps on, the way is in the circle. -/
theorem Rho.ring {f : Int → Int} {n : Nat} {p : Int} {s per : Nat} (h : Rho f n p s per) (j : Nat) : ∃ a, a < per ∧ it f (s + j) p = it f a (it f s p) := by
  induction j with
  | zero => exact ⟨0, h.pos, rfl⟩
  | succ j ih =>
    obtain ⟨a, ha, he⟩ := ih
    rw [show s + (j + 1) = (s + j) + 1 by omega, it_succ, he, ← it_succ f a]
    by_cases h2 : a + 1 < per
    · exact ⟨a + 1, h2, rfl⟩
    · rw [show a + 1 = per by omega, h.back]
      exact ⟨0, h.pos, rfl⟩
/-- The circle, from another of its places on: its places are the same, and it comes again behind as many steps, not before. -/
theorem Rho.turn {f : Int → Int} {n : Nat} {p : Int} {s per : Nat} (h : Rho f n p s per) (j : Nat) :
    (∀ x, x ∈ orb f (it f (s + j) p) per ↔ x ∈ orb f (it f s p) per) ∧ it f per (it f (s + j) p) = it f (s + j) p ∧ ∀ i, 0 < i → i < per → it f i (it f (s + j) p) ≠ it f (s + j) p := by
  have hb : it f per (it f (s + j) p) = it f (s + j) p := by rw [← it_add]; exact h.far j
  obtain ⟨a, ha, hea⟩ := h.ring j
  have hc : ∀ m x, it f m (it f s p) = x → ∃ b, b < per ∧ it f b (it f s p) = x := by
    intro m x hx
    obtain ⟨b, hb, he⟩ := h.ring m
    exact ⟨b, hb, by rw [← he, it_add]; exact hx⟩
  refine ⟨fun x => ⟨fun hx => ?_, fun hx => ?_⟩, hb, fun i h0 hi he => ?_⟩
  · obtain ⟨m, hm, he⟩ := orb_mem.1 hx
    rw [hea, ← it_add] at he
    obtain ⟨b, hb, he2⟩ := hc _ _ he
    exact orb_mem.2 ⟨b, hb, he2⟩
  · obtain ⟨m, hm, he⟩ := orb_mem.1 hx
    by_cases h2 : a ≤ m
    · exact orb_mem.2 ⟨m - a, by omega, by rw [hea, ← it_add, show a + (m - a) = m by omega, he]⟩
    · refine orb_mem.2 ⟨per - a + m, by omega, ?_⟩
      rw [hea, ← it_add, show a + (per - a + m) = per + m by omega, it_add, h.back, he]
  · rw [hea, ← it_add] at he
    by_cases h2 : a + i < per
    · have := orb_inj (i := s + (a + i)) (j := s + a) h.nodup (by omega) (by omega) (by rw [it_add, it_add f s a]; exact he)
      omega
    · have e2 : it f (a + i) (it f s p) = it f (a + i - per) (it f s p) := by
        rw [show a + i = per + (a + i - per) by omega, it_add, h.back]; congr 1; omega
      rw [e2] at he
      have := orb_inj (i := s + (a + i - per)) (j := s + a) h.nodup (by omega) (by omega) (by rw [it_add, it_add f s a]; exact he)
      omega
/-- Behind fewer than s steps the way isn't in the circle. -/
theorem Rho.out {f : Int → Int} {n : Nat} {p : Int} {s per : Nat} (h : Rho f n p s per) {i : Nat} (hi : i < s) : it f i p ∉ orb f (it f s p) per := by
  intro hm
  obtain ⟨m, hm, he⟩ := orb_mem.1 hm
  rw [← it_add] at he
  have := orb_inj (i := s + m) (j := i) h.nodup (by omega) (by omega) he
  omega
end Go.Proofs.Ytnphoaecjeenjaa.M
namespace Go.Proofs.Ytnphoaecjeenjaa.P
open Go.RowKit Go.Proofs.YtnphoaecjeenjaaW.PrintWords Go.Proofs.YtnphoaecjeenjaaW.PrintLast Go.Proofs.YtnphoaecjeenjaaW.PrintMore
attribute [local go_sem] max2_int min2_int max_two min_two max_three min_three max_four min_four   -- for this text's walks alone
set_option linter.unusedVariables false
set_option linter.unusedSimpArgs false

/-! ### slices_Index_int_int: function 115 -/
def slices_Index_int_int.l0 : Nat → List Int → Int → Int → Int → Option (Int)
  | 0, _, _, _, _ => none
  | k + 1, x0, x1, x7, x8 => if x8 < x7 then (if 0 ≤ x8 then (if x8 < (x0.length : Int) then (if x1 = (rd x0 x8) then (some x8) else (slices_Index_int_int.l0 k x0 x1 x7 (wrap64 (x8 + 1)))) else (none)) else (none)) else (some (-1))
def slices_Index_int_int.f (k : Nat) (l0 : List Int) (a1 : Int) : Option (Int) := slices_Index_int_int.l0 k l0 a1 (l0.length : Int) 0
theorem slices_Index_int_int.mono_l : ∀ k, (∀ y0 y1 y2 y3, LeO (slices_Index_int_int.l0 k y0 y1 y2 y3) (slices_Index_int_int.l0 (k + 1) y0 y1 y2 y3))
  | 0 => fun _ _ _ _ r h => by simp [slices_Index_int_int.l0] at h
  | k + 1 => by
    have ih0 := slices_Index_int_int.mono_l k
    · intro y0 y1 y2 y3
      unfold slices_Index_int_int.l0
      repeat' first
      | (with_reducible exact ih0 _ _ _ _)
      | (with_reducible exact LeO.refl _)
      | (with_reducible exact LeO.none _)
      | (with_reducible refine LeO.ite ?_ ?_)
      | (with_reducible refine LeO.bind ?_ (fun _ => ?_))
      | exact ih0 _ _ _ _
      | exact LeO.none _
      | refine LeO.ite ?_ ?_
      | refine LeO.bind ?_ (fun _ => ?_)
theorem slices_Index_int_int.mono : ∀ a0 a1 k, LeO (slices_Index_int_int.f k a0 a1) (slices_Index_int_int.f (k + 1) a0 a1) := by
  intro a0 a1 k
  have ih0 := slices_Index_int_int.mono_l k
  unfold slices_Index_int_int.f
  repeat' first
      | (with_reducible exact ih0 _ _ _ _)
      | (with_reducible exact LeO.refl _)
      | (with_reducible exact LeO.none _)
      | (with_reducible refine LeO.ite ?_ ?_)
      | (with_reducible refine LeO.bind ?_ (fun _ => ?_))
      | exact ih0 _ _ _ _
      | exact LeO.none _
      | refine LeO.ite ?_ ?_
      | refine LeO.bind ?_ (fun _ => ?_)
set_option maxHeartbeats 8000000 in
set_option maxRecDepth 100000 in
theorem slices_Index_int_int.calls (k : Nat) (A0 : Option Addr) (c0 : Nat) (l0 : List Int) (a1 : Int) (r : Int) (w : World) (hr0 : Kd.C (Kd.int .i64) w A0 l0.length l0) (hc0 : l0.length ≤ c0) (h : slices_Index_int_int.f k l0 a1 = some r) :
    Calls Try.prog 115 #[.slice A0 l0.length c0, .int .i64 a1] w fun e w' => e = .returned (.int .i64 r) ∧ Drawn0 w w' := by
  have HR0 := Aside0.mk hr0
  have HC0 := Aside0.mk hc0
  clear hr0 hc0
  have H : (slices_Index_int_int.l0 k l0 a1 (l0.length : Int) 0) = some r := h
  clear h
  have H' := Aside0.mk H
  clear H
  go_enter Try.func115, Try.ntmps115
  go_wp2
  go_loopg [8] k (fun kq v8 w' => ∃ (x8_1 : Int), v8 = .int .i64 x8_1 ∧ Aside0 (slices_Index_int_int.l0 kq l0 a1 (l0.length : Int) x8_1 = some r) ∧ Aside0 (kq ≤ k) ∧ Drawn0 w w')
  case atStart => exact ⟨(0), (by first | rfl | (simp; done) | (simp [*]; done)), H', ⟨Nat.le_refl _⟩, by repeat (first | exact Drawn0.refl _ | apply Drawn0.step)⟩
  case round =>
    clear H'
    try clear c1
    try clear p2
    obtain ⟨x8_1, rfl, HA, HK1, ⟨m1, rfl⟩⟩ := hrel
    cases gk with
    | zero => exact absurd HA.out (by simp [slices_Index_int_int.l0])
    | succ k1 =>
      have H := HA.out
      clear HA
      simp only [slices_Index_int_int.l0] at H
      by_cases c3 : x8_1 < (l0.length : Int)
      · rw [if_pos c3] at H
        have c3b0 : decide (x8_1 < (l0.length : Int)) = true := decide_eq_true c3
        clear c3
        by_cases c4 : 0 ≤ x8_1
        · rw [if_pos c4] at H
          have c4b0 : decide (0 ≤ x8_1) = true := decide_eq_true c4
          clear c4
          by_cases c5 : x8_1 < (l0.length : Int)
          · rw [if_pos c5] at H
            have c5b0 : decide (x8_1 < (l0.length : Int)) = true := decide_eq_true c5
            clear c5
            by_cases c6 : a1 = (rd l0 x8_1)
            · rw [if_pos c6] at H
              have c6b0 : (a1 == (rd l0 x8_1)) = true := beq_iff_eq.mpr c6
              have c6b1 : (a1 != (rd l0 x8_1)) = false := bne_eq_false_iff_eq.mpr c6
              clear c6
              obtain rfl := Option.some.inj H
              have p444 : 0 ≤ (x8_1 : Int) := of_decide_eq_true (by first | (with_reducible assumption) | assumption)
              have q444 : x8_1 < (l0.length : Int) := of_decide_eq_true (by first | (with_reducible assumption) | assumption)
              obtain ⟨ad444, e444, hx444_0⟩ := Kd.at_int HR0.out x8_1 p444 q444
              cases e444
              replace p444 := eq_true p444
              replace q444 := eq_true q444
              go_wp2
              go_ret
              exact ⟨by first | rfl | (simp; done) | (simp [*]; done), by repeat (first | exact Drawn0.refl _ | apply Drawn0.step)⟩
            · rw [if_neg c6] at H
              have c6b0 : (a1 == (rd l0 x8_1)) = false := beq_eq_false_iff_ne.mpr c6
              have c6b1 : (a1 != (rd l0 x8_1)) = true := bne_iff_ne.mpr c6
              have H' := Aside0.mk H
              clear H
              have p444 : 0 ≤ (x8_1 : Int) := of_decide_eq_true (by first | (with_reducible assumption) | assumption)
              have q444 : x8_1 < (l0.length : Int) := of_decide_eq_true (by first | (with_reducible assumption) | assumption)
              obtain ⟨ad444, e444, hx444_0⟩ := Kd.at_int HR0.out x8_1 p444 q444
              cases e444
              replace p444 := eq_true p444
              replace q444 := eq_true q444
              go_wp2
              go_roundg k1
              case measure => have := HK1.out; omega
              case rel => exact ⟨(wrap64 (x8_1 + 1)), (by first | rfl | (simp; done) | (simp [*]; done)), H', ⟨by have := HK1.out; omega⟩, by repeat (first | exact Drawn0.refl _ | apply Drawn0.step)⟩
          · rw [if_neg c5] at H
            exact absurd H (by simp)
        · rw [if_neg c4] at H
          exact absurd H (by simp)
      · rw [if_neg c3] at H
        have c3b0 : decide (x8_1 < (l0.length : Int)) = false := decide_eq_false c3
        clear c3
        obtain rfl := Option.some.inj H
        go_wp2
        go_ret
        exact ⟨by first | rfl | (simp; done) | (simp [*]; done), by repeat (first | exact Drawn0.refl _ | apply Drawn0.step)⟩

end Go.Proofs.Ytnphoaecjeenjaa.P
namespace Go.Proofs.Ytnphoaecjeenjaa.P
open Go.RowKit Go.Proofs.YtnphoaecjeenjaaW.PrintWords Go.Proofs.YtnphoaecjeenjaaW.PrintLast Go.Proofs.YtnphoaecjeenjaaW.PrintMore
attribute [local go_sem] max2_int min2_int max_two min_two max_three min_three max_four min_four   -- for this text's walks alone
set_option linter.unusedVariables false
set_option linter.unusedSimpArgs false

/-! ### slices_Contains_int_int: function 111 -/
def slices_Contains_int_int.f (k : Nat) (l0 : List Int) (a1 : Int) : Option (Bool) := (slices_Index_int_int.f k l0 a1).bind fun t445 => (some (decide (t445 ≥ 0)))
theorem slices_Contains_int_int.mono : ∀ a0 a1 k, LeO (slices_Contains_int_int.f k a0 a1) (slices_Contains_int_int.f (k + 1) a0 a1) := by
  intro a0 a1 k
  unfold slices_Contains_int_int.f
  repeat' first
      | (with_reducible exact slices_Index_int_int.mono _ _ _)
      | (with_reducible exact LeO.refl _)
      | (with_reducible exact LeO.none _)
      | (with_reducible refine LeO.ite ?_ ?_)
      | (with_reducible refine LeO.bind ?_ (fun _ => ?_))
      | exact slices_Index_int_int.mono _ _ _
      | exact LeO.none _
      | refine LeO.ite ?_ ?_
      | refine LeO.bind ?_ (fun _ => ?_)
set_option maxHeartbeats 8000000 in
set_option maxRecDepth 100000 in
theorem slices_Contains_int_int.calls (k : Nat) (A0 : Option Addr) (c0 : Nat) (l0 : List Int) (a1 : Int) (r : Bool) (w : World) (hr0 : Kd.C (Kd.int .i64) w A0 l0.length l0) (hc0 : l0.length ≤ c0) (h : slices_Contains_int_int.f k l0 a1 = some r) :
    Calls Try.prog 111 #[.slice A0 l0.length c0, .int .i64 a1] w fun e w' => e = .returned (.bool r) ∧ Drawn0 w w' := by
  have HR0 := Aside0.mk hr0
  have HC0 := Aside0.mk hc0
  clear hr0 hc0
  have H : ((slices_Index_int_int.f k l0 a1).bind fun t445 => (some (decide (t445 ≥ 0)))) = some r := h
  clear h
  replace H := Option.bind_eq_some_iff.mp H
  obtain ⟨t445, A30, H⟩ := H
  replace H : (some (decide (t445 ≥ 0))) = some r := H
  have A3 := Aside0.mk A30
  clear A30
  obtain rfl := Option.some.inj H
  go_enter Try.func111, Try.ntmps111
  go_wp2_with (first | ((with_reducible refine gate_callee (f := 115) rfl ?_); refine goesL_ (some 7) rfl rfl Try.func115 (by kernel_rfl) rfl #[.slice A0 l0.length c0, .int .i64 a1] rfl (by (try simp only [List.map_toArray, List.map_cons, List.map_nil]); first | done | rfl | (simp only [List.length_drop, List.length_take]; rfl)) ?_; (with_reducible refine (slices_Index_int_int.calls k _ _ l0 a1 t445 _ ?side1 ?side2 A3.out).mono ?_); (case side1 => repeat (first | exact HR0.out | (with_reducible refine Kd.C_alloc ?_ _) | (with_reducible refine Kd.C_drewN ?_ _) | (with_reducible refine Kd.C_drew ?_))); (case side2 => exact HC0.out); rintro e w' ⟨rfl, ⟨nd, rfl⟩⟩; refine ⟨_, rfl, ?_⟩))
  go_ret
  exact ⟨by first | rfl | (simp; done) | (simp [*]; done), by repeat (first | exact Drawn0.refl _ | apply Drawn0.step)⟩

end Go.Proofs.Ytnphoaecjeenjaa.P
namespace Go.Proofs.Ytnphoaecjeenjaa.P
open Go.RowKit Go.Proofs.YtnphoaecjeenjaaW.PrintWords Go.Proofs.YtnphoaecjeenjaaW.PrintLast Go.Proofs.YtnphoaecjeenjaaW.PrintMore
attribute [local go_sem] max2_int min2_int max_two min_two max_three min_three max_four min_four   -- for this text's walks alone
set_option linter.unusedVariables false
set_option linter.unusedSimpArgs false

/-! ### impl_Graph_cycleFrom: function 110 -/
def impl_Graph_cycleFrom.l0 : Nat → List Int → Int → List Int → List (List Int) → Option (List Int × Bool)
  | 0, _, _, _, _ => none
  | k + 1, x1, x2, x8, x447000 => (slices_Contains_int_int.f k x8 x2).bind fun t450 => (if t450 = true then ((slices_Index_int_int.f k x8 x2).bind fun t451 => (if 0 ≤ t451 then (if t451 ≤ (x8.length : Int) then (some ((x8.drop (t451 : Int).toNat), true)) else (none)) else (none))) else (if x8.length < 17592186044416 then ((impl_Graph_next.f x447000 x1 x2).bind fun t458 => (if t458 < 0 then (some (([] : List Int), false)) else (impl_Graph_cycleFrom.l0 k x1 t458 (x8 ++ [x2]) x447000))) else (none)))
def impl_Graph_cycleFrom.f (k : Nat) (l0_0 : List (List Int)) (l1 : List Int) (a2 : Int) : Option (List Int × Bool) := impl_Graph_cycleFrom.l0 k l1 a2 (([] : List Int)) l0_0
theorem impl_Graph_cycleFrom.mono_l : ∀ k, (∀ y0 y1 y2 y3, LeO (impl_Graph_cycleFrom.l0 k y0 y1 y2 y3) (impl_Graph_cycleFrom.l0 (k + 1) y0 y1 y2 y3))
  | 0 => fun _ _ _ _ r h => by simp [impl_Graph_cycleFrom.l0] at h
  | k + 1 => by
    have ih0 := impl_Graph_cycleFrom.mono_l k
    · intro y0 y1 y2 y3
      unfold impl_Graph_cycleFrom.l0
      repeat' first
      | (with_reducible exact ih0 _ _ _ _)
      | (with_reducible exact slices_Contains_int_int.mono _ _ _)
      | (with_reducible exact slices_Index_int_int.mono _ _ _)
      | (with_reducible exact LeO.refl _)
      | (with_reducible exact LeO.none _)
      | (with_reducible refine LeO.ite ?_ ?_)
      | (with_reducible refine LeO.bind ?_ (fun _ => ?_))
      | exact ih0 _ _ _ _
      | exact slices_Contains_int_int.mono _ _ _
      | exact slices_Index_int_int.mono _ _ _
      | exact LeO.none _
      | refine LeO.ite ?_ ?_
      | refine LeO.bind ?_ (fun _ => ?_)
theorem impl_Graph_cycleFrom.mono : ∀ a0 a1 a2 k, LeO (impl_Graph_cycleFrom.f k a0 a1 a2) (impl_Graph_cycleFrom.f (k + 1) a0 a1 a2) := by
  intro a0 a1 a2 k
  have ih0 := impl_Graph_cycleFrom.mono_l k
  unfold impl_Graph_cycleFrom.f
  repeat' first
      | (with_reducible exact ih0 _ _ _ _)
      | (with_reducible exact slices_Contains_int_int.mono _ _ _)
      | (with_reducible exact slices_Index_int_int.mono _ _ _)
      | (with_reducible exact LeO.refl _)
      | (with_reducible exact LeO.none _)
      | (with_reducible refine LeO.ite ?_ ?_)
      | (with_reducible refine LeO.bind ?_ (fun _ => ?_))
      | exact ih0 _ _ _ _
      | exact slices_Contains_int_int.mono _ _ _
      | exact slices_Index_int_int.mono _ _ _
      | exact LeO.none _
      | refine LeO.ite ?_ ?_
      | refine LeO.bind ?_ (fun _ => ?_)
set_option maxHeartbeats 8000000 in
set_option maxRecDepth 100000 in
theorem impl_Graph_cycleFrom.calls (k : Nat) (A0_0 : Option Addr) (c0_0 : Nat) (l0_0 : List (List Int)) (A1 : Option Addr) (c1 : Nat) (l1 : List Int) (a2 : Int) (r1 : List Int) (r2 : Bool) (w : World) (hr0_0 : Kd.C (Kd.slice 3 (Kd.int .i64)) w A0_0 l0_0.length l0_0) (hc0_0 : l0_0.length ≤ c0_0) (hr1 : Kd.C (Kd.int .i64) w A1 l1.length l1) (hc1 : l1.length ≤ c1) (h : impl_Graph_cycleFrom.f k l0_0 l1 a2 = some (r1, r2)) :
    Calls Try.prog 110 #[.agg #[.slice A0_0 l0_0.length c0_0], .slice A1 l1.length c1, .int .i64 a2] w fun e w' => ∃ v0_ : Value, e = .returned (.tuple #[v0_, .bool r2]) ∧ Kd.Q (Kd.int .i64) 3 w' w.heap.size (fun _ => True) v0_ r1 ∧ Below w.heap.size w w' := by
  have hu28 := Try.underlying28
  have HR0_0 := Aside0.mk hr0_0
  have HC0_0 := Aside0.mk hc0_0
  clear hr0_0 hc0_0
  have HR1 := Aside0.mk hr1
  have HC1 := Aside0.mk hc1
  clear hr1 hc1
  have HB := Aside0.mk (Below.refl w.heap.size w)
  have H : (impl_Graph_cycleFrom.l0 k l1 a2 (([] : List Int)) l0_0) = some (r1, r2) := h
  clear h
  obtain ⟨y447, hy447⟩ : ∃ y_ : List Int, y_ = (([] : List Int)) := ⟨_, rfl⟩
  replace H : (impl_Graph_cycleFrom.l0 k l1 a2 y447 l0_0) = some (r1, r2) := by first | (rw [hy447]; with_reducible exact H) | (have H2_ := (Option.bind_some _ _).symm.trans H; rw [hy447]; with_reducible exact H2_) | (have H2_ := (Option.bind_some _ _).symm.trans H; with_reducible exact H2_) | with_reducible exact H | (rw [hy447]; exact H) | exact H
  have Ny447 := Aside0.mk hy447
  clear hy447
  have H' := Aside0.mk H
  clear H
  go_enter Try.func110, Try.ntmps110
  go_wp2_with (first | ((with_reducible refine gate_dst (N := 3) rfl ?_); refine box_event ?hg (N := 3) ?hd (cs := #[.slice A0_0 l0_0.length c0_0]) (t := 28) ?hr ?_; (case hd => rfl); (case hg => rfl); (case hr => first | (go_simp; done) | (go_simp; rfl)); intro gb446 hg w4 hbox hb; have n0_ := Aside0.mk (below_step (by repeat (first | (with_reducible first | exact HB.out | apply below_alloc | apply pw_below_drewN | apply below_drew1) | exact HB.out)) hb); have n1_ := Aside0.mk (hbox); have n2_ := Aside0.mk ((by rw [hg]; exact (below_size (by repeat (first | (with_reducible first | exact HB.out | apply below_alloc | apply pw_below_drewN | apply below_drew1) | exact HB.out))) : w.heap.size ≤ gb446)); have n3_ := Aside0.mk ((by rw [hg]; exact (below_size (by repeat (first | (with_reducible first | exact HB.out | apply below_alloc | apply pw_below_drewN | apply below_drew1) | exact HB.out))) : w.heap.size ≤ gb446)); clear HB; have HB := n0_; have BK446 := n1_; have GW446 := n2_; have GE446 := n3_; clear n0_ n1_ n2_ n3_; clear hb hbox hg) | ((with_reducible refine gate_dst (N := 9) rfl ?_); refine Kd.R_lit (Kd.int .i64) _ 3 ?hg (N := 9) ?hd (xs := ([] : List Int)) (inner := []) (ok := fun _ => True) (okp := fun _ => True) ?hr ?hp (fun _ hk => hk) trivial (Below.refl _ _) (Nat.le_refl _) (by simp) ?_; (case hd => rfl); (case hg => rfl); (case hr => first | (go_simp; done) | (go_simp; rfl)); (case hp => exact (Reps.none _ _)); intro v448 w5 ho6 hb hg_ hnew_; clear hg_ hnew_; (first | rw [← Ny447.out] at ho6 | (simp only [Int.reduceToNat] at ho6; rw [← Ny447.out] at ho6)); have n0_ := Aside0.mk (Kd.R_lower ho6 (below_size (by repeat (first | (with_reducible first | exact HB.out | apply below_alloc | apply pw_below_drewN | apply below_drew1 | refine below_set ?_ GE446.out) | exact HB.out)))); have n1_ := Aside0.mk (blk_below (g := gb446) (o := .cells #[.slice A0_0 l0_0.length c0_0] 28 (0, 0)) (by (with_reducible repeat (first | refine blk_drewN ?_ _ | refine blk_drew ?_ | refine blk_alloc ?_ _)); exact BK446.out) hb); have n2_ := Aside0.mk (below_step (by repeat (first | (with_reducible first | exact HB.out | apply below_alloc | apply pw_below_drewN | apply below_drew1 | refine below_set ?_ GE446.out) | exact HB.out)) hb); clear BK446; clear HB; have HO449 := n0_; have BK446 := n1_; have HB := n2_; clear n0_ n1_ n2_; clear hb ho6))
  go_loopg [2, 8] k (fun kq v2 v8 w' => ∃ (x2_1 : Int) (x8_1 : List Int), v2 = .int .i64 x2_1 ∧ Aside0 (impl_Graph_cycleFrom.l0 kq l1 x2_1 x8_1 l0_0 = some (r1, r2)) ∧ Aside0 (kq ≤ k) ∧ Aside0 (Kd.R (Kd.int .i64) 3 w' w.heap.size (fun _ => True) v8 x8_1) ∧ Aside0 (w'.heap[gb446]? = some (.cells #[(.slice A0_0 l0_0.length c0_0)] 28 (0, 0))) ∧ Aside0 (Below w.heap.size w w'))
  case atStart => exact ⟨(a2), (y447), (by first | rfl | (simp; done) | (simp [*]; done)), H', ⟨Nat.le_refl _⟩, ⟨by (with_reducible repeat (first | apply Kd.R_alloc | apply Kd.R_drewN | apply Kd.R_drew)); exact HO449.out⟩, ⟨by (with_reducible repeat (first | refine blk_drewN ?_ _ | refine blk_drew ?_ | refine blk_alloc ?_ _)); exact BK446.out⟩, ⟨by repeat (first | (with_reducible first | exact HB.out | apply below_alloc | apply pw_below_drewN | apply below_drew1 | refine below_set ?_ GE446.out) | exact HB.out)⟩⟩
  case round =>
    clear H'
    try clear c1
    try clear p2
    obtain ⟨x2_1, x8_1, rfl, HA, HK1, HO_8, BK446, HB⟩ := hrel
    cases gk with
    | zero => exact absurd HA.out (by simp [impl_Graph_cycleFrom.l0])
    | succ k1 =>
      have H := HA.out
      clear HA
      simp only [impl_Graph_cycleFrom.l0] at H
      replace H := Option.bind_eq_some_iff.mp H
      obtain ⟨t450, A70, H⟩ := H
      replace H : (if t450 = true then ((slices_Index_int_int.f k1 x8_1 x2_1).bind fun t451 => (if 0 ≤ t451 then (if t451 ≤ (x8_1.length : Int) then (some ((x8_1.drop (t451 : Int).toNat), true)) else (none)) else (none))) else (if x8_1.length < 17592186044416 then ((impl_Graph_next.f l0_0 l1 x2_1).bind fun t458 => (if t458 < 0 then (some (([] : List Int), false)) else (impl_Graph_cycleFrom.l0 k1 l1 t458 (x8_1 ++ [x2_1]) l0_0))) else (none))) = some (r1, r2) := H
      have A7 := Aside0.mk A70
      clear A70
      by_cases c8 : t450 = true
      · subst c8
        have H1 : ((slices_Index_int_int.f k1 x8_1 x2_1).bind fun t451 => (if 0 ≤ t451 then (if t451 ≤ (x8_1.length : Int) then (some ((x8_1.drop (t451 : Int).toNat), true)) else (none)) else (none))) = some (r1, r2) := by rw [if_pos rfl] at H; exact H
        clear H
        have H := H1
        clear H1
        replace H := Option.bind_eq_some_iff.mp H
        obtain ⟨t451, A90, H⟩ := H
        replace H : (if 0 ≤ t451 then (if t451 ≤ (x8_1.length : Int) then (some ((x8_1.drop (t451 : Int).toNat), true)) else (none)) else (none)) = some (r1, r2) := H
        have A9 := Aside0.mk A90
        clear A90
        by_cases c10 : 0 ≤ t451
        · rw [if_pos c10] at H
          have c10b0 := eq_true c10
          have c10b1 : decide (0 ≤ t451) = true := decide_eq_true c10
          clear c10
          by_cases c11 : t451 ≤ (x8_1.length : Int)
          · rw [if_pos c11] at H
            have c11b0 := eq_true c11
            have c11b1 : decide (t451 ≤ (x8_1.length : Int)) = true := decide_eq_true c11
            clear c11
            obtain ⟨y452, hy452⟩ : ∃ y_ : List Int, y_ = (x8_1.drop (t451 : Int).toNat) := ⟨_, rfl⟩
            replace H : (some (y452, true)) = some (r1, r2) := by first | (rw [hy452]; with_reducible exact H) | (have H2_ := (Option.bind_some _ _).symm.trans H; rw [hy452]; with_reducible exact H2_) | (have H2_ := (Option.bind_some _ _).symm.trans H; with_reducible exact H2_) | with_reducible exact H | (rw [hy452]; exact H) | exact H
            have Ny452 := Aside0.mk hy452
            clear hy452
            simp only [Option.some.injEq, Prod.mk.injEq] at H
            obtain ⟨rfl, rfl⟩ := H
            obtain ⟨Ao12, co12, eo12⟩ := Kd.R_slice HO_8.out
            subst eo12
            go_wp2_with (first | ((with_reducible refine gate_callee (f := 111) rfl ?_); refine goesL_ (some 12) rfl rfl Try.func111 (by kernel_rfl) rfl #[.slice Ao12 x8_1.length co12, .int .i64 x2_1] rfl (by (try simp only [List.map_toArray, List.map_cons, List.map_nil]); first | done | rfl | (simp only [List.length_drop, List.length_take]; rfl)) ?_; (with_reducible refine (slices_Contains_int_int.calls k1 _ _ x8_1 x2_1 true _ ?side1 ?side2 A7.out).mono ?_); (case side1 => repeat (first | exact (Kd.R_reads' HO_8.out).2.2 | (with_reducible refine Kd.C_alloc ?_ _) | (with_reducible refine Kd.C_drewN ?_ _) | (with_reducible refine Kd.C_drew ?_))); (case side2 => exact (Kd.R_reads' HO_8.out).2.1); rintro e w' ⟨rfl, ⟨nd, rfl⟩⟩; refine ⟨_, rfl, ?_⟩) | ((with_reducible refine gate_callee (f := 115) rfl ?_); refine goesL_ (some 27) rfl rfl Try.func115 (by kernel_rfl) rfl #[.slice Ao12 x8_1.length co12, .int .i64 x2_1] rfl (by (try simp only [List.map_toArray, List.map_cons, List.map_nil]); first | done | rfl | (simp only [List.length_drop, List.length_take]; rfl)) ?_; (with_reducible refine (slices_Index_int_int.calls k1 _ _ x8_1 x2_1 t451 _ ?side1 ?side2 A9.out).mono ?_); (case side1 => repeat (first | exact (Kd.R_reads' HO_8.out).2.2 | (with_reducible refine Kd.C_alloc ?_ _) | (with_reducible refine Kd.C_drewN ?_ _) | (with_reducible refine Kd.C_drew ?_))); (case side2 => exact (Kd.R_reads' HO_8.out).2.1); rintro e w' ⟨rfl, ⟨nd, rfl⟩⟩; refine ⟨_, rfl, ?_⟩; have q13 : (t451 : Int) ≤ ((x8_1.length : Int) : Int) := of_decide_eq_true (by first | (with_reducible assumption) | assumption); obtain ⟨i013, hi013, _, hsz13, _⟩ := info_parts info3; have hcut13 := cut_from (P := Try.prog) 35 3 .i64 Try.underlying35 hi013 1 hsz13 Ao12 x8_1.length co12 t451 (of_decide_eq_true (by first | (with_reducible assumption) | assumption)) q13; have hr13 := Kd.Q_drop (k := (t451 : Int).toNat) (Kd.Q_of_R HO_8.out) (by omega); obtain ⟨A13, hA13⟩ : ∃ A1, A1 = (if co12 = (t451 : Int).toNat then Ao12 else (Ao12 : Option Addr).map (·.add ((t451 : Int).toNat * 1))) := ⟨_, rfl⟩; obtain ⟨c13, hc13⟩ : ∃ c1, c1 = co12 - (t451 : Int).toNat := ⟨_, rfl⟩; have hy13 : y452.length = x8_1.length - (t451 : Int).toNat := (by rw [Ny452.out, List.length_drop]); rw [← Ny452.out] at hr13; rw [← hy13, ← hA13, ← hc13] at hcut13; replace hr13 : Kd.Q (Kd.int .i64) 3 wr w.heap.size (fun _ => True) (.slice A13 y452.length c13) y452 := (by rw [hA13, hc13, hy13]; exact hr13); have HE13 : Aside0 ((Value.slice A13 y452.length c13).ownBlock = (.slice Ao12 x8_1.length co12 : Value).ownBlock) := ⟨by rw [hA13]; split <;> (cases (Ao12 : Option Addr) <;> first | rfl | (simp only [Option.map, Value.ownBlock, Addr.add]; split <;> rfl))⟩; clear hy13 hi013 hsz13 HO_8 hA13 hc13; have HO454 := Aside0.mk hr13; clear hr13; replace q13 := eq_true q13))
            go_ret2
            exact ⟨_, by first | rfl | (simp [errW_none, errW_some] <;> rfl) | (simp [*, errW_none, errW_some] <;> rfl), by (with_reducible repeat (first | apply Kd.Q_alloc | apply Kd.Q_drewN | apply Kd.Q_drew)); exact HO454.out, by repeat (first | (with_reducible first | exact HB.out | apply below_alloc | apply pw_below_drewN | apply below_drew1 | refine below_set ?_ GE446.out) | exact HB.out)⟩
          · rw [if_neg c11] at H
            exact absurd H (by simp)
        · rw [if_neg c10] at H
          exact absurd H (by simp)
      · replace c8 := Bool.eq_false_iff.mpr c8
        subst c8
        have H1 : (if x8_1.length < 17592186044416 then ((impl_Graph_next.f l0_0 l1 x2_1).bind fun t458 => (if t458 < 0 then (some (([] : List Int), false)) else (impl_Graph_cycleFrom.l0 k1 l1 t458 (x8_1 ++ [x2_1]) l0_0))) else (none)) = some (r1, r2) := by rw [if_neg (show ¬ (false = true) by decide)] at H; exact H
        clear H
        have H := H1
        clear H1
        by_cases c14 : x8_1.length < 17592186044416
        · rw [if_pos c14] at H
          have LMc14 := Aside0.mk c14
          clear c14
          obtain ⟨y455, hy455⟩ : ∃ y_ : List Int, y_ = (x8_1 ++ [x2_1]) := ⟨_, rfl⟩
          replace H : ((impl_Graph_next.f l0_0 l1 x2_1).bind fun t458 => (if t458 < 0 then (some (([] : List Int), false)) else (impl_Graph_cycleFrom.l0 k1 l1 t458 y455 l0_0))) = some (r1, r2) := by first | (rw [hy455]; with_reducible exact H) | (have H2_ := (Option.bind_some _ _).symm.trans H; rw [hy455]; with_reducible exact H2_) | (have H2_ := (Option.bind_some _ _).symm.trans H; with_reducible exact H2_) | with_reducible exact H | (rw [hy455]; exact H) | exact H
          have Ny455 := Aside0.mk hy455
          clear hy455
          replace H := Option.bind_eq_some_iff.mp H
          obtain ⟨t458, A150, H⟩ := H
          replace H : (if t458 < 0 then (some (([] : List Int), false)) else (impl_Graph_cycleFrom.l0 k1 l1 t458 y455 l0_0)) = some (r1, r2) := H
          have A15 := Aside0.mk A150
          clear A150
          by_cases c16 : t458 < 0
          · rw [if_pos c16] at H
            have c16b0 : decide (t458 < 0) = true := decide_eq_true c16
            clear c16
            simp only [Option.some.injEq, Prod.mk.injEq] at H
            obtain ⟨rfl, rfl⟩ := H
            obtain ⟨Ao17, co17, eo17⟩ := Kd.R_slice HO_8.out
            subst eo17
            go_wp2_with (first | ((with_reducible refine gate_callee (f := 111) rfl ?_); refine goesL_ (some 12) rfl rfl Try.func111 (by kernel_rfl) rfl #[.slice Ao17 x8_1.length co17, .int .i64 x2_1] rfl (by (try simp only [List.map_toArray, List.map_cons, List.map_nil]); first | done | rfl | (simp only [List.length_drop, List.length_take]; rfl)) ?_; (with_reducible refine (slices_Contains_int_int.calls k1 _ _ x8_1 x2_1 false _ ?side1 ?side2 A7.out).mono ?_); (case side1 => repeat (first | exact (Kd.R_reads' HO_8.out).2.2 | (with_reducible refine Kd.C_alloc ?_ _) | (with_reducible refine Kd.C_drewN ?_ _) | (with_reducible refine Kd.C_drew ?_))); (case side2 => exact (Kd.R_reads' HO_8.out).2.1); rintro e w' ⟨rfl, ⟨nd, rfl⟩⟩; refine ⟨_, rfl, ?_⟩) | ((with_reducible refine gate_builtin (b := .append) (xs := #[.tmp 14, .tmp 16]) rfl ?_); at_builtin; refine Kd.R_append (Kd.int .i64) (w0 := w) w.heap.size rfl (.tmp 14) (.tmp 16) 35 3 (.int .i64 0) 8 rfl Try.underlying35 info3 rfl (by decide) (by omega) (.slice Ao17 x8_1.length co17) x8_1 x2_1 [.int .i64 x2_1] (fun _ => True) (fun _ => False) rfl rfl ?aP (fun _ hk => hk.elim) ?aF ?aO ?aB ?aS ?aL ?_; (case aP => exact rfl); (case aB => exact (by repeat (first | (with_reducible first | exact HB.out | apply below_alloc | apply pw_below_drewN | apply below_drew1 | refine below_set ?_ GE446.out) | exact HB.out))); (case aF => exact (fun _ _ => trivial)); (case aO => exact (by (with_reducible repeat (first | apply Kd.R_alloc | apply Kd.R_drewN | apply Kd.R_drew)); exact HO_8.out)); (case aS => exact (below_size (by repeat (first | (with_reducible first | exact HB.out | apply below_alloc | apply pw_below_drewN | apply below_drew1 | refine below_set ?_ GE446.out) | exact HB.out)))); (case aL => have := LMc14.out; omega); intro v456 w18 ho hb hg hat; rw [← Ny455.out] at ho; have n0_ := Aside0.mk (blk_grown (g := gb446) (o := .cells #[.slice A0_0 l0_0.length c0_0] 28 (0, 0)) (by (with_reducible repeat (first | refine blk_drewN ?_ _ | refine blk_drew ?_ | refine blk_alloc ?_ _)); exact BK446.out) hg (Kd.R_ne HO_8.out BK446.out (by decide))); have n1_ := Aside0.mk (hb); have n2_ := Aside0.mk (ho); clear BK446; clear HB; clear HO_8; have BK446 := n0_; have HB := n1_; have HO457 := n2_; clear n0_ n1_ n2_; clear ho hb hg hat; have hcz19_0 : w18.cell? ⟨gb446, 0, none⟩ = some (.slice A0_0 l0_0.length c0_0) := (blk_cell BK446.out 0).trans rfl; have hfz19_0 := blk_frozen BK446.out 0) | ((with_reducible refine gate_callee (f := 104) rfl ?_); refine goesL_ (some 21) rfl rfl Try.func104 (by kernel_rfl) rfl #[.agg #[.slice A0_0 l0_0.length c0_0], .slice A1 l1.length c1, .int .i64 x2_1] rfl (by (try simp only [List.map_toArray, List.map_cons, List.map_nil]); first | done | rfl | (simp only [List.length_drop, List.length_take]; rfl)) ?_; (with_reducible refine (impl_Graph_next.calls _ _ l0_0 _ _ l1 x2_1 t458 _ ?side1 ?side2 ?side3 ?side4 A15.out).mono ?_); (case side1 => repeat (first | exact (Kd.C_below HR0_0.out HB.out) | (with_reducible refine Kd.C_alloc ?_ _) | (with_reducible refine Kd.C_drewN ?_ _) | (with_reducible refine Kd.C_drew ?_))); (case side2 => exact HC0_0.out); (case side3 => repeat (first | exact (Kd.C_below HR1.out HB.out) | (with_reducible refine Kd.C_alloc ?_ _) | (with_reducible refine Kd.C_drewN ?_ _) | (with_reducible refine Kd.C_drew ?_))); (case side4 => exact HC1.out); rintro e w20 ⟨rfl, hb⟩; refine ⟨_, rfl, ?_⟩; have n0_ := Aside0.mk (Kd.R_below (by (with_reducible repeat (first | apply Kd.R_alloc | apply Kd.R_drewN | apply Kd.R_drew)); exact HO457.out) hb); have n1_ := Aside0.mk (blk_below (g := gb446) (o := .cells #[.slice A0_0 l0_0.length c0_0] 28 (0, 0)) (by (with_reducible repeat (first | refine blk_drewN ?_ _ | refine blk_drew ?_ | refine blk_alloc ?_ _)); exact BK446.out) hb); have n2_ := Aside0.mk (below_step (by repeat (first | (with_reducible first | exact HB.out | apply below_alloc | apply pw_below_drewN | apply below_drew1 | refine below_set ?_ GE446.out) | exact HB.out)) hb); clear HO457; clear BK446; clear HB; have HO457 := n0_; have BK446 := n1_; have HB := n2_; clear n0_ n1_ n2_; (try clear hb); (try clear hb2); (try clear hk); (try clear hi)))
            go_ret2
            exact ⟨_, by first | rfl | (simp [errW_none, errW_some] <;> rfl) | (simp [*, errW_none, errW_some] <;> rfl), Kd.Q_of_R (by first | exact Kd.R_nil _ _ _ _ _ | exact Kd.N_nil _ _ _ _ _ | exact Kd.V_nil _ _ _ _ _ | exact Kd.Q_nil _ _ _ _ _ | exact Kd.S_nil _ _ _ _ _), by repeat (first | (with_reducible first | exact HB.out | apply below_alloc | apply pw_below_drewN | apply below_drew1 | refine below_set ?_ GE446.out) | exact HB.out)⟩
          · rw [if_neg c16] at H
            have c16b0 : decide (t458 < 0) = false := decide_eq_false c16
            clear c16
            have H' := Aside0.mk H
            clear H
            obtain ⟨Ao21, co21, eo21⟩ := Kd.R_slice HO_8.out
            subst eo21
            go_wp2_with (first | ((with_reducible refine gate_callee (f := 111) rfl ?_); refine goesL_ (some 12) rfl rfl Try.func111 (by kernel_rfl) rfl #[.slice Ao21 x8_1.length co21, .int .i64 x2_1] rfl (by (try simp only [List.map_toArray, List.map_cons, List.map_nil]); first | done | rfl | (simp only [List.length_drop, List.length_take]; rfl)) ?_; (with_reducible refine (slices_Contains_int_int.calls k1 _ _ x8_1 x2_1 false _ ?side1 ?side2 A7.out).mono ?_); (case side1 => repeat (first | exact (Kd.R_reads' HO_8.out).2.2 | (with_reducible refine Kd.C_alloc ?_ _) | (with_reducible refine Kd.C_drewN ?_ _) | (with_reducible refine Kd.C_drew ?_))); (case side2 => exact (Kd.R_reads' HO_8.out).2.1); rintro e w' ⟨rfl, ⟨nd, rfl⟩⟩; refine ⟨_, rfl, ?_⟩) | ((with_reducible refine gate_builtin (b := .append) (xs := #[.tmp 14, .tmp 16]) rfl ?_); at_builtin; refine Kd.R_append (Kd.int .i64) (w0 := w) w.heap.size rfl (.tmp 14) (.tmp 16) 35 3 (.int .i64 0) 8 rfl Try.underlying35 info3 rfl (by decide) (by omega) (.slice Ao21 x8_1.length co21) x8_1 x2_1 [.int .i64 x2_1] (fun _ => True) (fun _ => False) rfl rfl ?aP (fun _ hk => hk.elim) ?aF ?aO ?aB ?aS ?aL ?_; (case aP => exact rfl); (case aB => exact (by repeat (first | (with_reducible first | exact HB.out | apply below_alloc | apply pw_below_drewN | apply below_drew1 | refine below_set ?_ GE446.out) | exact HB.out))); (case aF => exact (fun _ _ => trivial)); (case aO => exact (by (with_reducible repeat (first | apply Kd.R_alloc | apply Kd.R_drewN | apply Kd.R_drew)); exact HO_8.out)); (case aS => exact (below_size (by repeat (first | (with_reducible first | exact HB.out | apply below_alloc | apply pw_below_drewN | apply below_drew1 | refine below_set ?_ GE446.out) | exact HB.out)))); (case aL => have := LMc14.out; omega); intro v456 w22 ho hb hg hat; rw [← Ny455.out] at ho; have n0_ := Aside0.mk (blk_grown (g := gb446) (o := .cells #[.slice A0_0 l0_0.length c0_0] 28 (0, 0)) (by (with_reducible repeat (first | refine blk_drewN ?_ _ | refine blk_drew ?_ | refine blk_alloc ?_ _)); exact BK446.out) hg (Kd.R_ne HO_8.out BK446.out (by decide))); have n1_ := Aside0.mk (hb); have n2_ := Aside0.mk (ho); clear BK446; clear HB; clear HO_8; have BK446 := n0_; have HB := n1_; have HO457 := n2_; clear n0_ n1_ n2_; clear ho hb hg hat; have hcz23_0 : w22.cell? ⟨gb446, 0, none⟩ = some (.slice A0_0 l0_0.length c0_0) := (blk_cell BK446.out 0).trans rfl; have hfz23_0 := blk_frozen BK446.out 0) | ((with_reducible refine gate_callee (f := 104) rfl ?_); refine goesL_ (some 21) rfl rfl Try.func104 (by kernel_rfl) rfl #[.agg #[.slice A0_0 l0_0.length c0_0], .slice A1 l1.length c1, .int .i64 x2_1] rfl (by (try simp only [List.map_toArray, List.map_cons, List.map_nil]); first | done | rfl | (simp only [List.length_drop, List.length_take]; rfl)) ?_; (with_reducible refine (impl_Graph_next.calls _ _ l0_0 _ _ l1 x2_1 t458 _ ?side1 ?side2 ?side3 ?side4 A15.out).mono ?_); (case side1 => repeat (first | exact (Kd.C_below HR0_0.out HB.out) | (with_reducible refine Kd.C_alloc ?_ _) | (with_reducible refine Kd.C_drewN ?_ _) | (with_reducible refine Kd.C_drew ?_))); (case side2 => exact HC0_0.out); (case side3 => repeat (first | exact (Kd.C_below HR1.out HB.out) | (with_reducible refine Kd.C_alloc ?_ _) | (with_reducible refine Kd.C_drewN ?_ _) | (with_reducible refine Kd.C_drew ?_))); (case side4 => exact HC1.out); rintro e w24 ⟨rfl, hb⟩; refine ⟨_, rfl, ?_⟩; have n0_ := Aside0.mk (Kd.R_below (by (with_reducible repeat (first | apply Kd.R_alloc | apply Kd.R_drewN | apply Kd.R_drew)); exact HO457.out) hb); have n1_ := Aside0.mk (blk_below (g := gb446) (o := .cells #[.slice A0_0 l0_0.length c0_0] 28 (0, 0)) (by (with_reducible repeat (first | refine blk_drewN ?_ _ | refine blk_drew ?_ | refine blk_alloc ?_ _)); exact BK446.out) hb); have n2_ := Aside0.mk (below_step (by repeat (first | (with_reducible first | exact HB.out | apply below_alloc | apply pw_below_drewN | apply below_drew1 | refine below_set ?_ GE446.out) | exact HB.out)) hb); clear HO457; clear BK446; clear HB; have HO457 := n0_; have BK446 := n1_; have HB := n2_; clear n0_ n1_ n2_; (try clear hb); (try clear hb2); (try clear hk); (try clear hi)))
            go_roundg k1
            case measure => have := HK1.out; omega
            case rel => exact ⟨(t458), (y455), (by first | rfl | (simp; done) | (simp [*]; done)), H', ⟨by have := HK1.out; omega⟩, ⟨by (with_reducible repeat (first | apply Kd.R_alloc | apply Kd.R_drewN | apply Kd.R_drew)); exact HO457.out⟩, ⟨by (with_reducible repeat (first | refine blk_drewN ?_ _ | refine blk_drew ?_ | refine blk_alloc ?_ _)); exact BK446.out⟩, ⟨by repeat (first | (with_reducible first | exact HB.out | apply below_alloc | apply pw_below_drewN | apply below_drew1 | refine below_set ?_ GE446.out) | exact HB.out)⟩⟩
        · rw [if_neg c14] at H
          exact absurd H (by simp)

end Go.Proofs.Ytnphoaecjeenjaa.P
namespace Go.Proofs.Ytnphoaecjeenjaa.P
open Go.RowKit Go.Proofs.YtnphoaecjeenjaaW.PrintWords Go.Proofs.YtnphoaecjeenjaaW.PrintLast Go.Proofs.YtnphoaecjeenjaaW.PrintMore
attribute [local go_sem] max2_int min2_int max_two min_two max_three min_three max_four min_four   -- for this text's walks alone
set_option linter.unusedVariables false
set_option linter.unusedSimpArgs false

/-! ### spec_trCycle: function 108 -/
mutual
def spec_trCycle.l0 : Nat → List Int → Int → Int → List (List Int) → Option (List Int × Bool)
  | 0, _, _, _, _ => none
  | k + 1, x1, x2, x8, x471000 => if x8 < (x471000.length : Int) then ((spec_trNext.f x471000 x1 x2).bind fun t471 => (if t471 < 0 then (some (([] : List Int), false)) else (spec_trCycle.l0 k x1 t471 (wrap64 (x8 + 1)) x471000))) else ((spec_trNext.f x471000 x1 x2).bind fun t475 => (spec_trCycle.l1 k x1 x2 (([x2] : List Int)) t475 x471000))
def spec_trCycle.l1 : Nat → List Int → Int → List Int → Int → List (List Int) → Option (List Int × Bool)
  | 0, _, _, _, _, _ => none
  | k + 1, x1, x2, x9, x10, x471000 => if x10 = x2 then (some (x9, true)) else (if x9.length < 17592186044416 then ((spec_trNext.f x471000 x1 x10).bind fun t479 => (spec_trCycle.l1 k x1 x2 (x9 ++ [x10]) t479 x471000)) else (none))
end
def spec_trCycle.f (k : Nat) (l0_0 : List (List Int)) (l1 : List Int) (a2 : Int) : Option (List Int × Bool) := spec_trCycle.l0 k l1 a2 0 l0_0
theorem spec_trCycle.mono_l : ∀ k, (∀ y0 y1 y2 y3, LeO (spec_trCycle.l0 k y0 y1 y2 y3) (spec_trCycle.l0 (k + 1) y0 y1 y2 y3)) ∧ (∀ y0 y1 y2 y3 y4, LeO (spec_trCycle.l1 k y0 y1 y2 y3 y4) (spec_trCycle.l1 (k + 1) y0 y1 y2 y3 y4))
  | 0 => ⟨fun _ _ _ _ r h => by simp [spec_trCycle.l0] at h, fun _ _ _ _ _ r h => by simp [spec_trCycle.l1] at h⟩
  | k + 1 => by
    obtain ⟨ih0, ih1⟩ := spec_trCycle.mono_l k
    refine ⟨?_, ?_⟩
    · intro y0 y1 y2 y3
      unfold spec_trCycle.l0
      repeat' first
      | (with_reducible exact ih0 _ _ _ _)
      | (with_reducible exact ih1 _ _ _ _ _)
      | (with_reducible exact LeO.refl _)
      | (with_reducible exact LeO.none _)
      | (with_reducible refine LeO.ite ?_ ?_)
      | (with_reducible refine LeO.bind ?_ (fun _ => ?_))
      | exact ih0 _ _ _ _
      | exact ih1 _ _ _ _ _
      | exact LeO.none _
      | refine LeO.ite ?_ ?_
      | refine LeO.bind ?_ (fun _ => ?_)
    · intro y0 y1 y2 y3 y4
      unfold spec_trCycle.l1
      repeat' first
      | (with_reducible exact ih0 _ _ _ _)
      | (with_reducible exact ih1 _ _ _ _ _)
      | (with_reducible exact LeO.refl _)
      | (with_reducible exact LeO.none _)
      | (with_reducible refine LeO.ite ?_ ?_)
      | (with_reducible refine LeO.bind ?_ (fun _ => ?_))
      | exact ih0 _ _ _ _
      | exact ih1 _ _ _ _ _
      | exact LeO.none _
      | refine LeO.ite ?_ ?_
      | refine LeO.bind ?_ (fun _ => ?_)
theorem spec_trCycle.mono : ∀ a0 a1 a2 k, LeO (spec_trCycle.f k a0 a1 a2) (spec_trCycle.f (k + 1) a0 a1 a2) := by
  intro a0 a1 a2 k
  obtain ⟨ih0, ih1⟩ := spec_trCycle.mono_l k
  unfold spec_trCycle.f
  repeat' first
      | (with_reducible exact ih0 _ _ _ _)
      | (with_reducible exact ih1 _ _ _ _ _)
      | (with_reducible exact LeO.refl _)
      | (with_reducible exact LeO.none _)
      | (with_reducible refine LeO.ite ?_ ?_)
      | (with_reducible refine LeO.bind ?_ (fun _ => ?_))
      | exact ih0 _ _ _ _
      | exact ih1 _ _ _ _ _
      | exact LeO.none _
      | refine LeO.ite ?_ ?_
      | refine LeO.bind ?_ (fun _ => ?_)
set_option maxHeartbeats 8000000 in
set_option maxRecDepth 100000 in
theorem spec_trCycle.calls (k : Nat) (A0_0 : Option Addr) (c0_0 : Nat) (l0_0 : List (List Int)) (A1 : Option Addr) (c1 : Nat) (l1 : List Int) (a2 : Int) (r1 : List Int) (r2 : Bool) (w : World) (hr0_0 : Kd.C (Kd.slice 3 (Kd.int .i64)) w A0_0 l0_0.length l0_0) (hc0_0 : l0_0.length ≤ c0_0) (hr1 : Kd.C (Kd.int .i64) w A1 l1.length l1) (hc1 : l1.length ≤ c1) (h : spec_trCycle.f k l0_0 l1 a2 = some (r1, r2)) :
    Calls Try.prog 108 #[.agg #[.slice A0_0 l0_0.length c0_0], .slice A1 l1.length c1, .int .i64 a2] w fun e w' => ∃ v0_ : Value, e = .returned (.tuple #[v0_, .bool r2]) ∧ Kd.R (Kd.int .i64) 3 w' w.heap.size (fun _ => True) v0_ r1 ∧ Below w.heap.size w w' := by
  have hu28 := Try.underlying28
  have HR0_0 := Aside0.mk hr0_0
  have HC0_0 := Aside0.mk hc0_0
  clear hr0_0 hc0_0
  have HR1 := Aside0.mk hr1
  have HC1 := Aside0.mk hc1
  clear hr1 hc1
  have HB := Aside0.mk (Below.refl w.heap.size w)
  have H : (spec_trCycle.l0 k l1 a2 0 l0_0) = some (r1, r2) := h
  clear h
  have H' := Aside0.mk H
  clear H
  go_enter Try.func108, Try.ntmps108
  go_wp2_with (first | ((with_reducible refine gate_dst (N := 3) rfl ?_); refine box_event ?hg (N := 3) ?hd (cs := #[.slice A0_0 l0_0.length c0_0]) (t := 28) ?hr ?_; (case hd => rfl); (case hg => rfl); (case hr => first | (go_simp; done) | (go_simp; rfl)); intro gb470 hg w4 hbox hb; have n0_ := Aside0.mk (below_step (by repeat (first | (with_reducible first | exact HB.out | apply below_alloc | apply pw_below_drewN | apply below_drew1) | exact HB.out)) hb); have n1_ := Aside0.mk (hbox); have n2_ := Aside0.mk ((by rw [hg]; exact (below_size (by repeat (first | (with_reducible first | exact HB.out | apply below_alloc | apply pw_below_drewN | apply below_drew1) | exact HB.out))) : w.heap.size ≤ gb470)); have n3_ := Aside0.mk ((by rw [hg]; exact (below_size (by repeat (first | (with_reducible first | exact HB.out | apply below_alloc | apply pw_below_drewN | apply below_drew1) | exact HB.out))) : w.heap.size ≤ gb470)); clear HB; have HB := n0_; have BK470 := n1_; have GW470 := n2_; have GE470 := n3_; clear n0_ n1_ n2_ n3_; clear hb hbox hg))
  go_loopg [2, 8] k (fun kq v2 v8 w' => ∃ (x2_1 : Int) (x8_1 : Int), v2 = .int .i64 x2_1 ∧ v8 = .int .i64 x8_1 ∧ Aside0 (spec_trCycle.l0 kq l1 x2_1 x8_1 l0_0 = some (r1, r2)) ∧ Aside0 (kq ≤ k) ∧ Aside0 (w'.heap[gb470]? = some (.cells #[(.slice A0_0 l0_0.length c0_0)] 28 (0, 0))) ∧ Aside0 (Below w.heap.size w w'))
  case atStart => exact ⟨(a2), (0), (by first | rfl | (simp; done) | (simp [*]; done)), (by first | rfl | (simp; done) | (simp [*]; done)), H', ⟨Nat.le_refl _⟩, ⟨by (with_reducible repeat (first | refine blk_drewN ?_ _ | refine blk_drew ?_ | refine blk_alloc ?_ _)); exact BK470.out⟩, ⟨by repeat (first | (with_reducible first | exact HB.out | apply below_alloc | apply pw_below_drewN | apply below_drew1 | refine below_set ?_ GE470.out) | exact HB.out)⟩⟩
  case round =>
    clear H'
    try clear c1
    try clear p2
    obtain ⟨x2_1, x8_1, rfl, rfl, HA, HK1, BK470, HB⟩ := hrel
    cases gk with
    | zero => exact absurd HA.out (by simp [spec_trCycle.l0])
    | succ k1 =>
      have H := HA.out
      clear HA
      simp only [spec_trCycle.l0] at H
      by_cases c5 : x8_1 < (l0_0.length : Int)
      · rw [if_pos c5] at H
        have c5b0 : decide (x8_1 < (l0_0.length : Int)) = true := decide_eq_true c5
        clear c5
        replace H := Option.bind_eq_some_iff.mp H
        obtain ⟨t471, A60, H⟩ := H
        replace H : (if t471 < 0 then (some (([] : List Int), false)) else (spec_trCycle.l0 k1 l1 t471 (wrap64 (x8_1 + 1)) l0_0)) = some (r1, r2) := H
        have A6 := Aside0.mk A60
        clear A60
        by_cases c7 : t471 < 0
        · rw [if_pos c7] at H
          have c7b0 : decide (t471 < 0) = true := decide_eq_true c7
          clear c7
          simp only [Option.some.injEq, Prod.mk.injEq] at H
          obtain ⟨rfl, rfl⟩ := H
          have hcz8_0 : wr.cell? ⟨gb470, 0, none⟩ = some (.slice A0_0 l0_0.length c0_0) := (blk_cell BK470.out 0).trans rfl
          have hfz8_0 := blk_frozen BK470.out 0
          go_wp2_with (first | ((with_reducible refine gate_callee (f := 103) rfl ?_); refine goesL_ (some 21) rfl rfl Try.func103 (by kernel_rfl) rfl #[.agg #[.slice A0_0 l0_0.length c0_0], .slice A1 l1.length c1, .int .i64 x2_1] rfl (by (try simp only [List.map_toArray, List.map_cons, List.map_nil]); first | done | rfl | (simp only [List.length_drop, List.length_take]; rfl)) ?_; (with_reducible refine (spec_trNext.calls _ _ l0_0 _ _ l1 x2_1 t471 _ ?side1 ?side2 ?side3 ?side4 A6.out).mono ?_); (case side1 => repeat (first | exact (Kd.C_below HR0_0.out HB.out) | (with_reducible refine Kd.C_alloc ?_ _) | (with_reducible refine Kd.C_drewN ?_ _) | (with_reducible refine Kd.C_drew ?_))); (case side2 => exact HC0_0.out); (case side3 => repeat (first | exact (Kd.C_below HR1.out HB.out) | (with_reducible refine Kd.C_alloc ?_ _) | (with_reducible refine Kd.C_drewN ?_ _) | (with_reducible refine Kd.C_drew ?_))); (case side4 => exact HC1.out); rintro e w9 ⟨rfl, hb⟩; refine ⟨_, rfl, ?_⟩; have n0_ := Aside0.mk (blk_below (g := gb470) (o := .cells #[.slice A0_0 l0_0.length c0_0] 28 (0, 0)) (by (with_reducible repeat (first | refine blk_drewN ?_ _ | refine blk_drew ?_ | refine blk_alloc ?_ _)); exact BK470.out) hb); have n1_ := Aside0.mk (below_step (by repeat (first | (with_reducible first | exact HB.out | apply below_alloc | apply pw_below_drewN | apply below_drew1 | refine below_set ?_ GE470.out) | exact HB.out)) hb); clear BK470; clear HB; have BK470 := n0_; have HB := n1_; clear n0_ n1_; (try clear hb); (try clear hb2); (try clear hk); (try clear hi)))
          go_ret2
          exact ⟨_, by first | rfl | (simp [errW_none, errW_some] <;> rfl) | (simp [*, errW_none, errW_some] <;> rfl), by first | exact Kd.R_nil _ _ _ _ _ | exact Kd.N_nil _ _ _ _ _ | exact Kd.V_nil _ _ _ _ _ | exact Kd.Q_nil _ _ _ _ _ | exact Kd.S_nil _ _ _ _ _, by repeat (first | (with_reducible first | exact HB.out | apply below_alloc | apply pw_below_drewN | apply below_drew1 | refine below_set ?_ GE470.out) | exact HB.out)⟩
        · rw [if_neg c7] at H
          have c7b0 : decide (t471 < 0) = false := decide_eq_false c7
          clear c7
          have H' := Aside0.mk H
          clear H
          have hcz10_0 : wr.cell? ⟨gb470, 0, none⟩ = some (.slice A0_0 l0_0.length c0_0) := (blk_cell BK470.out 0).trans rfl
          have hfz10_0 := blk_frozen BK470.out 0
          go_wp2_with (first | ((with_reducible refine gate_callee (f := 103) rfl ?_); refine goesL_ (some 21) rfl rfl Try.func103 (by kernel_rfl) rfl #[.agg #[.slice A0_0 l0_0.length c0_0], .slice A1 l1.length c1, .int .i64 x2_1] rfl (by (try simp only [List.map_toArray, List.map_cons, List.map_nil]); first | done | rfl | (simp only [List.length_drop, List.length_take]; rfl)) ?_; (with_reducible refine (spec_trNext.calls _ _ l0_0 _ _ l1 x2_1 t471 _ ?side1 ?side2 ?side3 ?side4 A6.out).mono ?_); (case side1 => repeat (first | exact (Kd.C_below HR0_0.out HB.out) | (with_reducible refine Kd.C_alloc ?_ _) | (with_reducible refine Kd.C_drewN ?_ _) | (with_reducible refine Kd.C_drew ?_))); (case side2 => exact HC0_0.out); (case side3 => repeat (first | exact (Kd.C_below HR1.out HB.out) | (with_reducible refine Kd.C_alloc ?_ _) | (with_reducible refine Kd.C_drewN ?_ _) | (with_reducible refine Kd.C_drew ?_))); (case side4 => exact HC1.out); rintro e w11 ⟨rfl, hb⟩; refine ⟨_, rfl, ?_⟩; have n0_ := Aside0.mk (blk_below (g := gb470) (o := .cells #[.slice A0_0 l0_0.length c0_0] 28 (0, 0)) (by (with_reducible repeat (first | refine blk_drewN ?_ _ | refine blk_drew ?_ | refine blk_alloc ?_ _)); exact BK470.out) hb); have n1_ := Aside0.mk (below_step (by repeat (first | (with_reducible first | exact HB.out | apply below_alloc | apply pw_below_drewN | apply below_drew1 | refine below_set ?_ GE470.out) | exact HB.out)) hb); clear BK470; clear HB; have BK470 := n0_; have HB := n1_; clear n0_ n1_; (try clear hb); (try clear hb2); (try clear hk); (try clear hi)))
          go_roundg k1
          case measure => have := HK1.out; omega
          case rel => exact ⟨(t471), (wrap64 (x8_1 + 1)), (by first | rfl | (simp; done) | (simp [*]; done)), (by first | rfl | (simp; done) | (simp [*]; done)), H', ⟨by have := HK1.out; omega⟩, ⟨by (with_reducible repeat (first | refine blk_drewN ?_ _ | refine blk_drew ?_ | refine blk_alloc ?_ _)); exact BK470.out⟩, ⟨by repeat (first | (with_reducible first | exact HB.out | apply below_alloc | apply pw_below_drewN | apply below_drew1 | refine below_set ?_ GE470.out) | exact HB.out)⟩⟩
      · rw [if_neg c5] at H
        have c5b0 : decide (x8_1 < (l0_0.length : Int)) = false := decide_eq_false c5
        clear c5
        obtain ⟨y472, hy472⟩ : ∃ y_ : List Int, y_ = (([x2_1] : List Int)) := ⟨_, rfl⟩
        replace H : ((spec_trNext.f l0_0 l1 x2_1).bind fun t475 => (spec_trCycle.l1 k1 l1 x2_1 y472 t475 l0_0)) = some (r1, r2) := by first | (rw [hy472]; with_reducible exact H) | (have H2_ := (Option.bind_some _ _).symm.trans H; rw [hy472]; with_reducible exact H2_) | (have H2_ := (Option.bind_some _ _).symm.trans H; with_reducible exact H2_) | with_reducible exact H | (rw [hy472]; exact H) | exact H
        have Ny472 := Aside0.mk hy472
        clear hy472
        replace H := Option.bind_eq_some_iff.mp H
        obtain ⟨t475, A120, H⟩ := H
        replace H : (spec_trCycle.l1 k1 l1 x2_1 y472 t475 l0_0) = some (r1, r2) := H
        have A12 := Aside0.mk A120
        clear A120
        have H' := Aside0.mk H
        clear H
        have hcz13_0 : wr.cell? ⟨gb470, 0, none⟩ = some (.slice A0_0 l0_0.length c0_0) := (blk_cell BK470.out 0).trans rfl
        have hfz13_0 := blk_frozen BK470.out 0
        go_wp2_with (first | ((with_reducible refine gate_dst (N := 25) rfl ?_); refine Kd.R_lit (Kd.int .i64) _ 3 ?hg (N := 25) ?hd (xs := ([x2_1] : List Int)) (inner := [.int .i64 x2_1]) (ok := fun _ => True) (okp := fun _ => True) ?hr ?hp (fun _ hk => hk) trivial (Below.refl _ _) (Nat.le_refl _) (by simp) ?_; (case hd => rfl); (case hg => rfl); (case hr => first | (go_simp; done) | (go_simp; rfl)); (case hp => exact (Reps.one (show Kd.M (Kd.int .i64) _ _ _ x2_1 [.int .i64 x2_1] from rfl) (Reps.none _ _))); intro v473 w14 ho15 hb hg_ hnew_; clear hg_ hnew_; (first | rw [← Ny472.out] at ho15 | (simp only [Int.reduceToNat] at ho15; rw [← Ny472.out] at ho15)); have n0_ := Aside0.mk (Kd.R_lower ho15 (below_size (by repeat (first | (with_reducible first | exact HB.out | apply below_alloc | apply pw_below_drewN | apply below_drew1 | refine below_set ?_ GE470.out) | exact HB.out)))); have n1_ := Aside0.mk (blk_below (g := gb470) (o := .cells #[.slice A0_0 l0_0.length c0_0] 28 (0, 0)) (by (with_reducible repeat (first | refine blk_drewN ?_ _ | refine blk_drew ?_ | refine blk_alloc ?_ _)); exact BK470.out) hb); have n2_ := Aside0.mk (below_step (by repeat (first | (with_reducible first | exact HB.out | apply below_alloc | apply pw_below_drewN | apply below_drew1 | refine below_set ?_ GE470.out) | exact HB.out)) hb); clear BK470; clear HB; have HO474 := n0_; have BK470 := n1_; have HB := n2_; clear n0_ n1_ n2_; clear hb ho15; have hcz16_0 : w14.cell? ⟨gb470, 0, none⟩ = some (.slice A0_0 l0_0.length c0_0) := (blk_cell BK470.out 0).trans rfl; have hfz16_0 := blk_frozen BK470.out 0) | ((with_reducible refine gate_callee (f := 103) rfl ?_); refine goesL_ (some 29) rfl rfl Try.func103 (by kernel_rfl) rfl #[.agg #[.slice A0_0 l0_0.length c0_0], .slice A1 l1.length c1, .int .i64 x2_1] rfl (by (try simp only [List.map_toArray, List.map_cons, List.map_nil]); first | done | rfl | (simp only [List.length_drop, List.length_take]; rfl)) ?_; (with_reducible refine (spec_trNext.calls _ _ l0_0 _ _ l1 x2_1 t475 _ ?side1 ?side2 ?side3 ?side4 A12.out).mono ?_); (case side1 => repeat (first | exact (Kd.C_below HR0_0.out HB.out) | (with_reducible refine Kd.C_alloc ?_ _) | (with_reducible refine Kd.C_drewN ?_ _) | (with_reducible refine Kd.C_drew ?_))); (case side2 => exact HC0_0.out); (case side3 => repeat (first | exact (Kd.C_below HR1.out HB.out) | (with_reducible refine Kd.C_alloc ?_ _) | (with_reducible refine Kd.C_drewN ?_ _) | (with_reducible refine Kd.C_drew ?_))); (case side4 => exact HC1.out); rintro e w17 ⟨rfl, hb⟩; refine ⟨_, rfl, ?_⟩; have n0_ := Aside0.mk (Kd.R_below (by (with_reducible repeat (first | apply Kd.R_alloc | apply Kd.R_drewN | apply Kd.R_drew)); exact HO474.out) hb); have n1_ := Aside0.mk (blk_below (g := gb470) (o := .cells #[.slice A0_0 l0_0.length c0_0] 28 (0, 0)) (by (with_reducible repeat (first | refine blk_drewN ?_ _ | refine blk_drew ?_ | refine blk_alloc ?_ _)); exact BK470.out) hb); have n2_ := Aside0.mk (below_step (by repeat (first | (with_reducible first | exact HB.out | apply below_alloc | apply pw_below_drewN | apply below_drew1 | refine below_set ?_ GE470.out) | exact HB.out)) hb); clear HO474; clear BK470; clear HB; have HO474 := n0_; have BK470 := n1_; have HB := n2_; clear n0_ n1_ n2_; (try clear hb); (try clear hb2); (try clear hk); (try clear hi)))
        go_loopg [9, 10] k1 (fun kq v9 v10 w' => ∃ (x9_2 : List Int) (x10_2 : Int), v10 = .int .i64 x10_2 ∧ Aside0 (spec_trCycle.l1 kq l1 x2_1 x9_2 x10_2 l0_0 = some (r1, r2)) ∧ Aside0 (kq ≤ k1) ∧ Aside0 (Kd.R (Kd.int .i64) 3 w' w.heap.size (fun _ => True) v9 x9_2) ∧ Aside0 (w'.heap[gb470]? = some (.cells #[(.slice A0_0 l0_0.length c0_0)] 28 (0, 0))) ∧ Aside0 (Below w.heap.size w w'))
        case atStart => exact ⟨(y472), (t475), (by first | rfl | (simp; done) | (simp [*]; done)), H', ⟨Nat.le_refl _⟩, ⟨by (with_reducible repeat (first | apply Kd.R_alloc | apply Kd.R_drewN | apply Kd.R_drew)); exact HO474.out⟩, ⟨by (with_reducible repeat (first | refine blk_drewN ?_ _ | refine blk_drew ?_ | refine blk_alloc ?_ _)); exact BK470.out⟩, ⟨by repeat (first | (with_reducible first | exact HB.out | apply below_alloc | apply pw_below_drewN | apply below_drew1 | refine below_set ?_ GE470.out) | exact HB.out)⟩⟩
        case round =>
          clear H'
          try clear c1
          try clear p2
          try clear c5
          try clear c5b0
          try clear p6
          try clear c7
          try clear c7b0
          try clear c10
          try clear hcz10_0
          try clear hcz13_0
          try clear hcz16_0
          try clear hcz8_0
          try clear hfz10_0
          try clear hfz13_0
          try clear hfz16_0
          try clear hfz8_0
          try clear p2
          obtain ⟨x9_2, x10_2, rfl, HA, HK2, HO_9, BK470, HB⟩ := hrel
          cases gk with
          | zero => exact absurd HA.out (by simp [spec_trCycle.l1])
          | succ k2 =>
            have H := HA.out
            clear HA
            simp only [spec_trCycle.l1] at H
            by_cases c18 : x10_2 = x2_1
            · rw [if_pos c18] at H
              have c18b0 : (x10_2 == x2_1) = true := beq_iff_eq.mpr c18
              have c18b1 : (x10_2 != x2_1) = false := bne_eq_false_iff_eq.mpr c18
              clear c18
              simp only [Option.some.injEq, Prod.mk.injEq] at H
              obtain ⟨rfl, rfl⟩ := H
              go_wp2
              go_ret2
              exact ⟨_, by first | rfl | (simp [errW_none, errW_some] <;> rfl) | (simp [*, errW_none, errW_some] <;> rfl), by (with_reducible repeat (first | apply Kd.R_alloc | apply Kd.R_drewN | apply Kd.R_drew)); exact HO_9.out, by repeat (first | (with_reducible first | exact HB.out | apply below_alloc | apply pw_below_drewN | apply below_drew1 | refine below_set ?_ GE470.out) | exact HB.out)⟩
            · rw [if_neg c18] at H
              have c18b0 : (x10_2 == x2_1) = false := beq_eq_false_iff_ne.mpr c18
              have c18b1 : (x10_2 != x2_1) = true := bne_iff_ne.mpr c18
              by_cases c19 : x9_2.length < 17592186044416
              · rw [if_pos c19] at H
                have LMc19 := Aside0.mk c19
                clear c19
                obtain ⟨y476, hy476⟩ : ∃ y_ : List Int, y_ = (x9_2 ++ [x10_2]) := ⟨_, rfl⟩
                replace H : ((spec_trNext.f l0_0 l1 x10_2).bind fun t479 => (spec_trCycle.l1 k2 l1 x2_1 y476 t479 l0_0)) = some (r1, r2) := by first | (rw [hy476]; with_reducible exact H) | (have H2_ := (Option.bind_some _ _).symm.trans H; rw [hy476]; with_reducible exact H2_) | (have H2_ := (Option.bind_some _ _).symm.trans H; with_reducible exact H2_) | with_reducible exact H | (rw [hy476]; exact H) | exact H
                have Ny476 := Aside0.mk hy476
                clear hy476
                replace H := Option.bind_eq_some_iff.mp H
                obtain ⟨t479, A200, H⟩ := H
                replace H : (spec_trCycle.l1 k2 l1 x2_1 y476 t479 l0_0) = some (r1, r2) := H
                have A20 := Aside0.mk A200
                clear A200
                have H' := Aside0.mk H
                clear H
                go_wp2_with (first | ((with_reducible refine gate_builtin (b := .append) (xs := #[.tmp 37, .tmp 39]) rfl ?_); at_builtin; refine Kd.R_append (Kd.int .i64) (w0 := w) w.heap.size rfl (.tmp 37) (.tmp 39) 35 3 (.int .i64 0) 8 rfl Try.underlying35 info3 rfl (by decide) (by omega) u9 x9_2 x10_2 [.int .i64 x10_2] (fun _ => True) (fun _ => False) rfl rfl ?aP (fun _ hk => hk.elim) ?aF ?aO ?aB ?aS ?aL ?_; (case aP => exact rfl); (case aB => exact (by repeat (first | (with_reducible first | exact HB.out | apply below_alloc | apply pw_below_drewN | apply below_drew1 | refine below_set ?_ GE470.out) | exact HB.out))); (case aF => exact (fun _ _ => trivial)); (case aO => exact (by (with_reducible repeat (first | apply Kd.R_alloc | apply Kd.R_drewN | apply Kd.R_drew)); exact HO_9.out)); (case aS => exact (below_size (by repeat (first | (with_reducible first | exact HB.out | apply below_alloc | apply pw_below_drewN | apply below_drew1 | refine below_set ?_ GE470.out) | exact HB.out)))); (case aL => have := LMc19.out; omega); intro v477 w21 ho hb hg hat; rw [← Ny476.out] at ho; have n0_ := Aside0.mk (blk_grown (g := gb470) (o := .cells #[.slice A0_0 l0_0.length c0_0] 28 (0, 0)) (by (with_reducible repeat (first | refine blk_drewN ?_ _ | refine blk_drew ?_ | refine blk_alloc ?_ _)); exact BK470.out) hg (Kd.R_ne HO_9.out BK470.out (by decide))); have n1_ := Aside0.mk (hb); have n2_ := Aside0.mk (ho); clear BK470; clear HB; clear HO_9; have BK470 := n0_; have HB := n1_; have HO478 := n2_; clear n0_ n1_ n2_; clear ho hb hg hat; have hcz22_0 : w21.cell? ⟨gb470, 0, none⟩ = some (.slice A0_0 l0_0.length c0_0) := (blk_cell BK470.out 0).trans rfl; have hfz22_0 := blk_frozen BK470.out 0) | ((with_reducible refine gate_callee (f := 103) rfl ?_); refine goesL_ (some 36) rfl rfl Try.func103 (by kernel_rfl) rfl #[.agg #[.slice A0_0 l0_0.length c0_0], .slice A1 l1.length c1, .int .i64 x10_2] rfl (by (try simp only [List.map_toArray, List.map_cons, List.map_nil]); first | done | rfl | (simp only [List.length_drop, List.length_take]; rfl)) ?_; (with_reducible refine (spec_trNext.calls _ _ l0_0 _ _ l1 x10_2 t479 _ ?side1 ?side2 ?side3 ?side4 A20.out).mono ?_); (case side1 => repeat (first | exact (Kd.C_below HR0_0.out HB.out) | (with_reducible refine Kd.C_alloc ?_ _) | (with_reducible refine Kd.C_drewN ?_ _) | (with_reducible refine Kd.C_drew ?_))); (case side2 => exact HC0_0.out); (case side3 => repeat (first | exact (Kd.C_below HR1.out HB.out) | (with_reducible refine Kd.C_alloc ?_ _) | (with_reducible refine Kd.C_drewN ?_ _) | (with_reducible refine Kd.C_drew ?_))); (case side4 => exact HC1.out); rintro e w23 ⟨rfl, hb⟩; refine ⟨_, rfl, ?_⟩; have n0_ := Aside0.mk (Kd.R_below (by (with_reducible repeat (first | apply Kd.R_alloc | apply Kd.R_drewN | apply Kd.R_drew)); exact HO478.out) hb); have n1_ := Aside0.mk (blk_below (g := gb470) (o := .cells #[.slice A0_0 l0_0.length c0_0] 28 (0, 0)) (by (with_reducible repeat (first | refine blk_drewN ?_ _ | refine blk_drew ?_ | refine blk_alloc ?_ _)); exact BK470.out) hb); have n2_ := Aside0.mk (below_step (by repeat (first | (with_reducible first | exact HB.out | apply below_alloc | apply pw_below_drewN | apply below_drew1 | refine below_set ?_ GE470.out) | exact HB.out)) hb); clear HO478; clear BK470; clear HB; have HO478 := n0_; have BK470 := n1_; have HB := n2_; clear n0_ n1_ n2_; (try clear hb); (try clear hb2); (try clear hk); (try clear hi)))
                go_roundg k2
                case measure => have := HK1.out; have := HK2.out; omega
                case rel => exact ⟨(y476), (t479), (by first | rfl | (simp; done) | (simp [*]; done)), H', ⟨by have := HK1.out; have := HK2.out; omega⟩, ⟨by (with_reducible repeat (first | apply Kd.R_alloc | apply Kd.R_drewN | apply Kd.R_drew)); exact HO478.out⟩, ⟨by (with_reducible repeat (first | refine blk_drewN ?_ _ | refine blk_drew ?_ | refine blk_alloc ?_ _)); exact BK470.out⟩, ⟨by repeat (first | (with_reducible first | exact HB.out | apply below_alloc | apply pw_below_drewN | apply below_drew1 | refine below_set ?_ GE470.out) | exact HB.out)⟩⟩
              · rw [if_neg c19] at H
                exact absurd H (by simp)

end Go.Proofs.Ytnphoaecjeenjaa.P
namespace Go.Proofs.Ytnphoaecjeenjaa.P
open Go.RowKit Go.Proofs.YtnphoaecjeenjaaW.PrintWords Go.Proofs.YtnphoaecjeenjaaW.PrintLast Go.Proofs.YtnphoaecjeenjaaW.PrintMore
attribute [local go_sem] max2_int min2_int max_two min_two max_three min_three max_four min_four   -- for this text's walks alone
set_option linter.unusedVariables false
set_option linter.unusedSimpArgs false

/-! ### spec_l1Has: function 109 -/
def spec_l1Has.l0 : Nat → Int → List Int → Int → Int → Option (Bool)
  | 0, _, _, _, _ => none
  | k + 1, x1, x7, x8, x9 => if x9 < x8 then (if 0 ≤ x9 then (if x9 < (x7.length : Int) then (if (rd x7 x9) = x1 then (some true) else (spec_l1Has.l0 k x1 x7 x8 (wrap64 (x9 + 1)))) else (none)) else (none)) else (some false)
def spec_l1Has.f (k : Nat) (l0 : List Int) (a1 : Int) : Option (Bool) := spec_l1Has.l0 k a1 l0 (l0.length : Int) 0
theorem spec_l1Has.mono_l : ∀ k, (∀ y0 y1 y2 y3, LeO (spec_l1Has.l0 k y0 y1 y2 y3) (spec_l1Has.l0 (k + 1) y0 y1 y2 y3))
  | 0 => fun _ _ _ _ r h => by simp [spec_l1Has.l0] at h
  | k + 1 => by
    have ih0 := spec_l1Has.mono_l k
    · intro y0 y1 y2 y3
      unfold spec_l1Has.l0
      repeat' first
      | (with_reducible exact ih0 _ _ _ _)
      | (with_reducible exact LeO.refl _)
      | (with_reducible exact LeO.none _)
      | (with_reducible refine LeO.ite ?_ ?_)
      | (with_reducible refine LeO.bind ?_ (fun _ => ?_))
      | exact ih0 _ _ _ _
      | exact LeO.none _
      | refine LeO.ite ?_ ?_
      | refine LeO.bind ?_ (fun _ => ?_)
theorem spec_l1Has.mono : ∀ a0 a1 k, LeO (spec_l1Has.f k a0 a1) (spec_l1Has.f (k + 1) a0 a1) := by
  intro a0 a1 k
  have ih0 := spec_l1Has.mono_l k
  unfold spec_l1Has.f
  repeat' first
      | (with_reducible exact ih0 _ _ _ _)
      | (with_reducible exact LeO.refl _)
      | (with_reducible exact LeO.none _)
      | (with_reducible refine LeO.ite ?_ ?_)
      | (with_reducible refine LeO.bind ?_ (fun _ => ?_))
      | exact ih0 _ _ _ _
      | exact LeO.none _
      | refine LeO.ite ?_ ?_
      | refine LeO.bind ?_ (fun _ => ?_)
set_option maxHeartbeats 8000000 in
set_option maxRecDepth 100000 in
theorem spec_l1Has.calls (k : Nat) (A0 : Option Addr) (c0 : Nat) (l0 : List Int) (a1 : Int) (r : Bool) (w : World) (hr0 : Kd.C (Kd.int .i64) w A0 l0.length l0) (hc0 : l0.length ≤ c0) (h : spec_l1Has.f k l0 a1 = some r) :
    Calls Try.prog 109 #[.slice A0 l0.length c0, .int .i64 a1] w fun e w' => e = .returned (.bool r) ∧ Drawn0 w w' := by
  have HR0 := Aside0.mk hr0
  have HC0 := Aside0.mk hc0
  clear hr0 hc0
  have H : (spec_l1Has.l0 k a1 l0 (l0.length : Int) 0) = some r := h
  clear h
  have H' := Aside0.mk H
  clear H
  go_enter Try.func109, Try.ntmps109
  go_wp2
  go_loopg [9] k (fun kq v9 w' => ∃ (x9_1 : Int), v9 = .int .i64 x9_1 ∧ Aside0 (spec_l1Has.l0 kq a1 l0 (l0.length : Int) x9_1 = some r) ∧ Aside0 (kq ≤ k) ∧ Drawn0 w w')
  case atStart => exact ⟨(0), (by first | rfl | (simp; done) | (simp [*]; done)), H', ⟨Nat.le_refl _⟩, by repeat (first | exact Drawn0.refl _ | apply Drawn0.step)⟩
  case round =>
    clear H'
    try clear c1
    try clear p2
    obtain ⟨x9_1, rfl, HA, HK1, ⟨m1, rfl⟩⟩ := hrel
    cases gk with
    | zero => exact absurd HA.out (by simp [spec_l1Has.l0])
    | succ k1 =>
      have H := HA.out
      clear HA
      simp only [spec_l1Has.l0] at H
      by_cases c3 : x9_1 < (l0.length : Int)
      · rw [if_pos c3] at H
        have c3b0 : decide (x9_1 < (l0.length : Int)) = true := decide_eq_true c3
        clear c3
        by_cases c4 : 0 ≤ x9_1
        · rw [if_pos c4] at H
          have c4b0 : decide (0 ≤ x9_1) = true := decide_eq_true c4
          clear c4
          by_cases c5 : x9_1 < (l0.length : Int)
          · rw [if_pos c5] at H
            have c5b0 : decide (x9_1 < (l0.length : Int)) = true := decide_eq_true c5
            clear c5
            by_cases c6 : (rd l0 x9_1) = a1
            · rw [if_pos c6] at H
              have c6b0 : ((rd l0 x9_1) == a1) = true := beq_iff_eq.mpr c6
              have c6b1 : ((rd l0 x9_1) != a1) = false := bne_eq_false_iff_eq.mpr c6
              clear c6
              obtain rfl := Option.some.inj H
              have p480 : 0 ≤ (x9_1 : Int) := of_decide_eq_true (by first | (with_reducible assumption) | assumption)
              have q480 : x9_1 < (l0.length : Int) := of_decide_eq_true (by first | (with_reducible assumption) | assumption)
              obtain ⟨ad480, e480, hx480_0⟩ := Kd.at_int HR0.out x9_1 p480 q480
              cases e480
              replace p480 := eq_true p480
              replace q480 := eq_true q480
              go_wp2
              go_ret
              exact ⟨by first | rfl | (simp; done) | (simp [*]; done), by repeat (first | exact Drawn0.refl _ | apply Drawn0.step)⟩
            · rw [if_neg c6] at H
              have c6b0 : ((rd l0 x9_1) == a1) = false := beq_eq_false_iff_ne.mpr c6
              have c6b1 : ((rd l0 x9_1) != a1) = true := bne_iff_ne.mpr c6
              have H' := Aside0.mk H
              clear H
              have p480 : 0 ≤ (x9_1 : Int) := of_decide_eq_true (by first | (with_reducible assumption) | assumption)
              have q480 : x9_1 < (l0.length : Int) := of_decide_eq_true (by first | (with_reducible assumption) | assumption)
              obtain ⟨ad480, e480, hx480_0⟩ := Kd.at_int HR0.out x9_1 p480 q480
              cases e480
              replace p480 := eq_true p480
              replace q480 := eq_true q480
              go_wp2
              go_roundg k1
              case measure => have := HK1.out; omega
              case rel => exact ⟨(wrap64 (x9_1 + 1)), (by first | rfl | (simp; done) | (simp [*]; done)), H', ⟨by have := HK1.out; omega⟩, by repeat (first | exact Drawn0.refl _ | apply Drawn0.step)⟩
          · rw [if_neg c5] at H
            exact absurd H (by simp)
        · rw [if_neg c4] at H
          exact absurd H (by simp)
      · rw [if_neg c3] at H
        have c3b0 : decide (x9_1 < (l0.length : Int)) = false := decide_eq_false c3
        clear c3
        obtain rfl := Option.some.inj H
        go_wp2
        go_ret
        exact ⟨by first | rfl | (simp; done) | (simp [*]; done), by repeat (first | exact Drawn0.refl _ | apply Drawn0.step)⟩

end Go.Proofs.Ytnphoaecjeenjaa.P
namespace Go.Proofs.Ytnphoaecjeenjaa.M
open Go.RowKit Go.Proofs.Ytnphoaecjeenjaa.P Go.Proofs.Ytnphoaecjeenjaa.In Go.Proofs.YtnphoaecjeenjaaW.PrintWords Go.Proofs.YtnphoaecjeenjaaW.PrintLast
set_option linter.unusedVariables false
set_option linter.unusedSimpArgs false
def nx (g : List (List Int)) (rot : List Int) (p : Int) : Int := if ((rd_L1 g p).length : Int) = 0 then -1 else rd (rd_L1 g p) (rd rot p)
theorem rot_at : ∀ (rot : List Int) (g : List (List Int)), rotB rot g = true → ∀ (i : Nat) (h1 : i < rot.length) (h2 : i < g.length), 0 ≤ rot[i] ∧ (rot[i] < (g[i].length : Int) ∨ rot[i] = 0) := by
  intro rot
  induction rot with
  | nil => intro g h i h1; simp at h1
  | cons r rot ih =>
    intro g h i h1 h2
    cases g with
    | nil => simp at h2
    | cons row g =>
      simp only [rotB, Bool.and_eq_true, decide_eq_true_eq] at h
      cases i with
      | zero =>
        simp only [List.getElem_cons_zero]
        have := h.1; unfold mx at this; split at this <;> omega
      | succ i =>
        simp only [List.getElem_cons_succ]
        exact ih g h.2 i (by simpa using h1) (by simpa using h2)
theorem rot_rd {g : List (List Int)} {rot : List Int} (hr : rotB rot g = true) (hl : rot.length = g.length) {p : Int} (h0 : 0 ≤ p) (h1 : p < (g.length : Int)) : 0 ≤ rd rot p ∧ (((rd_L1 g p).length : Int) = 0 ∨ rd rot p < ((rd_L1 g p).length : Int)) := by
  have := rot_at rot g hr p.toNat (by omega) (by omega)
  rw [rd_get h0 (by omega), rdL_get h0 h1]
  omega
theorem next_eq {g : List (List Int)} {rot : List Int} (hr : rotB rot g = true) (hl : rot.length = g.length) {p : Int} (h0 : 0 ≤ p) (h1 : p < (g.length : Int)) : impl_Graph_next.f g rot p = some (nx g rot p) := by
  obtain ⟨a, b⟩ := rot_rd hr hl h0 h1
  unfold impl_Graph_next.f nx
  rw [if_pos h0, if_pos h1]
  by_cases h : ((rd_L1 g p).length : Int) = 0
  · rw [if_pos h, if_pos h]
  · rw [if_neg h, if_neg h, if_pos (by omega), if_pos a, if_pos (by omega)]
theorem trNext_eq {g : List (List Int)} {rot : List Int} (hr : rotB rot g = true) (hl : rot.length = g.length) {p : Int} (h0 : 0 ≤ p) (h1 : p < (g.length : Int)) : spec_trNext.f g rot p = some (nx g rot p) := by
  obtain ⟨a, b⟩ := rot_rd hr hl h0 h1
  unfold spec_trNext.f nx
  rw [if_pos h0, if_pos h1]
  by_cases h : ((rd_L1 g p).length : Int) = 0
  · rw [if_pos h, if_pos h]
  · rw [if_neg h, if_neg h, if_pos (by omega), if_pos a, if_pos (by omega)]
theorem nx_lt {g : List (List Int)} (hg : goodG g = true) {rot : List Int} (hr : rotB rot g = true) (hl : rot.length = g.length) {p : Int} (h0 : 0 ≤ p) (h1 : p < (g.length : Int)) : nx g rot p < (g.length : Int) ∧ -1 ≤ nx g rot p := by
  obtain ⟨a, b⟩ := rot_rd hr hl h0 h1
  have hrow := ((good_iff hg).2 (rd_L1 g p) (by rw [rdL_get h0 h1]; exact List.getElem_mem _)).2
  unfold nx
  split
  · omega
  · have := hrow (rd (rd_L1 g p) (rd rot p)) (by rw [rd_get a (by omega)]; exact List.getElem_mem _)
    omega

def find : List Int → Int → Nat → Int
  | [], _, _ => -1
  | y :: ys, x, i => if x = y then (i : Int) else find ys x (i + 1)
theorem find_no : ∀ (l : List Int) (x : Int) (i : Nat), x ∉ l → find l x i = -1 := by
  intro l
  induction l with
  | nil => intro x i _; rfl
  | cons y ys ih =>
    intro x i h
    simp only [List.mem_cons, not_or] at h
    simp only [find]; rw [if_neg h.1]; exact ih x (i + 1) h.2
theorem find_at : ∀ (l : List Int) (i s : Nat) (hs : s < l.length), l.Nodup → find l l[s] i = ((i + s : Nat) : Int) := by
  intro l
  induction l with
  | nil => intro i s hs; simp at hs
  | cons y ys ih =>
    intro i s hs hn
    rw [List.nodup_cons] at hn
    cases s with
    | zero => simp [find]
    | succ s =>
      simp only [List.getElem_cons_succ, find]
      have hs2 : s < ys.length := by simpa using hs
      rw [if_neg (fun (e : ys[s] = y) => hn.1 (by rw [← e]; exact List.getElem_mem _)), ih (i + 1) s hs2 hn.2]
      congr 1; omega
theorem find_in : ∀ (l : List Int) (x : Int) (i : Nat), x ∈ l → 0 ≤ find l x i := by
  intro l
  induction l with
  | nil => intro x i h; cases h
  | cons y ys ih =>
    intro x i h
    simp only [find]
    split
    · omega
    · rcases List.mem_cons.1 h with h2 | h2
      · contradiction
      · exact ih x (i + 1) h2
theorem index_l0 (l : List Int) (x : Int) (hl : l.length ≤ 4611686018427387904) : ∀ (d i : Nat), l.length - i = d → i ≤ l.length → Ev (fun k => slices_Index_int_int.l0 k l x l.length i) (find (l.drop i) x i) := by
  intro d
  induction d with
  | zero =>
    intro i hd hi
    refine Ev.succ ?_
    simp only [slices_Index_int_int.l0]
    rw [List.drop_of_length_le (by omega)]
    exact Ev.neg (by omega) (Ev.now _)
  | succ d ih =>
    intro i hd hi
    have hlt : i < l.length := by omega
    refine Ev.succ ?_
    simp only [slices_Index_int_int.l0]
    rw [List.drop_eq_getElem_cons hlt]
    simp only [find]
    refine Ev.pos (by omega) (Ev.pos (by omega) (Ev.pos (by omega) ?_))
    rw [rd_at hlt]
    by_cases h : x = l[i]
    · rw [if_pos h]; exact Ev.pos h (Ev.now _)
    · rw [if_neg h]
      refine Ev.neg h ?_
      rw [wrap_nat (by omega)]
      exact ih (i + 1) (by omega) (by omega)
theorem index_ev (l : List Int) (x : Int) (hl : l.length ≤ 4611686018427387904) : Ev (fun k => slices_Index_int_int.f k l x) (find l x 0) := by
  unfold slices_Index_int_int.f
  exact index_l0 l x hl l.length 0 (by omega) (by omega)
theorem contains_ev (l : List Int) (x : Int) (hl : l.length ≤ 4611686018427387904) : Ev (fun k => slices_Contains_int_int.f k l x) (decide (x ∈ l)) := by
  unfold slices_Contains_int_int.f
  refine Ev.bind (index_ev l x hl) ((Ev.now _).val ?_)
  by_cases h : x ∈ l
  · rw [decide_eq_true h, decide_eq_true (find_in l x 0 h)]
  · rw [decide_eq_false h, find_no l x 0 h]; rfl
theorem l1Has_l0 (l : List Int) (x : Int) (hl : l.length ≤ 4611686018427387904) : ∀ (d i : Nat), l.length - i = d → i ≤ l.length → Ev (fun k => spec_l1Has.l0 k x l l.length i) (decide (x ∈ l.drop i)) := by
  intro d
  induction d with
  | zero =>
    intro i hd hi
    refine Ev.succ ?_
    simp only [spec_l1Has.l0]
    rw [List.drop_of_length_le (by omega)]
    exact Ev.neg (by omega) ((Ev.now _).val (by simp))
  | succ d ih =>
    intro i hd hi
    have hlt : i < l.length := by omega
    refine Ev.succ ?_
    simp only [spec_l1Has.l0]
    rw [List.drop_eq_getElem_cons hlt]
    refine Ev.pos (by omega) (Ev.pos (by omega) (Ev.pos (by omega) ?_))
    rw [rd_at hlt]
    by_cases h : l[i] = x
    · exact Ev.pos h ((Ev.now _).val (by simp only [List.mem_cons, h, true_or, decide_true]))
    · refine Ev.neg h ?_
      rw [wrap_nat (by omega)]
      refine (ih (i + 1) (by omega) (by omega)).val ?_
      have : x ≠ l[i] := fun e => h e.symm
      simp only [List.mem_cons, this, false_or]
theorem l1Has_ev (l : List Int) (x : Int) (hl : l.length ≤ 4611686018427387904) : Ev (fun k => spec_l1Has.f k l x) (decide (x ∈ l)) := by
  unfold spec_l1Has.f
  exact l1Has_l0 l x hl l.length 0 (by omega) (by omega)

/-- Rotors of a graph. -/
structure Rot (g : List (List Int)) (rot : List Int) : Prop where
  good : goodG g = true
  rb : rotB rot g = true
  len : rot.length = g.length
theorem Rot.of_walk {g : List (List Int)} {rot : List Int} {a : Int} (h : walkB g rot a = true) : Rot g rot ∧ 0 ≤ a ∧ a < (g.length : Int) := by
  unfold walkB at h
  simp only [Bool.and_eq_true, decide_eq_true_eq] at h
  obtain ⟨hg, h0, h1⟩ := place_iff h.1
  exact ⟨⟨hg, h.2.2, h.2.1⟩, h0, h1⟩
theorem Rot.it_ok {g : List (List Int)} {rot : List Int} (h : Rot g rot) {p : Int} (h0 : 0 ≤ p) (h1 : p < (g.length : Int)) : ∀ i, (∀ j, j < i → 0 ≤ nx g rot (it (nx g rot) j p)) → 0 ≤ it (nx g rot) i p ∧ it (nx g rot) i p < (g.length : Int) := by
  intro i
  induction i with
  | zero => intro _; exact ⟨h0, h1⟩
  | succ i ih =>
    intro ha
    obtain ⟨a, b⟩ := ih (fun j hj => ha j (by omega))
    rw [it_succ]
    exact ⟨ha i (by omega), (nx_lt h.good h.rb h.len a b).1⟩
theorem Rot.orb_ok {g : List (List Int)} {rot : List Int} (h : Rot g rot) {p : Int} (h0 : 0 ≤ p) (h1 : p < (g.length : Int)) {i : Nat} (ha : ∀ j, j + 1 < i → 0 ≤ nx g rot (it (nx g rot) j p)) : ∀ x ∈ orb (nx g rot) p i, 0 ≤ x ∧ x < (g.length : Int) := by
  intro x hx
  obtain ⟨j, hj, rfl⟩ := orb_mem.1 hx
  exact h.it_ok h0 h1 j (fun m hm => ha m (by omega))
/-- The program's way: it comes to a place without exits, or it comes again. -/
theorem cycleFrom_l0 {g : List (List Int)} {rot : List Int} (h : Rot g rot) {p : Int} (h0 : 0 ≤ p) (h1 : p < (g.length : Int)) : ∀ (d i : Nat), g.length - i = d → i ≤ g.length → (orb (nx g rot) p i).Nodup → (∀ j, j < i → 0 ≤ nx g rot (it (nx g rot) j p)) →
    (∃ j, j < g.length ∧ nx g rot (it (nx g rot) j p) < 0 ∧ (∀ m, m < j → 0 ≤ nx g rot (it (nx g rot) m p)) ∧ Ev (fun k => impl_Graph_cycleFrom.l0 k rot (it (nx g rot) i p) (orb (nx g rot) p i) g) ([], false)) ∨
    (∃ s per, Rho (nx g rot) g.length p s per ∧ (∀ j, j < s + per → 0 ≤ nx g rot (it (nx g rot) j p)) ∧ Ev (fun k => impl_Graph_cycleFrom.l0 k rot (it (nx g rot) i p) (orb (nx g rot) p i) g) (orb (nx g rot) (it (nx g rot) s p) per, true)) := by
  have h8 := (good_iff h.good).1.2
  intro d
  induction d with
  | zero =>
    intro i hd hi hn ha
    have hi2 : i = g.length := by omega
    have hp := h.it_ok h0 h1 i ha
    have hm : it (nx g rot) i p ∈ orb (nx g rot) p i := by
      apply Classical.byContradiction
      intro hm
      have := pigeon g.length (orb (nx g rot) p i ++ [it (nx g rot) i p]) (nodup_snoc hn hm) (fun x hx => by
        rcases List.mem_append.1 hx with h2 | h2
        · exact h.orb_ok h0 h1 (fun j hj => ha j (by omega)) x h2
        · simp at h2; subst h2; exact hp)
      simp [orb_len] at this; omega
    right
    obtain ⟨s, hs, he⟩ := orb_mem.1 hm
    have hsp : s + (i - s) = i := by omega
    refine ⟨s, i - s, ⟨by omega, by omega, by rw [hsp]; exact hn, by rw [← it_add, hsp, he]⟩, by rw [hsp]; exact ha, ?_⟩
    refine Ev.succ ?_
    simp only [impl_Graph_cycleFrom.l0]
    refine Ev.bind (contains_ev _ _ (by rw [orb_len]; omega)) (Ev.pos (by simpa using hm) (Ev.bind (index_ev _ _ (by rw [orb_len]; omega)) ?_))
    have hfi : find (orb (nx g rot) p i) (it (nx g rot) i p) 0 = (s : Int) := by
      have := find_at (orb (nx g rot) p i) 0 s (by rw [orb_len]; exact hs) hn
      rw [orb_get hs, he] at this; simpa using this
    rw [hfi]
    refine Ev.pos (by omega) (Ev.pos (by rw [orb_len]; omega) ((Ev.now _).val ?_))
    have := orb_drop (nx g rot) p s (i - s)
    rw [hsp] at this
    rw [Int.toNat_natCast, this]
  | succ d ih =>
    intro i hd hi hn ha
    have hp := h.it_ok h0 h1 i ha
    by_cases hm : it (nx g rot) i p ∈ orb (nx g rot) p i
    · right
      obtain ⟨s, hs, he⟩ := orb_mem.1 hm
      have hsp : s + (i - s) = i := by omega
      refine ⟨s, i - s, ⟨by omega, by omega, by rw [hsp]; exact hn, by rw [← it_add, hsp, he]⟩, by rw [hsp]; exact ha, ?_⟩
      refine Ev.succ ?_
      simp only [impl_Graph_cycleFrom.l0]
      refine Ev.bind (contains_ev _ _ (by rw [orb_len]; omega)) (Ev.pos (by simpa using hm) (Ev.bind (index_ev _ _ (by rw [orb_len]; omega)) ?_))
      have hfi : find (orb (nx g rot) p i) (it (nx g rot) i p) 0 = (s : Int) := by
        have := find_at (orb (nx g rot) p i) 0 s (by rw [orb_len]; exact hs) hn
        rw [orb_get hs, he] at this; simpa using this
      rw [hfi]
      refine Ev.pos (by omega) (Ev.pos (by rw [orb_len]; omega) ((Ev.now _).val ?_))
      have := orb_drop (nx g rot) p s (i - s)
      rw [hsp] at this
      rw [Int.toNat_natCast, this]
    · by_cases hneg : nx g rot (it (nx g rot) i p) < 0
      · left
        refine ⟨i, by omega, hneg, ha, ?_⟩
        refine Ev.succ ?_
        simp only [impl_Graph_cycleFrom.l0]
        refine Ev.bind (contains_ev _ _ (by rw [orb_len]; omega)) (Ev.neg (by simpa using hm) (Ev.pos (by rw [orb_len]; omega) (Ev.bind0 (next_eq h.rb h.len hp.1 hp.2) (Ev.pos hneg (Ev.now _)))))
      · have hstep : ∀ r, Ev (fun k => impl_Graph_cycleFrom.l0 k rot (it (nx g rot) (i + 1) p) (orb (nx g rot) p (i + 1)) g) r → Ev (fun k => impl_Graph_cycleFrom.l0 k rot (it (nx g rot) i p) (orb (nx g rot) p i) g) r := by
          intro r hr
          rw [it_succ, orb_succ] at hr
          refine Ev.succ ?_
          simp only [impl_Graph_cycleFrom.l0]
          exact Ev.bind (contains_ev _ _ (by rw [orb_len]; omega)) (Ev.neg (by simpa using hm) (Ev.pos (by rw [orb_len]; omega) (Ev.bind0 (next_eq h.rb h.len hp.1 hp.2) (Ev.neg hneg hr))))
        have ha2 : ∀ j, j < i + 1 → 0 ≤ nx g rot (it (nx g rot) j p) := by
          intro j hj
          by_cases hj2 : j = i
          · subst hj2; omega
          · exact ha j (by omega)
        rcases ih (i + 1) (by omega) (by omega) (by rw [orb_succ]; exact nodup_snoc hn hm) ha2 with ⟨j, j1, j2, j3, j4⟩ | ⟨s, per, j1, j2, j3⟩
        · exact .inl ⟨j, j1, j2, j3, hstep _ j4⟩
        · exact .inr ⟨s, per, j1, j2, hstep _ j3⟩
theorem cycleFrom_ev {g : List (List Int)} {rot : List Int} (h : Rot g rot) {p : Int} (h0 : 0 ≤ p) (h1 : p < (g.length : Int)) :
    (∃ j, j < g.length ∧ nx g rot (it (nx g rot) j p) < 0 ∧ (∀ m, m < j → 0 ≤ nx g rot (it (nx g rot) m p)) ∧ Ev (fun k => impl_Graph_cycleFrom.f k g rot p) ([], false)) ∨
    (∃ s per, Rho (nx g rot) g.length p s per ∧ (∀ j, 0 ≤ nx g rot (it (nx g rot) j p)) ∧ Ev (fun k => impl_Graph_cycleFrom.f k g rot p) (orb (nx g rot) (it (nx g rot) s p) per, true)) := by
  rcases cycleFrom_l0 h h0 h1 g.length 0 (by omega) (by omega) (by simp [orb]) (fun j hj => by omega) with h2 | ⟨s, per, j1, j2, j3⟩
  · exact .inl h2
  · refine .inr ⟨s, per, j1, fun j => ?_, j3⟩
    obtain ⟨m, hm, he⟩ := orb_mem.1 (j1.all j)
    rw [← he]; exact j2 m hm
end Go.Proofs.Ytnphoaecjeenjaa.M
namespace Go.Proofs.Ytnphoaecjeenjaa.M
open Go.RowKit Go.Proofs.Ytnphoaecjeenjaa.P Go.Proofs.Ytnphoaecjeenjaa.In Go.Proofs.YtnphoaecjeenjaaW.PrintWords Go.Proofs.YtnphoaecjeenjaaW.PrintLast
set_option linter.unusedVariables false
set_option linter.unusedSimpArgs false
/-- m next places lead to the sink, not fewer. -/
structure Hit (f : Int → Int) (sink p : Int) (m : Nat) : Prop where
  at_ : it f m p = sink
  on : ∀ j, j < m → it f j p ≠ sink ∧ 0 ≤ f (it f j p)
theorem Hit.uniq {f : Int → Int} {sink p : Int} {m m' : Nat} (h : Hit f sink p m) (h' : Hit f sink p m') : m = m' := by
  rcases Nat.lt_trichotomy m m' with h2 | h2 | h2
  · exact absurd h.at_ (h'.on m h2).1
  · exact h2
  · exact absurd h'.at_ (h.on m' h2).1
theorem Hit.nodup {f : Int → Int} {sink p : Int} {m : Nat} (h : Hit f sink p m) : (orb f p (m + 1)).Nodup := by
  unfold orb
  rw [List.nodup_iff_pairwise_ne, List.pairwise_map]
  refine List.Pairwise.imp_of_mem ?_ (List.pairwise_lt_range (n := m + 1))
  intro i j hi hj hlt he
  have hj2 : j < m + 1 := List.mem_range.1 hj
  have : it f (i + (m - j)) p = sink := by
    rw [it_add, he, ← it_add, show j + (m - j) = m by omega]; exact h.at_
  exact (h.on (i + (m - j)) (by omega)).1 this
theorem Hit.lt {g : List (List Int)} {rot : List Int} (hr : Rot g rot) {sink p : Int} (h0 : 0 ≤ p) (h1 : p < (g.length : Int)) {m : Nat} (h : Hit (nx g rot) sink p m) : m < g.length := by
  have := pigeon g.length _ h.nodup (hr.orb_ok h0 h1 (fun j hj => (h.on j (by omega)).2))
  rw [orb_len] at this; omega
open Classical in
noncomputable def dst (f : Int → Int) (sink p : Int) : Int := if h : ∃ m, Hit f sink p m then ((Classical.choose h : Nat) : Int) else -1
theorem dst_hit {f : Int → Int} {sink p : Int} {m : Nat} (h : Hit f sink p m) : dst f sink p = m := by
  have he : ∃ m, Hit f sink p m := ⟨m, h⟩
  unfold dst
  rw [dif_pos he]
  have := h.uniq (Classical.choose_spec he)
  omega
theorem dst_no {f : Int → Int} {sink p : Int} (h : ¬ ∃ m, Hit f sink p m) : dst f sink p = -1 := by unfold dst; rw [dif_neg h]
theorem trFar_l0 {g : List (List Int)} {rot : List Int} (hr : Rot g rot) {sink p : Int} (h0 : 0 ≤ p) (h1 : p < (g.length : Int)) : ∀ (d i : Nat), g.length - i = d → i ≤ g.length → (∀ j, j < i → it (nx g rot) j p ≠ sink ∧ 0 ≤ nx g rot (it (nx g rot) j p)) → Ev (fun k => spec_trFar.l0 k sink rot (it (nx g rot) i p) i g) (dst (nx g rot) sink p) := by
  have h8 := (good_iff hr.good).1.2
  intro d
  induction d with
  | zero =>
    intro i hd hi ha
    refine Ev.succ ?_
    simp only [spec_trFar.l0]
    refine Ev.neg (by omega) ((Ev.now _).val ?_)
    symm; apply dst_no
    rintro ⟨m, hm⟩
    have hlt := hm.lt hr h0 h1
    exact (ha m (by omega)).1 hm.at_
  | succ d ih =>
    intro i hd hi ha
    have hp := hr.it_ok h0 h1 i (fun j hj => (ha j hj).2)
    refine Ev.succ ?_
    simp only [spec_trFar.l0]
    refine Ev.pos (by omega) ?_
    by_cases hs : it (nx g rot) i p = sink
    · exact Ev.pos hs ((Ev.now _).val (dst_hit ⟨hs, ha⟩).symm)
    · refine Ev.neg hs (Ev.bind0 (trNext_eq hr.rb hr.len hp.1 hp.2) ?_)
      by_cases hneg : nx g rot (it (nx g rot) i p) < 0
      · refine Ev.pos hneg ((Ev.now _).val ?_)
        symm; apply dst_no
        rintro ⟨m, hm⟩
        rcases Nat.lt_trichotomy m i with h2 | h2 | h2
        · exact (ha m h2).1 hm.at_
        · subst h2; exact hs hm.at_
        · have := (hm.on i h2).2; omega
      · refine Ev.neg hneg ?_
        rw [wrap_nat (by omega), ← it_succ (nx g rot) i p]
        refine ih (i + 1) (by omega) (by omega) (fun j hj => ?_)
        by_cases hj2 : j = i
        · subst hj2; exact ⟨hs, by omega⟩
        · exact ha j (by omega)
theorem trFar_ev {g : List (List Int)} {rot : List Int} (hr : Rot g rot) {sink p : Int} (h0 : 0 ≤ p) (h1 : p < (g.length : Int)) : Ev (fun k => spec_trFar.f k g sink rot p) (dst (nx g rot) sink p) :=
  trFar_l0 hr h0 h1 g.length 0 (by omega) (by omega) (fun j hj => by omega)
noncomputable def allFrom (g : List (List Int)) (rot : List Int) (sink : Int) : Nat → Nat → Bool
  | 0, _ => true
  | d + 1, i => if dst (nx g rot) sink i < 0 then false else allFrom g rot sink d (i + 1)
noncomputable def waysFrom (g : List (List Int)) (rot : List Int) (sink : Int) : Nat → Nat → List Int → List Int
  | 0, _, acc => acc
  | d + 1, i, acc => waysFrom g rot sink d (i + 1) (acc ++ [dst (nx g rot) sink i])
noncomputable def treeB (g : List (List Int)) (rot : List Int) (sink : Int) : Bool := allFrom g rot sink g.length 0
noncomputable def wayList (g : List (List Int)) (rot : List Int) (sink : Int) : List Int := waysFrom g rot sink g.length 0 []
theorem waysFrom_len (g : List (List Int)) (rot : List Int) (sink : Int) : ∀ (d i : Nat) (acc : List Int), (waysFrom g rot sink d i acc).length = acc.length + d := by
  intro d
  induction d with
  | zero => intro i acc; rfl
  | succ d ih => intro i acc; simp only [waysFrom]; rw [ih]; simp; omega
theorem trIs_l0 {g : List (List Int)} {rot : List Int} (hr : Rot g rot) (sink : Int) : ∀ (d i : Nat), g.length - i = d → i ≤ g.length → Ev (fun k => spec_trIs.l0 k sink rot g.length i g) (allFrom g rot sink d i) := by
  have h8 := (good_iff hr.good).1.2
  intro d
  induction d with
  | zero =>
    intro i hd hi
    refine Ev.succ ?_
    simp only [spec_trIs.l0]
    exact Ev.neg (by omega) (Ev.now _)
  | succ d ih =>
    intro i hd hi
    refine Ev.succ ?_
    simp only [spec_trIs.l0, allFrom]
    refine Ev.pos (by omega) (Ev.bind (trFar_ev hr (by omega) (by omega)) ?_)
    by_cases h : dst (nx g rot) sink i < 0
    · rw [if_pos h]; exact Ev.pos h (Ev.now _)
    · rw [if_neg h]
      refine Ev.neg h ?_
      rw [wrap_nat (by omega)]
      exact ih (i + 1) (by omega) (by omega)
theorem trIs_ev {g : List (List Int)} {rot : List Int} (hr : Rot g rot) (sink : Int) : Ev (fun k => spec_trIs.f k g sink rot) (treeB g rot sink) := trIs_l0 hr sink g.length 0 (by omega) (by omega)
/-- The inner way of the program, from a place on. -/
theorem treeWays_l1 {g : List (List Int)} {rot : List Int} (hr : Rot g rot) {sink p : Int} (h0 : 0 ≤ p) (h1 : p < (g.length : Int)) (acc : List Int) (hacc : acc.length ≤ 100) (x : Int) : ∀ (d i : Nat), g.length + 1 - i = d → i ≤ g.length + 1 → (∀ j, j < i → it (nx g rot) j p ≠ sink ∧ 0 ≤ nx g rot (it (nx g rot) j p)) →
    (dst (nx g rot) sink p < 0 → Ev (fun k => impl_Graph_treeWays.l1 k sink rot acc i (it (nx g rot) i p) g.length x g) ([], false)) ∧
    (¬ dst (nx g rot) sink p < 0 → ∀ r, Ev (fun k => impl_Graph_treeWays.l0 k sink rot (acc ++ [dst (nx g rot) sink p]) g.length (wrap64 (x + 1)) g) r → Ev (fun k => impl_Graph_treeWays.l1 k sink rot acc i (it (nx g rot) i p) g.length x g) r) := by
  have h8 := (good_iff hr.good).1.2
  intro d
  induction d with
  | zero =>
    intro i hd hi ha
    have hp := hr.it_ok h0 h1 i (fun j hj => (ha j hj).2)
    have hno : ¬ ∃ m, Hit (nx g rot) sink p m := by
      rintro ⟨m, hm⟩
      have hlt := hm.lt hr h0 h1
      exact (ha m (by omega)).1 hm.at_
    have hns : it (nx g rot) i p ≠ sink := fun e => hno ⟨i, e, ha⟩
    refine ⟨fun _ => ?_, fun h => absurd (dst_no hno) (by omega)⟩
    refine Ev.succ ?_
    simp only [impl_Graph_treeWays.l1]
    refine Ev.neg hns (Ev.bind0 (next_eq hr.rb hr.len hp.1 hp.2) ?_)
    by_cases hneg : nx g rot (it (nx g rot) i p) < 0
    · exact Ev.pos hneg (Ev.now _)
    · exact Ev.neg hneg (Ev.pos (by omega) (Ev.now _))
  | succ d ih =>
    intro i hd hi ha
    have hp := hr.it_ok h0 h1 i (fun j hj => (ha j hj).2)
    by_cases hs : it (nx g rot) i p = sink
    · have hh : dst (nx g rot) sink p = i := dst_hit ⟨hs, ha⟩
      refine ⟨fun h => by omega, fun _ r hrr => ?_⟩
      rw [hh] at hrr
      refine Ev.succ ?_
      simp only [impl_Graph_treeWays.l1]
      exact Ev.pos hs (Ev.pos (by omega) hrr)
    · by_cases hneg : nx g rot (it (nx g rot) i p) < 0
      · have hno : ¬ ∃ m, Hit (nx g rot) sink p m := by
          rintro ⟨m, hm⟩
          rcases Nat.lt_trichotomy m i with h2 | h2 | h2
          · exact (ha m h2).1 hm.at_
          · subst h2; exact hs hm.at_
          · have := (hm.on i h2).2; omega
        refine ⟨fun _ => ?_, fun h => absurd (dst_no hno) (by omega)⟩
        refine Ev.succ ?_
        simp only [impl_Graph_treeWays.l1]
        exact Ev.neg hs (Ev.bind0 (next_eq hr.rb hr.len hp.1 hp.2) (Ev.pos hneg (Ev.now _)))
      · have hrec := ih (i + 1) (by omega) (by omega) (fun j hj => by
          by_cases hj2 : j = i
          · subst hj2; exact ⟨hs, by omega⟩
          · exact ha j (by omega))
        have hstep : ∀ r, Ev (fun k => impl_Graph_treeWays.l1 k sink rot acc (i + 1 : Nat) (it (nx g rot) (i + 1) p) g.length x g) r → Ev (fun k => impl_Graph_treeWays.l1 k sink rot acc i (it (nx g rot) i p) g.length x g) r := by
          intro r hrr
          rw [it_succ] at hrr
          refine Ev.succ ?_
          simp only [impl_Graph_treeWays.l1]
          refine Ev.neg hs (Ev.bind0 (next_eq hr.rb hr.len hp.1 hp.2) (Ev.neg hneg (Ev.neg (by omega) ?_)))
          rw [wrap_nat (by omega)]; exact hrr
        exact ⟨fun h => hstep _ (hrec.1 h), fun h r hrr => hstep _ (hrec.2 h r hrr)⟩
theorem treeWays_l0 {g : List (List Int)} {rot : List Int} (hr : Rot g rot) (sink : Int) : ∀ (d i : Nat) (acc : List Int), g.length - i = d → i ≤ g.length → acc.length = i → Ev (fun k => impl_Graph_treeWays.l0 k sink rot acc g.length i g) (cond (allFrom g rot sink d i) (waysFrom g rot sink d i acc, true) ([], false)) := by
  have h8 := (good_iff hr.good).1.2
  intro d
  induction d with
  | zero =>
    intro i acc hd hi hac
    refine Ev.succ ?_
    simp only [impl_Graph_treeWays.l0]
    exact Ev.neg (by omega) (Ev.now _)
  | succ d ih =>
    intro i acc hd hi hac
    have hl := treeWays_l1 hr (sink := sink) (p := (i : Int)) (by omega) (by omega) acc (by omega) (i : Int) (g.length + 1) 0 (by omega) (by omega) (fun j hj => by omega)
    refine Ev.succ ?_
    simp only [impl_Graph_treeWays.l0, allFrom, waysFrom]
    refine Ev.pos (by omega) ?_
    by_cases h : dst (nx g rot) sink i < 0
    · rw [if_pos h]; exact hl.1 h
    · rw [if_neg h]
      refine hl.2 h _ ?_
      rw [wrap_nat (by omega)]
      exact ih (i + 1) _ (by omega) (by omega) (by simp; omega)
theorem treeWays_ev {g : List (List Int)} {rot : List Int} (hr : Rot g rot) (sink : Int) : Ev (fun k => impl_Graph_treeWays.f k g sink rot) (cond (treeB g rot sink) (wayList g rot sink, true) ([], false)) :=
  treeWays_l0 hr sink g.length 0 [] (by omega) (by omega) rfl
theorem isTree_ev {g : List (List Int)} {rot : List Int} (hr : Rot g rot) (sink : Int) : Ev (fun k => impl_Graph_isTree.f k g sink rot) (treeB g rot sink) := by
  unfold impl_Graph_isTree.f
  refine Ev.bind (treeWays_ev hr sink) ((Ev.now _).val ?_)
  cases h : treeB g rot sink <;> simp
theorem place_of0 {g : List (List Int)} (hg : goodG g = true) : placeB g 0 = true := by
  have := (good_iff hg).1
  unfold placeB; rw [hg]; simp; omega
/-- Are there a graph, a sink and rotors. -/
def sinkB (g : List (List Int)) (sink : Int) (rot : List Int) : Bool := placeB g sink && (decide (rot.length = g.length) && rotB rot g) && (rd rot sink == 0)
theorem Rot.of_sink {g : List (List Int)} {sink : Int} {rot : List Int} (h : sinkB g sink rot = true) : Rot g rot ∧ 0 ≤ sink ∧ sink < (g.length : Int) := by
  unfold sinkB at h
  simp only [Bool.and_eq_true, decide_eq_true_eq] at h
  obtain ⟨hg, h0, h1⟩ := place_iff h.1.1
  exact ⟨⟨hg, h.1.2.2, h.1.2.1⟩, h0, h1⟩
theorem areSink_ev (g : List (List Int)) (sink : Int) (rot : List Int) : Ev (fun k => impl_areSinkRotors.f k g sink rot) (sinkB g sink rot) := by
  unfold impl_areSinkRotors.f impl_areRotors.f sinkB
  refine Ev.bind0 (has1 g sink) ?_
  by_cases hp : placeB g sink = true
  · obtain ⟨hg, h0, h1⟩ := place_iff hp
    have hp0 : placeB g 0 = true := place_of0 hg
    refine Ev.pos hp (Ev.bind (Ev.bind (isWalk g rot 0) (Ev.now _)) ?_)
    have hw : walkB g rot 0 = (decide (rot.length = g.length) && rotB rot g) := by unfold walkB; rw [hp0]; rfl
    rw [hw]
    by_cases hr : (decide (rot.length = g.length) && rotB rot g) = true
    · have hlen : rot.length = g.length := by simp only [Bool.and_eq_true, decide_eq_true_eq] at hr; exact hr.1
      refine Ev.pos hr (Ev.pos h0 (Ev.pos (by omega) ((Ev.now _).val ?_)))
      rw [hp, hr]; simp
    · refine Ev.neg hr ((Ev.now _).val ?_)
      rw [Bool.eq_false_iff.mpr hr]; simp
  · refine Ev.neg hp ((Ev.now _).val ?_)
    rw [Bool.eq_false_iff.mpr hp]; simp
theorem trGood_ev (g : List (List Int)) (hl : okSS g) (sink : Int) (rot : List Int) : Ev (fun k => spec_trGood.f k g sink rot) (sinkB g sink rot) := by
  unfold spec_trGood.f sinkB
  refine Ev.bind (grPlace g sink hl) ?_
  by_cases hp : placeB g sink = true
  · obtain ⟨hg, h0, h1⟩ := place_iff hp
    refine Ev.pos hp (Ev.bind (waGood g hl rot sink) ?_)
    have hw : walkB g rot sink = (decide (rot.length = g.length) && rotB rot g) := by unfold walkB; rw [hp]; rfl
    rw [hw]
    by_cases hr : (decide (rot.length = g.length) && rotB rot g) = true
    · have hlen : rot.length = g.length := by simp only [Bool.and_eq_true, decide_eq_true_eq] at hr; exact hr.1
      refine Ev.pos hr (Ev.pos h0 (Ev.pos (by omega) ((Ev.now _).val ?_)))
      rw [hp, hr]; simp
    · refine Ev.neg hr ((Ev.now _).val ?_)
      rw [Bool.eq_false_iff.mpr hr]; simp
  · refine Ev.neg hp ((Ev.now _).val ?_)
    rw [Bool.eq_false_iff.mpr hp]; simp
end Go.Proofs.Ytnphoaecjeenjaa.M
namespace Go.Proofs.Ytnphoaecjeenjaa.Pure
open Go.RowKit Go.Proofs.Ytnphoaecjeenjaa.P Go.Proofs.Ytnphoaecjeenjaa.In Go.Proofs.Ytnphoaecjeenjaa.M Go.Proofs.YtnphoaecjeenjaaW.PrintWords Go.Proofs.YtnphoaecjeenjaaW.PrintLast
set_option linter.unusedVariables false
set_option linter.unusedSimpArgs false
theorem FnExactIsTree (l : List (List Int)) (hl : okSS l) (p : Int) (hp : okI p) (ro : List Int) (hro : okIs ro) : ∃ k, laws_FnExactIsTree.f k l p ro = some true := by
  refine Ev.rounds (g := fun k => laws_FnExactIsTree.f k l p ro) ?_
  unfold laws_FnExactIsTree.f
  by_cases hlen : (ro.length : Int) > 1048576
  · exact Ev.pos hlen (Ev.now _)
  refine Ev.neg hlen ?_
  obtain ⟨r, hr, hr1, hs⟩ := szGraph l hl
  refine Ev.bind hr ?_
  by_cases h : r < 0
  · exact Ev.pos h (Ev.now _)
  · have sm := hs (by omega)
    have tI := toIntS ro (by omega)
    obtain ⟨v, hS, hI⟩ : ∃ v : Bool × Bool, Ev (fun k => spec_IsTree.f k l p ro) v ∧ Ev (fun k => impl_IsTree.f k l p ro) v := by
      by_cases hg : sinkB l p ro = true
      · obtain ⟨hrot, h0, h1⟩ := Rot.of_sink hg
        refine ⟨(treeB l ro p, true), ?_, ?_⟩
        · unfold spec_IsTree.f
          exact Ev.bind (trGood_ev l hl p ro) (Ev.pos hg (Ev.bind (trIs_ev hrot p) (Ev.now _)))
        · unfold impl_IsTree.f
          exact Ev.bind (areSink_ev l p ro) (Ev.pos hg (Ev.bind (isTree_ev hrot p) (Ev.now _)))
      · refine ⟨(false, false), ?_, ?_⟩
        · unfold spec_IsTree.f
          exact Ev.bind (trGood_ev l hl p ro) (Ev.neg hg (Ev.now _))
        · unfold impl_IsTree.f
          exact Ev.bind (areSink_ev l p ro) (Ev.neg hg (Ev.now _))
    refine Ev.neg h (Ev.bind (toGraph l sm) (Ev.bind tI (Ev.bind hS (Ev.bind (toGraph l sm) (Ev.bind tI (Ev.bind hI (Ev.neg (by simp) ?_)))))))
    refine Ev.succ ?_
    simp only [laws_FnExactIsTree.j0]
    exact Ev.neg (by simp) (Ev.bind (toGraph l sm) (Ev.bind (small_eq l sm) (Ev.pos rfl (Ev.bind tI (Ev.bind ((eqIntS ro ro (by omega)).val (decide_eq_true rfl)) (Ev.pos rfl (Ev.now _)))))))
end Go.Proofs.Ytnphoaecjeenjaa.Pure
namespace Go.Proofs.Ytnphoaecjeenjaa.fnExactIsTree
open Go.ChangeShapes Go.WideShapes Go.ChangeAt Go.RowKit
open Go.ChangeMaps (open_string shut_string)
open Go.Proofs.Ytnphoaecjeenjaa.In Go.Proofs.Ytnphoaecjeenjaa.P
set_option linter.unusedVariables false
theorem own : ownKnob Try.prog.godebug = none := by kernel_rfl
theorem laidOut : laidOutB Try.prog = true := by kernel_rfl
set_option maxRecDepth 100000 in
theorem lifted (os : Os) (started : os.Started) (H : Type) (enc : TypeId × Value → H) :
    ReturnsInHanded {} Try.checked os 4 .any (Rows.fnExactIsTreeSpec.pre6 enc Try.prog Try.f4 Rows.fnExactIsTreeRow.domain false) (Rows.fnExactIsTreeSpec.post enc Try.prog Try.f4 false true false false) := by
  refine returnsInHanded_of_change_sized (C := Try.checked) own started (by kernel_rfl) Try.func4
    (ChangeSpec.witness6 (enc := enc) (C := Try.checked) false ⟨#[], #[.agg #[.slice none 0 0], .int .i64 0, .slice none 0 0], []⟩ 8 (by kernel_rfl) (by kernel_rfl) (by kernel_rfl) (by kernel_rfl)) ?_
  intro W base args ds gs before hval0 hW hcnd hsz0 _
  have hsz : (DataW.weightsEach Try.prog (Try.f4.params.toList ++ Rows.fnExactIsTreeSpec.plain.varTypes Try.prog) (ds ++ gs)).all (· ≤ reachBytes) = true := hsz0
  have hval : ∀ (j : Nat) t v, Try.f4.params[j]? = some t → args[j]? = some v → Value.okWide Try.prog W .any base t v := hval0
  have hW' := hW
  obtain ⟨p, q, hA0, hV, rfl, hfz, hnd⟩ := hW
  have hA : DataW.TrodAll enc Try.prog W 0 (fun _ => true) true Try.f4.params.toList args.toList ds p := hA0
  rw [Try.params4] at hA hval hsz
  obtain ⟨v0, vs0, d0, ds0, p0, q0, hargs, rfl, rfl, h0, r0⟩ := trodAll_cons hA
  obtain ⟨v1, vs1, d1, ds1, p1, q1, rfl, rfl, rfl, h1, r1⟩ := trodAll_cons r0
  obtain ⟨v2, vs2, d2, ds2, p2, q2, rfl, rfl, rfl, h2, r2⟩ := trodAll_cons r1
  obtain ⟨rfl, rfl, rfl⟩ := trodAll_nil r2
  obtain rfl : args = #[v0, v1, v2] := by cases args; simp_all
  obtain ⟨rfl, rfl⟩ := trodVars_none hV
  have k0 := h0
  have lt0 : ∀ x ∈ p0, x.block < W.heap.size := by obtain ⟨m, hm⟩ := k0; exact DataW.trod_lt m _ _ _ hm
  obtain ⟨A0, l0, cap0, rfl, hl0, hc0, hw0⟩ := in_graph (q := 3) Try.underlying24 (by kernel_rfl) (by kernel_rfl) rfl Try.underlying22 Try.underlying35 Try.underlying3 (by kernel_rfl) (by kernel_rfl) (hval 0 24 v0 rfl rfl) h0
  obtain ⟨a1, rfl, rfl, rfl, w1⟩ := open_int Try.underlying3 (hval 1 3 v1 rfl rfl) h1
  have k2 := h2
  have lt2 : ∀ x ∈ p2, x.block < W.heap.size := by obtain ⟨m, hm⟩ := k2; exact DataW.trod_lt m _ _ _ hm
  obtain ⟨A2, l2, cap2, rfl, hl2, hc2, hw2⟩ := in_slice (q := 3) Try.underlying35 Try.underlying3 (by kernel_rfl) (hval 2 35 v2 rfl rfl) h2
  clear hA0 hval0 hsz0 hsz
  obtain ⟨k, h⟩ := Pure.FnExactIsTree l0 (okSS_wf hc0 hw0) a1 (okI_wf w1) l2 (okIs_wf hw2)
  refine (laws_FnExactIsTree.calls k _ _ l0 a1 _ _ l2 true W hc0 hl0 hc2 hl2 h).mono fun e W' ⟨he, bel0⟩ => ?_
  have bel : Below W.heap.size W W' := bel0
  subst he
  exact ⟨_, rfl, _, _, _, [], _, [], hW', trodAll_mk1 (shut_bool Try.underlying4 _), (trodAll_cons_mk (Below.trod laidOut (by kernel_rfl) (of_decide_eq_true (by kernel_rfl)) k0 bel lt0) (trodAll_cons_mk (shut_int Try.underlying3 w1) (trodAll_cons_mk (Below.trod laidOut (by kernel_rfl) (of_decide_eq_true (by kernel_rfl)) k2 bel lt2) trodAll_mk0))), rfl, bel.frame _, fun h => by cases h⟩
theorem over : Rows.fnExactIsTreeRow.holds Try.pinned (OpenSpec.ofChange Rows.fnExactIsTreeSpec) :=
  OpenClaim.holds_of_wide 4 Try.f4 rfl rfl rfl rfl rfl rfl rfl ⟨rfl, rfl, rfl, rfl, rfl⟩ rfl rfl rfl rfl rfl (by kernel_rfl) Try.func4 (by kernel_rfl)
    (of_decide_eq_true (by kernel_rfl)) (by unfold Func.isWrapper; first | (rw [if_pos (by decide +kernel)]; kernel_rfl) | (rw [if_neg (by decide +kernel)]; exact ⟨rfl, rfl⟩))
    (fun os started H enc _ => lifted os started H enc)
theorem proved : Rows.FnExactIsTreeSaid := over
end Go.Proofs.Ytnphoaecjeenjaa.fnExactIsTree
namespace Go.Proofs.Ytnphoaecjeenjaa
/-- The law, under a short name, for the claim. -/
theorem fnExactIsTree_holds : Rows.FnExactIsTreeSaid := fnExactIsTree.proved
#print axioms fnExactIsTree_holds
end Go.Proofs.Ytnphoaecjeenjaa
