/- The law FnExactIsWalk holds for every input: the program returns what the reference returns (or what the law says), for all arguments. -/
import Derived.Test.YtjjnpllhenmdmaaMBase
import Derived.Test.YtjjnpllhenmdmaaPimplGraphlengths
import Derived.Test.YtjjnpllhenmdmaaPspecgrFar
import Derived.Test.YtjjnpllhenmdmaaPspecgrPlace
import Derived.Test.YtjjnpllhenmdmaaPimplhas
import Derived.Test.YtjjnpllhenmdmaaRIn
import Derived.Test.YtjjnpllhenmdmaaPimplisWalk
import Derived.Test.YtjjnpllhenmdmaaPspecwaGood
import Derived.Test.YtjjnpllhenmdmaaPlawsszWalk
import Derived.Test.YtjjnpllhenmdmaaPlawstoWalk
import Derived.Test.YtjjnpllhenmdmaaPlawseqWalk
import Derived.Test.YtjjnpllhenmdmaaPlawsFnExactIsWalk
import Derived.Test.YtjjnpllhenmdmaaRows
import Derived.WalkKit
import Derived.ProofKit
import Derived.OpenShut
import Derived.ShutString
import Derived.ChangeOld
import Derived.Below
import Derived.SizedLaws
import Derived.Deep.Matrix
import Derived.Lib.SmallJoins
namespace Go.Proofs.Ytjjnpllhenmdmaa.M
open Go.RowKit Go.Proofs.Ytjjnpllhenmdmaa.P Go.Proofs.Ytjjnpllhenmdmaa.In Go.Proofs.YtjjnpllhenmdmaaW.PrintWords Go.Proofs.YtjjnpllhenmdmaaW.PrintLast
set_option linter.unusedVariables false
set_option linter.unusedSimpArgs false
theorem good_iff {l : List (List Int)} (h : goodG l = true) : (1 ≤ l.length ∧ l.length ≤ 8) ∧ ∀ row ∈ l, row.length ≤ 5 ∧ ∀ q ∈ row, 0 ≤ q ∧ q < (l.length : Int) := by
  simp only [goodG, goodRow, Bool.and_eq_true, decide_eq_true_eq, List.all_eq_true] at h
  refine ⟨⟨h.1, h.2.1⟩, fun row hr => ⟨(h.2.2 row hr).1, fun q hq => ?_⟩⟩
  have := (h.2.2 row hr).2 q hq
  omega
/-- A place of a graph. -/
def placeB (l : List (List Int)) (p : Int) : Bool := goodG l && (decide (0 ≤ p) && decide (p ≤ (l.length : Int) - 1))
theorem place_iff {l : List (List Int)} {p : Int} (h : placeB l p = true) : goodG l = true ∧ 0 ≤ p ∧ p < (l.length : Int) := by
  simp only [placeB, Bool.and_eq_true, decide_eq_true_eq] at h
  exact ⟨h.1, h.2.1, by omega⟩
theorem grPlace (l : List (List Int)) (p : Int) (hl : okSS l) : Ev (fun k => spec_grPlace.f k l p) (placeB l p) := by
  unfold spec_grPlace.f
  have hll := hl.1
  refine Ev.bind (grGood l hl) ?_
  by_cases h : goodG l = true
  · refine Ev.pos h ?_
    rw [l1In, wrap_id (by omega)]
    exact Ev.bind0 rfl ((Ev.now _).val (by simp [placeB, h]))
  · exact Ev.neg h ((Ev.now _).val (by simp only [Bool.not_eq_true] at h; simp [placeB, h]))
theorem has1 (l : List (List Int)) (p : Int) : impl_has.f l [p] = some (placeB l p) := by
  unfold impl_has.f placeB; simp
theorem has2 (l : List (List Int)) (p q : Int) : impl_has.f l [p, q] = some (placeB l p && placeB l q) := by
  unfold impl_has.f placeB
  cases goodG l <;> simp

/-! how far -/
def neg : List Int → Nat
  | [] => 0
  | x :: l => (if x < 0 then 1 else 0) + neg l
theorem neg_set (o : List Int) (i : Nat) (hi : i < o.length) (h : o[i] < 0) (v : Int) (hv : 0 ≤ v) : neg (o.set i v) + 1 = neg o := by
  induction o generalizing i with
  | nil => simp at hi
  | cons x o ih =>
    cases i with
    | zero =>
      simp only [List.getElem_cons_zero] at h
      simp only [List.set_cons_zero, neg]
      rw [if_neg (by omega), if_pos h]; omega
    | succ i =>
      simp only [List.getElem_cons_succ] at h
      simp only [List.set_cons_succ, neg]
      have := ih i (by simpa using hi) h
      omega
theorem neg_le (o : List Int) : neg o ≤ o.length := by
  induction o with
  | nil => simp [neg]
  | cons x o ih => simp only [neg, List.length_cons]; split <;> omega
theorem rd_get {l : List Int} {q : Int} (h0 : 0 ≤ q) (h1 : q < (l.length : Int)) : rd l q = l[q.toNat]'(by omega) := by
  unfold rd; rw [List.getD_eq_getElem?_getD, List.getElem?_eq_getElem (by omega)]; rfl
theorem rdL_get {l : List (List Int)} {q : Int} (h0 : 0 ≤ q) (h1 : q < (l.length : Int)) : rd_L1 l q = l[q.toNat]'(by omega) := by
  unfold rd_L1; rw [List.getD_eq_getElem?_getD, List.getElem?_eq_getElem (by omega)]; rfl
/-- What is known of the lengths, on the way. -/
structure Known (n : Nat) (o : List Int) : Prop where
  len : o.length = n
  lo : ∀ x ∈ o, -1 ≤ x
  hi : ∀ x ∈ o, x + 1 ≤ (n : Int) - neg o
theorem Known.at {n : Nat} {o : List Int} (h : Known n o) {q : Int} (h0 : 0 ≤ q) (h1 : q < (n : Int)) : -1 ≤ rd o q ∧ rd o q + 1 ≤ (n : Int) - neg o := by
  have hl := h.len
  rw [rd_get h0 (by omega)]
  exact ⟨h.lo _ (List.getElem_mem _), h.hi _ (List.getElem_mem _)⟩
theorem Known.set {n : Nat} {o : List Int} (h : Known n o) {q : Int} (h0 : 0 ≤ q) (h1 : q < (n : Int)) (hq : rd o q < 0) {v : Int} (hv0 : 0 ≤ v) (hv : v ≤ (n : Int) - neg o) : Known n (o.set q.toNat v) ∧ neg (o.set q.toNat v) + 1 = neg o := by
  have hl := h.len
  rw [rd_get h0 (by omega)] at hq
  have hn := neg_set o q.toNat (by omega) hq v hv0
  refine ⟨⟨by rw [List.length_set]; exact hl, fun x hx => ?_, fun x hx => ?_⟩, hn⟩
  · rcases List.mem_or_eq_of_mem_set hx with h' | h'
    · exact h.lo x h'
    · omega
  · rcases List.mem_or_eq_of_mem_set hx with h' | h'
    · have := h.hi x h'; omega
    · omega
/-- The exits of a place are looked at. -/
def vis (c : Int) : List Int → List Int → List Int → List Int × List Int
  | [], o, qs => (o, qs)
  | q :: row, o, qs => if rd o q < 0 then vis c row (o.set q.toNat (rd o c + 1)) (qs ++ [q]) else vis c row o qs
def bfs (g : List (List Int)) : Nat → List Int → List Int → List Int
  | 0, o, _ => o
  | _ + 1, o, [] => o
  | f + 1, o, c :: qs => bfs g f (vis c (rd_L1 g c) o qs).1 (vis c (rd_L1 g c) o qs).2
/-- How far each place is from p, -1 where no way leads. -/
def far (g : List (List Int)) (p : Int) : List Int := bfs g g.length ((List.replicate g.length (-1)).set p.toNat 0) [p]
/-- The places that wait: places that are known. -/
def Wait (n : Nat) (o qs : List Int) : Prop := ∀ q ∈ qs, 0 ≤ q ∧ q < (n : Int) ∧ 0 ≤ rd o q
theorem rd_set {o : List Int} {q x v : Int} (hq0 : 0 ≤ q) (hq : q < (o.length : Int)) (hx0 : 0 ≤ x) : rd (o.set q.toNat v) x = if x = q then v else rd o x := by
  unfold rd
  rw [List.getD_eq_getElem?_getD, List.getElem?_set, List.getD_eq_getElem?_getD]
  by_cases e : x = q
  · subst e; rw [if_pos rfl, if_pos (by omega), if_pos rfl]; rfl
  · rw [if_neg (by omega), if_neg e]
theorem vis_keeps {n : Nat} (hn : n ≤ 8) (c : Int) : ∀ (row o qs : List Int), (∀ q ∈ row, 0 ≤ q ∧ q < (n : Int)) → Known n o → Wait n o qs → (0 ≤ c ∧ c < (n : Int) ∧ 0 ≤ rd o c) →
    Known n (vis c row o qs).1 ∧ Wait n (vis c row o qs).1 (vis c row o qs).2 ∧ (vis c row o qs).2.length + neg (vis c row o qs).1 = qs.length + neg o := by
  intro row
  induction row with
  | nil => intro o qs _ hk hw _; exact ⟨hk, hw, rfl⟩
  | cons q row ih =>
    intro o qs hr hk hw hc
    obtain ⟨hq0, hq1⟩ := hr q List.mem_cons_self
    have hr' : ∀ x ∈ row, 0 ≤ x ∧ x < (n : Int) := fun x hx => hr x (List.mem_cons_of_mem _ hx)
    simp only [vis]
    by_cases h : rd o q < 0
    · rw [if_pos h]
      have hl := hk.len
      have hcc := hk.at hc.1 hc.2.1
      obtain ⟨hk', hn'⟩ := hk.set hq0 hq1 h (v := rd o c + 1) (by omega) (by omega)
      have hs : ∀ x, 0 ≤ x → 0 ≤ rd o x → 0 ≤ rd (o.set q.toNat (rd o c + 1)) x := fun x hx hx1 => by
        rw [rd_set hq0 (by omega) hx]; split <;> omega
      obtain ⟨h1, h2, h3⟩ := ih _ (qs ++ [q]) hr' hk' (fun x hx => by
        rcases List.mem_append.1 hx with hx | hx
        · obtain ⟨a, b, c'⟩ := hw x hx; exact ⟨a, b, hs x a c'⟩
        · rw [List.mem_singleton.1 hx]; exact ⟨hq0, hq1, by rw [rd_set hq0 (by omega) hq0, if_pos rfl]; omega⟩) ⟨hc.1, hc.2.1, hs c hc.1 hc.2.2⟩
      refine ⟨h1, h2, ?_⟩
      rw [h3, List.length_append]; simp; omega
    · rw [if_neg h]
      exact ih o qs hr' hk hw hc
theorem drop_rd {row : List Int} {i : Nat} (h : i < row.length) : row.drop i = rd row (i : Int) :: row.drop (i + 1) := by
  rw [List.drop_eq_getElem_cons h, rd_at h]
/-- The program's look at the exits. -/
theorem lengths_l1 {n : Nat} (hn : n ≤ 8) (g : List (List Int)) (c : Int) (row : List Int) (hr : ∀ q ∈ row, 0 ≤ q ∧ q < (n : Int)) (hrl : row.length ≤ 5) (r : List Int) : ∀ (d i : Nat) (o qs : List Int), row.length - i = d → i ≤ row.length → Known n o → Wait n o qs → (0 ≤ c ∧ c < (n : Int) ∧ 0 ≤ rd o c) → qs.length + neg o ≤ 8 →
    Ev (fun k => impl_Graph_lengths.l0 k (vis c (row.drop i) o qs).1 (vis c (row.drop i) o qs).2 g) r → Ev (fun k => impl_Graph_lengths.l1 k o (c :: qs) row row.length i g) r := by
  intro d
  induction d with
  | zero =>
    intro i o qs hd hi hk hw hc hb h
    rw [List.drop_of_length_le (by omega)] at h
    refine Ev.step (fun k => ?_) h
    simp only [impl_Graph_lengths.l1, vis]
    rw [if_neg (by omega), if_pos (by simp; omega)]
    rfl
  | succ d ih =>
    intro i o qs hd hi hk hw hc hb h
    have hlt : i < row.length := by omega
    have hq := hr (rd row i) (by rw [rd_at hlt]; exact List.getElem_mem _)
    have hl := hk.len
    rw [drop_rd hlt] at h
    simp only [vis] at h
    by_cases hneg : rd o (rd row i) < 0
    · rw [if_pos hneg] at h
      have hcc := hk.at hc.1 hc.2.1
      obtain ⟨hk', hn'⟩ := hk.set hq.1 hq.2 hneg (v := rd o c + 1) (by omega) (by omega)
      have hs : ∀ x, 0 ≤ x → 0 ≤ rd o x → 0 ≤ rd (o.set (rd row i).toNat (rd o c + 1)) x := fun x hx hx1 => by
        rw [rd_set hq.1 (by omega) hx]; split <;> omega
      refine Ev.step (fun k => ?_) (ih (i + 1) _ (qs ++ [rd row i]) (by omega) (by omega) hk' (fun x hx => by
        rcases List.mem_append.1 hx with hx | hx
        · obtain ⟨a, b, c'⟩ := hw x hx; exact ⟨a, b, hs x a c'⟩
        · rw [List.mem_singleton.1 hx]; exact ⟨hq.1, hq.2, by rw [rd_set hq.1 (by omega) hq.1, if_pos rfl]; omega⟩) ⟨hc.1, hc.2.1, hs c hc.1 hc.2.2⟩ (by rw [List.length_append]; simp; omega) h)
      simp only [impl_Graph_lengths.l1]
      have e0 : rd (c :: qs) 0 = c := rfl
      rw [if_pos (by omega), if_pos (by omega), if_pos (by omega), if_pos hq.1, if_pos (by omega), if_pos hneg, if_pos (by rw [List.length_cons]; omega), e0, if_pos hc.1, if_pos (by omega), if_pos (by rw [List.length_cons]; omega), wrap_nat (by omega), wrap_id (by omega)]
      rfl
    · rw [if_neg hneg] at h
      refine Ev.step (fun k => ?_) (ih (i + 1) o qs (by omega) (by omega) hk hw hc hb h)
      simp only [impl_Graph_lengths.l1]
      rw [if_pos (by omega), if_pos (by omega), if_pos (by omega), if_pos hq.1, if_pos (by omega), if_neg hneg, wrap_nat (by omega)]
theorem lengths_l0 {g : List (List Int)} (hg : goodG g = true) : ∀ (f : Nat) (o qs : List Int), Known g.length o → Wait g.length o qs → qs.length + neg o ≤ f → f ≤ 8 → Ev (fun k => impl_Graph_lengths.l0 k o qs g) (bfs g f o qs) := by
  obtain ⟨⟨h1, h8⟩, hrows⟩ := good_iff hg
  intro f
  induction f with
  | zero =>
    intro o qs hk hw hb hf
    have : qs = [] := List.eq_nil_of_length_eq_zero (by omega)
    subst this
    refine Ev.const1 (fun k => ?_)
    simp only [impl_Graph_lengths.l0]
    rw [if_neg (by simp)]; rfl
  | succ f ih =>
    intro o qs hk hw hb hf
    cases qs with
    | nil =>
      refine Ev.const1 (fun k => ?_)
      simp only [impl_Graph_lengths.l0]
      rw [if_neg (by simp)]; rfl
    | cons c qs =>
      obtain ⟨hc0, hc1, hc2⟩ := hw c List.mem_cons_self
      have hrow := hrows (rd_L1 g c) (by rw [rdL_get hc0 hc1]; exact List.getElem_mem _)
      have hw' : Wait g.length o qs := fun x hx => hw x (List.mem_cons_of_mem _ hx)
      obtain ⟨k1, k2, k3⟩ := vis_keeps h8 c (rd_L1 g c) o qs hrow.2 hk hw' ⟨hc0, hc1, hc2⟩
      simp only [List.length_cons] at hb
      have := lengths_l1 h8 g c (rd_L1 g c) hrow.2 hrow.1 (bfs g (f + 1) o (c :: qs)) _ 0 o qs rfl (Nat.zero_le _) hk hw' ⟨hc0, hc1, hc2⟩ (by omega) (by
        rw [List.drop_zero]
        exact ih _ _ k1 k2 (by omega) (by omega))
      refine Ev.step (fun k => ?_) this
      simp only [impl_Graph_lengths.l0]
      have e0 : rd (c :: qs) 0 = c := rfl
      rw [if_pos (by rw [List.length_cons]; omega), if_pos (by rw [List.length_cons]; omega), e0, if_pos hc0, if_pos hc1]
      rfl
theorem neg_rep (n : Nat) : neg (List.replicate n (-1)) = n := by
  induction n with
  | zero => rfl
  | succ n ih => simp only [List.replicate_succ, neg, ih]; rw [if_pos (by omega)]; omega
theorem known0 {n : Nat} {p : Int} (h0 : 0 ≤ p) (h1 : p < (n : Int)) : Known n ((List.replicate n (-1)).set p.toNat 0) ∧ Wait n ((List.replicate n (-1)).set p.toNat 0) [p] ∧ [p].length + neg ((List.replicate n (-1)).set p.toNat 0) ≤ n := by
  have hk : Known n (List.replicate n (-1)) := ⟨by simp, fun x hx => by rw [(List.mem_replicate.1 hx).2]; omega, fun x hx => by rw [(List.mem_replicate.1 hx).2, neg_rep]; omega⟩
  have hr : rd (List.replicate n (-1)) p < 0 := by rw [rd_get h0 (by simpa using h1)]; simp
  obtain ⟨k1, k2⟩ := hk.set h0 h1 hr (v := 0) (by omega) (by rw [neg_rep]; omega)
  rw [neg_rep] at k2
  refine ⟨k1, fun x hx => ?_, by simp; omega⟩
  rw [List.mem_singleton.1 hx]
  exact ⟨h0, h1, by rw [rd_set h0 (by simpa using h1) h0, if_pos rfl]; omega⟩
theorem lengths {g : List (List Int)} {p : Int} (h : placeB g p = true) : Ev (fun k => impl_Graph_lengths.f k g p) (far g p) := by
  obtain ⟨hg, h0, h1⟩ := place_iff h
  obtain ⟨⟨hn1, hn8⟩, _⟩ := good_iff hg
  obtain ⟨k1, k2, k3⟩ := known0 h0 h1
  unfold impl_Graph_lengths.f
  have hR : slices_Repeat_int_int.f [-1] (g.length : Int) = some (List.replicate g.length (-1)) := by
    unfold slices_Repeat_int_int.f; rw [if_pos ⟨rfl, by omega, by omega⟩]; rfl
  exact Ev.bind0 hR (Ev.pos h0 (Ev.pos (by simpa using h1) (lengths_l0 hg g.length _ _ k1 k2 k3 hn8)))
theorem far_len {g : List (List Int)} {p : Int} (h : placeB g p = true) : Known g.length (far g p) := by
  obtain ⟨hg, h0, h1⟩ := place_iff h
  obtain ⟨⟨hn1, hn8⟩, hrows⟩ := good_iff hg
  obtain ⟨k1, k2, k3⟩ := known0 h0 h1
  have : ∀ (f : Nat) (o qs : List Int), Known g.length o → Wait g.length o qs → Known g.length (bfs g f o qs) := by
    intro f
    induction f with
    | zero => intro o qs hk hw; exact hk
    | succ f ih =>
      intro o qs hk hw
      cases qs with
      | nil => exact hk
      | cons c qs =>
        obtain ⟨hc0, hc1, hc2⟩ := hw c List.mem_cons_self
        have hrow := hrows (rd_L1 g c) (by rw [rdL_get hc0 hc1]; exact List.getElem_mem _)
        obtain ⟨k1, k2, k3⟩ := vis_keeps hn8 c (rd_L1 g c) o qs hrow.2 hk (fun x hx => hw x (List.mem_cons_of_mem _ hx)) ⟨hc0, hc1, hc2⟩
        exact ih _ _ k1 k2
  exact this _ _ _ k1 k2
/-! the reference's search -/
theorem far_l2 {n : Nat} (hn : n ≤ 8) (g : List (List Int)) (c : Int) (pre : List Int) (row : List Int) (hr : ∀ q ∈ row, 0 ≤ q ∧ q < (n : Int)) (hrl : row.length ≤ 5) (r : List Int) : ∀ (d i : Nat) (o qs : List Int), row.length - i = d → i ≤ row.length → Known n o → (0 ≤ c ∧ c < (n : Int) ∧ 0 ≤ rd o c) → pre.length + qs.length + neg o ≤ 8 →
    Ev (fun k => spec_grFar.l1 k (vis c (row.drop i) o qs).1 (pre ++ c :: (vis c (row.drop i) o qs).2) ((pre.length + 1 : Nat) : Int) g) r → Ev (fun k => spec_grFar.l2 k o (pre ++ c :: qs) (pre.length : Int) row row.length i g) r := by
  intro d
  induction d with
  | zero =>
    intro i o qs hd hi hk hc hb h
    rw [List.drop_of_length_le (by omega)] at h
    refine Ev.step (fun k => ?_) h
    simp only [spec_grFar.l2, vis]
    rw [if_neg (by omega), wrap_nat (by omega)]
  | succ d ih =>
    intro i o qs hd hi hk hc hb h
    have hlt : i < row.length := by omega
    have hq := hr (rd row i) (by rw [rd_at hlt]; exact List.getElem_mem _)
    have hl := hk.len
    rw [drop_rd hlt] at h
    simp only [vis] at h
    by_cases hneg : rd o (rd row i) < 0
    · rw [if_pos hneg] at h
      have hcc := hk.at hc.1 hc.2.1
      obtain ⟨hk', hn'⟩ := hk.set hq.1 hq.2 hneg (v := rd o c + 1) (by omega) (by omega)
      have hs : ∀ x, 0 ≤ x → 0 ≤ rd o x → 0 ≤ rd (o.set (rd row i).toNat (rd o c + 1)) x := fun x hx hx1 => by
        rw [rd_set hq.1 (by omega) hx]; split <;> omega
      refine Ev.step (fun k => ?_) (ih (i + 1) _ (qs ++ [rd row i]) (by omega) (by omega) hk' ⟨hc.1, hc.2.1, hs c hc.1 hc.2.2⟩ (by rw [List.length_append]; simp; omega) h)
      simp only [spec_grFar.l2]
      have e0 : rd (pre ++ c :: qs) (pre.length : Int) = c := by rw [rd_at (by simp)]; simp
      rw [if_pos (by omega), if_pos (by omega), if_pos (by omega), if_pos hq.1, if_pos (by omega), if_pos hneg, if_pos (by omega), if_pos (by simp; omega), e0, if_pos hc.1, if_pos (by omega), if_pos (by simp; omega), wrap_nat (by omega), wrap_id (by omega)]
      simp
    · rw [if_neg hneg] at h
      refine Ev.step (fun k => ?_) (ih (i + 1) o qs (by omega) (by omega) hk hc hb h)
      simp only [spec_grFar.l2]
      rw [if_pos (by omega), if_pos (by omega), if_pos (by omega), if_pos hq.1, if_pos (by omega), if_neg hneg, wrap_nat (by omega)]
theorem far_l1 {g : List (List Int)} (hg : goodG g = true) : ∀ (f : Nat) (o pre qs : List Int), Known g.length o → Wait g.length o qs → qs.length + neg o ≤ f → f ≤ 8 → pre.length + qs.length + neg o ≤ 8 → Ev (fun k => spec_grFar.l1 k o (pre ++ qs) (pre.length : Int) g) (bfs g f o qs) := by
  obtain ⟨⟨h1, h8⟩, hrows⟩ := good_iff hg
  intro f
  induction f with
  | zero =>
    intro o pre qs hk hw hb hf hp
    have : qs = [] := List.eq_nil_of_length_eq_zero (by omega)
    subst this
    refine Ev.const1 (fun k => ?_)
    simp only [spec_grFar.l1]
    rw [if_neg (by simp)]; rfl
  | succ f ih =>
    intro o pre qs hk hw hb hf hp
    cases qs with
    | nil =>
      refine Ev.const1 (fun k => ?_)
      simp only [spec_grFar.l1]
      rw [if_neg (by simp)]; rfl
    | cons c qs =>
      obtain ⟨hc0, hc1, hc2⟩ := hw c List.mem_cons_self
      have hrow := hrows (rd_L1 g c) (by rw [rdL_get hc0 hc1]; exact List.getElem_mem _)
      have hw' : Wait g.length o qs := fun x hx => hw x (List.mem_cons_of_mem _ hx)
      obtain ⟨k1, k2, k3⟩ := vis_keeps h8 c (rd_L1 g c) o qs hrow.2 hk hw' ⟨hc0, hc1, hc2⟩
      simp only [List.length_cons] at hb hp
      have := far_l2 h8 g c pre (rd_L1 g c) hrow.2 hrow.1 (bfs g (f + 1) o (c :: qs)) _ 0 o qs rfl (Nat.zero_le _) hk ⟨hc0, hc1, hc2⟩ (by omega) (by
        rw [List.drop_zero]
        have := ih (vis c (rd_L1 g c) o qs).1 (pre ++ [c]) (vis c (rd_L1 g c) o qs).2 k1 k2 (by omega) (by omega) (by simp; omega)
        simpa [bfs] using this)
      refine Ev.step (fun k => ?_) this
      simp only [spec_grFar.l1]
      have e0 : rd (pre ++ c :: qs) (pre.length : Int) = c := by rw [rd_at (by simp)]; simp
      rw [if_pos (by simp; omega), if_pos (by omega), e0, if_pos hc0, if_pos hc1]
      rfl
theorem far_l0 (g : List (List Int)) (p : Int) (n : Nat) (hn : n ≤ 8) (r : List Int) : ∀ (d i : Nat), n - i = d → i ≤ n → (0 ≤ p ∧ p < (n : Int)) → Ev (fun k => spec_grFar.l1 k ((List.replicate n (-1)).set p.toNat 0) [p] 0 g) r → Ev (fun k => spec_grFar.l0 k p (List.replicate i (-1) ++ List.replicate (n - i) 0) n i g) r := by
  intro d
  induction d with
  | zero =>
    intro i hd hi hp h
    have : i = n := by omega
    subst this
    refine Ev.step (fun k => ?_) h
    simp only [spec_grFar.l0]
    rw [if_neg (by omega), if_pos hp.1, if_pos (by simp; omega)]
    simp
  | succ d ih =>
    intro i hd hi hp h
    refine Ev.step (fun k => ?_) (ih (i + 1) (by omega) (by omega) hp h)
    simp only [spec_grFar.l0]
    rw [if_pos (by omega), if_pos (by omega), if_pos (by simp; omega), wrap_nat (by omega), Int.toNat_natCast]
    congr 1
    obtain ⟨m, hm⟩ : ∃ m, n - i = m + 1 := ⟨n - i - 1, by omega⟩
    rw [hm, show n - (i + 1) = m by omega, List.replicate_succ, List.replicate_succ', List.set_append_right _ _ (by simp)]
    simp
theorem grFar {g : List (List Int)} {p : Int} (h : placeB g p = true) : Ev (fun k => spec_grFar.f k g p) (far g p) := by
  obtain ⟨hg, h0, h1⟩ := place_iff h
  obtain ⟨⟨hn1, hn8⟩, _⟩ := good_iff hg
  obtain ⟨k1, k2, k3⟩ := known0 h0 h1
  unfold spec_grFar.f
  refine Ev.pos (by omega) (Ev.pos (by omega) (Ev.bind0 rfl ?_))
  have := far_l0 g p g.length hn8 (far g p) g.length 0 (by omega) (by omega) ⟨h0, h1⟩ (by
    have := far_l1 hg g.length _ [] [p] k1 k2 k3 hn8 (by simpa using by simp at k3; omega)
    exact this)
  simpa using this
end Go.Proofs.Ytjjnpllhenmdmaa.M
namespace Go.Proofs.Ytjjnpllhenmdmaa.M
open Go.RowKit Go.Proofs.Ytjjnpllhenmdmaa.P Go.Proofs.Ytjjnpllhenmdmaa.In Go.Proofs.YtjjnpllhenmdmaaW.PrintWords Go.Proofs.YtjjnpllhenmdmaaW.PrintLast
set_option linter.unusedVariables false
set_option linter.unusedSimpArgs false
/-- Are these rotors of these rows. -/
def rotB : List Int → List (List Int) → Bool
  | r :: rs, row :: rows => (decide (0 ≤ r) && decide (r ≤ if (row.length : Int) - 1 < 0 then 0 else (row.length : Int) - 1)) && rotB rs rows
  | _, _ => true
/-- A walk on a graph. -/
def walkB (g : List (List Int)) (rot : List Int) (at_ : Int) : Bool := placeB g at_ && (decide (rot.length = g.length) && rotB rot g)
theorem most0 (n : Nat) : mx ((n : Int) - 1) 0 = if (n : Int) - 1 < 0 then 0 else (n : Int) - 1 := by unfold mx; rfl
theorem l1Most0 (n : Nat) : spec_l1Most.f 0 ((n : Int) - 1) = some (if (n : Int) - 1 < 0 then 0 else (n : Int) - 1) := by
  unfold spec_l1Most.f
  by_cases h : (n : Int) - 1 < 0
  · rw [if_pos h]; split <;> first | rfl | omega
  · rw [if_neg h]; split
    · congr 1; omega
    · rfl
theorem isWalk_l0 (g : List (List Int)) (h8 : g.length ≤ 8) (hr : ∀ row ∈ g, row.length ≤ 5) (rot : List Int) (hlen : rot.length = g.length) : ∀ (d i : Nat), g.length - i = d → i ≤ g.length → Ev (fun k => impl_isWalk.l0 k rot rot.length i g) (rotB (rot.drop i) (g.drop i)) := by
  intro d
  induction d with
  | zero =>
    intro i hd hi
    refine Ev.const1 (fun k => ?_)
    simp only [impl_isWalk.l0]
    rw [if_neg (by omega), List.drop_of_length_le (by omega)]
    rfl
  | succ d ih =>
    intro i hd hi
    have hlt : i < g.length := by omega
    have hlt2 : i < rot.length := by omega
    have hrow : (rd_L1 g i).length ≤ 5 := hr _ (by rw [rdL_at hlt]; exact List.getElem_mem _)
    rw [List.drop_eq_getElem_cons hlt, List.drop_eq_getElem_cons hlt2, ← rdL_at hlt, ← rd_at hlt2]
    simp only [rotB]
    refine Ev.step (f := fun k => if (decide (0 ≤ rd rot i) && decide (rd rot i ≤ if ((rd_L1 g i).length : Int) - 1 < 0 then 0 else ((rd_L1 g i).length : Int) - 1)) = true then impl_isWalk.l0 k rot rot.length (i + 1 : Nat) g else some false) (fun k => ?_) ?_
    · simp only [impl_isWalk.l0]
      rw [if_pos (by omega), if_pos (by omega), if_pos (by omega), if_pos (by omega), wrap_id (by omega), most0, implin, wrap_nat (by omega)]
      simp only [Option.bind_some]
    · by_cases e : (decide (0 ≤ rd rot i) && decide (rd rot i ≤ if ((rd_L1 g i).length : Int) - 1 < 0 then 0 else ((rd_L1 g i).length : Int) - 1)) = true
      · exact Ev.pos e ((ih (i + 1) (by omega) (by omega)).val (by rw [e]; simp))
      · exact Ev.neg e ((Ev.now _).val (by simp only [Bool.not_eq_true] at e; rw [e]; simp))
theorem waGood_l0 (g : List (List Int)) (h8 : g.length ≤ 8) (hr : ∀ row ∈ g, row.length ≤ 5) (rot : List Int) (a : Int) (hlen : rot.length = g.length) : ∀ (d i : Nat), g.length - i = d → i ≤ g.length → Ev (fun k => spec_waGood.l0 k g g.length i rot a) (rotB (rot.drop i) (g.drop i)) := by
  intro d
  induction d with
  | zero =>
    intro i hd hi
    refine Ev.const1 (fun k => ?_)
    simp only [spec_waGood.l0]
    rw [if_neg (by omega), List.drop_of_length_le (by omega)]
    rfl
  | succ d ih =>
    intro i hd hi
    have hlt : i < g.length := by omega
    have hlt2 : i < rot.length := by omega
    have hrow : (rd_L1 g i).length ≤ 5 := hr _ (by rw [rdL_at hlt]; exact List.getElem_mem _)
    rw [List.drop_eq_getElem_cons hlt, List.drop_eq_getElem_cons hlt2, ← rdL_at hlt, ← rd_at hlt2]
    simp only [rotB]
    refine Ev.step (f := fun k => if (decide (0 ≤ rd rot i) && decide (rd rot i ≤ if ((rd_L1 g i).length : Int) - 1 < 0 then 0 else ((rd_L1 g i).length : Int) - 1)) = true then spec_waGood.l0 k g g.length (i + 1 : Nat) rot a else some false) (fun k => ?_) ?_
    · simp only [spec_waGood.l0]
      rw [if_pos (by omega), if_pos (by omega), if_pos (by omega), if_pos (by omega), wrap_id (by omega), l1Most0, wrap_nat (by omega)]
      simp only [Option.bind_some, l1In]
    · by_cases e : (decide (0 ≤ rd rot i) && decide (rd rot i ≤ if ((rd_L1 g i).length : Int) - 1 < 0 then 0 else ((rd_L1 g i).length : Int) - 1)) = true
      · exact Ev.pos e ((ih (i + 1) (by omega) (by omega)).val (by rw [e]; simp))
      · exact Ev.neg e ((Ev.now _).val (by simp only [Bool.not_eq_true] at e; rw [e]; simp))
theorem isWalk (g : List (List Int)) (rot : List Int) (a : Int) : Ev (fun k => impl_isWalk.f k g rot a) (walkB g rot a) := by
  unfold impl_isWalk.f
  refine Ev.bind0 (has1 g a) ?_
  by_cases h : placeB g a = true
  · obtain ⟨hg, _, _⟩ := place_iff h
    obtain ⟨⟨h1, h8⟩, hrows⟩ := good_iff hg
    refine Ev.pos h (Ev.succ ?_)
    simp only [impl_isWalk.j0]
    by_cases e : rot.length = g.length
    · refine Ev.neg (by simp [e]) ?_
      exact (isWalk_l0 g h8 (fun row hr => (hrows row hr).1) rot e g.length 0 (by omega) (by omega)).val (by simp [walkB, h, e])
    · refine Ev.pos (by simp; omega) ((Ev.now _).val (by simp [walkB, e]))
  · refine Ev.neg h (Ev.succ ?_)
    simp only [impl_isWalk.j0]
    exact Ev.pos trivial ((Ev.now _).val (by simp only [Bool.not_eq_true] at h; simp [walkB, h]))
theorem waGood (g : List (List Int)) (hl : okSS g) (rot : List Int) (a : Int) : Ev (fun k => spec_waGood.f k g rot a) (walkB g rot a) := by
  unfold spec_waGood.f
  refine Ev.bind (grPlace g a hl) ?_
  by_cases h : placeB g a = true
  · obtain ⟨hg, _, _⟩ := place_iff h
    obtain ⟨⟨h1, h8⟩, hrows⟩ := good_iff hg
    refine Ev.pos h (Ev.succ ?_)
    simp only [spec_waGood.j0]
    by_cases e : rot.length = g.length
    · refine Ev.neg (by simp [e]) ?_
      exact (waGood_l0 g h8 (fun row hr => (hrows row hr).1) rot a e g.length 0 (by omega) (by omega)).val (by simp [walkB, h, e])
    · refine Ev.pos (by simp; omega) ((Ev.now _).val (by simp [walkB, e]))
  · refine Ev.neg h (Ev.succ ?_)
    simp only [spec_waGood.j0]
    exact Ev.pos trivial ((Ev.now _).val (by simp only [Bool.not_eq_true] at h; simp [walkB, h]))
/-! the laws' helpers -/
theorem szIntS (l : List Int) (hl : okIs l) (a : Int) (h0 : 0 ≤ a) (h1 : a ≤ 1048576) : ∃ r, laws_szIntS.f l a = some r ∧ r ≤ 1048576 ∧ (0 ≤ r → l.length ≤ 1048576) := by
  have := hl.1
  unfold laws_szIntS.f
  rw [wrap_id (by omega)]
  by_cases h : a - (l.length : Int) < 0
  · rw [if_pos h]; exact ⟨-1, rfl, by omega, fun h => by omega⟩
  · rw [if_neg h]; exact ⟨_, rfl, by omega, fun _ => by omega⟩
theorem szWalk (l : List Int) (x : Int) (hl : okIs l) (a : Int) (h0 : 0 ≤ a) (h1 : a ≤ 1048576) : ∃ r, laws_szWalk.f l x a = some r ∧ r ≤ 1048576 ∧ (0 ≤ r → l.length ≤ 1048576) := by
  obtain ⟨r, h2, h3, h4⟩ := szIntS l hl a h0 h1
  unfold laws_szWalk.f
  rw [h2]
  simp only [Option.bind_some]
  by_cases h : r < 0
  · rw [if_pos h]; exact ⟨-1, rfl, by omega, fun h => by omega⟩
  · rw [if_neg h]; exact ⟨r, rfl, h3, h4⟩
theorem toWalk (l : List Int) (x : Int) (hl : l.length ≤ 1048576) : Ev (fun k => laws_toWalk.f k l x) (l, x) := by
  unfold laws_toWalk.f
  exact Ev.bind (toIntS l (by omega)) (Ev.now _)
theorem eqWalk (l : List Int) (x : Int) (hl : l.length ≤ 1048576) : Ev (fun k => laws_eqWalk.f k l x l x) true := by
  unfold laws_eqWalk.f
  exact Ev.bind ((eqIntS l l (by omega)).val (decide_eq_true rfl)) (Ev.pos rfl (Ev.pos rfl (Ev.now _)))
end Go.Proofs.Ytjjnpllhenmdmaa.M
namespace Go.Proofs.Ytjjnpllhenmdmaa.Pure
open Go.RowKit Go.Proofs.Ytjjnpllhenmdmaa.P Go.Proofs.Ytjjnpllhenmdmaa.In Go.Proofs.Ytjjnpllhenmdmaa.M Go.Proofs.YtjjnpllhenmdmaaW.PrintWords Go.Proofs.YtjjnpllhenmdmaaW.PrintLast
set_option linter.unusedVariables false
set_option linter.unusedSimpArgs false
theorem FnExactIsWalk (l : List (List Int)) (hl : okSS l) (ro : List Int) (x : Int) (hro : okIs ro) (hx : okI x) : ∃ k, laws_FnExactIsWalk.f k l ro x = some true := by
  refine Ev.rounds (g := fun k => laws_FnExactIsWalk.f k l ro x) ?_
  unfold laws_FnExactIsWalk.f
  obtain ⟨r, hr, hr1, hs⟩ := szGraph l hl
  refine Ev.bind hr ?_
  by_cases h : r < 0
  · exact Ev.pos h (Ev.now _)
  · have sm := hs (by omega)
    obtain ⟨r2, h2, _, hs2⟩ := szWalk ro x hro r (by omega) hr1
    refine Ev.neg h (Ev.bind0 h2 ?_)
    by_cases h' : r2 < 0
    · exact Ev.pos h' (Ev.now _)
    · have sm2 := hs2 (by omega)
      have hS : Ev (fun k => spec_IsWalk.f k l ro x) (walkB l ro x) := by
        unfold spec_IsWalk.f; exact Ev.bind (waGood l hl ro x) (Ev.now _)
      have hI : Ev (fun k => impl_IsWalk.f k l ro x) (walkB l ro x) := by
        unfold impl_IsWalk.f; exact Ev.bind (isWalk l ro x) (Ev.now _)
      exact Ev.neg h' (Ev.bind (toGraph l sm) (Ev.bind (toWalk ro x sm2) (Ev.bind hS (Ev.bind (toGraph l sm) (Ev.bind (toWalk ro x sm2) (Ev.bind hI (Ev.neg (by simp) (Ev.bind (toGraph l sm) (Ev.bind (small_eq l sm) (Ev.pos rfl (Ev.bind (toWalk ro x sm2) (Ev.bind (eqWalk ro x sm2) (Ev.pos rfl (Ev.now _))))))))))))))
end Go.Proofs.Ytjjnpllhenmdmaa.Pure
namespace Go.Proofs.Ytjjnpllhenmdmaa.fnExactIsWalk
open Go.ChangeShapes Go.WideShapes Go.ChangeAt Go.RowKit
open Go.ChangeMaps (open_string shut_string)
open Go.Proofs.Ytjjnpllhenmdmaa.In Go.Proofs.Ytjjnpllhenmdmaa.P
set_option linter.unusedVariables false
theorem own : ownKnob Try.prog.godebug = none := by kernel_rfl
theorem laidOut : laidOutB Try.prog = true := by kernel_rfl
set_option maxRecDepth 100000 in
theorem lifted (os : Os) (started : os.Started) (H : Type) (enc : TypeId × Value → H) :
    ReturnsInHanded {} Try.checked os 10 .any (Rows.fnExactIsWalkSpec.pre6 enc Try.prog Try.f10 Rows.fnExactIsWalkRow.domain false) (Rows.fnExactIsWalkSpec.post enc Try.prog Try.f10 false true false false) := by
  refine returnsInHanded_of_change_sized (C := Try.checked) own started (by kernel_rfl) Try.func10
    (ChangeSpec.witness6 (enc := enc) (C := Try.checked) false ⟨#[], #[.agg #[.slice none 0 0], .agg #[.slice none 0 0, .int .i64 0]], []⟩ 8 (by kernel_rfl) (by kernel_rfl) (by kernel_rfl) (by kernel_rfl)) ?_
  intro W base args ds gs before hval0 hW hcnd hsz0 _
  have hsz : (DataW.weightsEach Try.prog (Try.f10.params.toList ++ Rows.fnExactIsWalkSpec.plain.varTypes Try.prog) (ds ++ gs)).all (· ≤ reachBytes) = true := hsz0
  have hval : ∀ (j : Nat) t v, Try.f10.params[j]? = some t → args[j]? = some v → Value.okWide Try.prog W .any base t v := hval0
  have hW' := hW
  obtain ⟨p, q, hA0, hV, rfl, hfz, hnd⟩ := hW
  have hA : DataW.TrodAll enc Try.prog W 0 (fun _ => true) true Try.f10.params.toList args.toList ds p := hA0
  rw [Try.params10] at hA hval hsz
  obtain ⟨v0, vs0, d0, ds0, p0, q0, hargs, rfl, rfl, h0, r0⟩ := trodAll_cons hA
  obtain ⟨v1, vs1, d1, ds1, p1, q1, rfl, rfl, rfl, h1, r1⟩ := trodAll_cons r0
  obtain ⟨rfl, rfl, rfl⟩ := trodAll_nil r1
  obtain rfl : args = #[v0, v1] := by cases args; simp_all
  obtain ⟨rfl, rfl⟩ := trodVars_none hV
  have k0 := h0
  have lt0 : ∀ x ∈ p0, x.block < W.heap.size := by obtain ⟨m, hm⟩ := k0; exact DataW.trod_lt m _ _ _ hm
  obtain ⟨A0, l0, cap0, rfl, hl0, hc0, hw0⟩ := in_graph (q := 3) Try.underlying31 (by kernel_rfl) (by kernel_rfl) rfl Try.underlying23 Try.underlying43 Try.underlying3 (by kernel_rfl) (by kernel_rfl) (hval 0 31 v0 rfl rfl) h0
  have k1 := h1
  have lt1 : ∀ x ∈ p1, x.block < W.heap.size := by obtain ⟨m, hm⟩ := k1; exact DataW.trod_lt m _ _ _ hm
  obtain ⟨A1, l1, cap1, x1, rfl, hl1, hc1, hw1, hx1⟩ := in_walk (q := 3) Try.underlying50 (by kernel_rfl) (by kernel_rfl) rfl rfl Try.underlying43 Try.underlying3 Try.underlying3 (by kernel_rfl) (hval 1 50 v1 rfl rfl) h1
  clear hA0 hval0 hsz0 hsz
  obtain ⟨k, h⟩ := Pure.FnExactIsWalk l0 (okSS_wf hc0 hw0) l1 x1 (okIs_wf hw1) (okI_wf hx1)
  refine (laws_FnExactIsWalk.calls k _ _ l0 _ _ l1 x1 true W hc0 hl0 hc1 hl1 h).mono fun e W' ⟨he, bel0⟩ => ?_
  have bel : Below W.heap.size W W' := bel0
  subst he
  exact ⟨_, rfl, _, _, _, [], _, [], hW', trodAll_mk1 (shut_bool Try.underlying4 _), (trodAll_cons_mk (Below.trod laidOut (by kernel_rfl) (of_decide_eq_true (by kernel_rfl)) k0 bel lt0) (trodAll_cons_mk (Below.trod laidOut (by kernel_rfl) (of_decide_eq_true (by kernel_rfl)) k1 bel lt1) trodAll_mk0)), rfl, bel.frame _, fun h => by cases h⟩
theorem over : Rows.fnExactIsWalkRow.holds Try.pinned (OpenSpec.ofChange Rows.fnExactIsWalkSpec) :=
  OpenClaim.holds_of_wide 10 Try.f10 rfl rfl rfl rfl rfl rfl rfl ⟨rfl, rfl, rfl, rfl, rfl⟩ rfl rfl rfl rfl rfl (by kernel_rfl) Try.func10 (by kernel_rfl)
    (of_decide_eq_true (by kernel_rfl)) (by unfold Func.isWrapper; first | (rw [if_pos (by decide +kernel)]; kernel_rfl) | (rw [if_neg (by decide +kernel)]; exact ⟨rfl, rfl⟩))
    (fun os started H enc _ => lifted os started H enc)
theorem proved : Rows.FnExactIsWalkSaid := over
end Go.Proofs.Ytjjnpllhenmdmaa.fnExactIsWalk
namespace Go.Proofs.Ytjjnpllhenmdmaa
/-- The law, under a short name, for the claim. -/
theorem fnExactIsWalk_holds : Rows.FnExactIsWalkSaid := fnExactIsWalk.proved
#print axioms fnExactIsWalk_holds
end Go.Proofs.Ytjjnpllhenmdmaa
