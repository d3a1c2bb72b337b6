/- The law FnExactOrbitOfTree holds for every input: the program returns what the reference returns (or what the law says), for all arguments. -/
import Derived.Test.YtlbgajpbdbgmkaaCFnExactOrbitOfTreeg
import Derived.Test.YtlbgajpbdbgmkaaCFnExactOrbitOfTreeb
import Derived.Test.YtlbgajpbdbgmkaaCFnExactOrbitOfTreee
import Derived.Test.YtlbgajpbdbgmkaaCFnExactOrbitOfTreef
import Derived.Test.YtlbgajpbdbgmkaaCFnExactOrbitOfTreec
import Derived.Test.YtlbgajpbdbgmkaaCFnExactOrbitOfTreed
import Derived.Test.YtlbgajpbdbgmkaaRows
import Derived.WalkKit
import Derived.ProofKit
import Derived.OpenShut
import Derived.ShutString
import Derived.ChangeOld
import Derived.Below
import Derived.SizedLaws
import Derived.Deep.Matrix
import Derived.Lib.SmallJoins
namespace Go.Proofs.Ytlbgajpbdbgmkaa.M
set_option maxHeartbeats 8000000
set_option maxRecDepth 100000
open Go.RowKit Go.Proofs.Ytlbgajpbdbgmkaa.P Go.Proofs.Ytlbgajpbdbgmkaa.In Go.Proofs.YtlbgajpbdbgmkaaW.PrintWords Go.Proofs.YtlbgajpbdbgmkaaW.PrintLast
set_option linter.unusedVariables false
set_option linter.unusedSimpArgs false
def neg : List Int → Nat
 | [] => 0
 | x :: l => (if x < 0 then 1 else 0) + neg l
theorem neg_set (o : List Int) (i : Nat) (hi : i < o.length) (h : o[i] < 0) (v : Int) (hv : 0 ≤ v) : neg (o.set i v) + 1 = neg o := by
 induction o generalizing i with
 | nil => simp at hi
 | cons x o ih =>
  cases i with
  | zero =>
   simp only [List.getElem_cons_zero] at h
   simp only [List.set_cons_zero, neg]
   rw [if_neg (by omega), if_pos h]; omega
  | succ i =>
   simp only [List.getElem_cons_succ] at h
   simp only [List.set_cons_succ, neg]
   have := ih i (by simpa using hi) h
   omega
structure Known (n : Nat) (o : List Int) : Prop where
 len : o.length = n
 lo : ∀ x ∈ o, -1 ≤ x
 hi : ∀ x ∈ o, x + 1 ≤ (n : Int) - neg o
theorem Known.at {n : Nat} {o : List Int} (h : Known n o) {q : Int} (h0 : 0 ≤ q) (h1 : q < (n : Int)) : -1 ≤ rd o q ∧ rd o q + 1 ≤ (n : Int) - neg o := by
 have hl := h.len
 rw [rd_get h0 (by omega)]
 exact ⟨h.lo _ (List.getElem_mem _), h.hi _ (List.getElem_mem _)⟩
theorem Known.set {n : Nat} {o : List Int} (h : Known n o) {q : Int} (h0 : 0 ≤ q) (h1 : q < (n : Int)) (hq : rd o q < 0) {v : Int} (hv0 : 0 ≤ v) (hv : v ≤ (n : Int) - neg o) : Known n (o.set q.toNat v) ∧ neg (o.set q.toNat v) + 1 = neg o := by
 have hl := h.len
 rw [rd_get h0 (by omega)] at hq
 have hn := neg_set o q.toNat (by omega) hq v hv0
 refine ⟨⟨by rw [List.length_set]; exact hl, fun x hx => ?_, fun x hx => ?_⟩, hn⟩
 ·rcases List.mem_or_eq_of_mem_set hx with h' | h'
  ·exact h.lo x h'
  ·omega
 ·rcases List.mem_or_eq_of_mem_set hx with h' | h'
  ·have := h.hi x h'; omega
  ·omega
def vis (c : Int) : List Int → List Int → List Int → List Int × List Int
 | [], o, qs => (o, qs)
 | q :: row, o, qs => if rd o q < 0 then vis c row (o.set q.toNat (rd o c + 1)) (qs ++ [q]) else vis c row o qs
def bfs (g : List (List Int)) : Nat → List Int → List Int → List Int
 | 0, o, _ => o
 | _ + 1, o, [] => o
 | f + 1, o, c :: qs => bfs g f (vis c (rd_L1 g c) o qs).1 (vis c (rd_L1 g c) o qs).2
def far (g : List (List Int)) (p : Int) : List Int := bfs g g.length ((List.replicate g.length (-1)).set p.toNat 0) [p]
def Wait (n : Nat) (o qs : List Int) : Prop := ∀ q ∈ qs, 0 ≤ q ∧ q < (n : Int) ∧ 0 ≤ rd o q
theorem vis_keeps {n : Nat} (hn : n ≤ 8) (c : Int) : ∀ (row o qs : List Int), (∀ q ∈ row, 0 ≤ q ∧ q < (n : Int)) → Known n o → Wait n o qs → (0 ≤ c ∧ c < (n : Int) ∧ 0 ≤ rd o c) →
  Known n (vis c row o qs).1 ∧ Wait n (vis c row o qs).1 (vis c row o qs).2 ∧ (vis c row o qs).2.length + neg (vis c row o qs).1 = qs.length + neg o := by
 intro row
 induction row with
 | nil => intro o qs _ hk hw _; exact ⟨hk, hw, rfl⟩
 | cons q row ih =>
  intro o qs hr hk hw hc
  obtain ⟨hq0, hq1⟩ := hr q List.mem_cons_self
  have hr' : ∀ x ∈ row, 0 ≤ x ∧ x < (n : Int) := fun x hx => hr x (List.mem_cons_of_mem _ hx)
  simp only [vis]
  by_cases h : rd o q < 0
  rotate_left
  ·rw [if_neg h]
   exact ih o qs hr' hk hw hc
  rw [if_pos h]
  have hl := hk.len
  have hcc := hk.at hc.1 hc.2.1
  obtain ⟨hk', hn'⟩ := hk.set hq0 hq1 h (v := rd o c + 1) (by omega) (by omega)
  have hs : ∀ x, 0 ≤ x → 0 ≤ rd o x → 0 ≤ rd (o.set q.toNat (rd o c + 1)) x := fun x hx hx1 => by
   rw [rd_set hq0 (by omega) hx]; split <;> omega
  obtain ⟨h1, h2, h3⟩ := ih _ (qs ++ [q]) hr' hk' (fun x hx => by
   rcases List.mem_append.1 hx with hx | hx
   ·obtain ⟨a, b, c'⟩ := hw x hx; exact ⟨a, b, hs x a c'⟩
   ·rw [List.mem_singleton.1 hx]; exact ⟨hq0, hq1, by rw [rd_set hq0 (by omega) hq0, if_pos rfl]; omega⟩) ⟨hc.1, hc.2.1, hs c hc.1 hc.2.2⟩
  refine ⟨h1, h2, ?_⟩
  rw [h3, List.length_append]; simp; omega
theorem lengths_l1 {n : Nat} (hn : n ≤ 8) (g : List (List Int)) (c : Int) (row : List Int) (hr : ∀ q ∈ row, 0 ≤ q ∧ q < (n : Int)) (hrl : row.length ≤ 5) (r : List Int) : ∀ (d i : Nat) (o qs : List Int), row.length - i = d → i ≤ row.length → Known n o → Wait n o qs → (0 ≤ c ∧ c < (n : Int) ∧ 0 ≤ rd o c) → qs.length + neg o ≤ 8 →
  Ev (fun k => yc0.l0 k (vis c (row.drop i) o qs).1 (vis c (row.drop i) o qs).2 g) r → Ev (fun k => yc0.l1 k o (c :: qs) row row.length i g) r := by
 intro d
 induction d with
 | zero =>
  intro i o qs hd hi hk hw hc hb h
  rw [List.drop_of_length_le (by omega)] at h
  refine Ev.step (fun k => ?_) h
  simp only [yc0.l1, vis]
  rw [if_neg (by omega), if_pos (by simp; omega)]
  rfl
 | succ d ih =>
  intro i o qs hd hi hk hw hc hb h
  have hlt : i < row.length := by omega
  have hq := hr (rd row i) (by rw [rd_at hlt]; exact List.getElem_mem _)
  have hl := hk.len
  rw [drop_rd hlt] at h
  simp only [vis] at h
  by_cases hneg : rd o (rd row i) < 0
  rotate_left
  ·rw [if_neg hneg] at h
   refine Ev.step (fun k => ?_) (ih (i + 1) o qs (by omega) (by omega) hk hw hc hb h)
   simp only [yc0.l1]
   rw [if_pos (by omega), if_pos (by omega), if_pos (by omega), if_pos hq.1, if_pos (by omega), if_neg hneg, wrap_nat (by omega)]
  rw [if_pos hneg] at h
  have hcc := hk.at hc.1 hc.2.1
  obtain ⟨hk', hn'⟩ := hk.set hq.1 hq.2 hneg (v := rd o c + 1) (by omega) (by omega)
  have hs : ∀ x, 0 ≤ x → 0 ≤ rd o x → 0 ≤ rd (o.set (rd row i).toNat (rd o c + 1)) x := fun x hx hx1 => by
   rw [rd_set hq.1 (by omega) hx]; split <;> omega
  refine Ev.step (fun k => ?_) (ih (i + 1) _ (qs ++ [rd row i]) (by omega) (by omega) hk' (fun x hx => by
   rcases List.mem_append.1 hx with hx | hx
   ·obtain ⟨a, b, c'⟩ := hw x hx; exact ⟨a, b, hs x a c'⟩
   ·rw [List.mem_singleton.1 hx]; exact ⟨hq.1, hq.2, by rw [rd_set hq.1 (by omega) hq.1, if_pos rfl]; omega⟩) ⟨hc.1, hc.2.1, hs c hc.1 hc.2.2⟩ (by rw [List.length_append]; simp; omega) h)
  simp only [yc0.l1]
  have e0 : rd (c :: qs) 0 = c := rfl
  rw [if_pos (by omega), if_pos (by omega), if_pos (by omega), if_pos hq.1, if_pos (by omega), if_pos hneg, if_pos (by rw [List.length_cons]; omega), e0, if_pos hc.1, if_pos (by omega), if_pos (by rw [List.length_cons]; omega), wrap_nat (by omega), wrap_id (by omega)]
  rfl
theorem lengths_l0 {g : List (List Int)} (hg : goodG g = true) : ∀ (f : Nat) (o qs : List Int), Known g.length o → Wait g.length o qs → qs.length + neg o ≤ f → f ≤ 8 → Ev (fun k => yc0.l0 k o qs g) (bfs g f o qs) := by
 obtain ⟨⟨h1, h8⟩, hrows⟩ := good_iff hg
 intro f
 induction f with
 | zero =>
  intro o qs hk hw hb hf
  have : qs = [] := List.eq_nil_of_length_eq_zero (by omega)
  subst this
  refine Ev.const1 (fun k => ?_)
  simp only [yc0.l0]
  rw [if_neg (by simp)]; rfl
 | succ f ih =>
  intro o qs hk hw hb hf
  cases qs with
  | nil =>
   refine Ev.const1 (fun k => ?_)
   simp only [yc0.l0]
   rw [if_neg (by simp)]; rfl
  | cons c qs =>
   obtain ⟨hc0, hc1, hc2⟩ := hw c List.mem_cons_self
   have hrow := hrows (rd_L1 g c) (by rw [rdL_get hc0 hc1]; exact List.getElem_mem _)
   have hw' : Wait g.length o qs := fun x hx => hw x (List.mem_cons_of_mem _ hx)
   obtain ⟨k1, k2, k3⟩ := vis_keeps h8 c (rd_L1 g c) o qs hrow.2 hk hw' ⟨hc0, hc1, hc2⟩
   simp only [List.length_cons] at hb
   have := lengths_l1 h8 g c (rd_L1 g c) hrow.2 hrow.1 (bfs g (f + 1) o (c :: qs)) _ 0 o qs rfl (Nat.zero_le _) hk hw' ⟨hc0, hc1, hc2⟩ (by omega) (by
    rw [List.drop_zero]
    exact ih _ _ k1 k2 (by omega) (by omega))
   refine Ev.step (fun k => ?_) this
   simp only [yc0.l0]
   have e0 : rd (c :: qs) 0 = c := rfl
   rw [if_pos (by rw [List.length_cons]; omega), if_pos (by rw [List.length_cons]; omega), e0, if_pos hc0, if_pos hc1]
   rfl
theorem neg_rep (n : Nat) : neg (List.replicate n (-1)) = n := by
 induction n with
 | zero => rfl
 | succ n ih => simp only [List.replicate_succ, neg, ih]; rw [if_pos (by omega)]; omega
theorem known0 {n : Nat} {p : Int} (h0 : 0 ≤ p) (h1 : p < (n : Int)) : Known n ((List.replicate n (-1)).set p.toNat 0) ∧ Wait n ((List.replicate n (-1)).set p.toNat 0) [p] ∧ [p].length + neg ((List.replicate n (-1)).set p.toNat 0) ≤ n := by
 have hk : Known n (List.replicate n (-1)) := ⟨by simp, fun x hx => by rw [(List.mem_replicate.1 hx).2]; omega, fun x hx => by rw [(List.mem_replicate.1 hx).2, neg_rep]; omega⟩
 have hr : rd (List.replicate n (-1)) p < 0 := by rw [rd_get h0 (by simpa using h1)]; simp
 obtain ⟨k1, k2⟩ := hk.set h0 h1 hr (v := 0) (by omega) (by rw [neg_rep]; omega)
 rw [neg_rep] at k2
 refine ⟨k1, fun x hx => ?_, by simp; omega⟩
 rw [List.mem_singleton.1 hx]
 exact ⟨h0, h1, by rw [rd_set h0 (by simpa using h1) h0, if_pos rfl]; omega⟩
theorem lengths {g : List (List Int)} {p : Int} (h : placeB g p = true) : Ev (fun k => yc0.f k g p) (far g p) := by
 obtain ⟨hg, h0, h1⟩ := place_iff h
 obtain ⟨⟨hn1, hn8⟩, _⟩ := good_iff hg
 obtain ⟨k1, k2, k3⟩ := known0 h0 h1
 unfold yc0.f
 have hR : yt1.f [-1] (g.length : Int) = some (List.replicate g.length (-1)) := by
  unfold yt1.f; rw [if_pos ⟨rfl, by omega, by omega⟩]; rfl
 exact Ev.bind0 hR (Ev.pos h0 (Ev.pos (by simpa using h1) (lengths_l0 hg g.length _ _ k1 k2 k3 hn8)))
theorem far_len {g : List (List Int)} {p : Int} (h : placeB g p = true) : Known g.length (far g p) := by
 obtain ⟨hg, h0, h1⟩ := place_iff h
 obtain ⟨⟨hn1, hn8⟩, hrows⟩ := good_iff hg
 obtain ⟨k1, k2, k3⟩ := known0 h0 h1
 have : ∀ (f : Nat) (o qs : List Int), Known g.length o → Wait g.length o qs → Known g.length (bfs g f o qs) := by
  intro f
  induction f with
  | zero => intro o qs hk hw; exact hk
  | succ f ih =>
   intro o qs hk hw
   cases qs with
   | nil => exact hk
   | cons c qs =>
    obtain ⟨hc0, hc1, hc2⟩ := hw c List.mem_cons_self
    have hrow := hrows (rd_L1 g c) (by rw [rdL_get hc0 hc1]; exact List.getElem_mem _)
    obtain ⟨k1, k2, k3⟩ := vis_keeps hn8 c (rd_L1 g c) o qs hrow.2 hk (fun x hx => hw x (List.mem_cons_of_mem _ hx)) ⟨hc0, hc1, hc2⟩
    exact ih _ _ k1 k2
 exact this _ _ _ k1 k2
theorem far_l2 {n : Nat} (hn : n ≤ 8) (g : List (List Int)) (c : Int) (pre : List Int) (row : List Int) (hr : ∀ q ∈ row, 0 ≤ q ∧ q < (n : Int)) (hrl : row.length ≤ 5) (r : List Int) : ∀ (d i : Nat) (o qs : List Int), row.length - i = d → i ≤ row.length → Known n o → (0 ≤ c ∧ c < (n : Int) ∧ 0 ≤ rd o c) → pre.length + qs.length + neg o ≤ 8 →
  Ev (fun k => yb0.l1 k (vis c (row.drop i) o qs).1 (pre ++ c :: (vis c (row.drop i) o qs).2) ((pre.length + 1 : Nat) : Int) g) r → Ev (fun k => yb0.l2 k o (pre ++ c :: qs) (pre.length : Int) row row.length i g) r := by
 intro d
 induction d with
 | zero =>
  intro i o qs hd hi hk hc hb h
  rw [List.drop_of_length_le (by omega)] at h
  refine Ev.step (fun k => ?_) h
  simp only [yb0.l2, vis]
  rw [if_neg (by omega), wrap_nat (by omega)]
 | succ d ih =>
  intro i o qs hd hi hk hc hb h
  have hlt : i < row.length := by omega
  have hq := hr (rd row i) (by rw [rd_at hlt]; exact List.getElem_mem _)
  have hl := hk.len
  rw [drop_rd hlt] at h
  simp only [vis] at h
  by_cases hneg : rd o (rd row i) < 0
  rotate_left
  ·rw [if_neg hneg] at h
   refine Ev.step (fun k => ?_) (ih (i + 1) o qs (by omega) (by omega) hk hc hb h)
   simp only [yb0.l2]
   rw [if_pos (by omega), if_pos (by omega), if_pos (by omega), if_pos hq.1, if_pos (by omega), if_neg hneg, wrap_nat (by omega)]
  rw [if_pos hneg] at h
  have hcc := hk.at hc.1 hc.2.1
  obtain ⟨hk', hn'⟩ := hk.set hq.1 hq.2 hneg (v := rd o c + 1) (by omega) (by omega)
  have hs : ∀ x, 0 ≤ x → 0 ≤ rd o x → 0 ≤ rd (o.set (rd row i).toNat (rd o c + 1)) x := fun x hx hx1 => by
   rw [rd_set hq.1 (by omega) hx]; split <;> omega
  refine Ev.step (fun k => ?_) (ih (i + 1) _ (qs ++ [rd row i]) (by omega) (by omega) hk' ⟨hc.1, hc.2.1, hs c hc.1 hc.2.2⟩ (by rw [List.length_append]; simp; omega) h)
  simp only [yb0.l2]
  have e0 : rd (pre ++ c :: qs) (pre.length : Int) = c := by rw [rd_at (by simp)]; simp
  rw [if_pos (by omega), if_pos (by omega), if_pos (by omega), if_pos hq.1, if_pos (by omega), if_pos hneg, if_pos (by omega), if_pos (by simp; omega), e0, if_pos hc.1, if_pos (by omega), if_pos (by simp; omega), wrap_nat (by omega), wrap_id (by omega)]
  simp
theorem far_l1 {g : List (List Int)} (hg : goodG g = true) : ∀ (f : Nat) (o pre qs : List Int), Known g.length o → Wait g.length o qs → qs.length + neg o ≤ f → f ≤ 8 → pre.length + qs.length + neg o ≤ 8 → Ev (fun k => yb0.l1 k o (pre ++ qs) (pre.length : Int) g) (bfs g f o qs) := by
 obtain ⟨⟨h1, h8⟩, hrows⟩ := good_iff hg
 intro f
 induction f with
 | zero =>
  intro o pre qs hk hw hb hf hp
  have : qs = [] := List.eq_nil_of_length_eq_zero (by omega)
  subst this
  refine Ev.const1 (fun k => ?_)
  simp only [yb0.l1]
  rw [if_neg (by simp)]; rfl
 | succ f ih =>
  intro o pre qs hk hw hb hf hp
  cases qs with
  | nil =>
   refine Ev.const1 (fun k => ?_)
   simp only [yb0.l1]
   rw [if_neg (by simp)]; rfl
  | cons c qs =>
   obtain ⟨hc0, hc1, hc2⟩ := hw c List.mem_cons_self
   have hrow := hrows (rd_L1 g c) (by rw [rdL_get hc0 hc1]; exact List.getElem_mem _)
   have hw' : Wait g.length o qs := fun x hx => hw x (List.mem_cons_of_mem _ hx)
   obtain ⟨k1, k2, k3⟩ := vis_keeps h8 c (rd_L1 g c) o qs hrow.2 hk hw' ⟨hc0, hc1, hc2⟩
   simp only [List.length_cons] at hb hp
   have := far_l2 h8 g c pre (rd_L1 g c) hrow.2 hrow.1 (bfs g (f + 1) o (c :: qs)) _ 0 o qs rfl (Nat.zero_le _) hk ⟨hc0, hc1, hc2⟩ (by omega) (by
    rw [List.drop_zero]
    have := ih (vis c (rd_L1 g c) o qs).1 (pre ++ [c]) (vis c (rd_L1 g c) o qs).2 k1 k2 (by omega) (by omega) (by simp; omega)
    simpa [bfs] using this)
   refine Ev.step (fun k => ?_) this
   simp only [yb0.l1]
   have e0 : rd (pre ++ c :: qs) (pre.length : Int) = c := by rw [rd_at (by simp)]; simp
   rw [if_pos (by simp; omega), if_pos (by omega), e0, if_pos hc0, if_pos hc1]
   rfl
theorem far_l0 (g : List (List Int)) (p : Int) (n : Nat) (hn : n ≤ 8) (r : List Int) : ∀ (d i : Nat), n - i = d → i ≤ n → (0 ≤ p ∧ p < (n : Int)) → Ev (fun k => yb0.l1 k ((List.replicate n (-1)).set p.toNat 0) [p] 0 g) r → Ev (fun k => yb0.l0 k p (List.replicate i (-1) ++ List.replicate (n - i) 0) n i g) r := by
 intro d
 induction d with
 | zero =>
  intro i hd hi hp h
  have : i = n := by omega
  subst this
  refine Ev.step (fun k => ?_) h
  simp only [yb0.l0]
  rw [if_neg (by omega), if_pos hp.1, if_pos (by simp; omega)]
  simp
 | succ d ih =>
  intro i hd hi hp h
  refine Ev.step (fun k => ?_) (ih (i + 1) (by omega) (by omega) hp h)
  simp only [yb0.l0]
  rw [if_pos (by omega), if_pos (by omega), if_pos (by simp; omega), wrap_nat (by omega), Int.toNat_natCast]
  congr 1
  obtain ⟨m, hm⟩ : ∃ m, n - i = m + 1 := ⟨n - i - 1, by omega⟩
  rw [hm, show n - (i + 1) = m by omega, List.replicate_succ, List.replicate_succ', List.set_append_right _ _ (by simp)]
  simp
theorem grFar {g : List (List Int)} {p : Int} (h : placeB g p = true) : Ev (fun k => yb0.f k g p) (far g p) := by
 obtain ⟨hg, h0, h1⟩ := place_iff h
 obtain ⟨⟨hn1, hn8⟩, _⟩ := good_iff hg
 obtain ⟨k1, k2, k3⟩ := known0 h0 h1
 unfold yb0.f
 refine Ev.pos (by omega) (Ev.pos (by omega) (Ev.bind0 rfl ?_))
 have := far_l0 g p g.length hn8 (far g p) g.length 0 (by omega) (by omega) ⟨h0, h1⟩ (by
  have := far_l1 hg g.length _ [] [p] k1 k2 k3 hn8 (by simpa using by simp at k3; omega)
  exact this)
 simpa using this
def leadsFrom (g : List (List Int)) (p : Int) : Nat → Nat → Bool
 | 0, _ => true
 | d + 1, i => if rd (far g i) p < 0 then false else leadsFrom g p d (i + 1)
def leads (g : List (List Int)) (p : Int) : Bool := leadsFrom g p g.length 0
theorem leadsTo_l0 {g : List (List Int)} (hg : goodG g = true) (p : Int) (h0 : 0 ≤ p) (h1 : p < (g.length : Int)) : ∀ (d i : Nat), g.length - i = d → i ≤ g.length → Ev (fun k => yt0.l0 k p g.length i g) (leadsFrom g p d i) := by
 have h8 := (good_iff hg).1
 intro d
 induction d with
 | zero =>
  intro i hd hi
  refine Ev.succ ?_
  simp only [yt0.l0]
  exact Ev.neg (by omega) (Ev.now _)
 | succ d ih =>
  intro i hd hi
  have hp := place_of hg (i := i) (by omega)
  have hlen := (far_len hp).len
  refine Ev.succ ?_
  simp only [yt0.l0, leadsFrom]
  refine Ev.pos (by omega) (Ev.bind (lengths hp) (Ev.pos h0 (Ev.pos (by omega) ?_)))
  by_cases h : rd (far g i) p < 0
  ·rw [if_pos h]; exact Ev.pos h (Ev.now _)
  rw [if_neg h]
  refine Ev.neg h ?_
  rw [wrap_nat (by omega)]
  exact ih (i + 1) (by omega) (by omega)
theorem leadsTo {g : List (List Int)} {p : Int} (h : placeB g p = true) : Ev (fun k => yt0.f k g p) (leads g p) := by
 obtain ⟨hg, h0, h1⟩ := place_iff h
 exact leadsTo_l0 hg p h0 h1 g.length 0 (by omega) (by omega)
theorem grLeads_l0 {g : List (List Int)} (hg : goodG g = true) (p : Int) (h0 : 0 ≤ p) (h1 : p < (g.length : Int)) : ∀ (d i : Nat), g.length - i = d → i ≤ g.length → Ev (fun k => yv0.l0 k p g.length i g) (leadsFrom g p d i) := by
 have h8 := (good_iff hg).1
 intro d
 induction d with
 | zero =>
  intro i hd hi
  refine Ev.succ ?_
  simp only [yv0.l0]
  exact Ev.neg (by omega) (Ev.now _)
 | succ d ih =>
  intro i hd hi
  have hp := place_of hg (i := i) (by omega)
  have hlen := (far_len hp).len
  refine Ev.succ ?_
  simp only [yv0.l0, leadsFrom]
  refine Ev.pos (by omega) (Ev.bind (grFar hp) (Ev.pos h0 (Ev.pos (by omega) ?_)))
  by_cases h : rd (far g i) p < 0
  ·rw [if_pos h]; exact Ev.pos h (Ev.now _)
  rw [if_neg h]
  refine Ev.neg h ?_
  rw [wrap_nat (by omega)]
  exact ih (i + 1) (by omega) (by omega)
theorem grLeads {g : List (List Int)} {p : Int} (h : placeB g p = true) : Ev (fun k => yv0.f k g p) (leads g p) := by
 obtain ⟨hg, h0, h1⟩ := place_iff h
 exact grLeads_l0 hg p h0 h1 g.length 0 (by omega) (by omega)
def sunkB (g : List (List Int)) (sink : Int) : Bool := placeB g sink && leads g sink
theorem hasSink_ev (g : List (List Int)) (sink : Int) : Ev (fun k => yn1.f k g sink) (sunkB g sink) := by
 unfold yn1.f sunkB
 refine Ev.bind0 (has1 g sink) ?_
 by_cases hp : placeB g sink = true
 ·exact Ev.pos hp (Ev.bind (leadsTo hp) ((Ev.now _).val (by rw [hp]; rfl)))
 exact Ev.neg hp ((Ev.now _).val (by rw [Bool.eq_false_iff.mpr hp]; rfl))
theorem sunk_iff {g : List (List Int)} {sink : Int} (h : sunkB g sink = true) : placeB g sink = true ∧ leads g sink = true := by
 unfold sunkB at h; simpa using h
theorem chSink_ev (g : List (List Int)) (hl : okSS g) (sink : Int) : Ev (fun k => yp1.f k g sink) (sunkB g sink) := by
 unfold yp1.f sunkB
 refine Ev.bind (grPlace g sink hl) ?_
 by_cases hp : placeB g sink = true
 ·exact Ev.pos hp (Ev.bind (grLeads hp) ((Ev.now _).val (by rw [hp]; rfl)))
 exact Ev.neg hp ((Ev.now _).val (by rw [Bool.eq_false_iff.mpr hp]; rfl))
open DetKit
noncomputable def treesOf (l : List (List Int)) (s : Int) : List (List Int) := trL l s l.length 0 (List.replicate l.length 0)
noncomputable def gateB (l : List (List Int)) (s : Int) : Bool := sunkB l s && decide ((treesOf l s).length ≤ 60)
noncomputable def treeOK (l : List (List Int)) (s : Int) (rot : List Int) : Bool := sinkB l s rot && treeB l rot s
theorem actorL_ev (l : List (List Int)) (s : Int) : Ev (fun k => actorL k l s) (gateB l s) := by
 unfold actorL gateB
 refine Ev.bind (hasSink_ev l s) ?_
 by_cases hs : sunkB l s = true
 rotate_left
 ·refine Ev.neg hs ((Ev.now _).val ?_)
  rw [Bool.eq_false_iff.mpr hs]; rfl
 obtain ⟨hp, hle⟩ := sunk_iff hs
 obtain ⟨hg, h0, h1⟩ := place_iff hp
 have h8 := (good_iff hg).1.2
 have hsq := lap_sq hg (sink := s.toNat) (by omega)
 refine Ev.pos hs (Ev.bind (laplace_ev hg h0 h1) (Ev.bind (determinant_ev (by omega) _ hsq) ((Ev.now _).val ?_)))
 rw [trees_det hg h0 h1, hs, Bool.true_and]
 unfold treesOf
 by_cases h : (trL l s l.length 0 (List.replicate l.length 0)).length ≤ 60
 ·rw [decide_eq_true h, decide_eq_true (by omega)]
 rw [decide_eq_false h, decide_eq_false (by omega)]
theorem acAll_ev (l : List (List Int)) (hl : okSS l) (s : Int) : ∃ t, Ev (fun k => yl1.f k l s) (t, gateB l s) ∧ (gateB l s = true → t = treesOf l s) := by
 unfold yl1.f gateB
 by_cases hs : sunkB l s = true
 rotate_left
 ·refine ⟨[], Ev.bind (chSink_ev l hl s) (Ev.neg hs ((Ev.now _).val ?_)), fun h => ?_⟩
  ·rw [Bool.eq_false_iff.mpr hs]; rfl
  ·rw [Bool.eq_false_iff.mpr hs] at h; cases h
 obtain ⟨hp, hle⟩ := sunk_iff hs
 obtain ⟨hg, h0, h1⟩ := place_iff hp
 refine ⟨(treesOf l s).take 62, Ev.bind (chSink_ev l hl s) (Ev.pos hs (Ev.bind (trAll_ev hg s 61 (by omega)) ((Ev.now _).val ?_))), ?_⟩
 ·rw [hs, Bool.true_and]
  unfold treesOf
  congr 1
  by_cases h : (trL l s l.length 0 (List.replicate l.length 0)).length ≤ 60
  ·rw [decide_eq_true h, decide_eq_true (by rw [List.length_take]; omega)]
  rw [decide_eq_false h, decide_eq_false (by rw [List.length_take]; omega)]
 ·intro h
  rw [hs, Bool.true_and, decide_eq_true_eq] at h
  exact List.take_of_length_le (by omega)
theorem treeL_ev (l : List (List Int)) (s : Int) (rot : List Int) : Ev (fun k => treeL k l s rot) (treeOK l s rot) := by
 unfold treeL treeOK
 refine Ev.bind (areSink_ev l s rot) ?_
 by_cases h : sinkB l s rot = true
 ·exact Ev.pos h ((isTree_ev (Rot.of_sink h).1 s).val (by rw [h]; rfl))
 exact Ev.neg h ((Ev.now _).val (by rw [Bool.eq_false_iff.mpr h]; rfl))
theorem onL_ev (l : List (List Int)) (s : Int) (rot : List Int) : Ev (fun k => onL k l s rot) (gateB l s && treeOK l s rot) := by
 unfold onL
 refine Ev.bind (actorL_ev l s) ?_
 by_cases h : gateB l s = true
 ·exact Ev.pos h ((treeL_ev l s rot).val (by rw [h]; rfl))
 exact Ev.neg h ((Ev.now _).val (by rw [Bool.eq_false_iff.mpr h]; rfl))
theorem acGood_ev (l : List (List Int)) (hl : okSS l) (s : Int) (rot : List Int) : Ev (fun k => ym1.f k l s rot) (gateB l s && treeOK l s rot) := by
 unfold ym1.f treeOK
 obtain ⟨t, ht, _⟩ := acAll_ev l hl s
 refine Ev.bind ht ?_
 by_cases h : gateB l s = true
 rotate_left
 ·exact Ev.neg h ((Ev.now _).val (by rw [Bool.eq_false_iff.mpr h]; rfl))
 refine Ev.pos h (Ev.bind (trGood_ev l hl s rot) ?_)
 by_cases h2 : sinkB l s rot = true
 ·exact Ev.pos h2 (Ev.bind (trIs_ev (Rot.of_sink h2).1 s) ((Ev.now _).val (by rw [h, h2]; rfl)))
 exact Ev.neg h2 ((Ev.now _).val (by rw [Bool.eq_false_iff.mpr h2, h]; rfl))
theorem treeOK_iff {l : List (List Int)} {s : Int} {rot : List Int} (h : treeOK l s rot = true) : Rot l rot ∧ 0 ≤ s ∧ s < (l.length : Int) ∧ rd rot s = 0 ∧ treeB l rot s = true := by
 unfold treeOK at h
 simp only [Bool.and_eq_true] at h
 obtain ⟨hr, h0, h1⟩ := Rot.of_sink h.1
 refine ⟨hr, h0, h1, ?_, h.2⟩
 have := h.1
 unfold sinkB at this
 simp only [Bool.and_eq_true, beq_iff_eq] at this
 exact this.2
structure Live (l : List (List Int)) (s : Int) : Prop where
 good : goodG l = true
 s0 : 0 ≤ s
 s1 : s < (l.length : Int)
 ne : ∀ q : Int, 0 ≤ q → q < (l.length : Int) → q ≠ s → (rd_L1 l q).length ≠ 0
theorem Live.of_tree {l : List (List Int)} {s : Int} {rot : List Int} (hr : Rot l rot) (h0 : 0 ≤ s) (h1 : s < (l.length : Int)) (ht : treeB l rot s = true) : Live l s := by
 refine ⟨hr.good, h0, h1, fun q q0 q1 hq hz => ?_⟩
 obtain ⟨m, hm⟩ := treeB_iff.1 ht q.toNat (by omega)
 rw [Int.toNat_of_nonneg q0] at hm
 cases m with
 | zero => exact hq hm.at_
 | succ m =>
  have := (hm.on 0 (by omega)).2
  simp only [it] at this
  unfold nx at this
  rw [if_pos (by omega)] at this
  omega
def tn (l : List (List Int)) (rot : List Int) (p : Int) : Int := Int.tmod (wrap64 (rd rot p + 1)) ((rd_L1 l p).length : Int)
def yn (l : List (List Int)) (rot : List Int) (p : Int) : Int := rd (rd_L1 l p) (tn l rot p)
theorem tn_eq {l : List (List Int)} {rot : List Int} (hr : Rot l rot) {p : Int} (h0 : 0 ≤ p) (h1 : p < (l.length : Int)) (hz : (rd_L1 l p).length ≠ 0) : tn l rot p = if rd rot p + 1 = ((rd_L1 l p).length : Int) then 0 else rd rot p + 1 := by
 obtain ⟨a, b⟩ := rot_rd hr.rb hr.len h0 h1
 have h5 := ((good_iff hr.good).2 (rd_L1 l p) (by rw [rdL_get h0 h1]; exact List.getElem_mem _)).1
 unfold tn
 rw [wrap_id (by omega), Int.tmod_eq_emod_of_nonneg (by omega)]
 split
 ·rename_i e; rw [e, Int.emod_self]
 ·rw [Int.emod_eq_of_lt (by omega) (by omega)]
theorem tn_lt {l : List (List Int)} {rot : List Int} (hr : Rot l rot) {p : Int} (h0 : 0 ≤ p) (h1 : p < (l.length : Int)) (hz : (rd_L1 l p).length ≠ 0) : 0 ≤ tn l rot p ∧ tn l rot p < ((rd_L1 l p).length : Int) := by
 obtain ⟨a, b⟩ := rot_rd hr.rb hr.len h0 h1
 rw [tn_eq hr h0 h1 hz]
 split <;> omega
theorem yn_lt {l : List (List Int)} {rot : List Int} (hr : Rot l rot) {p : Int} (h0 : 0 ≤ p) (h1 : p < (l.length : Int)) (hz : (rd_L1 l p).length ≠ 0) : 0 ≤ yn l rot p ∧ yn l rot p < (l.length : Int) := by
 obtain ⟨a, b⟩ := tn_lt hr h0 h1 hz
 have := ((good_iff hr.good).2 (rd_L1 l p) (by rw [rdL_get h0 h1]; exact List.getElem_mem _)).2
 exact this _ (by unfold yn; rw [rd_get a b]; exact List.getElem_mem _)
theorem next_rot {l : List (List Int)} {rot : List Int} (hr : Rot l rot) {p : Int} (h0 : 0 ≤ p) (h1 : p < (l.length : Int)) (hz : (rd_L1 l p).length ≠ 0) : Rot l (rot.set p.toNat (tn l rot p)) := by
 obtain ⟨a, b⟩ := tn_lt hr h0 h1 hz
 refine hr.set (p := p.toNat) (by omega) a (.inl ?_)
 rw [Int.toNat_of_nonneg h0]; exact b
theorem stepL_eq {l : List (List Int)} {rot : List Int} (hr : Rot l rot) {p : Int} (h0 : 0 ≤ p) (h1 : p < (l.length : Int)) (hz : (rd_L1 l p).length ≠ 0) : stepL l rot p = some (rot.set p.toNat (tn l rot p), yn l rot p) := by
 obtain ⟨a, b⟩ := tn_lt hr h0 h1 hz
 have hl := hr.len
 unfold stepL yn
 unfold tn at a b ⊢
 rw [if_pos h0, if_pos h1, if_neg (by omega), if_pos (by omega), if_pos a, if_pos b]
theorem own_a (l : List Int) (h : l.length ≤ 1048576) : yf1.f l = some l := by
 unfold yf1.f
 show (if ([] : List Int).length + l.length < 17592186044416 then some ([] ++ l) else none) = some l
 rw [if_pos (by simp; omega)]; rfl
theorem waStep_eq {l : List (List Int)} {rot : List Int} (hr : Rot l rot) {p : Int} (h0 : 0 ≤ p) (h1 : p < (l.length : Int)) (hz : (rd_L1 l p).length ≠ 0) : yf2.f l rot p = some (rot.set p.toNat (tn l rot p), yn l rot p, true) := by
 obtain ⟨a, b⟩ := tn_lt hr h0 h1 hz
 have hl := hr.len
 have h8 := (good_iff hr.good).1.2
 unfold yf2.f yn
 unfold tn at a b ⊢
 rw [if_pos h0, if_pos h1, if_neg (by omega), own_a rot (by omega)]
 show (if p < (rot.length : Int) then (if p < (rot.length : Int) then _ else none) else none) = _
 rw [if_pos (by omega), if_pos (by omega), if_pos a, if_pos b]
def runW (l : List (List Int)) (s : Int) : Nat → List Int → Int → List Int → List Int × List Int × Bool
 | 0, rot, p, out => if p = s then (rot, out, true) else (rot, [], false)
 | d + 1, rot, p, out => if p = s then (rot, out, true) else runW l s d (rot.set p.toNat (tn l rot p)) (yn l rot p) (out ++ [yn l rot p])
theorem path_ev {l : List (List Int)} {s : Int} (lv : Live l s) : ∀ (d : Nat) (rot : List Int) (p : Int) (out : List Int), Rot l rot → 0 ≤ p → p < (l.length : Int) → out.length + d = 4001 → Ev (fun k => pathL l s 4000 k rot p out) (runW l s d rot p out) := by
 intro d
 induction d with
 | zero =>
  intro rot p out hr h0 h1 hl
  refine Ev.succ ?_
  simp only [pathL, runW]
  by_cases hp : p = s
  ·rw [if_pos hp]; exact Ev.pos hp (Ev.now _)
  rw [if_neg hp]; exact Ev.neg hp (Ev.pos (by omega) (Ev.now _))
 | succ d ih =>
  intro rot p out hr h0 h1 hl
  refine Ev.succ ?_
  simp only [pathL, runW]
  by_cases hp : p = s
  ·rw [if_pos hp]; exact Ev.pos hp (Ev.now _)
  rw [if_neg hp]
  have hz := lv.ne p h0 h1 hp
  obtain ⟨y0, y1⟩ := yn_lt hr h0 h1 hz
  refine Ev.neg hp (Ev.neg (by omega) (Ev.bind0 (stepL_eq hr h0 h1 hz) (Ev.pos (by omega) ?_)))
  exact ih _ _ _ (next_rot hr h0 h1 hz) y0 y1 (by simp; omega)
def spR : List Int × List Int × Bool → List Int × List Int
 | (a, b, true) => (a, b)
 | (_, _, false) => ([], [])
theorem acRun_l0 {l : List (List Int)} {s : Int} (lv : Live l s) : ∀ (d : Nat) (rot : List Int) (p : Int) (out : List Int), Rot l rot → 0 ≤ p → p < (l.length : Int) → out.length + d = 4001 → Ev (fun k => yn0.l0 k s out l rot p) (spR (runW l s d rot p out)) := by
 intro d
 induction d with
 | zero =>
  intro rot p out hr h0 h1 hl
  refine Ev.succ ?_
  simp only [yn0.l0, runW]
  by_cases hp : p = s
  ·rw [if_pos hp]; exact Ev.pos hp (Ev.now _)
  rw [if_neg hp]; exact Ev.neg hp (Ev.pos (by omega) (Ev.now _))
 | succ d ih =>
  intro rot p out hr h0 h1 hl
  refine Ev.succ ?_
  simp only [yn0.l0, runW]
  by_cases hp : p = s
  ·rw [if_pos hp]; exact Ev.pos hp (Ev.now _)
  rw [if_neg hp]
  have hz := lv.ne p h0 h1 hp
  obtain ⟨y0, y1⟩ := yn_lt hr h0 h1 hz
  refine Ev.neg hp (Ev.neg (by omega) (Ev.bind0 (waStep_eq hr h0 h1 hz) (Ev.pos (by omega) ?_)))
  exact ih _ _ _ (next_rot hr h0 h1 hz) y0 y1 (by simp; omega)
def actT (l : List (List Int)) (s p : Int) (rot : List Int) : List Int × List Int × Bool := runW l s 4000 rot p [p]
theorem acRun_ev {l : List (List Int)} {s : Int} (lv : Live l s) {rot : List Int} (hr : Rot l rot) {p : Int} (h0 : 0 ≤ p) (h1 : p < (l.length : Int)) : Ev (fun k => yn0.f k l s rot p) (spR (actT l s p rot)) := by
 have hl := hr.len
 have h8 := (good_iff hr.good).1.2
 unfold yn0.f
 exact Ev.bind0 (own_a rot (by omega)) (acRun_l0 lv 4000 rot p [p] hr h0 h1 rfl)
theorem runW_len {l : List (List Int)} {s : Int} : ∀ (d : Nat) (rot : List Int) (p : Int) (out : List Int), (runW l s d rot p out).1.length = rot.length ∧ (runW l s d rot p out).2.1.length ≤ out.length + d ∧ ((runW l s d rot p out).2.2 = true → out.length ≤ (runW l s d rot p out).2.1.length) := by
 intro d
 induction d with
 | zero =>
  intro rot p out
  simp only [runW]
  split
  ·exact ⟨rfl, by simp, fun _ => Nat.le_refl _⟩
  ·exact ⟨rfl, by simp, fun h => by cases h⟩
 | succ d ih =>
  intro rot p out
  simp only [runW]
  split
  ·exact ⟨rfl, Nat.le_add_right _ _, fun _ => Nat.le_refl _⟩
  ·obtain ⟨a, b, c⟩ := ih (rot.set p.toNat (tn l rot p)) (yn l rot p) (out ++ [yn l rot p])
   rw [List.length_set] at a
   rw [List.length_append, List.length_singleton] at b c
   exact ⟨a, by omega, fun h => by have := c h; omega⟩
section
variable {l : List (List Int)} {s : Int} {chips : List Int} {p : Nat}
theorem actL_after (hc : ∀ i : Nat, rd chips (i : Int) = if i = p then 1 else 0) (hl : chips.length ≤ 8) (rot : List Int) (left : Int) : ∀ (d i : Nat), chips.length - i = d → p < i → i ≤ chips.length → Ev (fun k => actL l s chips k none i rot left) (rot, true) := by
 intro d
 induction d with
 | zero =>
  intro i hd hp hi
  refine Ev.succ ?_
  simp only [actL]
  exact Ev.neg (by omega) (Ev.now _)
 | succ d ih =>
  intro i hd hp hi
  refine Ev.succ ?_
  simp only [actL]
  refine Ev.pos (by omega) (Ev.pos (by omega) ?_)
  refine Ev.succ ?_
  simp only [actL]
  refine Ev.neg (by rw [hc, if_neg (by omega)]; omega) ?_
  rw [wrap_nat (by omega)]
  exact ih (i + 1) (by omega) (by omega) (by omega)
theorem actL_from (lv : Live l s) (hc : ∀ i : Nat, rd chips (i : Int) = if i = p then 1 else 0) (hl : chips.length = l.length) (hp : p < l.length) {rot : List Int} (hr : Rot l rot) : ∀ (d i : Nat), p - i = d → i ≤ p → Ev (fun k => actL l s chips k none i rot 4000) (if (actT l s p rot).2.2 then ((actT l s p rot).1, true) else ([], false)) := by
 have h8 := (good_iff hr.good).1.2
 intro d
 induction d with
 | zero =>
  intro i hd hi
  obtain rfl : i = p := by omega
  refine Ev.succ ?_
  simp only [actL]
  refine Ev.pos (by omega) (Ev.pos (by omega) ?_)
  refine Ev.succ ?_
  simp only [actL]
  refine Ev.pos (by rw [hc, if_pos rfl]; omega) (Ev.bind (path_ev lv 4000 rot i [(i : Int)] hr (by omega) (by omega) rfl) ?_)
  show Ev (fun k => if (actT l s i rot).2.2 = true then _ else _) _
  by_cases hb : (actT l s i rot).2.2 = true
  rotate_left
  ·rw [if_neg hb]
   exact Ev.neg hb (Ev.now _)
  rw [if_pos hb]
  refine Ev.pos hb (Ev.succ ?_)
  simp only [actL]
  refine Ev.neg (by rw [hc, if_pos rfl]; unfold wrap64; omega) ?_
  rw [wrap_nat (by omega)]
  exact actL_after hc (by omega) _ _ _ (i + 1) rfl (by omega) (by omega)
 | succ d ih =>
  intro i hd hi
  refine Ev.succ ?_
  simp only [actL]
  refine Ev.pos (by omega) (Ev.pos (by omega) ?_)
  refine Ev.succ ?_
  simp only [actL]
  refine Ev.neg (by rw [hc, if_neg (by omega)]; omega) ?_
  rw [wrap_nat (by omega)]
  exact ih (i + 1) (by omega) (by omega)
end
theorem one_ev {l : List (List Int)} {s : Int} (lv : Live l s) {rot : List Int} (hr : Rot l rot) {p : Int} (h0 : 0 ≤ p) (h1 : p < (l.length : Int)) : Ev (fun k => yk1.f k l s rot p) (if (actT l s p rot).2.2 then ((actT l s p rot).1, true) else ([], false)) := by
 have hl := hr.len
 have h8 := (good_iff hr.good).1.2
 unfold yk1.f
 refine Ev.pos h0 (Ev.pos h1 (Ev.pos (by omega) ?_))
 unfold yv1.f
 have hcl : yj1.f rot = some rot := by unfold yj1.f; rw [if_pos (by omega)]
 refine Ev.pos (by omega) (Ev.bind0 hcl (Ev.pos rfl ?_))
 have := actL_from (chips := (List.replicate l.length 0).set p.toNat 1) (p := p.toNat) lv (fun i => by
  by_cases hi : i < l.length
  ·rw [rd_at (by simpa using hi), List.getElem_set, List.getElem_replicate]
   by_cases e : p.toNat = i
   ·rw [if_pos e, if_pos e.symm]
   rw [if_neg e, if_neg (fun h => e h.symm)]
  ·rw [if_neg (by omega)]; simp [rd, hi]) (by simp) (by omega) hr p.toNat 0 (by omega) (by omega)
 rw [Int.toNat_of_nonneg h0] at this
 exact this
theorem ext_rd {a b : List Int} (hl : a.length = b.length) (h : ∀ i : Nat, i < a.length → rd a (i : Int) = rd b (i : Int)) : a = b := by
 apply List.ext_getElem hl
 intro i h1 h2
 have := h i h1
 rwa [rd_at h1, rd_at h2] at this
theorem in_lexL {g : List (List Int)} {s : Int} : ∀ (d p : Nat) (r r2 : List Int), p + d = g.length → r.length = g.length → Rot g r2 → (∀ i : Nat, (i : Int) = s → rd r2 (i : Int) = rd r (i : Int)) → (∀ i : Nat, i < p → rd r2 (i : Int) = rd r (i : Int)) → r2 ∈ lexL g s d p r := by
 intro d
 induction d with
 | zero =>
  intro p r r2 hp hl hr hs ha
  simp only [lexL, List.mem_singleton]
  have := hr.len
  exact ext_rd (by omega) (fun i hi => ha i (by omega))
 | succ d ih =>
  intro p r r2 hp hl hr hs ha
  have hl2 := hr.len
  simp only [lexL]
  by_cases h : (p : Int) = s
  ·rw [if_pos h]
   refine ih (p + 1) r r2 (by omega) hl hr hs (fun i hi => ?_)
   by_cases e : i = p
   ·rw [e]; exact hs p h
   exact ha i (by omega)
  rw [if_neg h, List.mem_flatMap]
  obtain ⟨a, b⟩ := rot_rd hr.rb hl2 (p := (p : Int)) (by omega) (by omega)
  have h00 : (rd_L1 g (p : Int)).length = 0 → rd r2 (p : Int) = 0 := by
   intro h0
   have := rot_at r2 g hr.rb p (by omega) (by omega)
   rw [rd_at (by omega)]
   rw [rdL_at (by omega)] at h0
   omega
  refine ⟨(rd r2 (p : Int)).toNat, by rw [List.mem_range]; omega, ih (p + 1) _ r2 (by omega) (by simp [hl]) hr (fun i hi => ?_) (fun i hi => ?_)⟩
  ·rw [rd_set_nat (by omega) (by omega), if_neg (by omega)]; exact hs i hi
  ·rw [rd_set_nat (by omega) (by omega)]
   by_cases e : i = p
   ·subst e; rw [if_pos rfl]; omega
   rw [if_neg (by omega)]; exact ha i (by omega)
theorem first_hit {f : Int → Int} {x y : Int} (h : ∃ m, it f m y = x) : ∃ m, it f m y = x ∧ ∀ i, i < m → it f i y ≠ x := by
 obtain ⟨m, hm⟩ := h
 induction m using Nat.strongRecOn with
 | _ m ih =>
  by_cases hx : ∃ i, i < m ∧ it f i y = x
  rotate_left
  ·exact ⟨m, hm, fun i hi he => hx ⟨i, hi, he⟩⟩
  obtain ⟨i, hi, he⟩ := hx
  exact ih i hi he
theorem period {f : Int → Int} {x y : Int} {m : Nat} (hm : it f m y = x) (hn : ∀ i, i < m → it f i y ≠ x) (hb : f x = y) : it f (m + 1) y = y ∧ ∀ i, 0 < i → i ≤ m → it f i y ≠ y := by
 refine ⟨by rw [it_succ, hm, hb], fun i h0 hi he => ?_⟩
 refine hn (m - i) (by omega) ?_
 have : it f (i + (m - i)) y = it f (m - i) (it f i y) := it_add f i (m - i) y
 rw [he, show i + (m - i) = m by omega, hm] at this
 exact this.symm
theorem pred_unique {f : Int → Int} {x1 x2 y : Int} (h1 : ∃ m, it f m y = x1) (h2 : ∃ m, it f m y = x2) (e1 : f x1 = y) (e2 : f x2 = y) : x1 = x2 := by
 obtain ⟨m1, a1, b1⟩ := first_hit h1
 obtain ⟨m2, a2, b2⟩ := first_hit h2
 obtain ⟨p1, q1⟩ := period a1 b1 e1
 obtain ⟨p2, q2⟩ := period a2 b2 e2
 rcases Nat.lt_trichotomy m1 m2 with h | h | h
 ·exact absurd p1 (q2 (m1 + 1) (by omega) (by omega))
 ·rw [← a1, ← a2, h]
 ·exact absurd p2 (q1 (m2 + 1) (by omega) (by omega))
theorem it_agree {f g : Int → Int} {y : Int} : ∀ (m : Nat), (∀ i, i < m → f (it f i y) = g (it f i y)) → it f m y = it g m y := by
 intro m
 induction m with
 | zero => intro _; rfl
 | succ m ih =>
  intro h
  rw [it_succ, it_succ, ← ih (fun i hi => h i (by omega)), h m (by omega)]
def circ (l : List (List Int)) (s p : Int) (rot : List Int) (q : Int) : Int := if q = s then p else nx l rot q
structure Uni (l : List (List Int)) (s p : Int) (ro : List Int) (x : Int) : Prop where
 rot : Rot l ro
 x0 : 0 ≤ x
 x1 : x < (l.length : Int)
 all : ∀ q : Int, 0 ≤ q → q < (l.length : Int) → ∃ m, it (circ l s p ro) m q = x
theorem nx_at {l : List (List Int)} {rot : List Int} {q : Int} (hz : (rd_L1 l q).length ≠ 0) : nx l rot q = rd (rd_L1 l q) (rd rot q) := by unfold nx; rw [if_neg (by omega)]
section
variable {l : List (List Int)} {s p : Int}
theorem uni_start (lv : Live l s) {rot : List Int} (hr : Rot l rot) (ht : treeB l rot s = true) (p0 : 0 ≤ p) (p1 : p < (l.length : Int)) : Uni l s p rot p := by
 refine ⟨hr, p0, p1, fun q q0 q1 => ?_⟩
 obtain ⟨m, hm⟩ := treeB_iff.1 ht q.toNat (by omega)
 rw [Int.toNat_of_nonneg q0] at hm
 have e : it (nx l rot) m q = it (circ l s p rot) m q := it_agree m (fun i hi => by unfold circ; rw [if_neg (hm.on i hi).1])
 exact ⟨m + 1, by rw [it_succ, ← e, hm.at_]; unfold circ; rw [if_pos rfl]⟩
theorem rd_next {rot : List Int} {x t q : Int} (hx0 : 0 ≤ x) (hx1 : x < (rot.length : Int)) (hq : 0 ≤ q) : rd (rot.set x.toNat t) q = if q = x then t else rd rot q := by
 have := rd_set_nat (o := rot) (p := x.toNat) (by omega) (x := q) (v := t) hq
 rw [Int.toNat_of_nonneg hx0] at this
 exact this
theorem circ_far {rot : List Int} {x t q : Int} (hx0 : 0 ≤ x) (hx1 : x < (rot.length : Int)) (hq0 : 0 ≤ q) (hq : q ≠ x) : circ l s p (rot.set x.toNat t) q = circ l s p rot q := by
 unfold circ
 split
 ·rfl
 ·exact nx_congr (by rw [rd_next hx0 hx1 hq0, if_neg hq])
theorem circ_in (lv : Live l s) {rot : List Int} (hr : Rot l rot) (p0 : 0 ≤ p) (p1 : p < (l.length : Int)) {q : Int} (q0 : 0 ≤ q) (q1 : q < (l.length : Int)) : 0 ≤ circ l s p rot q ∧ circ l s p rot q < (l.length : Int) := by
 unfold circ
 split
 ·exact ⟨p0, p1⟩
 ·rename_i h
  have hz := lv.ne q q0 q1 h
  have h2 := nx_lt hr.good hr.rb hr.len q0 q1
  obtain ⟨a, b⟩ := rot_rd hr.rb hr.len q0 q1
  have := ((good_iff hr.good).2 (rd_L1 l q) (by rw [rdL_get q0 q1]; exact List.getElem_mem _)).2
  rw [nx_at hz]
  exact this _ (by rw [rd_get a (by omega)]; exact List.getElem_mem _)
theorem it_in (lv : Live l s) {rot : List Int} (hr : Rot l rot) (p0 : 0 ≤ p) (p1 : p < (l.length : Int)) {q : Int} (q0 : 0 ≤ q) (q1 : q < (l.length : Int)) : ∀ m, 0 ≤ it (circ l s p rot) m q ∧ it (circ l s p rot) m q < (l.length : Int) := by
 intro m
 induction m with
 | zero => exact ⟨q0, q1⟩
 | succ m ih => rw [it_succ]; exact circ_in lv hr p0 p1 ih.1 ih.2
def stR (l : List (List Int)) (rot : List Int) (x : Int) : List Int := rot.set x.toNat (tn l rot x)
theorem circ_new (lv : Live l s) {rot : List Int} {x : Int} (hr : Rot l rot) (x0 : 0 ≤ x) (x1 : x < (l.length : Int)) (hxs : x ≠ s) : circ l s p (stR l rot x) x = yn l rot x := by
 have hl := hr.len
 unfold circ stR
 rw [if_neg hxs, nx_at (lv.ne x x0 x1 hxs), rd_next x0 (by omega) x0, if_pos rfl]
 rfl
theorem lead_on (lv : Live l s) (p0 : 0 ≤ p) (p1 : p < (l.length : Int)) {rot : List Int} {x : Int} (u : Uni l s p rot x) {q : Int} (q0 : 0 ≤ q) (q1 : q < (l.length : Int)) : ∃ m, it (circ l s p (stR l rot x)) m q = x := by
 have hl := u.rot.len
 have hx1 := u.x1
 obtain ⟨m, hm, hn⟩ := first_hit (u.all q q0 q1)
 refine ⟨m, Eq.trans (it_agree m (fun i hi => ?_)).symm hm⟩
 exact (circ_far (rot := rot) u.x0 (by omega) (it_in lv u.rot p0 p1 q0 q1 i).1 (hn i hi)).symm
theorem uni_step (lv : Live l s) (p0 : 0 ≤ p) (p1 : p < (l.length : Int)) {rot : List Int} {x : Int} (u : Uni l s p rot x) (hxs : x ≠ s) : Uni l s p (stR l rot x) (yn l rot x) := by
 have hz := lv.ne x u.x0 u.x1 hxs
 obtain ⟨y0, y1⟩ := yn_lt u.rot u.x0 u.x1 hz
 refine ⟨next_rot u.rot u.x0 u.x1 hz, y0, y1, fun q q0 q1 => ?_⟩
 obtain ⟨m, hm⟩ := lead_on lv p0 p1 u q0 q1
 exact ⟨m + 1, by rw [it_succ, hm, circ_new lv u.rot u.x0 u.x1 hxs]⟩
theorem uni_end (lv : Live l s) (p0 : 0 ≤ p) (p1 : p < (l.length : Int)) {rot : List Int} (u : Uni l s p rot s) : treeB l rot s = true := by
 refine treeB_iff.2 fun j hj => ?_
 obtain ⟨m, hm, hn⟩ := first_hit (u.all (j : Int) (by omega) (by omega))
 have e : ∀ i, i ≤ m → it (circ l s p rot) i (j : Int) = it (nx l rot) i (j : Int) := fun i hi => it_agree i (fun a ha => by
  have h9 := hn a (by omega)
  show (if it (circ l s p rot) a (j : Int) = s then p else nx l rot (it (circ l s p rot) a (j : Int))) = _
  rw [if_neg h9])
 refine ⟨m, by rw [← e m (Nat.le_refl m)]; exact hm, fun i hi => ?_⟩
 have h2 := hn i hi
 have h3 := it_in lv u.rot p0 p1 (q := (j : Int)) (by omega) (by omega) (i + 1)
 rw [it_succ] at h3
 rw [← e i (by omega)]
 refine ⟨h2, ?_⟩
 have := h3.1
 have e2 : circ l s p rot (it (circ l s p rot) i (j : Int)) = nx l rot (it (circ l s p rot) i (j : Int)) := by
  show (if it (circ l s p rot) i (j : Int) = s then p else nx l rot (it (circ l s p rot) i (j : Int))) = _
  rw [if_neg h2]
 rw [e2] at this
 exact this
theorem step_back (lv : Live l s) (p0 : 0 ≤ p) (p1 : p < (l.length : Int)) {r1 r2 : List Int} {x1 x2 : Int} (u1 : Uni l s p r1 x1) (u2 : Uni l s p r2 x2) (n1 : x1 ≠ s) (n2 : x2 ≠ s) (er : stR l r1 x1 = stR l r2 x2) (ey : yn l r1 x1 = yn l r2 x2) : r1 = r2 ∧ x1 = x2 := by
 have z1 := lv.ne x1 u1.x0 u1.x1 n1
 have z2 := lv.ne x2 u2.x0 u2.x1 n2
 obtain ⟨y0, y1⟩ := yn_lt u1.rot u1.x0 u1.x1 z1
 have h1 := lead_on lv p0 p1 u1 y0 y1
 have h2 := lead_on lv p0 p1 u2 (q := yn l r1 x1) y0 y1
 have e1 := circ_new (p := p) lv u1.rot u1.x0 u1.x1 n1
 have e2 := circ_new (p := p) lv u2.rot u2.x0 u2.x1 n2
 rw [← er] at h2 e2
 rw [← ey] at e2
 have hx : x1 = x2 := pred_unique h1 h2 e1 e2
 subst hx
 refine ⟨?_, rfl⟩
 have l1 := u1.rot.len
 have l2 := u2.rot.len
 have ax := u1.x0
 have bx := u1.x1
 refine ext_rd (by omega) (fun i hi => ?_)
 have hrd : ∀ q : Int, 0 ≤ q → rd (stR l r1 x1) q = rd (stR l r2 x1) q := fun q _ => by rw [er]
 have := hrd (i : Int) (by omega)
 unfold stR at this
 rw [rd_next ax (by omega) (by omega), rd_next ax (by omega) (by omega)] at this
 by_cases hix : (i : Int) = x1
 rotate_left
 ·rw [if_neg hix, if_neg hix] at this; exact this
 rw [if_pos hix, if_pos hix, tn_eq u1.rot ax bx z1, tn_eq u2.rot ax bx z2] at this
 obtain ⟨a1, b1⟩ := rot_rd u1.rot.rb u1.rot.len ax bx
 obtain ⟨a2, b2⟩ := rot_rd u2.rot.rb u2.rot.len ax bx
 rw [hix]
 split at this <;> split at this <;> omega
theorem no_start (lv : Live l s) (p0 : 0 ≤ p) (p1 : p < (l.length : Int)) {r : List Int} {x : Int} (u : Uni l s p r x) (n1 : x ≠ s) (ey : yn l r x = p) (ht : treeB l (stR l r x) s = true) : False := by
 have z1 := lv.ne x u.x0 u.x1 n1
 have h1 := lead_on lv p0 p1 u p0 p1
 have e1 := circ_new (p := p) lv u.rot u.x0 u.x1 n1
 rw [ey] at e1
 obtain ⟨m, hm⟩ := treeB_iff.1 ht p.toNat (by omega)
 rw [Int.toNat_of_nonneg p0] at hm
 have e5 : it (nx l (stR l r x)) m p = it (circ l s p (stR l r x)) m p := it_agree m (fun i hi => by
  have h9 := (hm.on i hi).1
  show _ = (if it (nx l (stR l r x)) i p = s then p else nx l (stR l r x) (it (nx l (stR l r x)) i p))
  rw [if_neg h9])
 have h2 : ∃ m, it (circ l s p (stR l r x)) m p = s := ⟨m, by rw [← e5]; exact hm.at_⟩
 exact n1 (pred_unique h1 h2 e1 (by unfold circ; rw [if_pos rfl]))
def Steps (l : List (List Int)) (s : Int) : Nat → List Int → Int → List Int → Int → Prop
 | 0, r, x, r2, x2 => r = r2 ∧ x = x2
 | m + 1, r, x, r2, x2 => ∃ r1 x1, Steps l s m r x r1 x1 ∧ x1 ≠ s ∧ r2 = stR l r1 x1 ∧ x2 = yn l r1 x1
theorem Steps.cons : ∀ (m : Nat) {r : List Int} {x : Int} {r2 : List Int} {x2 : Int}, x ≠ s → Steps l s m (stR l r x) (yn l r x) r2 x2 → Steps l s (m + 1) r x r2 x2 := by
 intro m
 induction m with
 | zero => intro r x r2 x2 hx h; exact ⟨r, x, ⟨rfl, rfl⟩, hx, h.1.symm, h.2.symm⟩
 | succ m ih =>
  intro r x r2 x2 hx h
  obtain ⟨r1, x1, h1, h2, h3, h4⟩ := h
  exact ⟨r1, x1, ih hx h1, h2, h3, h4⟩
theorem Steps.uni (lv : Live l s) (p0 : 0 ≤ p) (p1 : p < (l.length : Int)) : ∀ (m : Nat) {r : List Int} {x : Int} {r2 : List Int} {x2 : Int}, Uni l s p r x → Steps l s m r x r2 x2 → Uni l s p r2 x2 := by
 intro m
 induction m with
 | zero => intro r x r2 x2 u h; obtain ⟨rfl, rfl⟩ := h; exact u
 | succ m ih =>
  intro r x r2 x2 u h
  obtain ⟨r1, x1, h1, h2, rfl, rfl⟩ := h
  exact uni_step lv p0 p1 (ih u h1) h2
theorem Steps.back (lv : Live l s) (p0 : 0 ≤ p) (p1 : p < (l.length : Int)) {r r' : List Int} (hr : Rot l r) (hr' : Rot l r') (ht : treeB l r s = true) (ht' : treeB l r' s = true) : ∀ (a b : Nat) {r2 : List Int} {x2 : Int}, a ≤ b → Steps l s a r p r2 x2 → Steps l s b r' p r2 x2 → r = r' := by
 have u := uni_start (p := p) lv hr ht p0 p1
 have u' := uni_start (p := p) lv hr' ht' p0 p1
 intro a
 induction a with
 | zero =>
  intro b r2 x2 _ h h'
  obtain ⟨rfl, rfl⟩ := h
  cases b with
  | zero => exact h'.1.symm
  | succ b =>
   obtain ⟨r1, x1, h1, h2, e1, e2⟩ := h'
   have u1 := Steps.uni lv p0 p1 b u' h1
   exact (no_start lv p0 p1 u1 h2 e2.symm (by rw [← e1]; exact ht)).elim
 | succ a ih =>
  intro b r2 x2 hab h h'
  cases b with
  | zero => omega
  | succ b =>
   obtain ⟨r1, x1, h1, h2, e1, e2⟩ := h
   obtain ⟨r1', x1', h1', h2', e1', e2'⟩ := h'
   obtain ⟨rfl, rfl⟩ := step_back lv p0 p1 (Steps.uni lv p0 p1 a u h1) (Steps.uni lv p0 p1 b u' h1') h2 h2' (e1.symm.trans e1') (e2.symm.trans e2')
   exact ih b (by omega) h1 h1'
theorem runW_steps : ∀ (d : Nat) (r : List Int) (x : Int) (out : List Int), (runW l s d r x out).2.2 = true → ∃ m, Steps l s m r x (runW l s d r x out).1 s := by
 intro d
 induction d with
 | zero =>
  intro r x out
  simp only [runW]
  split
  ·rename_i h; intro _; exact ⟨0, rfl, h⟩
  ·intro h; cases h
 | succ d ih =>
  intro r x out
  simp only [runW]
  split
  ·rename_i h; intro _; exact ⟨0, rfl, h⟩
  ·rename_i h
   intro h2
   obtain ⟨m, hm⟩ := ih _ _ _ h2
   exact ⟨m + 1, Steps.cons m h hm⟩
theorem runW_sink (lv : Live l s) : ∀ (d : Nat) (r : List Int) (x : Int) (out : List Int), Rot l r → 0 ≤ x → x < (l.length : Int) → rd (runW l s d r x out).1 s = rd r s := by
 intro d
 induction d with
 | zero =>
  intro r x out hr x0 x1
  simp only [runW]
  split <;> rfl
 | succ d ih =>
  intro r x out hr x0 x1
  simp only [runW]
  split
  ·rfl
  ·rename_i h
   have hz := lv.ne x x0 x1 h
   obtain ⟨y0, y1⟩ := yn_lt hr x0 x1 hz
   have hl := hr.len
   rw [ih _ _ _ (next_rot hr x0 x1 hz) y0 y1, rd_next x0 (by omega) lv.s0, if_neg (fun e => h e.symm)]
end
theorem equal_l0 (x y : List Int) (hl : x.length ≤ 9223372036854775807) (hxy : x.length = y.length) : ∀ (d i : Nat), x.length - i = d → i ≤ x.length → Ev (fun k => yq0.l0 k x y x.length i) (decide (x.drop i = y.drop i)) := by
 intro d
 induction d with
 | zero =>
  intro i hd hi
  refine Ev.const1 (fun k => ?_)
  simp only [yq0.l0]
  rw [if_neg (by omega), List.drop_of_length_le (by omega), List.drop_of_length_le (by omega)]
  simp
 | succ d ih =>
  intro i hd hi
  have hlt : i < x.length := by omega
  have hlt2 : i < y.length := by omega
  rw [List.drop_eq_getElem_cons hlt, List.drop_eq_getElem_cons hlt2]
  by_cases e : x[i] = y[i]
  ·refine Ev.step (f := fun k => yq0.l0 k x y x.length (i + 1 : Nat)) (fun k => ?_) ((ih (i + 1) (by omega) (by omega)).val (cons_dec e))
   simp only [yq0.l0]
   rw [if_pos (by omega), if_pos (by omega), if_pos (by omega), if_pos (by omega), rd_at hlt, rd_at hlt2, if_pos e, wrap_nat (by omega)]
  refine Ev.const1 (fun k => ?_)
  simp only [yq0.l0]
  rw [if_pos (by omega), if_pos (by omega), if_pos (by omega), if_pos (by omega), rd_at hlt, rd_at hlt2, if_neg e, decide_eq_false (fun h => e (List.cons.inj h).1)]
theorem equal_ev (x y : List Int) (hl : x.length ≤ 9223372036854775807) : Ev (fun k => yq0.f k x y) (decide (x = y)) := by
 unfold yq0.f
 by_cases h : x.length = y.length
 ·refine Ev.pos (by omega) ?_
  exact equal_l0 x y hl h x.length 0 (by omega) (by omega)
 refine Ev.neg (by omega) ?_
 exact (Ev.now _).val (by have : x ≠ y := fun e => h (by rw [e]); simp [this])
theorem same_l0 (x y : List Int) (hl : x.length ≤ 9223372036854775807) (hxy : x.length = y.length) : ∀ (d i : Nat), x.length - i = d → i ≤ x.length → Ev (fun k => yp0.l0 k x y x.length i) (decide (x.drop i = y.drop i)) := by
 intro d
 induction d with
 | zero =>
  intro i hd hi
  refine Ev.const1 (fun k => ?_)
  simp only [yp0.l0]
  rw [if_neg (by omega), List.drop_of_length_le (by omega), List.drop_of_length_le (by omega)]
  simp
 | succ d ih =>
  intro i hd hi
  have hlt : i < x.length := by omega
  have hlt2 : i < y.length := by omega
  rw [List.drop_eq_getElem_cons hlt, List.drop_eq_getElem_cons hlt2]
  by_cases e : x[i] = y[i]
  ·refine Ev.step (f := fun k => yp0.l0 k x y x.length (i + 1 : Nat)) (fun k => ?_) ((ih (i + 1) (by omega) (by omega)).val (cons_dec e))
   simp only [yp0.l0]
   rw [if_pos (by omega), if_pos (by omega), if_pos (by omega), if_pos (by omega), rd_at hlt, rd_at hlt2, if_pos e, wrap_nat (by omega)]
  refine Ev.const1 (fun k => ?_)
  simp only [yp0.l0]
  rw [if_pos (by omega), if_pos (by omega), if_pos (by omega), if_pos (by omega), rd_at hlt, rd_at hlt2, if_neg e, decide_eq_false (fun h => e (List.cons.inj h).1)]
theorem same_ev (x y : List Int) (hl : x.length ≤ 9223372036854775807) : Ev (fun k => yp0.f k x y) (decide (x = y)) := by
 unfold yp0.f
 by_cases h : x.length = y.length
 ·refine Ev.pos (by omega) ?_
  exact same_l0 x y hl h x.length 0 (by omega) (by omega)
 refine Ev.neg (by omega) ?_
 exact (Ev.now _).val (by have : x ≠ y := fun e => h (by rw [e]); simp [this])
theorem nodup_le {α : Type} [DecidableEq α] : ∀ (a b : List α), a.Nodup → (∀ x, x ∈ a → x ∈ b) → a.length ≤ b.length := by
 intro a
 induction a with
 | nil => intro b _ _; exact Nat.zero_le _
 | cons x a ih =>
  intro b hn hs
  rw [List.nodup_cons] at hn
  have hx := hs x (by simp)
  have := ih (b.erase x) hn.2 (fun y hy => by
   have hne : y ≠ x := fun e => hn.1 (e ▸ hy)
   exact (List.mem_erase_of_ne hne).2 (hs y (by simp [hy])))
  have h2 := List.length_erase_of_mem hx
  have h3 : 0 < b.length := List.length_pos_of_mem hx
  rw [List.length_cons]; omega
theorem lexL_sink {g : List (List Int)} {s : Int} (hs : 0 ≤ s) : ∀ (d p : Nat) (r r2 : List Int), p + d = r.length → r2 ∈ lexL g s d p r → rd r2 s = rd r s := by
 intro d
 induction d with
 | zero => intro p r r2 _ h; simp only [lexL, List.mem_singleton] at h; rw [h]
 | succ d ih =>
  intro p r r2 hp h
  simp only [lexL] at h
  by_cases hps : (p : Int) = s
  ·rw [if_pos hps] at h; exact ih (p + 1) r r2 (by omega) h
  rw [if_neg hps, List.mem_flatMap] at h
  obtain ⟨k, _, h⟩ := h
  rw [ih (p + 1) _ r2 (by simp; omega) h, rd_set_nat (by omega) hs, if_neg (fun e => hps e.symm)]
section
variable {l : List (List Int)} {s p : Int}
theorem treeOK_mk {r : List Int} (hr : Rot l r) (h0 : 0 ≤ s) (h1 : s < (l.length : Int)) (hz : rd r s = 0) (ht : treeB l r s = true) : treeOK l s r = true := by
 unfold treeOK sinkB placeB
 rw [hr.good, decide_eq_true h0, decide_eq_true (show s ≤ (l.length : Int) - 1 by omega), decide_eq_true hr.len, hr.rb, hz, ht]
 rfl
theorem tree_mem {r : List Int} (h : treeOK l s r = true) : r ∈ treesOf l s := by
 obtain ⟨hr, h0, h1, hz, ht⟩ := treeOK_iff h
 unfold treesOf
 rw [← filter_lexL h0 h1 l.length 0 _ (by omega) (rot0 hr.good) (inv0 l s _), List.mem_filter]
 refine ⟨in_lexL l.length 0 _ r (by omega) (by simp) hr (fun i hi => ?_) (fun i hi => by omega), ht⟩
 rw [hi, hz]
 have : rd (List.replicate l.length (0 : Int)) ((i : Nat) : Int) = 0 := by rw [rd_at (by simp; omega)]; simp
 rw [← hi]; exact this.symm
theorem act_tree {r : List Int} (h : treeOK l s r = true) (p0 : 0 ≤ p) (p1 : p < (l.length : Int)) (hok : (actT l s p r).2.2 = true) : treeOK l s (actT l s p r).1 = true := by
 obtain ⟨hr, h0, h1, hz, ht⟩ := treeOK_iff h
 have lv := Live.of_tree hr h0 h1 ht
 unfold actT at hok ⊢
 obtain ⟨m, hm⟩ := runW_steps 4000 r p [p] hok
 have u := Steps.uni lv p0 p1 m (uni_start lv hr ht p0 p1) hm
 exact treeOK_mk u.rot h0 h1 (by rw [runW_sink lv 4000 r p [p] hr p0 p1, hz]) (uni_end lv p0 p1 u)
theorem act_inj {r r' : List Int} (h : treeOK l s r = true) (h' : treeOK l s r' = true) (p0 : 0 ≤ p) (p1 : p < (l.length : Int)) (hok : (actT l s p r).2.2 = true) (hok' : (actT l s p r').2.2 = true) (he : (actT l s p r).1 = (actT l s p r').1) : r = r' := by
 obtain ⟨hr, h0, h1, hz, ht⟩ := treeOK_iff h
 obtain ⟨hr', _, _, _, ht'⟩ := treeOK_iff h'
 have lv := Live.of_tree hr h0 h1 ht
 unfold actT at hok hok' he
 obtain ⟨m, hm⟩ := runW_steps 4000 r p [p] hok
 obtain ⟨m', hm'⟩ := runW_steps 4000 r' p [p] hok'
 rw [he] at hm
 rcases Nat.le_total m m' with h2 | h2
 ·exact Steps.back lv p0 p1 hr hr' ht ht' m m' h2 hm hm'
 ·exact (Steps.back lv p0 p1 hr' hr ht' ht m' m h2 hm' hm).symm
structure OrbI (l : List (List Int)) (s p : Int) (r0 : List Int) (out : List (List Int)) : Prop where
 ok : ∀ r, r ∈ out → treeOK l s r = true
 nd : out.Nodup
 pos : 0 < out.length
 hd : ∀ h : 0 < out.length, out[0] = r0
 nx : ∀ (i : Nat) (h : i + 1 < out.length), (actT l s p (out[i]'(by omega))).2.2 = true ∧ (actT l s p (out[i]'(by omega))).1 = out[i + 1]
theorem OrbI.snoc {r0 : List Int} {out : List (List Int)} (o : OrbI l s p r0 out) (p0 : 0 ≤ p) (p1 : p < (l.length : Int)) {r : List Int} (hr : out[out.length - 1]'(by have := o.pos; omega) = r) (hok : (actT l s p r).2.2 = true) (hne : (actT l s p r).1 ≠ r0) : OrbI l s p r0 (out ++ [(actT l s p r).1]) := by
 have hpos := o.pos
 have hrm : r ∈ out := by rw [← hr]; exact List.getElem_mem _
 have ht := act_tree (o.ok r hrm) p0 p1 hok
 refine ⟨fun x hx => ?_, ?_, by simp, fun h => ?_, fun i h => ?_⟩
 ·rcases List.mem_append.1 hx with h | h
  ·exact o.ok x h
  ·simp only [List.mem_singleton] at h; rw [h]; exact ht
 ·rw [List.nodup_append]
  refine ⟨o.nd, by simp, fun a ha b hb e => ?_⟩
  simp only [List.mem_singleton] at hb
  subst hb
  subst e
  obtain ⟨i, hi, he⟩ := List.mem_iff_getElem.1 ha
  cases i with
  | zero => exact hne (by rw [← he]; exact o.hd hpos)
  | succ i =>
   obtain ⟨a1, a2⟩ := o.nx i hi
   have := act_inj (o.ok _ (List.getElem_mem _)) (o.ok r hrm) p0 p1 a1 hok (by rw [a2, he])
   have h2 : out[i]'(by omega) = out[out.length - 1]'(by omega) := by rw [this, hr]
   have h3 := (List.getElem_inj o.nd).1 h2
   omega
 ·rw [List.getElem_append_left hpos]; exact o.hd hpos
 ·rw [List.length_append, List.length_singleton] at h
  by_cases hlt : i + 1 < out.length
  ·rw [List.getElem_append_left hlt]
   simp only [List.getElem_append_left (show i < out.length by omega)]
   exact o.nx i hlt
  have hi : i = out.length - 1 := by omega
  subst hi
  simp only [List.getElem_append_left (show out.length - 1 < out.length by omega)]
  rw [hr, List.getElem_append_right (by omega)]
  refine ⟨hok, ?_⟩
  simp [show out.length - 1 + 1 - out.length = 0 by omega]
theorem orbit_both (hg : gateB l s = true) {r0 : List Int} (p0 : 0 ≤ p) (p1 : p < (l.length : Int)) (h0 : treeOK l s r0 = true) : ∀ (d : Nat) (out : List (List Int)), out.length + d = 61 → OrbI l s p r0 out →
  ∃ v : List (List Int), Ev (fun k => orbL l s r0 p k out) (v, decide (0 < v.length)) ∧ Ev (fun k => ye0.l0 k s r0 p out l) v ∧ v.length ≤ 61 ∧ ∀ row, row ∈ v → row.length ≤ 8 := by
 have hmany : (treesOf l s).length ≤ 60 := by
  unfold gateB at hg
  simp only [Bool.and_eq_true, decide_eq_true_eq] at hg
  exact hg.2
 intro d
 induction d with
 | zero =>
  intro out hd o
  have := nodup_le out (treesOf l s) o.nd (fun x hx => tree_mem (o.ok x hx))
  omega
 | succ d ih =>
  intro out hd o
  have hpos := o.pos
  have hw : wrap64 ((out.length : Int) - 1) = ((out.length - 1 : Nat) : Int) := by unfold wrap64; omega
  obtain ⟨r, hr⟩ : ∃ r, out[out.length - 1]'(by omega) = r := ⟨_, rfl⟩
  have hrd : rd_L1 out ((out.length - 1 : Nat) : Int) = r := by rw [rdL_at (by omega)]; exact hr
  have hrm : r ∈ out := by rw [← hr]; exact List.getElem_mem _
  have hok := o.ok r hrm
  obtain ⟨hrot, s0, s1, _, ht⟩ := treeOK_iff hok
  obtain ⟨hrot0, _⟩ := treeOK_iff h0
  have lv := Live.of_tree hrot s0 s1 ht
  have h8 := (good_iff hrot.good).1.2
  have hl := hrot.len
  have hl0 := hrot0.len
  have eI := one_ev lv hrot p0 p1
  have eS := acRun_ev lv hrot p0 p1
  have hlen := runW_len (l := l) (s := s) 4000 r p [p]
  have hat : actT l s p r = runW l s 4000 r p [p] := rfl
  rw [← hat] at hlen
  have hs := fun (a : (actT l s p r).2.2 = true) (b : (actT l s p r).1 ≠ r0) => o.snoc p0 p1 hr a b
  obtain ⟨t1, t2, t3, hT⟩ : ∃ t1 t2 t3, actT l s p r = (t1, t2, t3) := ⟨_, _, _, rfl⟩
  rw [hT] at eI eS hlen hs
  cases t3 with
  | false =>
   refine ⟨[], ?_, ?_, by simp, by simp⟩
   ·refine Ev.succ ?_
    simp only [orbL]
    rw [hw, hrd]
    refine Ev.pos (by omega) (Ev.pos (by omega) (Ev.bind eI ?_))
    exact Ev.neg (by simp) ((Ev.now _).val (by simp))
   ·refine Ev.succ ?_
    simp only [ye0.l0]
    rw [hw, hrd]
    refine Ev.pos (by omega) (Ev.pos (by omega) (Ev.bind eS ?_))
    exact Ev.pos (by simp [spR]) (Ev.now _)
  | true =>
   have h9 : 1 ≤ t2.length := hlen.2.2 rfl
   have h10 : t1.length = r.length := hlen.1
   have eq1 : Ev (fun k => yq0.f k t1 r0) (decide (t1 = r0)) := equal_ev t1 r0 (by omega)
   have eq2 : Ev (fun k => yp0.f k t1 r0) (decide (t1 = r0)) := same_ev t1 r0 (by omega)
   by_cases he : t1 = r0
   ·rw [decide_eq_true he] at eq1 eq2
    refine ⟨out, ?_, ?_, by omega, fun row hrow => by have := (treeOK_iff (o.ok row hrow)).1.len; omega⟩
    ·refine Ev.succ ?_
     simp only [orbL]
     rw [hw, hrd]
     refine Ev.pos (by omega) (Ev.pos (by omega) (Ev.bind eI ?_))
     exact Ev.pos (by simp) (Ev.bind eq1 (Ev.pos rfl ((Ev.now _).val (by rw [decide_eq_true hpos]))))
    ·refine Ev.succ ?_
     simp only [ye0.l0]
     rw [hw, hrd]
     refine Ev.pos (by omega) (Ev.pos (by omega) (Ev.bind eS ?_))
     exact Ev.neg (by simp only [spR]; omega) (Ev.bind eq2 (Ev.pos rfl (Ev.now _)))
   rw [decide_eq_false he] at eq1 eq2
   obtain ⟨v, a, b, c, e⟩ := ih (out ++ [t1]) (by simp; omega) (hs rfl he)
   refine ⟨v, ?_, ?_, c, e⟩
   ·refine Ev.succ ?_
    simp only [orbL]
    rw [hw, hrd]
    refine Ev.pos (by omega) (Ev.pos (by omega) (Ev.bind eI ?_))
    exact Ev.pos (by simp) (Ev.bind eq1 (Ev.neg (by simp) (Ev.pos (by omega) a)))
   ·refine Ev.succ ?_
    simp only [ye0.l0]
    rw [hw, hrd]
    refine Ev.pos (by omega) (Ev.pos (by omega) (Ev.bind eS ?_))
    exact Ev.neg (by simp only [spR]; omega) (Ev.bind eq2 (Ev.neg (by simp) (Ev.pos (by omega) b)))
theorem orbit_ev (hg : gateB l s = true) {r0 : List Int} (p0 : 0 ≤ p) (p1 : p < (l.length : Int)) (h0 : treeOK l s r0 = true) :
  ∃ v : List (List Int), Ev (fun k => yr1.f k l s r0 p) (v, decide (0 < v.length)) ∧ Ev (fun k => ye0.f k l s r0 p) v ∧ v.length ≤ 61 ∧ ∀ row, row ∈ v → row.length ≤ 8 := by
 obtain ⟨hrot, s0, s1, _, ht⟩ := treeOK_iff h0
 have h8 := (good_iff hrot.good).1.2
 have hl := hrot.len
 obtain ⟨v, a, b, c, e⟩ := orbit_both hg p0 p1 h0 60 [r0] rfl ⟨fun r hr => by simp only [List.mem_singleton] at hr; rw [hr]; exact h0, by simp, by simp, fun _ => rfl, fun i h => by simp at h⟩
 have hcl : yj1.f r0 = some r0 := by unfold yj1.f; rw [if_pos (by omega)]
 refine ⟨v, ?_, ?_, c, e⟩
 ·unfold yr1.f
  exact Ev.bind0 hcl a
 ·unfold ye0.f
  exact Ev.bind0 (own_a r0 (by omega)) b
end
def marks (a : Int) : Nat → List Int
 | 0 => []
 | n + 1 => a :: marks (a + 1) n
theorem marks_len (a : Int) (n : Nat) : (marks a n).length = n := by
 induction n generalizing a with
 | zero => rfl
 | succ n ih => simp [marks, ih]
theorem markIntS_l0 (n : Nat) (hn : n ≤ 4611686018427387904) : ∀ (d i : Nat) (x : List Int) (a : Int), x.length = n → n - i = d → i ≤ n → 0 ≤ a → a + d ≤ 4611686018427387904 → Ev (fun k => yw0.l0 k x a i) (a + d, x.take i ++ marks a d) := by
 intro d
 induction d with
 | zero =>
  intro i x a hx hd hi h0 h1
  refine Ev.succ ?_
  simp only [yw0.l0]
  refine Ev.neg (by omega) ((Ev.now _).val ?_)
  rw [List.take_of_length_le (by omega)]; simp [marks]
 | succ d ih =>
  intro i x a hx hd hi h0 h1
  refine Ev.succ ?_
  simp only [yw0.l0]
  refine Ev.pos (by omega) (Ev.pos (by omega) ?_)
  rw [wrap_id (x := a + 1) (by omega), wrap_nat (by omega), Int.toNat_natCast]
  refine (ih (i + 1) (x.set i a) (a + 1) (by rw [List.length_set]; exact hx) (by omega) (by omega) (by omega) (by omega)).val ?_
  rw [List.take_succ_eq_append_getElem (by rw [List.length_set]; omega), List.take_set_of_le (Nat.le_refl _), List.getElem_set_self]
  simp only [marks, List.append_assoc, List.singleton_append]
  congr 1; omega
theorem markIntS (x : List Int) (a : Int) (hn : x.length ≤ 4611686018427387904) (h0 : 0 ≤ a) (h1 : a + x.length ≤ 4611686018427387904) : Ev (fun k => yw0.f k x a) (a + x.length, marks a x.length) := by
 have := markIntS_l0 x.length hn x.length 0 x a rfl (by omega) (by omega) h0 h1
 unfold yw0.f
 simpa using this
theorem heldIntS_l0 (n : Nat) (hn : n ≤ 4611686018427387904) (y : List Int) (hy : y.length = n) : ∀ (d i : Nat) (a : Int), n - i = d → i ≤ n → 0 ≤ a → a + d ≤ 4611686018427387904 → y.drop i = marks a d → Ev (fun k => yy0.l0 k y a i) (a + d) := by
 intro d
 induction d with
 | zero =>
  intro i a hd hi h0 h1 he
  refine Ev.succ ?_
  simp only [yy0.l0]
  exact Ev.neg (by omega) ((Ev.now _).val (by simp))
 | succ d ih =>
  intro i a hd hi h0 h1 he
  have hlt : i < y.length := by omega
  rw [List.drop_eq_getElem_cons hlt] at he
  simp only [marks, List.cons.injEq] at he
  refine Ev.succ ?_
  simp only [yy0.l0]
  refine Ev.pos (by omega) (Ev.pos (by omega) (Ev.pos (by rw [rd_at hlt]; exact he.1) ?_))
  rw [wrap_id (x := a + 1) (by omega), wrap_nat (by omega)]
  exact (ih (i + 1) (a + 1) (by omega) (by omega) (by omega) (by omega) he.2).val (by omega)
theorem heldIntS (a : Int) (n : Nat) (h0 : 0 ≤ a) (h1 : a + n ≤ 4611686018427387904) : Ev (fun k => yy0.f k (marks a n) a) (a + n) :=
 heldIntS_l0 n (by omega) _ (marks_len a n) n 0 a (by omega) (by omega) h0 h1 (by simp)
def markRows (a : Int) : List (List Int) → Int × List (List Int)
 | [] => (a, [])
 | row :: rest => ((markRows (a + row.length) rest).1, marks a row.length :: (markRows (a + row.length) rest).2)
theorem markIntSS_l0 (n : Nat) (hn : n ≤ 1048576) : ∀ (d i : Nat) (x : List (List Int)) (a : Int), x.length = n → (∀ row ∈ x.drop i, row.length ≤ 1048576) → n - i = d → i ≤ n → 0 ≤ a → a + 1048576 * d ≤ 4611686018427387904 → Ev (fun k => yd1.l0 k x a i) ((markRows a (x.drop i)).1, x.take i ++ (markRows a (x.drop i)).2) ∧ a ≤ (markRows a (x.drop i)).1 ∧ (markRows a (x.drop i)).1 ≤ a + 1048576 * d := by
 intro d
 induction d with
 | zero =>
  intro i x a hx hr hd hi h0 h1
  rw [List.drop_of_length_le (by omega)]
  refine ⟨?_, by simp [markRows], by simp [markRows]⟩
  refine Ev.succ ?_
  simp only [yd1.l0]
  refine Ev.neg (by omega) ((Ev.now _).val ?_)
  rw [List.take_of_length_le (by omega)]; simp [markRows]
 | succ d ih =>
  intro i x a hx hr hd hi h0 h1
  have hlt : i < x.length := by omega
  have hrow := hr x[i] (by rw [List.drop_eq_getElem_cons hlt]; exact List.mem_cons_self)
  have hdrop : (x.set i (marks a x[i].length)).drop (i + 1) = x.drop (i + 1) := List.drop_set_of_lt (by omega)
  obtain ⟨e1, e2, e3⟩ := ih (i + 1) (x.set i (marks a x[i].length)) (a + x[i].length) (by rw [List.length_set]; exact hx) (fun row hm => hr row (by rw [hdrop] at hm; rw [List.drop_eq_getElem_cons hlt]; exact List.mem_cons_of_mem _ hm)) (by omega) (by omega) (by omega) (by omega)
  rw [hdrop] at e1 e2 e3
  rw [List.drop_eq_getElem_cons hlt]
  simp only [markRows]
  refine ⟨?_, by omega, by omega⟩
  refine Ev.succ ?_
  simp only [yd1.l0]
  refine Ev.pos (by omega) (Ev.pos (by omega) ?_)
  rw [rdL_at hlt]
  refine Ev.bind (markIntS x[i] a (by omega) h0 (by omega)) ?_
  rw [wrap_nat (by omega), Int.toNat_natCast]
  refine e1.val ?_
  rw [List.take_succ_eq_append_getElem (by rw [List.length_set]; omega), List.take_set_of_le (Nat.le_refl _), List.getElem_set_self]
  simp
theorem markIntSS (x : List (List Int)) (hx : small x) (a : Int) (h0 : 0 ≤ a) (h1 : a ≤ 1099511627776) : Ev (fun k => yd1.f k x a) ((markRows a x).1, (markRows a x).2) ∧ a ≤ (markRows a x).1 ∧ (markRows a x).1 ≤ a + 1099511627776 := by
 have hl := hx.1
 obtain ⟨e1, e2, e3⟩ := markIntSS_l0 x.length hx.1 x.length 0 x a rfl (fun row hm => hx.2 row (by simpa using hm)) (by omega) (by omega) h0 (by omega)
 refine ⟨by unfold yd1.f; simpa using e1, by simpa using e2, ?_⟩
 have : (markRows a x).1 ≤ a + 1048576 * x.length := by simpa using e3
 omega
theorem markG (x : List (List Int)) (hx : small x) : ∃ m x', Ev (fun k => yh2.f k x 1) (m, x') ∧ 0 ≤ m ∧ m ≤ 1099511627777 := by
 obtain ⟨e1, e2, e3⟩ := markIntSS x hx 1 (by omega) (by omega)
 exact ⟨_, _, e1, by omega, by omega⟩
theorem heldIntSS_l0 (n : Nat) (hn : n ≤ 1048576) (y : List (List Int)) (hy : y.length = n) : ∀ (d i : Nat) (x : List (List Int)) (a : Int), x.length = d → (∀ row ∈ x, row.length ≤ 1048576) → n - i = d → i ≤ n → 0 ≤ a → a + 1048576 * d ≤ 4611686018427387904 → y.drop i = (markRows a x).2 → Ev (fun k => yz0.l0 k y a i) (markRows a x).1 := by
 intro d
 induction d with
 | zero =>
  intro i x a hx hr hd hi h0 h1 he
  have : x = [] := List.length_eq_zero_iff.1 hx
  subst this
  refine Ev.succ ?_
  simp only [yz0.l0]
  exact Ev.neg (by omega) (Ev.now _)
 | succ d ih =>
  intro i x a hx hr hd hi h0 h1 he
  have hlt : i < y.length := by omega
  cases x with
  | nil => simp at hx
  | cons row rest =>
   rw [List.drop_eq_getElem_cons hlt] at he
   simp only [markRows, List.cons.injEq] at he
   have hrow := hr row List.mem_cons_self
   refine Ev.succ ?_
   simp only [yz0.l0]
   refine Ev.pos (by omega) (Ev.pos (by omega) ?_)
   rw [rdL_at hlt, he.1]
   refine Ev.bind (heldIntS a row.length h0 (by omega)) (Ev.neg (by omega) ?_)
   rw [wrap_nat (by omega)]
   exact ih (i + 1) rest (a + row.length) (by simpa using hx) (fun r hm => hr r (List.mem_cons_of_mem _ hm)) (by omega) (by omega) (by omega) (by omega) he.2
theorem markRows_len (a : Int) (x : List (List Int)) : (markRows a x).2.length = x.length := by
 induction x generalizing a with
 | nil => rfl
 | cons r x ih => simp [markRows, ih]
theorem heldIntSS (x : List (List Int)) (hx : small x) (a : Int) (h0 : 0 ≤ a) (h1 : a ≤ 1099511627776) : Ev (fun k => yz0.f k (markRows a x).2 a) (markRows a x).1 := by
 have hl := hx.1
 exact heldIntSS_l0 x.length hx.1 _ (markRows_len a x) x.length 0 x a rfl hx.2 (by omega) (by omega) h0 (by omega) (by simp)
theorem markRR (x : List (List Int)) (hx : small x) : ∃ q x', Ev (fun k => yd1.f k x 1) (q, x') ∧ 0 ≤ q ∧ Ev (fun k => yz0.f k x' 1) q ∧ True := by
 obtain ⟨e1, e2, e3⟩ := markIntSS x hx 1 (by omega) (by omega)
 exact ⟨_, _, e1, by omega, heldIntSS x hx 1 (by omega) (by omega), trivial⟩
end Go.Proofs.Ytlbgajpbdbgmkaa.M
namespace Go.Proofs.Ytlbgajpbdbgmkaa.Pure
set_option maxHeartbeats 8000000
set_option maxRecDepth 100000
open Go.RowKit Go.Proofs.Ytlbgajpbdbgmkaa.P Go.Proofs.Ytlbgajpbdbgmkaa.In Go.Proofs.Ytlbgajpbdbgmkaa.M Go.Proofs.YtlbgajpbdbgmkaaW.PrintWords Go.Proofs.YtlbgajpbdbgmkaaW.PrintLast
set_option linter.unusedVariables false
set_option linter.unusedSimpArgs false
theorem FnExactOrbitOfTree (l : List (List Int)) (hl : okSS l) (s : Int) (hp : okI s) (ro : List Int) (hro : okIs ro) (p : Int) (hpp : okI p) : yz1.f l s ro p = some true := by
 unfold yz1.f
 rw [if_pos]
 unfold yz1.Good
 intro hlen
 obtain ⟨r, hr, _, hs⟩ := szGraph l hl
 refine ⟨r, hr, fun h => ?_⟩
 have sm := hs h
 obtain ⟨v, b, hS, hI, hv⟩ : ∃ (v : List (List Int)) (b : Bool), Ev (fun k => ys1.f k l s ro p) (v, b) ∧ Ev (fun k => ye1.f k l s ro p) (v, b) ∧ small v := by
  by_cases hg : (gateB l s && treeOK l s ro) = true
  rotate_left
  ·refine ⟨[], false, ?_, ?_, ⟨by simp, by simp⟩⟩
   ·unfold ys1.f
    exact Ev.bind (acGood_ev l hl s ro) (Ev.neg hg (Ev.now _))
   ·unfold ye1.f
    exact Ev.bind (onL_ev l s ro) (Ev.neg hg (Ev.now _))
  have ht := hg
  simp only [Bool.and_eq_true] at ht
  by_cases hpl : placeB l p = true
  rotate_left
  ·refine ⟨[], false, ?_, ?_, ⟨by simp, by simp⟩⟩
   ·unfold ys1.f
    exact Ev.bind (acGood_ev l hl s ro) (Ev.pos hg (Ev.bind (grPlace l p hl) (Ev.neg hpl (Ev.now _))))
   ·unfold ye1.f
    exact Ev.bind (onL_ev l s ro) (Ev.pos hg (Ev.bind0 (has1 l p) (Ev.neg hpl (Ev.now _))))
  obtain ⟨_, p0, p1⟩ := place_iff hpl
  obtain ⟨v, a, b, c, e⟩ := orbit_ev ht.1 p0 p1 ht.2
  refine ⟨v, decide (0 < v.length), ?_, ?_, ⟨by omega, fun row hrow => by have := e row hrow; omega⟩⟩
  ·unfold ys1.f
   refine Ev.bind (acGood_ev l hl s ro) (Ev.pos hg (Ev.bind (grPlace l p hl) (Ev.pos hpl (Ev.bind b ((Ev.now _).val ?_)))))
   congr 1
   by_cases h0 : 0 < v.length
   ·rw [decide_eq_true h0, decide_eq_true (by omega)]
   rw [decide_eq_false h0, decide_eq_false (by omega)]
  ·unfold ye1.f
   exact Ev.bind (onL_ev l s ro) (Ev.pos hg (Ev.bind0 (has1 l p) (Ev.pos hpl a)))
 obtain ⟨m, l', hm, hm0, hm1⟩ := markG l sm
 exact ⟨toGraph l sm, toIntS ro (by omega), v, b, hS, hI, (eqIntSS v v (by have := hv.1; omega) (fun row hr => by have := hv.2 row hr; omega)).val (decide_eq_true rfl), small_eq l sm, (eqIntS ro ro (by omega)).val (decide_eq_true rfl), m, l', hm, hm0, _, _, markIntS ro m (by omega) hm0 (by omega), by omega, markRR v hv⟩
end Go.Proofs.Ytlbgajpbdbgmkaa.Pure
namespace Go.Proofs.Ytlbgajpbdbgmkaa.fnExactOrbitOfTree
set_option maxHeartbeats 8000000
set_option maxRecDepth 100000
open Go.ChangeShapes Go.WideShapes Go.ChangeAt Go.RowKit
open Go.ChangeMaps (open_string shut_string)
open Go.Proofs.Ytlbgajpbdbgmkaa.In Go.Proofs.Ytlbgajpbdbgmkaa.P
set_option linter.unusedVariables false
theorem own : ownKnob Try.prog.godebug = none := by kernel_rfl
theorem laidOut : laidOutB Try.prog = true := by kernel_rfl
theorem lifted (os : Os) (started : os.Started) (H : Type) (enc : TypeId × Value → H) :
  ReturnsInHanded {} Try.checked os 5 .any (Rows.fnExactOrbitOfTreeSpec.pre6 enc Try.prog Try.f5 Rows.fnExactOrbitOfTreeRow.domain false) (Rows.fnExactOrbitOfTreeSpec.post enc Try.prog Try.f5 false true false false) := by
 refine returnsInHanded_of_change_sized (C := Try.checked) own started (by kernel_rfl) Try.func5
  (ChangeSpec.witness6 (enc := enc) (C := Try.checked) false ⟨#[], #[.agg #[.slice none 0 0], .int .i64 0, .slice none 0 0, .int .i64 0], []⟩ 8 (by kernel_rfl) (by kernel_rfl) (by kernel_rfl) (by kernel_rfl)) ?_
 intro W base args ds gs before hval0 hW hcnd hsz0 _
 have hsz : (DataW.weightsEach Try.prog (Try.f5.params.toList ++ Rows.fnExactOrbitOfTreeSpec.plain.varTypes Try.prog) (ds ++ gs)).all (· ≤ reachBytes) = true := hsz0
 have hval : ∀ (j : Nat) t v, Try.f5.params[j]? = some t → args[j]? = some v → Value.okWide Try.prog W .any base t v := hval0
 have hW' := hW
 obtain ⟨p, q, hA0, hV, rfl, hfz, hnd⟩ := hW
 have hA : DataW.TrodAll enc Try.prog W 0 (fun _ => true) true Try.f5.params.toList args.toList ds p := hA0
 rw [Try.params5] at hA hval hsz
 obtain ⟨v0, vs0, d0, ds0, p0, q0, hargs, rfl, rfl, h0, r0⟩ := trodAll_cons hA
 obtain ⟨v1, vs1, d1, ds1, p1, q1, rfl, rfl, rfl, h1, r1⟩ := trodAll_cons r0
 obtain ⟨v2, vs2, d2, ds2, p2, q2, rfl, rfl, rfl, h2, r2⟩ := trodAll_cons r1
 obtain ⟨v3, vs3, d3, ds3, p3, q3, rfl, rfl, rfl, h3, r3⟩ := trodAll_cons r2
 obtain ⟨rfl, rfl, rfl⟩ := trodAll_nil r3
 obtain rfl : args = #[v0, v1, v2, v3] := by cases args; simp_all
 obtain ⟨rfl, rfl⟩ := trodVars_none hV
 have k0 := h0
 have lt0 : ∀ x ∈ p0, x.block < W.heap.size := by obtain ⟨m, hm⟩ := k0; exact DataW.trod_lt m _ _ _ hm
 obtain ⟨A0, l0, cap0, rfl, hl0, hc0, hw0⟩ := in_graph (q := 3) Try.underlying24 (by kernel_rfl) (by kernel_rfl) rfl Try.underlying22 Try.underlying25 Try.underlying3 (by kernel_rfl) (by kernel_rfl) (hval 0 24 v0 rfl rfl) h0
 obtain ⟨a1, rfl, rfl, rfl, w1⟩ := open_int Try.underlying3 (hval 1 3 v1 rfl rfl) h1
 have k2 := h2
 have lt2 : ∀ x ∈ p2, x.block < W.heap.size := by obtain ⟨m, hm⟩ := k2; exact DataW.trod_lt m _ _ _ hm
 obtain ⟨A2, l2, cap2, rfl, hl2, hc2, hw2⟩ := in_slice (q := 3) Try.underlying25 Try.underlying3 (by kernel_rfl) (hval 2 25 v2 rfl rfl) h2
 obtain ⟨a3, rfl, rfl, rfl, w3⟩ := open_int Try.underlying3 (hval 3 3 v3 rfl rfl) h3
 clear hA0 hval0 hsz0 hsz
 have h := Pure.FnExactOrbitOfTree l0 (okSS_wf hc0 hw0) a1 (okI_wf w1) l2 (okIs_wf hw2) a3 (okI_wf w3)
 refine (yz1.calls _ _ l0 a1 _ _ l2 a3 true W hc0 hl0 hc2 hl2 h).mono fun e W' ⟨he, bel0⟩ => ?_
 have bel : Below W.heap.size W W' := bel0
 subst he
 exact ⟨_, rfl, _, _, _, [], _, [], hW', trodAll_mk1 (shut_bool Try.underlying4 _), (trodAll_cons_mk (Below.trod laidOut (by kernel_rfl) (of_decide_eq_true (by kernel_rfl)) k0 bel lt0) (trodAll_cons_mk (shut_int Try.underlying3 w1) (trodAll_cons_mk (Below.trod laidOut (by kernel_rfl) (of_decide_eq_true (by kernel_rfl)) k2 bel lt2) (trodAll_cons_mk (shut_int Try.underlying3 w3) trodAll_mk0)))), rfl, bel.frame _, fun h => by cases h⟩
theorem over : Rows.fnExactOrbitOfTreeRow.holds Try.pinned (OpenSpec.ofChange Rows.fnExactOrbitOfTreeSpec) :=
 OpenClaim.holds_of_wide 5 Try.f5 rfl rfl rfl rfl rfl rfl rfl ⟨rfl, rfl, rfl, rfl, rfl⟩ rfl rfl rfl rfl rfl (by kernel_rfl) Try.func5 (by kernel_rfl)
  (of_decide_eq_true (by kernel_rfl)) (by unfold Func.isWrapper; first | (rw [if_pos (by decide +kernel)]; kernel_rfl) | (rw [if_neg (by decide +kernel)]; exact ⟨rfl, rfl⟩))
  (fun os started H enc _ => lifted os started H enc)
theorem proved : Rows.FnExactOrbitOfTreeSaid := over
end Go.Proofs.Ytlbgajpbdbgmkaa.fnExactOrbitOfTree
namespace Go.Proofs.Ytlbgajpbdbgmkaa
set_option maxHeartbeats 8000000
set_option maxRecDepth 100000
theorem fnExactOrbitOfTree_holds : Rows.FnExactOrbitOfTreeSaid := fnExactOrbitOfTree.proved
#print axioms fnExactOrbitOfTree_holds
end Go.Proofs.Ytlbgajpbdbgmkaa
