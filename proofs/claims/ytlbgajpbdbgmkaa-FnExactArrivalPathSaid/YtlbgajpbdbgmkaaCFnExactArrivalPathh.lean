/- The law FnExactArrivalPath holds for every input: the program returns what the reference returns (or what the law says), for all arguments. -/
import Derived.Test.YtlbgajpbdbgmkaaCFnExactArrivalPathg
import Derived.Test.YtlbgajpbdbgmkaaCFnExactArrivalPathe
import Derived.Test.YtlbgajpbdbgmkaaCFnExactArrivalPathf
import Derived.Test.YtlbgajpbdbgmkaaCFnExactArrivalPathb
import Derived.Test.YtlbgajpbdbgmkaaCFnExactArrivalPathc
import Derived.Test.YtlbgajpbdbgmkaaCFnExactArrivalPathd
import Derived.Test.YtlbgajpbdbgmkaaCFnExactArrivalPatha
import Derived.Test.YtlbgajpbdbgmkaaRows
import Derived.WalkKit
import Derived.ProofKit
import Derived.OpenShut
import Derived.ShutString
import Derived.ChangeOld
import Derived.Below
import Derived.SizedLaws
import Derived.Deep.Matrix
import Derived.Lib.SmallJoins
namespace Go.Proofs.Ytlbgajpbdbgmkaa.M
open Go.RowKit Go.Proofs.Ytlbgajpbdbgmkaa.P Go.Proofs.Ytlbgajpbdbgmkaa.In Go.Proofs.YtlbgajpbdbgmkaaW.PrintWords Go.Proofs.YtlbgajpbdbgmkaaW.PrintLast
set_option linter.unusedVariables false
set_option linter.unusedSimpArgs false
theorem Goes.nodup {f : Int → Int} {s p q : Int} {m : Nat} (h : Goes f s p q m) : (orb f q (m + 1)).Nodup := by
 unfold orb
 rw [List.nodup_iff_pairwise_ne, List.pairwise_map]
 refine List.Pairwise.imp_of_mem ?_ (List.pairwise_lt_range (n := m + 1))
 intro i j hi hj hlt he
 have hj2 : j < m + 1 := List.mem_range.1 hj
 have e : it f (i + (m - j)) q = it f m q := by
  rw [it_add, he, ← it_add, show j + (m - j) = m by omega]
 have := h.on (i + (m - j)) (by omega)
 rw [e] at this
 rcases h.at_ with h2 | h2
 ·exact this.1 h2
 ·omega
theorem Goes.lt {g : List (List Int)} {rot : List Int} (hr : Rot g rot) {s p q : Int} (h0 : 0 ≤ q) (h1 : q < (g.length : Int)) {m : Nat} (h : Goes (nx g rot) s p q m) : m < g.length := by
 have := pigeon g.length _ h.nodup (hr.orb_ok h0 h1 (fun j hj => (h.on j (by omega)).2.2))
 rw [orb_len] at this; omega
theorem loopsL_ev {g : List (List Int)} {rot : List Int} (hr : Rot g rot) {s p : Int} (h0 : 0 ≤ p) (h1 : p < (g.length : Int)) : ∀ (d i : Nat), g.length + 1 - i = d → i ≤ g.length + 1 → (∀ j, j < i → it (nx g rot) j p ≠ s ∧ it (nx g rot) j p ≤ p ∧ 0 ≤ nx g rot (it (nx g rot) j p)) →
  Ev (fun k => loopsL g rot s p k (it (nx g rot) i p) (i : Int)) (loopsB g rot s p) := by
 have h8 := (good_iff hr.good).1.2
 have hno : (¬ ∃ m, Goes (nx g rot) s p p m) → loopsB g rot s p = true := fun h => by unfold loopsB; simp [h]
 have hyes : (∃ m, Goes (nx g rot) s p p m) → loopsB g rot s p = false := fun h => by unfold loopsB; simp [h]
 intro d
 induction d with
 | zero =>
  intro i hd hi ha
  refine Ev.succ ?_
  simp only [loopsL]
  refine Ev.neg (by omega) ((Ev.now _).val ?_)
  symm; apply hno
  rintro ⟨m, hm⟩
  have hlt := hm.lt hr h0 h1
  have := ha m (by omega)
  rcases hm.at_ with e | e
  ·exact this.1 e
  ·omega
 | succ d ih =>
  intro i hd hi ha
  have hp := hr.it_ok h0 h1 i (fun j hj => (ha j hj).2.2)
  refine Ev.succ ?_
  simp only [loopsL]
  refine Ev.pos (by omega) ?_
  by_cases hs : it (nx g rot) i p = s
  ·exact Ev.pos hs ((Ev.now _).val (hyes ⟨i, .inl hs, ha⟩).symm)
  ·refine Ev.neg hs ?_
   by_cases hq : p < it (nx g rot) i p
   ·exact Ev.pos hq ((Ev.now _).val (hyes ⟨i, .inr hq, ha⟩).symm)
   ·refine Ev.neg hq (Ev.bind0 (trNext_eq hr.rb hr.len hp.1 hp.2) ?_)
    by_cases hneg : nx g rot (it (nx g rot) i p) < 0
    ·refine Ev.pos hneg ((Ev.now _).val ?_)
     symm; apply hno
     rintro ⟨m, hm⟩
     rcases Nat.lt_trichotomy m i with h2 | h2 | h2
     ·have := ha m h2
      rcases hm.at_ with e | e
      ·exact this.1 e
      ·omega
     ·subst h2
      rcases hm.at_ with e | e
      ·exact hs e
      ·omega
     ·have := (hm.on i h2).2.2; omega
    ·refine Ev.neg hneg ?_
     rw [← it_succ (nx g rot) i p, wrap_nat (by omega)]
     exact ih (i + 1) (by omega) (by omega) (fun j hj => by
      rcases Nat.lt_or_ge j i with h2 | h2
      ·exact ha j h2
      ·obtain rfl : j = i := by omega
       exact ⟨hs, by omega, by omega⟩)
theorem own_lk (l : List Int) (h : l.length ≤ 1048576) : spec_l1Own.f l = some l := by
 unfold spec_l1Own.f
 show (if ([] : List Int).length + l.length < 17592186044416 then some ([] ++ l) else none) = some l
 rw [if_pos (by simp; omega)]; rfl
def Zr (r : List Int) (p : Nat) : Prop := ∀ i : Nat, p ≤ i → i < r.length → rd r (i : Int) = 0
theorem Zr.set0 {r : List Int} {p : Nat} (h : Zr r p) (hp : p < r.length) : r.set p 0 = r := by
 have := h p (Nat.le_refl p) hp
 rw [rd_at hp] at this
 apply List.ext_getElem (by simp)
 intro i h1 h2
 rw [List.getElem_set]
 split
 ·rename_i e; subst e; exact this.symm
 ·rfl
theorem Zr.up {r : List Int} {p : Nat} (h : Zr r p) (hp : p < r.length) (k : Int) : Zr (r.set p k) (p + 1) := by
 intro i h1 h2
 rw [rd_set_nat hp (by omega), if_neg (by omega)]
 exact h i (by omega) (by simpa using h2)
theorem lookF_ev {g : List (List Int)} {s : Int} (most : Nat) (hm : most ≤ 1000) : ∀ (d p : Nat) (r : List Int) (found : List (List Int)), p + d = g.length → Rot g r → Zr r p → found.length ≤ most + 1 →
  Ev (fun k => lookF g s most k none (p : Int) r found) (r, (found ++ trL g s d p r).take (most + 1)) := by
 intro d
 induction d with
 | zero =>
  intro p r found hp hr hz hf
  have h8 := (good_iff hr.good).1.2
  have hl := hr.len
  refine Ev.succ ?_
  simp only [lookF]
  by_cases h : (most : Int) < (found.length : Int)
  ·refine Ev.pos h ((Ev.now _).val ?_)
   rw [List.take_append_of_le_length (by omega), List.take_of_length_le (by omega)]
  ·refine Ev.neg h (Ev.pos (by omega) (Ev.bind0 (own_lk r (by omega)) (Ev.pos (by omega) ((Ev.now _).val ?_))))
   simp only [trL]
   rw [List.take_of_length_le (by simp; omega)]
 | succ d ih =>
  intro p r found hp hr hz hf
  have h8 := (good_iff hr.good).1.2
  have hl := hr.len
  refine Ev.succ ?_
  simp only [lookF]
  by_cases h : (most : Int) < (found.length : Int)
  ·refine Ev.pos h ((Ev.now _).val ?_)
   rw [List.take_append_of_le_length (by omega), List.take_of_length_le (by omega)]
  ·refine Ev.neg h (Ev.neg (by omega) ?_)
   simp only [trL]
   by_cases hs : (p : Int) = s
   ·rw [if_pos hs]
    refine Ev.pos hs ?_
    rw [wrap_nat (by omega)]
    exact ih (p + 1) r found (by omega) hr (fun i h1 h2 => hz i (by omega) h2) hf
   ·rw [if_neg hs]
    refine Ev.neg hs (Ev.pos (by omega) (Ev.pos (by omega) ?_))
    have h5 := ((good_iff hr.good).2 (rd_L1 g (p : Int)) (by rw [rdL_at (by omega)]; exact List.getElem_mem _)).1
    have key : ∀ e j (x : Int) (found : List (List Int)), (rd_L1 g (p : Int)).length - j = e → j ≤ (rd_L1 g (p : Int)).length → (x = 0 ∨ x < ((rd_L1 g (p : Int)).length : Int)) → 0 ≤ x → found.length ≤ most + 1 →
      Ev (fun k => lookF g s most k (some (j : Int)) (p : Int) (r.set p x) found) (r, (found ++ ((List.range (rd_L1 g (p : Int)).length).drop j).flatMap fun (k : Nat) => if loopsB g (r.set p (k : Int)) s p then [] else trL g s d (p + 1) (r.set p (k : Int))).take (most + 1)) := by
     intro e
     induction e with
     | zero =>
      intro j x found he hj hx hx0 hf
      refine Ev.succ ?_
      simp only [lookF]
      refine Ev.neg (by omega) (Ev.pos (by simp; omega) ((Ev.now _).val ?_))
      rw [Int.toNat_natCast, List.set_set, hz.set0 (by omega), List.drop_eq_nil_of_le (by simp; omega), List.flatMap_nil, List.append_nil, List.take_of_length_le hf]
     | succ e ihe =>
      intro j x found he hj hx hx0 hf
      have hd : (List.range (rd_L1 g (p : Int)).length).drop j = j :: (List.range (rd_L1 g (p : Int)).length).drop (j + 1) := by
       rw [List.drop_eq_getElem_cons (by simp; omega)]; simp
      rw [hd, List.flatMap_cons]
      have hrj : Rot g (r.set p (j : Int)) := hr.set (by omega) (by omega) (.inl (by omega))
      refine Ev.succ ?_
      simp only [lookF]
      refine Ev.pos (by omega) (Ev.pos (by simp; omega) ?_)
      rw [Int.toNat_natCast, List.set_set, wrap_nat (by omega)]
      have hlo := loopsL_ev hrj (s := s) (p := (p : Int)) (by omega) (by omega) (g.length + 1) 0 (by omega) (by omega) (fun j hj => by omega)
      refine Ev.bind hlo ?_
      by_cases hb : loopsB g (r.set p (j : Int)) s p = true
      ·rw [if_pos hb, List.nil_append]
       exact Ev.pos hb (ihe (j + 1) _ found (by omega) (by omega) (.inr (by omega)) (by omega) hf)
      ·rw [if_neg hb]
       refine Ev.neg hb ?_
       rw [wrap_nat (by omega)]
       refine Ev.bind (ih (p + 1) (r.set p (j : Int)) found (by omega) hrj (hz.up (by omega) _) hf) ?_
       refine (ihe (j + 1) _ _ (by omega) (by omega) (.inr (by omega)) (by omega) (by rw [List.length_take]; omega)).val ?_
       rw [← List.append_assoc, List.take_append (l₁ := found ++ trL g s d (p + 1) (r.set p (j : Int)))]
       rw [List.take_append (l₁ := (found ++ trL g s d (p + 1) (r.set p (j : Int))).take (most + 1)), List.take_take, Nat.min_self]
       congr 3
       rw [List.length_take]
       omega
    have := key (rd_L1 g (p : Int)).length 0 0 found (by omega) (by omega) (.inl rfl) (by omega) hf
    rw [hz.set0 (by omega)] at this
    simpa using this
theorem zr0 (n : Nat) : Zr (List.replicate n 0) 0 := by
 intro i _ h
 rw [rd_at h]
 simp
theorem trAll_ev {g : List (List Int)} (hg : goodG g = true) (s : Int) (most : Nat) (hm : most ≤ 1000) : Ev (fun k => spec_trAll.f k g s most) ((trL g s g.length 0 (List.replicate g.length 0)).take (most + 1)) := by
 have h8 := (good_iff hg).1
 unfold spec_trAll.f
 refine Ev.pos (by omega) (Ev.pos (by omega) (Ev.bind (lookF_ev most hm g.length 0 _ [] (by omega) (rot0 hg) (zr0 _) (by simp)) ((Ev.now _).val ?_)))
 rw [List.nil_append]
def neg : List Int → Nat
 | [] => 0
 | x :: l => (if x < 0 then 1 else 0) + neg l
theorem neg_set (o : List Int) (i : Nat) (hi : i < o.length) (h : o[i] < 0) (v : Int) (hv : 0 ≤ v) : neg (o.set i v) + 1 = neg o := by
 induction o generalizing i with
 | nil => simp at hi
 | cons x o ih =>
  cases i with
  | zero =>
   simp only [List.getElem_cons_zero] at h
   simp only [List.set_cons_zero, neg]
   rw [if_neg (by omega), if_pos h]; omega
  | succ i =>
   simp only [List.getElem_cons_succ] at h
   simp only [List.set_cons_succ, neg]
   have := ih i (by simpa using hi) h
   omega
structure Known (n : Nat) (o : List Int) : Prop where
 len : o.length = n
 lo : ∀ x ∈ o, -1 ≤ x
 hi : ∀ x ∈ o, x + 1 ≤ (n : Int) - neg o
theorem Known.at {n : Nat} {o : List Int} (h : Known n o) {q : Int} (h0 : 0 ≤ q) (h1 : q < (n : Int)) : -1 ≤ rd o q ∧ rd o q + 1 ≤ (n : Int) - neg o := by
 have hl := h.len
 rw [rd_get h0 (by omega)]
 exact ⟨h.lo _ (List.getElem_mem _), h.hi _ (List.getElem_mem _)⟩
theorem Known.set {n : Nat} {o : List Int} (h : Known n o) {q : Int} (h0 : 0 ≤ q) (h1 : q < (n : Int)) (hq : rd o q < 0) {v : Int} (hv0 : 0 ≤ v) (hv : v ≤ (n : Int) - neg o) : Known n (o.set q.toNat v) ∧ neg (o.set q.toNat v) + 1 = neg o := by
 have hl := h.len
 rw [rd_get h0 (by omega)] at hq
 have hn := neg_set o q.toNat (by omega) hq v hv0
 refine ⟨⟨by rw [List.length_set]; exact hl, fun x hx => ?_, fun x hx => ?_⟩, hn⟩
 ·rcases List.mem_or_eq_of_mem_set hx with h' | h'
  ·exact h.lo x h'
  ·omega
 ·rcases List.mem_or_eq_of_mem_set hx with h' | h'
  ·have := h.hi x h'; omega
  ·omega
def vis (c : Int) : List Int → List Int → List Int → List Int × List Int
 | [], o, qs => (o, qs)
 | q :: row, o, qs => if rd o q < 0 then vis c row (o.set q.toNat (rd o c + 1)) (qs ++ [q]) else vis c row o qs
def bfs (g : List (List Int)) : Nat → List Int → List Int → List Int
 | 0, o, _ => o
 | _ + 1, o, [] => o
 | f + 1, o, c :: qs => bfs g f (vis c (rd_L1 g c) o qs).1 (vis c (rd_L1 g c) o qs).2
def far (g : List (List Int)) (p : Int) : List Int := bfs g g.length ((List.replicate g.length (-1)).set p.toNat 0) [p]
def Wait (n : Nat) (o qs : List Int) : Prop := ∀ q ∈ qs, 0 ≤ q ∧ q < (n : Int) ∧ 0 ≤ rd o q
theorem vis_keeps {n : Nat} (hn : n ≤ 8) (c : Int) : ∀ (row o qs : List Int), (∀ q ∈ row, 0 ≤ q ∧ q < (n : Int)) → Known n o → Wait n o qs → (0 ≤ c ∧ c < (n : Int) ∧ 0 ≤ rd o c) →
  Known n (vis c row o qs).1 ∧ Wait n (vis c row o qs).1 (vis c row o qs).2 ∧ (vis c row o qs).2.length + neg (vis c row o qs).1 = qs.length + neg o := by
 intro row
 induction row with
 | nil => intro o qs _ hk hw _; exact ⟨hk, hw, rfl⟩
 | cons q row ih =>
  intro o qs hr hk hw hc
  obtain ⟨hq0, hq1⟩ := hr q List.mem_cons_self
  have hr' : ∀ x ∈ row, 0 ≤ x ∧ x < (n : Int) := fun x hx => hr x (List.mem_cons_of_mem _ hx)
  simp only [vis]
  by_cases h : rd o q < 0
  ·rw [if_pos h]
   have hl := hk.len
   have hcc := hk.at hc.1 hc.2.1
   obtain ⟨hk', hn'⟩ := hk.set hq0 hq1 h (v := rd o c + 1) (by omega) (by omega)
   have hs : ∀ x, 0 ≤ x → 0 ≤ rd o x → 0 ≤ rd (o.set q.toNat (rd o c + 1)) x := fun x hx hx1 => by
    rw [rd_set hq0 (by omega) hx]; split <;> omega
   obtain ⟨h1, h2, h3⟩ := ih _ (qs ++ [q]) hr' hk' (fun x hx => by
    rcases List.mem_append.1 hx with hx | hx
    ·obtain ⟨a, b, c'⟩ := hw x hx; exact ⟨a, b, hs x a c'⟩
    ·rw [List.mem_singleton.1 hx]; exact ⟨hq0, hq1, by rw [rd_set hq0 (by omega) hq0, if_pos rfl]; omega⟩) ⟨hc.1, hc.2.1, hs c hc.1 hc.2.2⟩
   refine ⟨h1, h2, ?_⟩
   rw [h3, List.length_append]; simp; omega
  ·rw [if_neg h]
   exact ih o qs hr' hk hw hc
theorem lengths_l1 {n : Nat} (hn : n ≤ 8) (g : List (List Int)) (c : Int) (row : List Int) (hr : ∀ q ∈ row, 0 ≤ q ∧ q < (n : Int)) (hrl : row.length ≤ 5) (r : List Int) : ∀ (d i : Nat) (o qs : List Int), row.length - i = d → i ≤ row.length → Known n o → Wait n o qs → (0 ≤ c ∧ c < (n : Int) ∧ 0 ≤ rd o c) → qs.length + neg o ≤ 8 →
  Ev (fun k => impl_Graph_lengths.l0 k (vis c (row.drop i) o qs).1 (vis c (row.drop i) o qs).2 g) r → Ev (fun k => impl_Graph_lengths.l1 k o (c :: qs) row row.length i g) r := by
 intro d
 induction d with
 | zero =>
  intro i o qs hd hi hk hw hc hb h
  rw [List.drop_of_length_le (by omega)] at h
  refine Ev.step (fun k => ?_) h
  simp only [impl_Graph_lengths.l1, vis]
  rw [if_neg (by omega), if_pos (by simp; omega)]
  rfl
 | succ d ih =>
  intro i o qs hd hi hk hw hc hb h
  have hlt : i < row.length := by omega
  have hq := hr (rd row i) (by rw [rd_at hlt]; exact List.getElem_mem _)
  have hl := hk.len
  rw [drop_rd hlt] at h
  simp only [vis] at h
  by_cases hneg : rd o (rd row i) < 0
  ·rw [if_pos hneg] at h
   have hcc := hk.at hc.1 hc.2.1
   obtain ⟨hk', hn'⟩ := hk.set hq.1 hq.2 hneg (v := rd o c + 1) (by omega) (by omega)
   have hs : ∀ x, 0 ≤ x → 0 ≤ rd o x → 0 ≤ rd (o.set (rd row i).toNat (rd o c + 1)) x := fun x hx hx1 => by
    rw [rd_set hq.1 (by omega) hx]; split <;> omega
   refine Ev.step (fun k => ?_) (ih (i + 1) _ (qs ++ [rd row i]) (by omega) (by omega) hk' (fun x hx => by
    rcases List.mem_append.1 hx with hx | hx
    ·obtain ⟨a, b, c'⟩ := hw x hx; exact ⟨a, b, hs x a c'⟩
    ·rw [List.mem_singleton.1 hx]; exact ⟨hq.1, hq.2, by rw [rd_set hq.1 (by omega) hq.1, if_pos rfl]; omega⟩) ⟨hc.1, hc.2.1, hs c hc.1 hc.2.2⟩ (by rw [List.length_append]; simp; omega) h)
   simp only [impl_Graph_lengths.l1]
   have e0 : rd (c :: qs) 0 = c := rfl
   rw [if_pos (by omega), if_pos (by omega), if_pos (by omega), if_pos hq.1, if_pos (by omega), if_pos hneg, if_pos (by rw [List.length_cons]; omega), e0, if_pos hc.1, if_pos (by omega), if_pos (by rw [List.length_cons]; omega), wrap_nat (by omega), wrap_id (by omega)]
   rfl
  ·rw [if_neg hneg] at h
   refine Ev.step (fun k => ?_) (ih (i + 1) o qs (by omega) (by omega) hk hw hc hb h)
   simp only [impl_Graph_lengths.l1]
   rw [if_pos (by omega), if_pos (by omega), if_pos (by omega), if_pos hq.1, if_pos (by omega), if_neg hneg, wrap_nat (by omega)]
theorem lengths_l0 {g : List (List Int)} (hg : goodG g = true) : ∀ (f : Nat) (o qs : List Int), Known g.length o → Wait g.length o qs → qs.length + neg o ≤ f → f ≤ 8 → Ev (fun k => impl_Graph_lengths.l0 k o qs g) (bfs g f o qs) := by
 obtain ⟨⟨h1, h8⟩, hrows⟩ := good_iff hg
 intro f
 induction f with
 | zero =>
  intro o qs hk hw hb hf
  have : qs = [] := List.eq_nil_of_length_eq_zero (by omega)
  subst this
  refine Ev.const1 (fun k => ?_)
  simp only [impl_Graph_lengths.l0]
  rw [if_neg (by simp)]; rfl
 | succ f ih =>
  intro o qs hk hw hb hf
  cases qs with
  | nil =>
   refine Ev.const1 (fun k => ?_)
   simp only [impl_Graph_lengths.l0]
   rw [if_neg (by simp)]; rfl
  | cons c qs =>
   obtain ⟨hc0, hc1, hc2⟩ := hw c List.mem_cons_self
   have hrow := hrows (rd_L1 g c) (by rw [rdL_get hc0 hc1]; exact List.getElem_mem _)
   have hw' : Wait g.length o qs := fun x hx => hw x (List.mem_cons_of_mem _ hx)
   obtain ⟨k1, k2, k3⟩ := vis_keeps h8 c (rd_L1 g c) o qs hrow.2 hk hw' ⟨hc0, hc1, hc2⟩
   simp only [List.length_cons] at hb
   have := lengths_l1 h8 g c (rd_L1 g c) hrow.2 hrow.1 (bfs g (f + 1) o (c :: qs)) _ 0 o qs rfl (Nat.zero_le _) hk hw' ⟨hc0, hc1, hc2⟩ (by omega) (by
    rw [List.drop_zero]
    exact ih _ _ k1 k2 (by omega) (by omega))
   refine Ev.step (fun k => ?_) this
   simp only [impl_Graph_lengths.l0]
   have e0 : rd (c :: qs) 0 = c := rfl
   rw [if_pos (by rw [List.length_cons]; omega), if_pos (by rw [List.length_cons]; omega), e0, if_pos hc0, if_pos hc1]
   rfl
theorem neg_rep (n : Nat) : neg (List.replicate n (-1)) = n := by
 induction n with
 | zero => rfl
 | succ n ih => simp only [List.replicate_succ, neg, ih]; rw [if_pos (by omega)]; omega
theorem known0 {n : Nat} {p : Int} (h0 : 0 ≤ p) (h1 : p < (n : Int)) : Known n ((List.replicate n (-1)).set p.toNat 0) ∧ Wait n ((List.replicate n (-1)).set p.toNat 0) [p] ∧ [p].length + neg ((List.replicate n (-1)).set p.toNat 0) ≤ n := by
 have hk : Known n (List.replicate n (-1)) := ⟨by simp, fun x hx => by rw [(List.mem_replicate.1 hx).2]; omega, fun x hx => by rw [(List.mem_replicate.1 hx).2, neg_rep]; omega⟩
 have hr : rd (List.replicate n (-1)) p < 0 := by rw [rd_get h0 (by simpa using h1)]; simp
 obtain ⟨k1, k2⟩ := hk.set h0 h1 hr (v := 0) (by omega) (by rw [neg_rep]; omega)
 rw [neg_rep] at k2
 refine ⟨k1, fun x hx => ?_, by simp; omega⟩
 rw [List.mem_singleton.1 hx]
 exact ⟨h0, h1, by rw [rd_set h0 (by simpa using h1) h0, if_pos rfl]; omega⟩
theorem lengths {g : List (List Int)} {p : Int} (h : placeB g p = true) : Ev (fun k => impl_Graph_lengths.f k g p) (far g p) := by
 obtain ⟨hg, h0, h1⟩ := place_iff h
 obtain ⟨⟨hn1, hn8⟩, _⟩ := good_iff hg
 obtain ⟨k1, k2, k3⟩ := known0 h0 h1
 unfold impl_Graph_lengths.f
 have hR : slices_Repeat_int_int.f [-1] (g.length : Int) = some (List.replicate g.length (-1)) := by
  unfold slices_Repeat_int_int.f; rw [if_pos ⟨rfl, by omega, by omega⟩]; rfl
 exact Ev.bind0 hR (Ev.pos h0 (Ev.pos (by simpa using h1) (lengths_l0 hg g.length _ _ k1 k2 k3 hn8)))
theorem far_len {g : List (List Int)} {p : Int} (h : placeB g p = true) : Known g.length (far g p) := by
 obtain ⟨hg, h0, h1⟩ := place_iff h
 obtain ⟨⟨hn1, hn8⟩, hrows⟩ := good_iff hg
 obtain ⟨k1, k2, k3⟩ := known0 h0 h1
 have : ∀ (f : Nat) (o qs : List Int), Known g.length o → Wait g.length o qs → Known g.length (bfs g f o qs) := by
  intro f
  induction f with
  | zero => intro o qs hk hw; exact hk
  | succ f ih =>
   intro o qs hk hw
   cases qs with
   | nil => exact hk
   | cons c qs =>
    obtain ⟨hc0, hc1, hc2⟩ := hw c List.mem_cons_self
    have hrow := hrows (rd_L1 g c) (by rw [rdL_get hc0 hc1]; exact List.getElem_mem _)
    obtain ⟨k1, k2, k3⟩ := vis_keeps hn8 c (rd_L1 g c) o qs hrow.2 hk (fun x hx => hw x (List.mem_cons_of_mem _ hx)) ⟨hc0, hc1, hc2⟩
    exact ih _ _ k1 k2
 exact this _ _ _ k1 k2
theorem far_l2 {n : Nat} (hn : n ≤ 8) (g : List (List Int)) (c : Int) (pre : List Int) (row : List Int) (hr : ∀ q ∈ row, 0 ≤ q ∧ q < (n : Int)) (hrl : row.length ≤ 5) (r : List Int) : ∀ (d i : Nat) (o qs : List Int), row.length - i = d → i ≤ row.length → Known n o → (0 ≤ c ∧ c < (n : Int) ∧ 0 ≤ rd o c) → pre.length + qs.length + neg o ≤ 8 →
  Ev (fun k => spec_grFar.l1 k (vis c (row.drop i) o qs).1 (pre ++ c :: (vis c (row.drop i) o qs).2) ((pre.length + 1 : Nat) : Int) g) r → Ev (fun k => spec_grFar.l2 k o (pre ++ c :: qs) (pre.length : Int) row row.length i g) r := by
 intro d
 induction d with
 | zero =>
  intro i o qs hd hi hk hc hb h
  rw [List.drop_of_length_le (by omega)] at h
  refine Ev.step (fun k => ?_) h
  simp only [spec_grFar.l2, vis]
  rw [if_neg (by omega), wrap_nat (by omega)]
 | succ d ih =>
  intro i o qs hd hi hk hc hb h
  have hlt : i < row.length := by omega
  have hq := hr (rd row i) (by rw [rd_at hlt]; exact List.getElem_mem _)
  have hl := hk.len
  rw [drop_rd hlt] at h
  simp only [vis] at h
  by_cases hneg : rd o (rd row i) < 0
  ·rw [if_pos hneg] at h
   have hcc := hk.at hc.1 hc.2.1
   obtain ⟨hk', hn'⟩ := hk.set hq.1 hq.2 hneg (v := rd o c + 1) (by omega) (by omega)
   have hs : ∀ x, 0 ≤ x → 0 ≤ rd o x → 0 ≤ rd (o.set (rd row i).toNat (rd o c + 1)) x := fun x hx hx1 => by
    rw [rd_set hq.1 (by omega) hx]; split <;> omega
   refine Ev.step (fun k => ?_) (ih (i + 1) _ (qs ++ [rd row i]) (by omega) (by omega) hk' ⟨hc.1, hc.2.1, hs c hc.1 hc.2.2⟩ (by rw [List.length_append]; simp; omega) h)
   simp only [spec_grFar.l2]
   have e0 : rd (pre ++ c :: qs) (pre.length : Int) = c := by rw [rd_at (by simp)]; simp
   rw [if_pos (by omega), if_pos (by omega), if_pos (by omega), if_pos hq.1, if_pos (by omega), if_pos hneg, if_pos (by omega), if_pos (by simp; omega), e0, if_pos hc.1, if_pos (by omega), if_pos (by simp; omega), wrap_nat (by omega), wrap_id (by omega)]
   simp
  ·rw [if_neg hneg] at h
   refine Ev.step (fun k => ?_) (ih (i + 1) o qs (by omega) (by omega) hk hc hb h)
   simp only [spec_grFar.l2]
   rw [if_pos (by omega), if_pos (by omega), if_pos (by omega), if_pos hq.1, if_pos (by omega), if_neg hneg, wrap_nat (by omega)]
theorem far_l1 {g : List (List Int)} (hg : goodG g = true) : ∀ (f : Nat) (o pre qs : List Int), Known g.length o → Wait g.length o qs → qs.length + neg o ≤ f → f ≤ 8 → pre.length + qs.length + neg o ≤ 8 → Ev (fun k => spec_grFar.l1 k o (pre ++ qs) (pre.length : Int) g) (bfs g f o qs) := by
 obtain ⟨⟨h1, h8⟩, hrows⟩ := good_iff hg
 intro f
 induction f with
 | zero =>
  intro o pre qs hk hw hb hf hp
  have : qs = [] := List.eq_nil_of_length_eq_zero (by omega)
  subst this
  refine Ev.const1 (fun k => ?_)
  simp only [spec_grFar.l1]
  rw [if_neg (by simp)]; rfl
 | succ f ih =>
  intro o pre qs hk hw hb hf hp
  cases qs with
  | nil =>
   refine Ev.const1 (fun k => ?_)
   simp only [spec_grFar.l1]
   rw [if_neg (by simp)]; rfl
  | cons c qs =>
   obtain ⟨hc0, hc1, hc2⟩ := hw c List.mem_cons_self
   have hrow := hrows (rd_L1 g c) (by rw [rdL_get hc0 hc1]; exact List.getElem_mem _)
   have hw' : Wait g.length o qs := fun x hx => hw x (List.mem_cons_of_mem _ hx)
   obtain ⟨k1, k2, k3⟩ := vis_keeps h8 c (rd_L1 g c) o qs hrow.2 hk hw' ⟨hc0, hc1, hc2⟩
   simp only [List.length_cons] at hb hp
   have := far_l2 h8 g c pre (rd_L1 g c) hrow.2 hrow.1 (bfs g (f + 1) o (c :: qs)) _ 0 o qs rfl (Nat.zero_le _) hk ⟨hc0, hc1, hc2⟩ (by omega) (by
    rw [List.drop_zero]
    have := ih (vis c (rd_L1 g c) o qs).1 (pre ++ [c]) (vis c (rd_L1 g c) o qs).2 k1 k2 (by omega) (by omega) (by simp; omega)
    simpa [bfs] using this)
   refine Ev.step (fun k => ?_) this
   simp only [spec_grFar.l1]
   have e0 : rd (pre ++ c :: qs) (pre.length : Int) = c := by rw [rd_at (by simp)]; simp
   rw [if_pos (by simp; omega), if_pos (by omega), e0, if_pos hc0, if_pos hc1]
   rfl
theorem far_l0 (g : List (List Int)) (p : Int) (n : Nat) (hn : n ≤ 8) (r : List Int) : ∀ (d i : Nat), n - i = d → i ≤ n → (0 ≤ p ∧ p < (n : Int)) → Ev (fun k => spec_grFar.l1 k ((List.replicate n (-1)).set p.toNat 0) [p] 0 g) r → Ev (fun k => spec_grFar.l0 k p (List.replicate i (-1) ++ List.replicate (n - i) 0) n i g) r := by
 intro d
 induction d with
 | zero =>
  intro i hd hi hp h
  have : i = n := by omega
  subst this
  refine Ev.step (fun k => ?_) h
  simp only [spec_grFar.l0]
  rw [if_neg (by omega), if_pos hp.1, if_pos (by simp; omega)]
  simp
 | succ d ih =>
  intro i hd hi hp h
  refine Ev.step (fun k => ?_) (ih (i + 1) (by omega) (by omega) hp h)
  simp only [spec_grFar.l0]
  rw [if_pos (by omega), if_pos (by omega), if_pos (by simp; omega), wrap_nat (by omega), Int.toNat_natCast]
  congr 1
  obtain ⟨m, hm⟩ : ∃ m, n - i = m + 1 := ⟨n - i - 1, by omega⟩
  rw [hm, show n - (i + 1) = m by omega, List.replicate_succ, List.replicate_succ', List.set_append_right _ _ (by simp)]
  simp
theorem grFar {g : List (List Int)} {p : Int} (h : placeB g p = true) : Ev (fun k => spec_grFar.f k g p) (far g p) := by
 obtain ⟨hg, h0, h1⟩ := place_iff h
 obtain ⟨⟨hn1, hn8⟩, _⟩ := good_iff hg
 obtain ⟨k1, k2, k3⟩ := known0 h0 h1
 unfold spec_grFar.f
 refine Ev.pos (by omega) (Ev.pos (by omega) (Ev.bind0 rfl ?_))
 have := far_l0 g p g.length hn8 (far g p) g.length 0 (by omega) (by omega) ⟨h0, h1⟩ (by
  have := far_l1 hg g.length _ [] [p] k1 k2 k3 hn8 (by simpa using by simp at k3; omega)
  exact this)
 simpa using this
def leadsFrom (g : List (List Int)) (p : Int) : Nat → Nat → Bool
 | 0, _ => true
 | d + 1, i => if rd (far g i) p < 0 then false else leadsFrom g p d (i + 1)
def leads (g : List (List Int)) (p : Int) : Bool := leadsFrom g p g.length 0
theorem leadsTo_l0 {g : List (List Int)} (hg : goodG g = true) (p : Int) (h0 : 0 ≤ p) (h1 : p < (g.length : Int)) : ∀ (d i : Nat), g.length - i = d → i ≤ g.length → Ev (fun k => impl_Graph_leadsTo.l0 k p g.length i g) (leadsFrom g p d i) := by
 have h8 := (good_iff hg).1
 intro d
 induction d with
 | zero =>
  intro i hd hi
  refine Ev.succ ?_
  simp only [impl_Graph_leadsTo.l0]
  exact Ev.neg (by omega) (Ev.now _)
 | succ d ih =>
  intro i hd hi
  have hp := place_of hg (i := i) (by omega)
  have hlen := (far_len hp).len
  refine Ev.succ ?_
  simp only [impl_Graph_leadsTo.l0, leadsFrom]
  refine Ev.pos (by omega) (Ev.bind (lengths hp) (Ev.pos h0 (Ev.pos (by omega) ?_)))
  by_cases h : rd (far g i) p < 0
  ·rw [if_pos h]; exact Ev.pos h (Ev.now _)
  ·rw [if_neg h]
   refine Ev.neg h ?_
   rw [wrap_nat (by omega)]
   exact ih (i + 1) (by omega) (by omega)
theorem leadsTo {g : List (List Int)} {p : Int} (h : placeB g p = true) : Ev (fun k => impl_Graph_leadsTo.f k g p) (leads g p) := by
 obtain ⟨hg, h0, h1⟩ := place_iff h
 exact leadsTo_l0 hg p h0 h1 g.length 0 (by omega) (by omega)
theorem grLeads_l0 {g : List (List Int)} (hg : goodG g = true) (p : Int) (h0 : 0 ≤ p) (h1 : p < (g.length : Int)) : ∀ (d i : Nat), g.length - i = d → i ≤ g.length → Ev (fun k => spec_grLeads.l0 k p g.length i g) (leadsFrom g p d i) := by
 have h8 := (good_iff hg).1
 intro d
 induction d with
 | zero =>
  intro i hd hi
  refine Ev.succ ?_
  simp only [spec_grLeads.l0]
  exact Ev.neg (by omega) (Ev.now _)
 | succ d ih =>
  intro i hd hi
  have hp := place_of hg (i := i) (by omega)
  have hlen := (far_len hp).len
  refine Ev.succ ?_
  simp only [spec_grLeads.l0, leadsFrom]
  refine Ev.pos (by omega) (Ev.bind (grFar hp) (Ev.pos h0 (Ev.pos (by omega) ?_)))
  by_cases h : rd (far g i) p < 0
  ·rw [if_pos h]; exact Ev.pos h (Ev.now _)
  ·rw [if_neg h]
   refine Ev.neg h ?_
   rw [wrap_nat (by omega)]
   exact ih (i + 1) (by omega) (by omega)
theorem grLeads {g : List (List Int)} {p : Int} (h : placeB g p = true) : Ev (fun k => spec_grLeads.f k g p) (leads g p) := by
 obtain ⟨hg, h0, h1⟩ := place_iff h
 exact grLeads_l0 hg p h0 h1 g.length 0 (by omega) (by omega)
def sunkB (g : List (List Int)) (sink : Int) : Bool := placeB g sink && leads g sink
theorem hasSink_ev (g : List (List Int)) (sink : Int) : Ev (fun k => impl_hasSink.f k g sink) (sunkB g sink) := by
 unfold impl_hasSink.f sunkB
 refine Ev.bind0 (has1 g sink) ?_
 by_cases hp : placeB g sink = true
 ·exact Ev.pos hp (Ev.bind (leadsTo hp) ((Ev.now _).val (by rw [hp]; rfl)))
 ·exact Ev.neg hp ((Ev.now _).val (by rw [Bool.eq_false_iff.mpr hp]; rfl))
theorem sunk_iff {g : List (List Int)} {sink : Int} (h : sunkB g sink = true) : placeB g sink = true ∧ leads g sink = true := by
 unfold sunkB at h; simpa using h
theorem chSink_ev (g : List (List Int)) (hl : okSS g) (sink : Int) : Ev (fun k => spec_chSink.f k g sink) (sunkB g sink) := by
 unfold spec_chSink.f sunkB
 refine Ev.bind (grPlace g sink hl) ?_
 by_cases hp : placeB g sink = true
 ·exact Ev.pos hp (Ev.bind (grLeads hp) ((Ev.now _).val (by rw [hp]; rfl)))
 ·exact Ev.neg hp ((Ev.now _).val (by rw [Bool.eq_false_iff.mpr hp]; rfl))
open DetKit
noncomputable def treesOf (l : List (List Int)) (s : Int) : List (List Int) := trL l s l.length 0 (List.replicate l.length 0)
noncomputable def gateB (l : List (List Int)) (s : Int) : Bool := sunkB l s && decide ((treesOf l s).length ≤ 60)
noncomputable def treeOK (l : List (List Int)) (s : Int) (rot : List Int) : Bool := sinkB l s rot && treeB l rot s
theorem actorL_ev (l : List (List Int)) (s : Int) : Ev (fun k => actorL k l s) (gateB l s) := by
 unfold actorL gateB
 refine Ev.bind (hasSink_ev l s) ?_
 by_cases hs : sunkB l s = true
 ·obtain ⟨hp, hle⟩ := sunk_iff hs
  obtain ⟨hg, h0, h1⟩ := place_iff hp
  have h8 := (good_iff hg).1.2
  have hsq := lap_sq hg (sink := s.toNat) (by omega)
  refine Ev.pos hs (Ev.bind (laplace_ev hg h0 h1) (Ev.bind (determinant_ev (by omega) _ hsq) ((Ev.now _).val ?_)))
  rw [trees_det hg h0 h1, hs, Bool.true_and]
  unfold treesOf
  by_cases h : (trL l s l.length 0 (List.replicate l.length 0)).length ≤ 60
  ·rw [decide_eq_true h, decide_eq_true (by omega)]
  ·rw [decide_eq_false h, decide_eq_false (by omega)]
 ·refine Ev.neg hs ((Ev.now _).val ?_)
  rw [Bool.eq_false_iff.mpr hs]; rfl
theorem acAll_ev (l : List (List Int)) (hl : okSS l) (s : Int) : ∃ t, Ev (fun k => spec_acAll.f k l s) (t, gateB l s) ∧ (gateB l s = true → t = treesOf l s) := by
 unfold spec_acAll.f gateB
 by_cases hs : sunkB l s = true
 ·obtain ⟨hp, hle⟩ := sunk_iff hs
  obtain ⟨hg, h0, h1⟩ := place_iff hp
  refine ⟨(treesOf l s).take 62, Ev.bind (chSink_ev l hl s) (Ev.pos hs (Ev.bind (trAll_ev hg s 61 (by omega)) ((Ev.now _).val ?_))), ?_⟩
  ·rw [hs, Bool.true_and]
   unfold treesOf
   congr 1
   by_cases h : (trL l s l.length 0 (List.replicate l.length 0)).length ≤ 60
   ·rw [decide_eq_true h, decide_eq_true (by rw [List.length_take]; omega)]
   ·rw [decide_eq_false h, decide_eq_false (by rw [List.length_take]; omega)]
  ·intro h
   rw [hs, Bool.true_and, decide_eq_true_eq] at h
   exact List.take_of_length_le (by omega)
 ·refine ⟨[], Ev.bind (chSink_ev l hl s) (Ev.neg hs ((Ev.now _).val ?_)), fun h => ?_⟩
  ·rw [Bool.eq_false_iff.mpr hs]; rfl
  ·rw [Bool.eq_false_iff.mpr hs] at h; cases h
theorem treeL_ev (l : List (List Int)) (s : Int) (rot : List Int) : Ev (fun k => treeL k l s rot) (treeOK l s rot) := by
 unfold treeL treeOK
 refine Ev.bind (areSink_ev l s rot) ?_
 by_cases h : sinkB l s rot = true
 ·exact Ev.pos h ((isTree_ev (Rot.of_sink h).1 s).val (by rw [h]; rfl))
 ·exact Ev.neg h ((Ev.now _).val (by rw [Bool.eq_false_iff.mpr h]; rfl))
theorem onL_ev (l : List (List Int)) (s : Int) (rot : List Int) : Ev (fun k => onL k l s rot) (gateB l s && treeOK l s rot) := by
 unfold onL
 refine Ev.bind (actorL_ev l s) ?_
 by_cases h : gateB l s = true
 ·exact Ev.pos h ((treeL_ev l s rot).val (by rw [h]; rfl))
 ·exact Ev.neg h ((Ev.now _).val (by rw [Bool.eq_false_iff.mpr h]; rfl))
theorem acGood_ev (l : List (List Int)) (hl : okSS l) (s : Int) (rot : List Int) : Ev (fun k => spec_acGood.f k l s rot) (gateB l s && treeOK l s rot) := by
 unfold spec_acGood.f treeOK
 obtain ⟨t, ht, _⟩ := acAll_ev l hl s
 refine Ev.bind ht ?_
 by_cases h : gateB l s = true
 ·refine Ev.pos h (Ev.bind (trGood_ev l hl s rot) ?_)
  by_cases h2 : sinkB l s rot = true
  ·exact Ev.pos h2 (Ev.bind (trIs_ev (Rot.of_sink h2).1 s) ((Ev.now _).val (by rw [h, h2]; rfl)))
  ·exact Ev.neg h2 ((Ev.now _).val (by rw [Bool.eq_false_iff.mpr h2, h]; rfl))
 ·exact Ev.neg h ((Ev.now _).val (by rw [Bool.eq_false_iff.mpr h]; rfl))
theorem treeOK_iff {l : List (List Int)} {s : Int} {rot : List Int} (h : treeOK l s rot = true) : Rot l rot ∧ 0 ≤ s ∧ s < (l.length : Int) ∧ rd rot s = 0 ∧ treeB l rot s = true := by
 unfold treeOK at h
 simp only [Bool.and_eq_true] at h
 obtain ⟨hr, h0, h1⟩ := Rot.of_sink h.1
 refine ⟨hr, h0, h1, ?_, h.2⟩
 have := h.1
 unfold sinkB at this
 simp only [Bool.and_eq_true, beq_iff_eq] at this
 exact this.2
end Go.Proofs.Ytlbgajpbdbgmkaa.M
namespace Go.Proofs.Ytlbgajpbdbgmkaa.P
open Go.RowKit Go.Proofs.YtlbgajpbdbgmkaaW.PrintWords Go.Proofs.YtlbgajpbdbgmkaaW.PrintLast Go.Proofs.YtlbgajpbdbgmkaaW.PrintMore
attribute [local go_sem] zu0 zw0 zz0 zy0 zs0 zq0 zv0 zt0
set_option linter.unusedVariables false
set_option linter.unusedSimpArgs false
def impl_actor_one.f (k : Nat) (l : List (List Int)) (s : Int) (rot : List Int) (p : Int) : Option (List Int × Bool) := if 0 ≤ p then (if p < (l.length : Int) then (if l.length ≤ 1000 then impl_actor_act.f k l s rot ((List.replicate l.length 0).set p.toNat 1) else none) else none) else none
set_option maxHeartbeats 8000000 in
set_option maxRecDepth 100000 in
theorem impl_actor_one.calls (k : Nat) (l : List (List Int)) (s : Int) (A0 : Option Addr) (c0 Ba : Nat) (A1 : Option Addr) (c1 : Nat) (rot : List Int) (p : Int) (r1 : List Int) (r2 : Bool) (w : World) (hr0 : Kd.C (Kd.slice 3 (Kd.int .i64)) w A0 l.length l) (hc0 : l.length ≤ c0)
  (ba : w.heap[Ba]? = some (.cells #[.slice A0 l.length c0, .int .i64 s] 71 (0, 0))) (hr1 : Kd.C (Kd.int .i64) w A1 rot.length rot) (hc1 : rot.length ≤ c1) (h : impl_actor_one.f k l s rot p = some (r1, r2)) :
  Calls Try.prog 33 #[.pointer (some ⟨Ba, 0, none⟩), .slice A1 rot.length c1, .int .i64 p] w fun e w' => ∃ v, e = .returned (.tuple #[v, .bool r2]) ∧ Kd.R (Kd.int .i64) 3 w' w.heap.size (fun _ => True) v r1 ∧ Below w.heap.size w w' := by
 have hu1 := Try.underlying29
 have hu3 := Try.underlying71
 unfold impl_actor_one.f at h
 by_cases p0 : 0 ≤ p
 ·rw [if_pos p0] at h
  by_cases p1 : p < (l.length : Int)
  ·rw [if_pos p1] at h
   by_cases hl : l.length ≤ 1000
   ·rw [if_pos hl] at h
    have HR0 := za0.mk hr0
    have HC0 := za0.mk hc0
    have HR1 := za0.mk hr1
    have HC1 := za0.mk hc1
    have BA := za0.mk ba
    have A5 := za0.mk h
    have HL := za0.mk hl
    have HP := za0.mk (And.intro p0 p1)
    have hcg : w.cell? ⟨Ba, 0, none⟩ = some (.slice A0 l.length c0) := (zl0 BA.out 0).trans rfl
    replace p0 := eq_true p0
    replace p1 := eq_true p1
    clear hr0 hc0 hr1 hc1 ba h hl
    go_enter Try.func33, Try.ntmps33
    go_wp2_with (first | ((with_reducible refine zo0 (N := 15) rfl ?_); refine Kd.R_make (Kd.int .i64) (w0 := w) w.heap.size 3 rfl (N := 15) rfl 25 _ _ rfl (l.length : Int) rfl rfl Try.underlying25 (.int .i64 0) 8 info3 rfl (by decide) (by omega) 0 (ok := fun _ => True) (okp := fun _ => False) rfl (fun _ _ => trivial) trivial (by omega) (by have := HL.out; omega) (by repeat (first | exact Below.refl _ _ | apply zd0 | apply zb0)) (Nat.le_refl _) ?_; intro v2 w2 hr2 hb2 hg2 hnew2; rw [Int.toNat_natCast] at hr2; obtain ⟨nb, cap, e2, hnb, _, _⟩ := Kd.R_form hr2 (by rw [List.length_replicate]; have := HP.out; omega); rw [List.length_replicate] at e2; subst e2; obtain ⟨hx2, hf2⟩ := Kd.R_celln 0 hr2 p HP.out.1 HP.out.2; have HB2 := za0.mk hb2; have HR2 := za0.mk hr2; have HN := za0.mk hnb; have HG := za0.mk hg2; clear hb2 hr2 hnb hg2 hnew2 hcg) | (go_at_call 55; refine (impl_actor_act.calls k l s A0 c0 Ba _ _ rot _ _ ((List.replicate l.length 0).set p.toNat 1) r1 r2 (w2.setCell ⟨nb, p.toNat, none⟩ (.int .i64 1)) (Kd.C_below HR0.out (ze0 HB2.out HN.out)) HC0.out ((Below.heap_setCell _ ⟨nb, p.toNat, none⟩ _ Ba (Nat.ne_of_lt (Nat.lt_of_lt_of_le (blk_lt BA.out) HN.out))).trans (blk_grown BA.out HG.out (by simp))) (Kd.C_below HR1.out (ze0 HB2.out HN.out)) HC1.out l.length (by rw [List.length_set, List.length_replicate]) ?side (Kd.R_reads' HR2.out).2.1 A5.out).mono ?_; go_loud (case side => have h_ := (Kd.R_reads' (Kd.R_putg HR2.out p 1).1).2.2; simp only [List.length_set, List.length_replicate] at h_ ⊢; exact h_); go_loud (rintro e w5 ⟨v5, rfl, ho, hb⟩; have HO := za0.mk (Kd.R_lower ho (zj0 (ze0 HB2.out HN.out))); have HB := za0.mk (zh0 (ze0 HB2.out HN.out) hb); clear ho hb)))
    go_ret2
    exact ⟨_, by first | rfl | (simp; done), HO.out, HB.out⟩
   ·rw [if_neg hl] at h; exact absurd h (by simp)
  ·rw [if_neg p1] at h; exact absurd h (by simp)
 ·rw [if_neg p0] at h; exact absurd h (by simp)
end Go.Proofs.Ytlbgajpbdbgmkaa.P
namespace Go.Proofs.Ytlbgajpbdbgmkaa.M
open Go.RowKit Go.Proofs.Ytlbgajpbdbgmkaa.P Go.Proofs.Ytlbgajpbdbgmkaa.In Go.Proofs.YtlbgajpbdbgmkaaW.PrintWords Go.Proofs.YtlbgajpbdbgmkaaW.PrintLast
set_option linter.unusedVariables false
set_option linter.unusedSimpArgs false
structure Live (l : List (List Int)) (s : Int) : Prop where
 good : goodG l = true
 s0 : 0 ≤ s
 s1 : s < (l.length : Int)
 ne : ∀ q : Int, 0 ≤ q → q < (l.length : Int) → q ≠ s → (rd_L1 l q).length ≠ 0
theorem Live.of_tree {l : List (List Int)} {s : Int} {rot : List Int} (hr : Rot l rot) (h0 : 0 ≤ s) (h1 : s < (l.length : Int)) (ht : treeB l rot s = true) : Live l s := by
 refine ⟨hr.good, h0, h1, fun q q0 q1 hq hz => ?_⟩
 obtain ⟨m, hm⟩ := treeB_iff.1 ht q.toNat (by omega)
 rw [Int.toNat_of_nonneg q0] at hm
 cases m with
 | zero => exact hq hm.at_
 | succ m =>
  have := (hm.on 0 (by omega)).2
  simp only [it] at this
  unfold nx at this
  rw [if_pos (by omega)] at this
  omega
def tn (l : List (List Int)) (rot : List Int) (p : Int) : Int := Int.tmod (wrap64 (rd rot p + 1)) ((rd_L1 l p).length : Int)
def yn (l : List (List Int)) (rot : List Int) (p : Int) : Int := rd (rd_L1 l p) (tn l rot p)
theorem tn_eq {l : List (List Int)} {rot : List Int} (hr : Rot l rot) {p : Int} (h0 : 0 ≤ p) (h1 : p < (l.length : Int)) (hz : (rd_L1 l p).length ≠ 0) : tn l rot p = if rd rot p + 1 = ((rd_L1 l p).length : Int) then 0 else rd rot p + 1 := by
 obtain ⟨a, b⟩ := rot_rd hr.rb hr.len h0 h1
 have h5 := ((good_iff hr.good).2 (rd_L1 l p) (by rw [rdL_get h0 h1]; exact List.getElem_mem _)).1
 unfold tn
 rw [wrap_id (by omega), Int.tmod_eq_emod_of_nonneg (by omega)]
 split
 ·rename_i e; rw [e, Int.emod_self]
 ·rw [Int.emod_eq_of_lt (by omega) (by omega)]
theorem tn_lt {l : List (List Int)} {rot : List Int} (hr : Rot l rot) {p : Int} (h0 : 0 ≤ p) (h1 : p < (l.length : Int)) (hz : (rd_L1 l p).length ≠ 0) : 0 ≤ tn l rot p ∧ tn l rot p < ((rd_L1 l p).length : Int) := by
 obtain ⟨a, b⟩ := rot_rd hr.rb hr.len h0 h1
 rw [tn_eq hr h0 h1 hz]
 split <;> omega
theorem yn_lt {l : List (List Int)} {rot : List Int} (hr : Rot l rot) {p : Int} (h0 : 0 ≤ p) (h1 : p < (l.length : Int)) (hz : (rd_L1 l p).length ≠ 0) : 0 ≤ yn l rot p ∧ yn l rot p < (l.length : Int) := by
 obtain ⟨a, b⟩ := tn_lt hr h0 h1 hz
 have := ((good_iff hr.good).2 (rd_L1 l p) (by rw [rdL_get h0 h1]; exact List.getElem_mem _)).2
 exact this _ (by unfold yn; rw [rd_get a b]; exact List.getElem_mem _)
theorem next_rot {l : List (List Int)} {rot : List Int} (hr : Rot l rot) {p : Int} (h0 : 0 ≤ p) (h1 : p < (l.length : Int)) (hz : (rd_L1 l p).length ≠ 0) : Rot l (rot.set p.toNat (tn l rot p)) := by
 obtain ⟨a, b⟩ := tn_lt hr h0 h1 hz
 refine hr.set (p := p.toNat) (by omega) a (.inl ?_)
 rw [Int.toNat_of_nonneg h0]; exact b
theorem stepL_eq {l : List (List Int)} {rot : List Int} (hr : Rot l rot) {p : Int} (h0 : 0 ≤ p) (h1 : p < (l.length : Int)) (hz : (rd_L1 l p).length ≠ 0) : stepL l rot p = some (rot.set p.toNat (tn l rot p), yn l rot p) := by
 obtain ⟨a, b⟩ := tn_lt hr h0 h1 hz
 have hl := hr.len
 unfold stepL yn
 unfold tn at a b ⊢
 rw [if_pos h0, if_pos h1, if_neg (by omega), if_pos (by omega), if_pos a, if_pos b]
theorem own_a (l : List Int) (h : l.length ≤ 1048576) : spec_l1Own.f l = some l := by
 unfold spec_l1Own.f
 show (if ([] : List Int).length + l.length < 17592186044416 then some ([] ++ l) else none) = some l
 rw [if_pos (by simp; omega)]; rfl
theorem waStep_eq {l : List (List Int)} {rot : List Int} (hr : Rot l rot) {p : Int} (h0 : 0 ≤ p) (h1 : p < (l.length : Int)) (hz : (rd_L1 l p).length ≠ 0) : spec_waStep.f l rot p = some (rot.set p.toNat (tn l rot p), yn l rot p, true) := by
 obtain ⟨a, b⟩ := tn_lt hr h0 h1 hz
 have hl := hr.len
 have h8 := (good_iff hr.good).1.2
 unfold spec_waStep.f yn
 unfold tn at a b ⊢
 rw [if_pos h0, if_pos h1, if_neg (by omega), own_a rot (by omega)]
 show (if p < (rot.length : Int) then (if p < (rot.length : Int) then _ else none) else none) = _
 rw [if_pos (by omega), if_pos (by omega), if_pos a, if_pos b]
def runW (l : List (List Int)) (s : Int) : Nat → List Int → Int → List Int → List Int × List Int × Bool
 | 0, rot, p, out => if p = s then (rot, out, true) else (rot, [], false)
 | d + 1, rot, p, out => if p = s then (rot, out, true) else runW l s d (rot.set p.toNat (tn l rot p)) (yn l rot p) (out ++ [yn l rot p])
theorem path_ev {l : List (List Int)} {s : Int} (lv : Live l s) : ∀ (d : Nat) (rot : List Int) (p : Int) (out : List Int), Rot l rot → 0 ≤ p → p < (l.length : Int) → out.length + d = 4001 → Ev (fun k => pathL l s 4000 k rot p out) (runW l s d rot p out) := by
 intro d
 induction d with
 | zero =>
  intro rot p out hr h0 h1 hl
  refine Ev.succ ?_
  simp only [pathL, runW]
  by_cases hp : p = s
  ·rw [if_pos hp]; exact Ev.pos hp (Ev.now _)
  ·rw [if_neg hp]; exact Ev.neg hp (Ev.pos (by omega) (Ev.now _))
 | succ d ih =>
  intro rot p out hr h0 h1 hl
  refine Ev.succ ?_
  simp only [pathL, runW]
  by_cases hp : p = s
  ·rw [if_pos hp]; exact Ev.pos hp (Ev.now _)
  ·rw [if_neg hp]
   have hz := lv.ne p h0 h1 hp
   obtain ⟨y0, y1⟩ := yn_lt hr h0 h1 hz
   refine Ev.neg hp (Ev.neg (by omega) (Ev.bind0 (stepL_eq hr h0 h1 hz) (Ev.pos (by omega) ?_)))
   exact ih _ _ _ (next_rot hr h0 h1 hz) y0 y1 (by simp; omega)
def spR : List Int × List Int × Bool → List Int × List Int
 | (a, b, true) => (a, b)
 | (_, _, false) => ([], [])
theorem acRun_l0 {l : List (List Int)} {s : Int} (lv : Live l s) : ∀ (d : Nat) (rot : List Int) (p : Int) (out : List Int), Rot l rot → 0 ≤ p → p < (l.length : Int) → out.length + d = 4001 → Ev (fun k => spec_acRun.l0 k s out l rot p) (spR (runW l s d rot p out)) := by
 intro d
 induction d with
 | zero =>
  intro rot p out hr h0 h1 hl
  refine Ev.succ ?_
  simp only [spec_acRun.l0, runW]
  by_cases hp : p = s
  ·rw [if_pos hp]; exact Ev.pos hp (Ev.now _)
  ·rw [if_neg hp]; exact Ev.neg hp (Ev.pos (by omega) (Ev.now _))
 | succ d ih =>
  intro rot p out hr h0 h1 hl
  refine Ev.succ ?_
  simp only [spec_acRun.l0, runW]
  by_cases hp : p = s
  ·rw [if_pos hp]; exact Ev.pos hp (Ev.now _)
  ·rw [if_neg hp]
   have hz := lv.ne p h0 h1 hp
   obtain ⟨y0, y1⟩ := yn_lt hr h0 h1 hz
   refine Ev.neg hp (Ev.neg (by omega) (Ev.bind0 (waStep_eq hr h0 h1 hz) (Ev.pos (by omega) ?_)))
   exact ih _ _ _ (next_rot hr h0 h1 hz) y0 y1 (by simp; omega)
def actT (l : List (List Int)) (s p : Int) (rot : List Int) : List Int × List Int × Bool := runW l s 4000 rot p [p]
theorem acRun_ev {l : List (List Int)} {s : Int} (lv : Live l s) {rot : List Int} (hr : Rot l rot) {p : Int} (h0 : 0 ≤ p) (h1 : p < (l.length : Int)) : Ev (fun k => spec_acRun.f k l s rot p) (spR (actT l s p rot)) := by
 have hl := hr.len
 have h8 := (good_iff hr.good).1.2
 unfold spec_acRun.f
 exact Ev.bind0 (own_a rot (by omega)) (acRun_l0 lv 4000 rot p [p] hr h0 h1 rfl)
theorem runW_len {l : List (List Int)} {s : Int} : ∀ (d : Nat) (rot : List Int) (p : Int) (out : List Int), (runW l s d rot p out).1.length = rot.length ∧ (runW l s d rot p out).2.1.length ≤ out.length + d ∧ ((runW l s d rot p out).2.2 = true → out.length ≤ (runW l s d rot p out).2.1.length) := by
 intro d
 induction d with
 | zero =>
  intro rot p out
  simp only [runW]
  split
  ·exact ⟨rfl, by simp, fun _ => Nat.le_refl _⟩
  ·exact ⟨rfl, by simp, fun h => by cases h⟩
 | succ d ih =>
  intro rot p out
  simp only [runW]
  split
  ·exact ⟨rfl, Nat.le_add_right _ _, fun _ => Nat.le_refl _⟩
  ·obtain ⟨a, b, c⟩ := ih (rot.set p.toNat (tn l rot p)) (yn l rot p) (out ++ [yn l rot p])
   rw [List.length_set] at a
   rw [List.length_append, List.length_singleton] at b c
   exact ⟨a, by omega, fun h => by have := c h; omega⟩
theorem runW_fail {l : List (List Int)} {s : Int} : ∀ (d : Nat) (rot : List Int) (p : Int) (out : List Int), (runW l s d rot p out).2.2 = false → (runW l s d rot p out).2.1 = [] := by
 intro d
 induction d with
 | zero =>
  intro rot p out
  simp only [runW]
  split
  ·intro h; cases h
  ·intro _; rfl
 | succ d ih =>
  intro rot p out
  simp only [runW]
  split
  ·intro h; cases h
  ·exact ih _ _ _
section
variable {l : List (List Int)} {s : Int} {chips : List Int} {p : Nat}
end
def marks (a : Int) : Nat → List Int
 | 0 => []
 | n + 1 => a :: marks (a + 1) n
theorem marks_len (a : Int) (n : Nat) : (marks a n).length = n := by
 induction n generalizing a with
 | zero => rfl
 | succ n ih => simp [marks, ih]
theorem markIntS_l0 (n : Nat) (hn : n ≤ 4611686018427387904) : ∀ (d i : Nat) (x : List Int) (a : Int), x.length = n → n - i = d → i ≤ n → 0 ≤ a → a + d ≤ 4611686018427387904 → Ev (fun k => laws_markIntS.l0 k x a i) (a + d, x.take i ++ marks a d) := by
 intro d
 induction d with
 | zero =>
  intro i x a hx hd hi h0 h1
  refine Ev.succ ?_
  simp only [laws_markIntS.l0]
  refine Ev.neg (by omega) ((Ev.now _).val ?_)
  rw [List.take_of_length_le (by omega)]; simp [marks]
 | succ d ih =>
  intro i x a hx hd hi h0 h1
  refine Ev.succ ?_
  simp only [laws_markIntS.l0]
  refine Ev.pos (by omega) (Ev.pos (by omega) ?_)
  rw [wrap_id (x := a + 1) (by omega), wrap_nat (by omega), Int.toNat_natCast]
  refine (ih (i + 1) (x.set i a) (a + 1) (by rw [List.length_set]; exact hx) (by omega) (by omega) (by omega) (by omega)).val ?_
  rw [List.take_succ_eq_append_getElem (by rw [List.length_set]; omega), List.take_set_of_le (Nat.le_refl _), List.getElem_set_self]
  simp only [marks, List.append_assoc, List.singleton_append]
  congr 1; omega
theorem markIntS (x : List Int) (a : Int) (hn : x.length ≤ 4611686018427387904) (h0 : 0 ≤ a) (h1 : a + x.length ≤ 4611686018427387904) : Ev (fun k => laws_markIntS.f k x a) (a + x.length, marks a x.length) := by
 have := markIntS_l0 x.length hn x.length 0 x a rfl (by omega) (by omega) h0 h1
 unfold laws_markIntS.f
 simpa using this
theorem heldIntS_l0 (n : Nat) (hn : n ≤ 4611686018427387904) (y : List Int) (hy : y.length = n) : ∀ (d i : Nat) (a : Int), n - i = d → i ≤ n → 0 ≤ a → a + d ≤ 4611686018427387904 → y.drop i = marks a d → Ev (fun k => laws_heldIntS.l0 k y a i) (a + d) := by
 intro d
 induction d with
 | zero =>
  intro i a hd hi h0 h1 he
  refine Ev.succ ?_
  simp only [laws_heldIntS.l0]
  exact Ev.neg (by omega) ((Ev.now _).val (by simp))
 | succ d ih =>
  intro i a hd hi h0 h1 he
  have hlt : i < y.length := by omega
  rw [List.drop_eq_getElem_cons hlt] at he
  simp only [marks, List.cons.injEq] at he
  refine Ev.succ ?_
  simp only [laws_heldIntS.l0]
  refine Ev.pos (by omega) (Ev.pos (by omega) (Ev.pos (by rw [rd_at hlt]; exact he.1) ?_))
  rw [wrap_id (x := a + 1) (by omega), wrap_nat (by omega)]
  exact (ih (i + 1) (a + 1) (by omega) (by omega) (by omega) (by omega) he.2).val (by omega)
theorem heldIntS (a : Int) (n : Nat) (h0 : 0 ≤ a) (h1 : a + n ≤ 4611686018427387904) : Ev (fun k => laws_heldIntS.f k (marks a n) a) (a + n) :=
 heldIntS_l0 n (by omega) _ (marks_len a n) n 0 a (by omega) (by omega) h0 h1 (by simp)
theorem markR (r : List Int) (h : r.length ≤ 1048576) : ∃ q r', Ev (fun k => laws_markIntS.f k r 1) (q, r') ∧ 0 ≤ q ∧ Ev (fun k => laws_heldIntS.f k r' 1) q ∧ True :=
 ⟨_, _, markIntS r 1 (by omega) (by omega) (by omega), by omega, heldIntS 1 r.length (by omega) (by omega), trivial⟩
def markRows (a : Int) : List (List Int) → Int × List (List Int)
 | [] => (a, [])
 | row :: rest => ((markRows (a + row.length) rest).1, marks a row.length :: (markRows (a + row.length) rest).2)
theorem markIntSS_l0 (n : Nat) (hn : n ≤ 1048576) : ∀ (d i : Nat) (x : List (List Int)) (a : Int), x.length = n → (∀ row ∈ x.drop i, row.length ≤ 1048576) → n - i = d → i ≤ n → 0 ≤ a → a + 1048576 * d ≤ 4611686018427387904 → Ev (fun k => laws_markIntSS.l0 k x a i) ((markRows a (x.drop i)).1, x.take i ++ (markRows a (x.drop i)).2) ∧ a ≤ (markRows a (x.drop i)).1 ∧ (markRows a (x.drop i)).1 ≤ a + 1048576 * d := by
 intro d
 induction d with
 | zero =>
  intro i x a hx hr hd hi h0 h1
  rw [List.drop_of_length_le (by omega)]
  refine ⟨?_, by simp [markRows], by simp [markRows]⟩
  refine Ev.succ ?_
  simp only [laws_markIntSS.l0]
  refine Ev.neg (by omega) ((Ev.now _).val ?_)
  rw [List.take_of_length_le (by omega)]; simp [markRows]
 | succ d ih =>
  intro i x a hx hr hd hi h0 h1
  have hlt : i < x.length := by omega
  have hrow := hr x[i] (by rw [List.drop_eq_getElem_cons hlt]; exact List.mem_cons_self)
  have hdrop : (x.set i (marks a x[i].length)).drop (i + 1) = x.drop (i + 1) := List.drop_set_of_lt (by omega)
  obtain ⟨e1, e2, e3⟩ := ih (i + 1) (x.set i (marks a x[i].length)) (a + x[i].length) (by rw [List.length_set]; exact hx) (fun row hm => hr row (by rw [hdrop] at hm; rw [List.drop_eq_getElem_cons hlt]; exact List.mem_cons_of_mem _ hm)) (by omega) (by omega) (by omega) (by omega)
  rw [hdrop] at e1 e2 e3
  rw [List.drop_eq_getElem_cons hlt]
  simp only [markRows]
  refine ⟨?_, by omega, by omega⟩
  refine Ev.succ ?_
  simp only [laws_markIntSS.l0]
  refine Ev.pos (by omega) (Ev.pos (by omega) ?_)
  rw [rdL_at hlt]
  refine Ev.bind (markIntS x[i] a (by omega) h0 (by omega)) ?_
  rw [wrap_nat (by omega), Int.toNat_natCast]
  refine e1.val ?_
  rw [List.take_succ_eq_append_getElem (by rw [List.length_set]; omega), List.take_set_of_le (Nat.le_refl _), List.getElem_set_self]
  simp
theorem markIntSS (x : List (List Int)) (hx : small x) (a : Int) (h0 : 0 ≤ a) (h1 : a ≤ 1099511627776) : Ev (fun k => laws_markIntSS.f k x a) ((markRows a x).1, (markRows a x).2) ∧ a ≤ (markRows a x).1 ∧ (markRows a x).1 ≤ a + 1099511627776 := by
 have hl := hx.1
 obtain ⟨e1, e2, e3⟩ := markIntSS_l0 x.length hx.1 x.length 0 x a rfl (fun row hm => hx.2 row (by simpa using hm)) (by omega) (by omega) h0 (by omega)
 refine ⟨by unfold laws_markIntSS.f; simpa using e1, by simpa using e2, ?_⟩
 have : (markRows a x).1 ≤ a + 1048576 * x.length := by simpa using e3
 omega
theorem markG (x : List (List Int)) (hx : small x) : ∃ m x', Ev (fun k => laws_markGraph.f k x 1) (m, x') ∧ 0 ≤ m ∧ m ≤ 1099511627777 := by
 obtain ⟨e1, e2, e3⟩ := markIntSS x hx 1 (by omega) (by omega)
 exact ⟨_, _, e1, by omega, by omega⟩
end Go.Proofs.Ytlbgajpbdbgmkaa.M
namespace Go.Proofs.Ytlbgajpbdbgmkaa.Pure
open Go.RowKit Go.Proofs.Ytlbgajpbdbgmkaa.P Go.Proofs.Ytlbgajpbdbgmkaa.In Go.Proofs.Ytlbgajpbdbgmkaa.M Go.Proofs.YtlbgajpbdbgmkaaW.PrintWords Go.Proofs.YtlbgajpbdbgmkaaW.PrintLast
set_option linter.unusedVariables false
set_option linter.unusedSimpArgs false
theorem FnExactArrivalPath (l : List (List Int)) (hl : okSS l) (s : Int) (hp : okI s) (ro : List Int) (hro : okIs ro) (p : Int) (hpp : okI p) : laws_FnExactArrivalPath.f l s ro p = some true := by
 unfold laws_FnExactArrivalPath.f
 rw [if_pos]
 unfold laws_FnExactArrivalPath.Good
 intro hlen
 obtain ⟨r, hr, _, hs⟩ := szGraph l hl
 refine ⟨r, hr, fun h => ?_⟩
 have sm := hs h
 obtain ⟨v, b, hS, hI, hv⟩ : ∃ (v : List Int) (b : Bool), Ev (fun k => spec_ArrivalPath.f k l s ro p) (v, b) ∧ Ev (fun k => impl_ArrivalPath.f k l s ro p) (v, b) ∧ v.length ≤ 1048576 := by
  by_cases hg : (gateB l s && treeOK l s ro) = true
  ·have ht := hg
   simp only [Bool.and_eq_true] at ht
   obtain ⟨hrot, h0, h1, _, htr⟩ := treeOK_iff ht.2
   have lv := Live.of_tree hrot h0 h1 htr
   have h8 := (good_iff hrot.good).1.2
   have hlr := hrot.len
   by_cases hpl : placeB l p = true
   ·obtain ⟨_, p0, p1⟩ := place_iff hpl
    have hl1 := (runW_len (l := l) (s := s) 4000 ro p [p]).1
    have hl2 := (runW_len (l := l) (s := s) 4000 ro p [p]).2.2
    have hI := path_ev lv 4000 ro p [p] hrot p0 p1 rfl
    have hS := acRun_ev lv hrot p0 p1
    unfold actT at hS
    have hcl : slices_Clone_int_int.f ro = some ro := by unfold slices_Clone_int_int.f; rw [if_pos (by omega)]
    have hl4 := runW_fail (l := l) (s := s) 4000 ro p [p]
    have hl3 := (runW_len (l := l) (s := s) 4000 ro p [p]).2.1
    obtain ⟨t1, t2, t3, ht⟩ : ∃ t1 t2 t3, runW l s 4000 ro p [p] = (t1, t2, t3) := ⟨_, _, _, rfl⟩
    rw [ht] at hI hS hl1 hl2 hl3 hl4
    cases t3 with
    | false =>
     refine ⟨[], false, ?_, ?_, by simp⟩
     ·unfold spec_ArrivalPath.f
      exact Ev.bind (acGood_ev l hl s ro) (Ev.pos hg (Ev.bind (grPlace l p hl) (Ev.pos hpl (Ev.bind hS ((Ev.now _).val rfl)))))
     ·unfold impl_ArrivalPath.f
      exact Ev.bind (onL_ev l s ro) (Ev.pos hg (Ev.bind0 (has1 l p) (Ev.pos hpl (Ev.pos (by omega) (Ev.bind0 hcl (Ev.pos rfl (Ev.bind hI ((Ev.now _).val (by rw [show t2 = [] from hl4 rfl])))))))))
    | true =>
     have h9 : 1 ≤ t2.length := hl2 rfl
     have h10 : t2.length ≤ 1 + 4000 := hl3
     replace hl1 : t1.length = ro.length := hl1
     refine ⟨t2, true, ?_, ?_, by omega⟩
     ·unfold spec_ArrivalPath.f
      exact Ev.bind (acGood_ev l hl s ro) (Ev.pos hg (Ev.bind (grPlace l p hl) (Ev.pos hpl (Ev.bind hS ((Ev.now _).val (by simp only [spR]; congr 1; exact decide_eq_true (by omega)))))))
     ·unfold impl_ArrivalPath.f
      exact Ev.bind (onL_ev l s ro) (Ev.pos hg (Ev.bind0 (has1 l p) (Ev.pos hpl (Ev.pos (by omega) (Ev.bind0 hcl (Ev.pos rfl (Ev.bind hI (Ev.now _))))))))
   ·refine ⟨[], false, ?_, ?_, by simp⟩
    ·unfold spec_ArrivalPath.f
     exact Ev.bind (acGood_ev l hl s ro) (Ev.pos hg (Ev.bind (grPlace l p hl) (Ev.neg hpl (Ev.now _))))
    ·unfold impl_ArrivalPath.f
     exact Ev.bind (onL_ev l s ro) (Ev.pos hg (Ev.bind0 (has1 l p) (Ev.neg hpl (Ev.now _))))
  ·refine ⟨[], false, ?_, ?_, by simp⟩
   ·unfold spec_ArrivalPath.f
    exact Ev.bind (acGood_ev l hl s ro) (Ev.neg hg (Ev.now _))
   ·unfold impl_ArrivalPath.f
    exact Ev.bind (onL_ev l s ro) (Ev.neg hg (Ev.now _))
 obtain ⟨m, l', hm, hm0, hm1⟩ := markG l sm
 exact ⟨toGraph l sm, toIntS ro (by omega), v, b, hS, hI, (eqIntS v v (by omega)).val (decide_eq_true rfl), small_eq l sm, (eqIntS ro ro (by omega)).val (decide_eq_true rfl), m, l', hm, hm0, _, _, markIntS ro m (by omega) hm0 (by omega), by omega, markR v hv⟩
end Go.Proofs.Ytlbgajpbdbgmkaa.Pure
namespace Go.Proofs.Ytlbgajpbdbgmkaa.fnExactArrivalPath
open Go.ChangeShapes Go.WideShapes Go.ChangeAt Go.RowKit
open Go.ChangeMaps (open_string shut_string)
open Go.Proofs.Ytlbgajpbdbgmkaa.In Go.Proofs.Ytlbgajpbdbgmkaa.P
set_option linter.unusedVariables false
theorem own : ownKnob Try.prog.godebug = none := by kernel_rfl
theorem laidOut : laidOutB Try.prog = true := by kernel_rfl
set_option maxRecDepth 100000 in
theorem lifted (os : Os) (started : os.Started) (H : Type) (enc : TypeId × Value → H) :
  ReturnsInHanded {} Try.checked os 4 .any (Rows.fnExactArrivalPathSpec.pre6 enc Try.prog Try.f4 Rows.fnExactArrivalPathRow.domain false) (Rows.fnExactArrivalPathSpec.post enc Try.prog Try.f4 false true false false) := by
 refine returnsInHanded_of_change_sized (C := Try.checked) own started (by kernel_rfl) Try.func4
  (ChangeSpec.witness6 (enc := enc) (C := Try.checked) false ⟨#[], #[.agg #[.slice none 0 0], .int .i64 0, .slice none 0 0, .int .i64 0], []⟩ 8 (by kernel_rfl) (by kernel_rfl) (by kernel_rfl) (by kernel_rfl)) ?_
 intro W base args ds gs before hval0 hW hcnd hsz0 _
 have hsz : (DataW.weightsEach Try.prog (Try.f4.params.toList ++ Rows.fnExactArrivalPathSpec.plain.varTypes Try.prog) (ds ++ gs)).all (· ≤ reachBytes) = true := hsz0
 have hval : ∀ (j : Nat) t v, Try.f4.params[j]? = some t → args[j]? = some v → Value.okWide Try.prog W .any base t v := hval0
 have hW' := hW
 obtain ⟨p, q, hA0, hV, rfl, hfz, hnd⟩ := hW
 have hA : DataW.TrodAll enc Try.prog W 0 (fun _ => true) true Try.f4.params.toList args.toList ds p := hA0
 rw [Try.params4] at hA hval hsz
 obtain ⟨v0, vs0, d0, ds0, p0, q0, hargs, rfl, rfl, h0, r0⟩ := trodAll_cons hA
 obtain ⟨v1, vs1, d1, ds1, p1, q1, rfl, rfl, rfl, h1, r1⟩ := trodAll_cons r0
 obtain ⟨v2, vs2, d2, ds2, p2, q2, rfl, rfl, rfl, h2, r2⟩ := trodAll_cons r1
 obtain ⟨v3, vs3, d3, ds3, p3, q3, rfl, rfl, rfl, h3, r3⟩ := trodAll_cons r2
 obtain ⟨rfl, rfl, rfl⟩ := trodAll_nil r3
 obtain rfl : args = #[v0, v1, v2, v3] := by cases args; simp_all
 obtain ⟨rfl, rfl⟩ := trodVars_none hV
 have k0 := h0
 have lt0 : ∀ x ∈ p0, x.block < W.heap.size := by obtain ⟨m, hm⟩ := k0; exact DataW.trod_lt m _ _ _ hm
 obtain ⟨A0, l0, cap0, rfl, hl0, hc0, hw0⟩ := in_graph (q := 3) Try.underlying24 (by kernel_rfl) (by kernel_rfl) rfl Try.underlying22 Try.underlying25 Try.underlying3 (by kernel_rfl) (by kernel_rfl) (hval 0 24 v0 rfl rfl) h0
 obtain ⟨a1, rfl, rfl, rfl, w1⟩ := open_int Try.underlying3 (hval 1 3 v1 rfl rfl) h1
 have k2 := h2
 have lt2 : ∀ x ∈ p2, x.block < W.heap.size := by obtain ⟨m, hm⟩ := k2; exact DataW.trod_lt m _ _ _ hm
 obtain ⟨A2, l2, cap2, rfl, hl2, hc2, hw2⟩ := in_slice (q := 3) Try.underlying25 Try.underlying3 (by kernel_rfl) (hval 2 25 v2 rfl rfl) h2
 obtain ⟨a3, rfl, rfl, rfl, w3⟩ := open_int Try.underlying3 (hval 3 3 v3 rfl rfl) h3
 clear hA0 hval0 hsz0 hsz
 have h := Pure.FnExactArrivalPath l0 (okSS_wf hc0 hw0) a1 (okI_wf w1) l2 (okIs_wf hw2) a3 (okI_wf w3)
 refine (laws_FnExactArrivalPath.calls _ _ l0 a1 _ _ l2 a3 true W hc0 hl0 hc2 hl2 h).mono fun e W' ⟨he, bel0⟩ => ?_
 have bel : Below W.heap.size W W' := bel0
 subst he
 exact ⟨_, rfl, _, _, _, [], _, [], hW', trodAll_mk1 (shut_bool Try.underlying4 _), (trodAll_cons_mk (Below.trod laidOut (by kernel_rfl) (of_decide_eq_true (by kernel_rfl)) k0 bel lt0) (trodAll_cons_mk (shut_int Try.underlying3 w1) (trodAll_cons_mk (Below.trod laidOut (by kernel_rfl) (of_decide_eq_true (by kernel_rfl)) k2 bel lt2) (trodAll_cons_mk (shut_int Try.underlying3 w3) trodAll_mk0)))), rfl, bel.frame _, fun h => by cases h⟩
theorem over : Rows.fnExactArrivalPathRow.holds Try.pinned (OpenSpec.ofChange Rows.fnExactArrivalPathSpec) :=
 OpenClaim.holds_of_wide 4 Try.f4 rfl rfl rfl rfl rfl rfl rfl ⟨rfl, rfl, rfl, rfl, rfl⟩ rfl rfl rfl rfl rfl (by kernel_rfl) Try.func4 (by kernel_rfl)
  (of_decide_eq_true (by kernel_rfl)) (by unfold Func.isWrapper; first | (rw [if_pos (by decide +kernel)]; kernel_rfl) | (rw [if_neg (by decide +kernel)]; exact ⟨rfl, rfl⟩))
  (fun os started H enc _ => lifted os started H enc)
theorem proved : Rows.FnExactArrivalPathSaid := over
end Go.Proofs.Ytlbgajpbdbgmkaa.fnExactArrivalPath
namespace Go.Proofs.Ytlbgajpbdbgmkaa
theorem fnExactArrivalPath_holds : Rows.FnExactArrivalPathSaid := fnExactArrivalPath.proved
#print axioms fnExactArrivalPath_holds
end Go.Proofs.Ytlbgajpbdbgmkaa
