/- The law FnRecurrentHeaps holds for every input: the program returns what the reference returns (or what the law says), for all arguments. -/
import Derived.Test.YtdfabioienofhaaCFnRecurrentHeapsf
import Derived.Test.YtdfabioienofhaaCFnRecurrentHeapsg
import Derived.Test.YtdfabioienofhaaCFnRecurrentHeapsd
import Derived.Test.YtdfabioienofhaaCFnRecurrentHeapse
import Derived.Test.YtdfabioienofhaaCFnRecurrentHeapsc
import Derived.Test.YtdfabioienofhaaCFnRecurrentHeapsb
import Derived.Test.YtdfabioienofhaaRows
import Derived.WalkKit
import Derived.ProofKit
import Derived.OpenShut
import Derived.ShutString
import Derived.ChangeOld
import Derived.Below
import Derived.SizedLaws
import Derived.Deep.Matrix
import Derived.Lib.SmallJoins
namespace Go.Proofs.Ytdfabioienofhaa.M
set_option maxHeartbeats 8000000
set_option maxRecDepth 100000
open Go.RowKit Go.Proofs.Ytdfabioienofhaa.P Go.Proofs.Ytdfabioienofhaa.In Go.Proofs.YtdfabioienofhaaW.PrintWords Go.Proofs.YtdfabioienofhaaW.PrintLast
set_option linter.unusedVariables false
set_option linter.unusedSimpArgs false
open DetKit
def allN : List Int → Nat
 | [] => 1
 | f :: fs => (f.toNat + 1) * allN fs
def dec : List Int → Nat → List Int
 | [], _ => []
 | f :: fs, a => ((a % (f.toNat + 1) : Nat) : Int) :: dec fs (a / (f.toNat + 1))
theorem allN_pos : ∀ l, 1 ≤ allN l := by
 intro l
 induction l with
 | nil => exact Nat.le_refl _
 | cons f fs ih => simp only [allN]; exact Nat.le_trans ih (Nat.le_mul_of_pos_left _ (by omega))
theorem allN_le : ∀ l : List Int, (∀ x ∈ l, x ≤ 3) → allN l ≤ 4 ^ l.length := by
 intro l
 induction l with
 | nil => intro _; exact Nat.le_refl _
 | cons f fs ih =>
  intro h
  have h1 := h f List.mem_cons_self
  have h2 := ih (fun x hx => h x (List.mem_cons_of_mem _ hx))
  simp only [allN, List.length_cons, Nat.pow_succ]
  rw [Nat.mul_comm (4 ^ fs.length)]
  exact Nat.mul_le_mul (by omega) h2
theorem dec_len : ∀ (fs : List Int) (a : Nat), (dec fs a).length = fs.length := by
 intro fs
 induction fs with
 | nil => intro a; rfl
 | cons f fs ih => intro a; simp only [dec, List.length_cons]; rw [ih]
theorem dec_rd : ∀ (fs : List Int) (a p : Nat), p < fs.length → (∀ x ∈ fs, 0 ≤ x) → 0 ≤ rd (dec fs a) (p : Int) ∧ rd (dec fs a) (p : Int) ≤ rd fs (p : Int) := by
 intro fs
 induction fs with
 | nil => intro a p h; simp at h
 | cons f fs ih =>
  intro a p hp h0
  have hf := h0 f List.mem_cons_self
  simp only [dec]
  cases p with
  | zero =>
   have := Nat.mod_lt a (show 0 < f.toNat + 1 by omega)
   rw [rd_at (by simp), rd_at (by simp)]
   simp only [List.getElem_cons_zero]
   omega
  | succ p => rw [rd_cons_succ, rd_cons_succ]; exact ih _ p (by simpa using hp) (fun x hx => h0 x (List.mem_cons_of_mem _ hx))
theorem dec_inj : ∀ (fs : List Int) (a b : Nat), a < allN fs → b < allN fs → dec fs a = dec fs b → a = b := by
 intro fs
 induction fs with
 | nil => intro a b ha hb _; simp only [allN] at ha hb; omega
 | cons f fs ih =>
  intro a b ha hb h
  simp only [allN] at ha hb
  simp only [dec, List.cons.injEq] at h
  have h1 := ih _ _ (Nat.div_lt_of_lt_mul ha) (Nat.div_lt_of_lt_mul hb) h.2
  have h2 := Nat.div_add_mod a (f.toNat + 1)
  have h3 := Nat.div_add_mod b (f.toNat + 1)
  rw [h1] at h2
  omega
theorem dec_surj : ∀ (fs l : List Int), l.length = fs.length → (∀ p : Nat, p < fs.length → 0 ≤ rd l (p : Int) ∧ rd l (p : Int) ≤ rd fs (p : Int)) → ∃ a, a < allN fs ∧ dec fs a = l := by
 intro fs
 induction fs with
 | nil => intro l h _; exact ⟨0, by simp [allN], (List.eq_nil_of_length_eq_zero (by simpa using h)).symm⟩
 | cons f fs ih =>
  intro l hl h
  cases l with
  | nil => simp at hl
  | cons x l =>
   have h0 := h 0 (by simp)
   rw [rd_at (by simp), rd_at (by simp)] at h0
   simp only [List.getElem_cons_zero] at h0
   obtain ⟨a, ha, hd⟩ := ih l (by simpa using hl) (fun p hp => by
    have := h (p + 1) (by simpa using hp)
    rwa [rd_cons_succ, rd_cons_succ] at this)
   have hm : (x.toNat + (f.toNat + 1) * a) % (f.toNat + 1) = x.toNat := by rw [Nat.add_mul_mod_self_left, Nat.mod_eq_of_lt (by omega)]
   have hq : (x.toNat + (f.toNat + 1) * a) / (f.toNat + 1) = a := by rw [Nat.add_mul_div_left _ _ (by omega), Nat.div_eq_of_lt (by omega)]; omega
   refine ⟨x.toNat + (f.toNat + 1) * a, ?_, ?_⟩
   ·simp only [allN]
    have : (f.toNat + 1) * (a + 1) ≤ (f.toNat + 1) * allN fs := Nat.mul_le_mul_left _ ha
    rw [Nat.mul_add] at this
    omega
   ·simp only [dec]; rw [hm, hq, hd, show ((x.toNat : Nat) : Int) = x by omega]
theorem Ctx.full_all {g : List (List Int)} {s : Nat} (X : Ctx g s) : (∀ x ∈ full g (s : Int), 0 ≤ x ∧ x ≤ 3) ∧ allN (full g (s : Int)) ≤ 1024 := by
 have hb : ∀ x ∈ full g (s : Int), 0 ≤ x ∧ x ≤ 3 := fun x hx => by
  obtain ⟨i, hi, rfl⟩ := List.getElem_of_mem hx
  have := X.full_b (p := i) (by rw [full_len] at hi; exact hi)
  rwa [rd_at hi] at this
 refine ⟨hb, Nat.le_trans (allN_le _ (fun x hx => (hb x hx).2)) ?_⟩
 rw [full_len]
 exact Nat.le_trans (Nat.pow_le_pow_right (by omega) X.h5) (by decide)
theorem Ctx.dec_low {g : List (List Int)} {s : Nat} (X : Ctx g s) (a : Nat) : Low g s (dec (full g (s : Int)) a) := by
 have hfl := full_len g (s : Int)
 have hall := X.full_all.1
 have hd : ∀ p : Nat, p < g.length → 0 ≤ rd (dec (full g (s : Int)) a) (p : Int) ∧ rd (dec (full g (s : Int)) a) (p : Int) ≤ rd (full g (s : Int)) (p : Int) := fun p hp => dec_rd _ a p (by omega) (fun x hx => (hall x hx).1)
 refine ⟨by rw [dec_len]; exact hfl, ?_, hd⟩
 have := hd s X.hs
 rw [full_rd g _ X.hs, if_pos rfl] at this
 omega
def recN (g : List (List Int)) (s : Int) : List Nat := (List.range (allN (full g s))).filter fun a => recB g s (dec (full g s) a)
theorem Lat.symm2 {n : Nat} {A : Nat → Nat → Int} {x y z : Nat → Int} (h : Lat n A (fun j => x j - y j)) (e : ∀ j, j < n → y j = z j) : Lat n A (fun j => x j - z j) := h.congr (fun j hj => by rw [e j hj])
theorem Rec.congr {n : Nat} {L : Nat → Nat → Int} {d b c c' : Nat → Int} (e : ∀ j, j < n → c j = c' j) (h : Rec n L d b c) : Rec n L d b c' := by
 obtain ⟨u, hu, he⟩ := h
 refine ⟨u, hu.congr (fun j hj => by rw [e j hj]), fun j hj => ?_⟩
 rw [← e j hj, ← he j hj]
 exact aft_congr (by rw [e j hj]) (fun _ _ => rfl)
theorem Ctx.count {g : List (List Int)} {s : Nat} (X : Ctx g s) : ((recN g (s : Int)).length : Int) = D (g.length - 1) (mat (lap g s)) := by
 obtain ⟨_, _, _, _, h, w, B⟩ := X.burn
 have hn := (good_iff X.hg).1
 have hD : D (g.length - 1) (mat (lap g s)) = D (g.length - 1) (LL g s) := D_congr (fun i hi j hj => by rw [mat_lap X.hg X.hs hi hj]; rfl)
 have ht := trees_det X.hg (s := (s : Int)) (by omega) (by have := X.hs; omega)
 rw [Int.toNat_natCast] at ht
 have hpos : 1 ≤ (trL g (s : Int) g.length 0 (List.replicate g.length 0)).length := by
  have := trL_some X.hg (s := (s : Int)) (by omega) (by have := X.hs; omega) X.hl
  cases hh : trL g (s : Int) g.length 0 (List.replicate g.length 0) with
  | nil => exact absurd hh this
  | cons a l => simp
 obtain ⟨l, hl, hlen, m, hm, hx⟩ := cosets (g.length - 1) (LL g s) (by omega)
 have hv : ∀ a b : Nat, (∀ j, j < g.length - 1 → vec s (dec (full g (s : Int)) a) j = vec s (dec (full g (s : Int)) b) j) → dec (full g (s : Int)) a = dec (full g (s : Int)) b := fun a b hab => by
  have ha := X.dec_low a
  have hb := X.dec_low b
  exact ext_vec (s := s) (by rw [ha.1, hb.1]) (by rw [ha.1]; exact X.hs) (by rw [ha.2.1, hb.2.1]) (fun i hi => hab i (by rw [ha.1] at hi; exact hi))
 have hR : LReps (g.length - 1) (LL g s) ((recN g (s : Int)).map fun a => vec s (dec (full g (s : Int)) a)) := by
  constructor
  ·rw [List.pairwise_map]
   unfold recN
   have hp : (List.range (allN (full g (s : Int)))).Pairwise (fun a b => a < b) := List.pairwise_lt_range
   refine List.Pairwise.imp_of_mem (fun {a b} ha hb hab hc => ?_) (hp.filter _)
   rw [List.mem_filter, List.mem_range] at ha hb
   have e := B.uniq (X.dec_low a).heap0 (X.dec_low b).heap0 ((X.rec_iff (X.dec_low a)).2.2.1 ha.2) ((X.rec_iff (X.dec_low b)).2.2.1 hb.2) hc
   have := dec_inj _ a b ha.1 hb.1 (hv a b e)
   omega
  ·intro x
   obtain ⟨c, hc, hr, hl⟩ := B.some_ hm hx x
   obtain ⟨cl, hcl⟩ : ∃ cl : List Int, cl = (List.range g.length).map fun p => if p = s then 0 else c (usk s p) := ⟨_, rfl⟩
   have hcl1 : cl.length = g.length := by rw [hcl]; simp
   have hcr : ∀ p : Nat, p < g.length → rd cl (p : Int) = if p = s then 0 else c (usk s p) := fun p hp => by
    rw [rd_at (by omega)]; simp [hcl]
   have hcv : ∀ j, j < g.length - 1 → vec s cl j = c j := fun j hj => by
    unfold vec
    rw [hcr _ (skip_lt' hj), if_neg (skip_ne s j), usk_skip]
   obtain ⟨a, ha, hda⟩ := dec_surj (full g (s : Int)) cl (by rw [hcl1, full_len]) (fun p hp => by
    rw [full_len] at hp
    rw [hcr p hp, full_rd g _ hp]
    by_cases e : p = s
    ·rw [if_pos e, if_pos (by omega)]; omega
    ·rw [if_neg e, if_neg (by omega)]
     have := hc (usk s p) (usk_lt hp X.hs e)
     unfold dd at this
     rw [skip_usk e] at this
     omega)
   have hrec : recB g (s : Int) (dec (full g (s : Int)) a) = true := (X.rec_iff (X.dec_low a)).2.2.2 (Rec.congr (fun j hj => by rw [hda, hcv j hj]) hr)
   refine ⟨_, List.mem_map.2 ⟨a, List.mem_filter.2 ⟨List.mem_range.2 ha, hrec⟩, rfl⟩, ?_⟩
   exact Lat.symm2 hl (fun j hj => by rw [hda, hcv j hj])
 have := hR.len hl
 rw [List.length_map] at this
 rw [this, hlen, hD, ← hD, ht]
 omega
theorem drop_full {l : List Int} {i : Nat} (h : i < l.length) : allN (l.drop i) = ((rd l (i : Int)).toNat + 1) * allN (l.drop (i + 1)) := by
 rw [drop_rd h]; rfl
theorem mul_ge {a b : Nat} (h : 1 ≤ b) : a ≤ a * b := Nat.le_mul_of_pos_right a h
theorem countI_l0 {g : List (List Int)} {s : Nat} (X : Ctx g s) : ∀ (e i P : Nat), g.length - i = e → i ≤ g.length → P * allN ((full g (s : Int)).drop i) ≤ 1024 → Ev (fun k => yw0.l0 k s P (full g (s : Int)) g.length i g) (D (g.length - 1) (mat (lap g s)), true) := by
 have h5 := X.h5
 have hs := X.hs
 have hfl := full_len g (s : Int)
 have hsq := lap_sq X.hg X.hs
 intro e
 induction e with
 | zero =>
  intro i P he hi hP
  refine Ev.succ ?_
  simp only [yw0.l0]
  refine Ev.neg (by omega) (Ev.bind ((laplace_ev X.hg (sink := (s : Int)) (by omega) (by omega)).val (by rw [Int.toNat_natCast])) (Ev.bind (determinant_ev (by omega) _ hsq) (Ev.now _)))
 | succ e ih =>
  intro i P he hi hP
  have hw := wrap_nat (n := i) (by omega)
  have hb := X.full_b (p := i) (by omega)
  rw [drop_full (by omega), ← Nat.mul_assoc] at hP
  have h1 := mul_ge (a := P * ((rd (full g (s : Int)) (i : Int)).toNat + 1)) (allN_pos ((full g (s : Int)).drop (i + 1)))
  have hv : wrap64 ((P : Int) * wrap64 (rd (full g (s : Int)) (i : Int) + 1)) = ((P * ((rd (full g (s : Int)) (i : Int)).toNat + 1) : Nat) : Int) := by
   have e1 : ((P * ((rd (full g (s : Int)) (i : Int)).toNat + 1) : Nat) : Int) = (P : Int) * (rd (full g (s : Int)) (i : Int) + 1) := by
    rw [Int.natCast_mul, show ((((rd (full g (s : Int)) (i : Int)).toNat + 1 : Nat)) : Int) = rd (full g (s : Int)) (i : Int) + 1 by omega]
   rw [wrap_id (x := rd (full g (s : Int)) (i : Int) + 1) (by omega), ← e1]
   exact wrap_id (by omega)
  refine Ev.succ ?_
  simp only [yw0.l0]
  refine Ev.pos (by omega) (Ev.pos (by omega) (Ev.pos (by omega) ?_))
  rw [hv, hw]
  exact Ev.neg (by omega) (ih (i + 1) _ (by omega) (by omega) hP)
theorem countS_l2 {g : List (List Int)} {s : Nat} (X : Ctx g s) (all cnt code : Int) (r : Int × Bool) (C : Nat) (hnext : Ev (fun k => if recB g (s : Int) (dec (full g (s : Int)) C) = true then yf0.l1 k s (full g (s : Int)) all (wrap64 (cnt + 1)) (wrap64 (code + 1)) g else yf0.l1 k s (full g (s : Int)) all cnt (wrap64 (code + 1)) g) r) : ∀ (e i rest : Nat) (acc : List Int), g.length - i = e → i ≤ g.length → rest ≤ 1024 → acc.length = i → acc ++ dec ((full g (s : Int)).drop i) rest = dec (full g (s : Int)) C → Ev (fun k => yf0.l2 k s (full g (s : Int)) all cnt code rest acc (full g (s : Int)) g.length i g) r := by
 have h5 := X.h5
 have hfl := full_len g (s : Int)
 intro e
 induction e with
 | zero =>
  intro i rest acc he hi hrest ha hd
  rw [List.drop_of_length_le (by omega)] at hd
  simp only [dec, List.append_nil] at hd
  subst hd
  refine Ev.succ ?_
  simp only [yf0.l2]
  refine Ev.neg (by omega) (Ev.bind (isRecS X (X.dec_low C)) (Ev.pos rfl ?_))
  exact hnext
 | succ e ih =>
  intro i rest acc he hi hrest ha hd
  have hw := wrap_nat (n := i) (by omega)
  have hb := X.full_b (p := i) (by omega)
  have hm : wrap64 (rd (full g (s : Int)) (i : Int) + 1) = (((rd (full g (s : Int)) (i : Int)).toNat + 1 : Nat) : Int) := by rw [wrap_id (by omega)]; omega
  rw [drop_rd (by omega)] at hd
  simp only [dec] at hd
  have wz : ∀ Q : Nat, Q ≤ 1024 → wrap64 (Q : Int) = (Q : Int) := fun Q h => wrap_id (by omega)
  have hle := Nat.div_le_self rest ((rd (full g (s : Int)) (i : Int)).toNat + 1)
  have hq : wrap64 (Int.tdiv (rest : Int) (((rd (full g (s : Int)) (i : Int)).toNat + 1 : Nat) : Int)) = ((rest / ((rd (full g (s : Int)) (i : Int)).toNat + 1) : Nat) : Int) := by
   rw [show Int.tdiv (rest : Int) (((rd (full g (s : Int)) (i : Int)).toNat + 1 : Nat) : Int) = ((rest / ((rd (full g (s : Int)) (i : Int)).toNat + 1) : Nat) : Int) from rfl]
   exact wz _ (Nat.le_trans hle hrest)
  refine Ev.succ ?_
  simp only [yf0.l2]
  refine Ev.pos (by omega) (Ev.pos (by omega) (Ev.pos (by omega) (Ev.neg (by rw [hm]; omega) (Ev.pos (by omega) ?_))))
  rw [hm, hq, hw, show Int.tmod (rest : Int) (((rd (full g (s : Int)) (i : Int)).toNat + 1 : Nat) : Int) = ((rest % ((rd (full g (s : Int)) (i : Int)).toNat + 1) : Nat) : Int) from rfl]
  exact ih (i + 1) _ _ (by omega) (by omega) (Nat.le_trans hle hrest) (by rw [List.length_append, ha]; rfl) (by rw [List.append_assoc]; exact hd)
theorem filt_succ (p : Nat → Bool) (n : Nat) : ((List.range (n + 1)).filter p).length = ((List.range n).filter p).length + if p n = true then 1 else 0 := by
 rw [List.range_succ, List.filter_append, List.length_append]
 congr 1
 by_cases h : p n = true
 ·rw [if_pos h, List.filter_cons_of_pos h]; rfl
 rw [if_neg h, List.filter_cons_of_neg h]; rfl
theorem countS_l1 {g : List (List Int)} {s : Nat} (X : Ctx g s) : ∀ (e C : Nat), allN (full g (s : Int)) - C = e → C ≤ allN (full g (s : Int)) → Ev (fun k => yf0.l1 k s (full g (s : Int)) (allN (full g (s : Int))) ((((List.range C).filter fun a => recB g (s : Int) (dec (full g (s : Int)) a)).length : Nat) : Int) C g) (((recN g (s : Int)).length : Int), true) := by
 have hall := X.full_all.2
 intro e
 induction e with
 | zero =>
  intro C he hC
  obtain rfl : C = allN (full g (s : Int)) := by omega
  refine Ev.succ ?_
  simp only [yf0.l1]
  exact Ev.neg (by omega) (Ev.now _)
 | succ e ih =>
  intro C he hC
  have hn := ih (C + 1) (by omega) (by omega)
  rw [filt_succ] at hn
  have hw := wrap_nat (n := C) (by omega)
  have hcl : ((List.range C).filter fun a => recB g (s : Int) (dec (full g (s : Int)) a)).length ≤ C := by
   have := List.length_filter_le (fun a => recB g (s : Int) (dec (full g (s : Int)) a)) (List.range C)
   rw [List.length_range] at this
   exact this
  have hw2 := wrap_nat (n := ((List.range C).filter fun a => recB g (s : Int) (dec (full g (s : Int)) a)).length) (by omega)
  refine Ev.succ ?_
  simp only [yf0.l1]
  have := countS_l2 X (allN (full g (s : Int))) ((((List.range C).filter fun a => recB g (s : Int) (dec (full g (s : Int)) a)).length : Nat) : Int) C (((recN g (s : Int)).length : Int), true) C ?_ g.length 0 C [] (by omega) (by omega) (by omega) rfl rfl
  ·refine Ev.pos (by omega) ?_
   rw [full_len]
   exact this
  ·rw [hw, hw2]
   by_cases h : recB g (s : Int) (dec (full g (s : Int)) C) = true
   ·rw [if_pos h] at hn; exact Ev.pos h hn
   rw [if_neg h] at hn; exact Ev.neg h hn
theorem countS_l0 {g : List (List Int)} {s : Nat} (X : Ctx g s) : ∀ (e i P : Nat), g.length - i = e → i ≤ g.length → P * allN ((full g (s : Int)).drop i) = allN (full g (s : Int)) → Ev (fun k => yf0.l0 k s (full g (s : Int)) P (full g (s : Int)) g.length i g) (((recN g (s : Int)).length : Int), true) := by
 have h5 := X.h5
 have hfl := full_len g (s : Int)
 have hall := X.full_all.2
 intro e
 induction e with
 | zero =>
  intro i P he hi hP
  rw [List.drop_of_length_le (by omega)] at hP
  simp only [allN, Nat.mul_one] at hP
  subst hP
  refine Ev.succ ?_
  simp only [yf0.l0]
  exact Ev.neg (by omega) (Ev.neg (by omega) (countS_l1 X (allN (full g (s : Int))) 0 (by omega) (by omega)))
 | succ e ih =>
  intro i P he hi hP
  have hw := wrap_nat (n := i) (by omega)
  have hb := X.full_b (p := i) (by omega)
  rw [drop_full (by omega), ← Nat.mul_assoc] at hP
  have h1 := mul_ge (a := P * ((rd (full g (s : Int)) (i : Int)).toNat + 1)) (allN_pos ((full g (s : Int)).drop (i + 1)))
  have hv : wrap64 ((P : Int) * wrap64 (rd (full g (s : Int)) (i : Int) + 1)) = ((P * ((rd (full g (s : Int)) (i : Int)).toNat + 1) : Nat) : Int) := by
   have e1 : ((P * ((rd (full g (s : Int)) (i : Int)).toNat + 1) : Nat) : Int) = (P : Int) * (rd (full g (s : Int)) (i : Int) + 1) := by
    rw [Int.natCast_mul, show ((((rd (full g (s : Int)) (i : Int)).toNat + 1 : Nat)) : Int) = rd (full g (s : Int)) (i : Int) + 1 by omega]
   rw [wrap_id (x := rd (full g (s : Int)) (i : Int) + 1) (by omega), ← e1]
   exact wrap_id (by omega)
  refine Ev.succ ?_
  simp only [yf0.l0]
  refine Ev.pos (by omega) (Ev.pos (by omega) (Ev.pos (by omega) ?_))
  rw [hv, hw]
  exact ih (i + 1) _ (by omega) (by omega) hP
def cntR (g : List (List Int)) (s : Int) : Int × Bool := if sunkB g s = true then (((recN g s).length : Int), true) else (0, false)
theorem cntI {g : List (List Int)} (hS : Sml g) (s : Int) : Ev (fun k => yw0.f k g s) (cntR g s) := by
 unfold yw0.f cntR
 by_cases h : sunkB g s = true
 rotate_left
 ·rw [if_neg h]
  exact Ev.bind (hasSink_ev g s) (Ev.neg h (Ev.now _))
 rw [if_pos h]
 obtain ⟨t, rfl, X⟩ := ctx_of hS h
 refine Ev.bind (hasSink_ev g _) (Ev.pos h (Ev.bind (fullHeap_ev X.hg _) ?_))
 rw [full_len, X.count]
 exact countI_l0 X g.length 0 1 (by omega) (by omega) (by rw [List.drop_zero, Nat.one_mul]; exact X.full_all.2)
theorem cntS {g : List (List Int)} (hl : okSS g) (hS : Sml g) (s : Int) : Ev (fun k => yf0.f k g s) (cntR g s) := by
 unfold yf0.f cntR
 by_cases h : sunkB g s = true
 rotate_left
 ·rw [if_neg h]
  exact Ev.bind (chSink_ev g hl s) (Ev.neg h (Ev.now _))
 rw [if_pos h]
 obtain ⟨t, rfl, X⟩ := ctx_of hS h
 refine Ev.bind (chSink_ev g hl _) (Ev.pos h (Ev.bind (chFull_ev X.hg _) ?_))
 rw [full_len]
 exact countS_l0 X g.length 0 1 (by omega) (by omega) (by rw [List.drop_zero, Nat.one_mul])
theorem treeI {g : List (List Int)} {s : Nat} (X : Ctx g s) : Ev (fun k => ym1.f k g s) (((recN g (s : Int)).length : Int), true) := by
 have hs := X.hs
 have h5 := X.h5
 unfold ym1.f
 rw [X.count]
 exact Ev.bind0 (has1 g s) (Ev.pos (place_of X.hg hs) (Ev.bind ((laplace_ev X.hg (sink := (s : Int)) (by omega) (by omega)).val (by rw [Int.toNat_natCast])) (Ev.bind (determinant_ev (by omega) _ (lap_sq X.hg hs)) (Ev.now _))))
def fulR (g : List (List Int)) (s : Int) : List Int × Bool := if sunkB g s = true then (full g s, true) else ([], false)
theorem fulI (g : List (List Int)) (s : Int) : Ev (fun k => yi1.f k g s) (fulR g s) := by
 unfold yi1.f fulR
 by_cases h : sunkB g s = true
 rotate_left
 ·rw [if_neg h]; exact Ev.bind (hasSink_ev g s) (Ev.neg h (Ev.now _))
 rw [if_pos h]
 have hg := (place_iff (sunk_iff h).1).1
 exact Ev.bind (hasSink_ev g s) (Ev.pos h (Ev.bind (fullHeap_ev hg s) (Ev.now _)))
theorem fulS {g : List (List Int)} (hl : okSS g) (s : Int) : Ev (fun k => yk1.f k g s) (fulR g s) := by
 unfold yk1.f fulR
 by_cases h : sunkB g s = true
 rotate_left
 ·rw [if_neg h]; exact Ev.bind (chSink_ev g hl s) (Ev.neg h (Ev.now _))
 rw [if_pos h]
 have hg := (place_iff (sunk_iff h).1).1
 exact Ev.bind (chSink_ev g hl s) (Ev.pos h (Ev.bind (chFull_ev hg s) (Ev.now _)))
open DetKit
theorem Dr.sml {n : Nat} {g : List (List Int)} (h5 : n ≤ 5) (h : Dr n 4 g) : Sml g := ⟨by have := h.len; omega, fun p hp => (h.at (by omega) (by have := h.len; omega)).1⟩
theorem drawCount {l : List Int} (hl : Byt l) : ∃ g s, Ev (fun k => yn1.f k l) (g, s) ∧ okSS g ∧ Sml g := by
 obtain ⟨n, s, g, a, sd, h, h1, h5, hD, hs, l1, u1⟩ := sunk_ok hl (a := 0) (sd := 0) (by omega) (by omega)
 obtain ⟨b, a2, s2, e2, l2, u2⟩ := one_ok hl (s := sd) (a := a) (by omega) (by omega) 10 (by omega)
 have hlen := hD.len
 unfold yn1.f yz1.f yc2.f
 cases b with
 | true =>
  obtain ⟨p, a3, s3, e3, _⟩ := place_ok hl (a := a2) (sd := s2) (g := g) (by omega) (by omega) (by omega) (by omega)
  exact ⟨g, p, Ev.bind (Ev.bind (Ev.bind h (Ev.bind0 e2 (Ev.pos rfl (Ev.bind e3 (Ev.now _))))) (Ev.now _)) (Ev.now _), hD.ok (by omega) (by omega), hD.sml h5⟩
 | false =>
  exact ⟨g, s, Ev.bind (Ev.bind (Ev.bind h (Ev.bind0 e2 (Ev.neg (by simp) (Ev.now _)))) (Ev.now _)) (Ev.now _), hD.ok (by omega) (by omega), hD.sml h5⟩
theorem sett_okIs {g : List (List Int)} {s : Nat} {c : List Int} (h : heapB g (s : Int) c = true) (hs : s < g.length) (hg : goodG g = true) (he : (sett g (s : Int) 4000 c (List.replicate g.length 0)).2.2 = true) : okIs (sett g (s : Int) 4000 c (List.replicate g.length 0)).1 ∧ (sett g (s : Int) 4000 c (List.replicate g.length 0)).1.length ≤ 8 := by
 have h8 := (good_iff hg).1.2
 obtain ⟨_, hc, hb⟩ := heap_iff h
 obtain ⟨U, K, r, _, _, _, hK⟩ := sett_ok hg hs (B := 20) (by omega) 4000 c _ _ 0 (Run.start hc (fun q hq => by rw [rd_at (by omega)]; exact hb _ (List.getElem_mem _))) (by omega) he
 have hcl := r.cl
 have hcb := r.cb
 generalize (sett g (s : Int) 4000 c (List.replicate g.length 0)).1 = x at hcl hcb
 refine ⟨⟨by omega, fun y hy => ?_⟩, by omega⟩
 obtain ⟨i, hi, rfl⟩ := List.getElem_of_mem hy
 have := hcb i (by omega)
 rw [rd_at hi] at this
 unfold okI; omega
theorem drawRec {l : List Int} (hl : Byt l) : ∃ g s c, Ev (fun k => yq1.f k l) (g, s, c) ∧ okSS g ∧ Sml g ∧ okIs c ∧ c.length ≤ 8 := by
 obtain ⟨n, s, g, c, a, sd, h, h1, h5, hD, hs, hc, ho, l1, u1⟩ := heap_ok hl (a := 0) (sd := 0) (by omega) (by omega) 6 (by omega)
 have H := Hd.of h5 hD hc ho
 have hlen := hD.len
 have hg := hD.good h1 (by omega) (by omega)
 have j : ∀ (b : Bool) (a2 s2 : Int), (b = true → heapB g (s : Int) c = true) → ∃ c', Ev (fun k => yy0.j0 k s c b l a2 s2 g) (g, (s : Int), c', a2, s2) ∧ okIs c' ∧ c'.length ≤ 8 := by
  intro b a2 s2 hb
  cases b with
  | false =>
   refine ⟨c, ?_, H.cok, by omega⟩
   refine Ev.succ ?_
   simp only [yy0.j0]
   exact Ev.neg (by simp) (Ev.now _)
  | true =>
   have hh := hb rfl
   have e := settS_ev hg (s : Int) c (heap_iff hh).2.1
   have hk := sett_okIs hh (by omega) hg
   generalize sett g (s : Int) 4000 c (List.replicate g.length 0) = r at e hk
   by_cases hr : r.2.2 = true
   ·refine ⟨r.1, ?_, (hk hr).1, (hk hr).2⟩
    refine Ev.succ ?_
    simp only [yy0.j0]
    exact Ev.pos trivial (Ev.bind e (Ev.pos hr (Ev.now _)))
   refine ⟨c, ?_, H.cok, by omega⟩
   refine Ev.succ ?_
   simp only [yy0.j0]
   exact Ev.pos trivial (Ev.bind e (Ev.neg hr (Ev.now _)))
 unfold yq1.f yy0.f
 by_cases hh : heapB g (s : Int) c = true
 rotate_left
 ·obtain ⟨c', h2, h3, h4⟩ := j false a sd (by simp)
  exact ⟨g, s, c', Ev.bind (Ev.bind h (Ev.bind (chHeap_ev g H.ok s c H.cok) (Ev.neg hh h2))) (Ev.now _), H.ok, hD.sml h5, h3, h4⟩
 obtain ⟨b, a2, s2, e2, l2, u2⟩ := one_ok hl (s := sd) (a := a) (by omega) (by omega) 4 (by omega)
 obtain ⟨c', h2, h3, h4⟩ := j (!b) a2 s2 (fun _ => hh)
 exact ⟨g, s, c', Ev.bind (Ev.bind h (Ev.bind (chHeap_ev g H.ok s c H.cok) (Ev.pos hh (Ev.bind0 e2 h2)))) (Ev.now _), H.ok, hD.sml h5, h3, h4⟩
theorem xSame_l0 (x y : List Int) (hl : x.length ≤ 9223372036854775807) (hxy : x.length = y.length) : ∀ (d i : Nat), x.length - i = d → i ≤ x.length → Ev (fun k => yn0.l0 k x y x.length i) (decide (x.drop i = y.drop i)) := by
 intro d
 induction d with
 | zero =>
  intro i hd hi
  refine Ev.const1 (fun k => ?_)
  simp only [yn0.l0]
  rw [if_neg (by omega), List.drop_of_length_le (by omega), List.drop_of_length_le (by omega)]
  simp
 | succ d ih =>
  intro i hd hi
  have hlt : i < x.length := by omega
  have hlt2 : i < y.length := by omega
  rw [List.drop_eq_getElem_cons hlt, List.drop_eq_getElem_cons hlt2]
  by_cases e : x[i] = y[i]
  ·refine Ev.step (f := fun k => yn0.l0 k x y x.length (i + 1 : Nat)) (fun k => ?_) ((ih (i + 1) (by omega) (by omega)).val (cons_dec e))
   simp only [yn0.l0]
   rw [if_pos (by omega), if_pos (by omega), if_pos (by omega), if_pos (by omega), rd_at hlt, rd_at hlt2, if_pos e, wrap_nat (by omega)]
  refine Ev.const1 (fun k => ?_)
  simp only [yn0.l0]
  rw [if_pos (by omega), if_pos (by omega), if_pos (by omega), if_pos (by omega), rd_at hlt, rd_at hlt2, if_neg e, decide_eq_false (fun h => e (List.cons.inj h).1)]
theorem xSame_ev (x y : List Int) (hl : x.length ≤ 9223372036854775807) : Ev (fun k => yn0.f k x y) (decide (x = y)) := by
 unfold yn0.f
 by_cases h : x.length = y.length
 ·refine Ev.pos (by omega) ?_
  exact xSame_l0 x y hl h x.length 0 (by omega) (by omega)
 refine Ev.neg (by omega) ?_
 exact (Ev.now _).val (by have : x ≠ y := fun e => h (by rw [e]); simp [this])
end Go.Proofs.Ytdfabioienofhaa.M
namespace Go.Proofs.Ytdfabioienofhaa.Pure
set_option maxHeartbeats 8000000
set_option maxRecDepth 100000
open Go.RowKit Go.Proofs.Ytdfabioienofhaa.P Go.Proofs.Ytdfabioienofhaa.In Go.Proofs.Ytdfabioienofhaa.M Go.Proofs.YtdfabioienofhaaW.PrintWords Go.Proofs.YtdfabioienofhaaW.PrintLast
set_option linter.unusedVariables false
set_option linter.unusedSimpArgs false
open DetKit
theorem big_ev (l0 l1 : List Int) (h0 : l0.length ≤ 9223372036854775807) (h1 : l1.length ≤ 9223372036854775807) : ∃ b, ye2.f l0 l1 = some b ∧ (b = false → l0.length ≤ 1048576 ∧ l1.length ≤ 1048576) := by
 unfold ye2.f
 by_cases h : (l0.length : Int) > 1048576
 ·rw [if_pos h]; exact ⟨true, rfl, by simp⟩
 rw [if_neg h, wrap_id (by omega)]
 refine ⟨_, rfl, fun hb => ?_⟩
 have := of_decide_eq_false hb
 omega
theorem irR_true {g : List (List Int)} {s : Nat} (X : Ctx g s) {c : List Int} (hc : Low g s c) (hr : recB g (s : Int) c = true) : irR g (s : Int) c = (true, true) := by
 unfold irR
 rw [if_pos ⟨X.heap hc, hc.stable⟩, hr]
theorem ctx_full_low {g : List (List Int)} {s : Nat} (X : Ctx g s) : Low g s (full g (s : Int)) :=
 ⟨full_len g _, by rw [full_rd g _ X.hs, if_pos rfl], fun p hp => ⟨(X.full_b hp).1, Int.le_refl _⟩⟩
theorem ctx_full_rec {g : List (List Int)} {s : Nat} (X : Ctx g s) : recB g (s : Int) (full g (s : Int)) = true := by
 obtain ⟨_, _, _, _, h, w, B⟩ := X.burn
 refine (X.rec_iff (ctx_full_low X)).2.2.2 (Rec.congr (fun i hi => ?_) B.rec_full)
 unfold vec dd
 rw [full_rd g _ (skip_lt' hi), if_neg (fun e => skip_ne s i (by omega))]
theorem ctx_more {g : List (List Int)} {s : Nat} (X : Ctx g s) {c : List Int} (hc : Low g s c) (hr : recB g (s : Int) c = true) {i : Nat} (hi : i < g.length) (hlt : rd c (i : Int) < rd (full g (s : Int)) (i : Int)) : Low g s (c.set i (rd c (i : Int) + 1)) ∧ recB g (s : Int) (c.set i (rd c (i : Int) + 1)) = true := by
 have hcl := hc.1
 have his : i ≠ s := fun e => by
  subst e
  rw [full_rd g _ hi, if_pos rfl, hc.2.1] at hlt
  omega
 have hrd : ∀ p : Nat, rd (c.set i (rd c (i : Int) + 1)) (p : Int) = if p = i then rd c (i : Int) + 1 else rd c (p : Int) := fun p => rdn_set (by omega) _
 have hL : Low g s (c.set i (rd c (i : Int) + 1)) := by
  refine ⟨by rw [List.length_set]; exact hcl, by rw [hrd, if_neg (fun e => his e.symm)]; exact hc.2.1, fun p hp => ?_⟩
  rw [hrd]
  have := hc.2.2 p hp
  by_cases e : p = i
  ·rw [if_pos e]; subst e; omega
  rw [if_neg e]; exact this
 refine ⟨hL, (X.rec_iff hL).2.2.2 ?_⟩
 have h1 := (X.rec_iff hc).2.2.1 hr
 have e : ∀ j, j < g.length - 1 → vec s c j + (if skip s j = i then 1 else 0) = vec s (c.set i (rd c (i : Int) + 1)) j := fun j hj => by
  unfold vec
  rw [hrd]
  by_cases e : skip s j = i
  ·rw [if_pos e, if_pos e, e]
  rw [if_neg e, if_neg e]; omega
 refine Rec.congr e (h1.more (fun j hj => ?_) (fun j hj => ?_))
 ·split <;> omega
 ·show vec s c j + (if skip s j = i then 1 else 0) < _
  rw [e j hj]; exact (hL.heap0 j hj).2
theorem rec_l0 {g : List (List Int)} {s : Nat} (X : Ctx g s) (hS : Sml g) {c : List Int} (hc : Low g s c) (hr : recB g (s : Int) c = true) : ∀ (e i : Nat), g.length - i = e → i ≤ g.length → Ev (fun k => ya0.l0 k s c (full g (s : Int)) c g.length i g) true := by
 have h5 := X.h5
 have hcl := hc.1
 have hfl := full_len g (s : Int)
 intro e
 induction e with
 | zero =>
  intro i he hi
  refine Ev.succ ?_
  simp only [ya0.l0]
  exact Ev.neg (by omega) (Ev.now _)
 | succ e ih =>
  intro i he hi
  have hn := ih (i + 1) (by omega) (by omega)
  have hw := wrap_nat (n := i) (by omega)
  have hb := X.full_b (p := i) (by omega)
  have hcb := hc.2.2 i (by omega)
  rw [← hw] at hn
  refine Ev.succ ?_
  simp only [ya0.l0]
  refine Ev.pos (by omega) (Ev.pos (by omega) (Ev.pos (by omega) (Ev.pos (by omega) (Ev.neg (by omega) ?_))))
  by_cases hlt : rd c (i : Int) < rd (full g (s : Int)) (i : Int)
  rotate_left
  ·exact Ev.neg hlt hn
  obtain ⟨m1, m2⟩ := ctx_more X hc hr (i := i) (by omega) hlt
  refine Ev.pos hlt (Ev.bind0 rfl (Ev.pos (by simp; omega) (Ev.bind0 rfl (Ev.pos (by simp; omega) ?_))))
  rw [List.nil_append, Int.toNat_natCast, wrap_id (x := rd c (i : Int) + 1) (by omega)]
  exact Ev.bind ((irI hS (s : Int) _).val (irR_true X m1 m2)) (Ev.pos rfl (Ev.pos rfl hn))
theorem rec_j1 {l1 : List Int} (hl : Byt l1) : Ev (fun k => ya0.j1 k l1) true := by
 obtain ⟨g, s, c, h1, hok, hS, hcok, hc8⟩ := drawRec hl
 refine Ev.succ ?_
 simp only [ya0.j1]
 refine Ev.bind h1 (Ev.bind (irI hS s c) (Ev.bind (irS hok hS s hcok) (Ev.neg (by simp) ?_)))
 rw [show ((irR g s c).1 != (irR g s c).1) = false by simp]
 refine Ev.succ ?_
 simp only [ya0.j2]
 refine Ev.neg (by simp) ?_
 have no : Ev (fun k => ya0.j3 k s c false g) true := by
  refine Ev.succ ?_
  simp only [ya0.j3]
  exact Ev.neg (by simp) (Ev.now _)
 by_cases h : heapB g s c = true ∧ high g s c < 0
 rotate_left
 ·have e : irR g s c = (false, false) := by unfold irR; rw [if_neg h]
  rw [e]
  exact Ev.neg (by simp) no
 have e : irR g s c = (recB g s c, true) := by unfold irR; rw [if_pos h]
 rw [e]
 refine Ev.pos rfl ?_
 by_cases hr : recB g s c = true
 rotate_left
 ·rw [show recB g s c = false from Bool.eq_false_iff.2 hr]; exact no
 rw [hr]
 have hsk := (heap_iff h.1).1
 obtain ⟨t, rfl, X⟩ := ctx_of hS hsk
 have hc := low_of X.hs h.1 h.2
 have hf : fulR g (t : Int) = (full g (t : Int), true) := by unfold fulR; rw [if_pos hsk]
 have := rec_l0 X hS hc hr g.length 0 (by omega) (by omega)
 refine Ev.succ ?_
 simp only [ya0.j3]
 refine Ev.pos trivial (Ev.bind ((fulI g (t : Int)).val hf) (Ev.pos rfl ?_))
 rw [hc.1]
 exact this
theorem FnRecurrentHeaps (l0 : List Int) (h0 : okBy l0) (l1 : List Int) (h1 : okBy l1) : ∃ k, ya0.f k l0 l1 = some true := by
 refine Ev.rounds (g := fun k => ya0.f k l0 l1) ?_
 unfold ya0.f
 obtain ⟨b, hb, hbl⟩ := big_ev l0 l1 h0.1 h1.1
 refine Ev.bind0 hb ?_
 cases b with
 | true => exact Ev.pos rfl (Ev.now _)
 | false =>
  have hB := hbl rfl
  have b0 : Byt l0 := ⟨hB.1, h0.2⟩
  have b1 : Byt l1 := ⟨hB.2, h1.2⟩
  obtain ⟨g, s, hd, hok, hS⟩ := drawCount b0
  have hl8 : (fulR g s).1.length ≤ 9223372036854775807 := by
   have := hS.1
   have hfl := full_len g s
   unfold fulR
   split
   ·show (full g s).length ≤ _; omega
   ·simp
  refine Ev.neg (by simp) (Ev.bind hd (Ev.bind (cntI hS s) (Ev.bind (cntS hok hS s) (Ev.bind (fulI g s) (Ev.bind (fulS hok s) ?_)))))
  refine Ev.neg (by simp) (Ev.pos rfl (Ev.neg (by simp) (Ev.bind ((xSame_ev _ _ hl8).val (decide_eq_true rfl)) (Ev.pos rfl ?_))))
  by_cases h : sunkB g s = true
  rotate_left
  ·have ec : cntR g s = (0, false) := by unfold cntR; rw [if_neg h]
   rw [ec]
   refine Ev.neg (by simp) (Ev.succ ?_)
   simp only [ya0.j0]
   exact Ev.neg (by simp) (Ev.neg (by simp) (rec_j1 b1))
  have ec : cntR g s = (((recN g s).length : Int), true) := by unfold cntR; rw [if_pos h]
  have ef : fulR g s = (full g s, true) := by unfold fulR; rw [if_pos h]
  rw [ec, ef]
  obtain ⟨t, rfl, X⟩ := ctx_of hS h
  refine Ev.pos rfl (Ev.succ ?_)
  simp only [ya0.j0]
  exact Ev.neg (by simp) (Ev.pos trivial (Ev.bind (treeI X) (Ev.bind ((irI hS (t : Int) _).val (irR_true X (ctx_full_low X) (ctx_full_rec X))) (Ev.pos rfl (Ev.pos rfl (Ev.pos rfl (Ev.pos rfl (rec_j1 b1))))))))
end Go.Proofs.Ytdfabioienofhaa.Pure
namespace Go.Proofs.Ytdfabioienofhaa.fnRecurrentHeaps
set_option maxHeartbeats 8000000
set_option maxRecDepth 100000
open Go.ChangeShapes Go.WideShapes Go.ChangeAt Go.RowKit
open Go.ChangeMaps (open_string shut_string)
open Go.Proofs.Ytdfabioienofhaa.In Go.Proofs.Ytdfabioienofhaa.P
set_option linter.unusedVariables false
theorem own : ownKnob Try.prog.godebug = none := by kernel_rfl
theorem laidOut : laidOutB Try.prog = true := by kernel_rfl
theorem lifted (os : Os) (started : os.Started) (H : Type) (enc : TypeId × Value → H) :
  ReturnsInHanded {} Try.checked os 4 .any (Rows.fnRecurrentHeapsSpec.pre6 enc Try.prog Try.f4 Rows.fnRecurrentHeapsRow.domain false) (Rows.fnRecurrentHeapsSpec.post enc Try.prog Try.f4 false true false false) := by
 refine returnsInHanded_of_change_sized (C := Try.checked) own started (by kernel_rfl) Try.func4
  (ChangeSpec.witness6 (enc := enc) (C := Try.checked) false ⟨#[], #[.slice none 0 0, .slice none 0 0], []⟩ 8 (by kernel_rfl) (by kernel_rfl) (by kernel_rfl) (by kernel_rfl)) ?_
 intro W base args ds gs before hval0 hW hcnd hsz0 _
 have hsz : (DataW.weightsEach Try.prog (Try.f4.params.toList ++ Rows.fnRecurrentHeapsSpec.plain.varTypes Try.prog) (ds ++ gs)).all (· ≤ reachBytes) = true := hsz0
 have hval : ∀ (j : Nat) t v, Try.f4.params[j]? = some t → args[j]? = some v → Value.okWide Try.prog W .any base t v := hval0
 have hW' := hW
 obtain ⟨p, q, hA0, hV, rfl, hfz, hnd⟩ := hW
 have hA : DataW.TrodAll enc Try.prog W 0 (fun _ => true) true Try.f4.params.toList args.toList ds p := hA0
 rw [Try.params4] at hA hval hsz
 obtain ⟨v0, vs0, d0, ds0, p0, q0, hargs, rfl, rfl, h0, r0⟩ := trodAll_cons hA
 obtain ⟨v1, vs1, d1, ds1, p1, q1, rfl, rfl, rfl, h1, r1⟩ := trodAll_cons r0
 obtain ⟨rfl, rfl, rfl⟩ := trodAll_nil r1
 obtain rfl : args = #[v0, v1] := by cases args; simp_all
 obtain ⟨rfl, rfl⟩ := trodVars_none hV
 have k0 := h0
 have lt0 : ∀ x ∈ p0, x.block < W.heap.size := by obtain ⟨m, hm⟩ := k0; exact DataW.trod_lt m _ _ _ hm
 obtain ⟨A0, l0, cap0, rfl, hl0, hc0, hw0⟩ := in_bytes (q := 5) Try.underlying22 Try.underlying5 (by kernel_rfl) (hval 0 22 v0 rfl rfl) h0
 have k1 := h1
 have lt1 : ∀ x ∈ p1, x.block < W.heap.size := by obtain ⟨m, hm⟩ := k1; exact DataW.trod_lt m _ _ _ hm
 obtain ⟨A1, l1, cap1, rfl, hl1, hc1, hw1⟩ := in_bytes (q := 5) Try.underlying22 Try.underlying5 (by kernel_rfl) (hval 1 22 v1 rfl rfl) h1
 clear hA0 hval0 hsz0 hsz
 obtain ⟨k, h⟩ := Pure.FnRecurrentHeaps l0 (okBy_wf hw0) l1 (okBy_wf hw1)
 refine (ya0.calls k _ _ l0 _ _ l1 true W hc0 hl0 hc1 hl1 h).mono fun e W' ⟨he, bel0⟩ => ?_
 have bel : Below W.heap.size W W' := bel0
 subst he
 exact ⟨_, rfl, _, _, _, [], _, [], hW', trodAll_mk1 (shut_bool Try.underlying4 _), (trodAll_cons_mk (Below.trod laidOut (by kernel_rfl) (of_decide_eq_true (by kernel_rfl)) k0 bel lt0) (trodAll_cons_mk (Below.trod laidOut (by kernel_rfl) (of_decide_eq_true (by kernel_rfl)) k1 bel lt1) trodAll_mk0)), rfl, bel.frame _, fun h => by cases h⟩
theorem over : Rows.fnRecurrentHeapsRow.holds Try.pinned (OpenSpec.ofChange Rows.fnRecurrentHeapsSpec) :=
 OpenClaim.holds_of_wide 4 Try.f4 rfl rfl rfl rfl rfl rfl rfl ⟨rfl, rfl, rfl, rfl, rfl⟩ rfl rfl rfl rfl rfl (by kernel_rfl) Try.func4 (by kernel_rfl)
  (of_decide_eq_true (by kernel_rfl)) (by unfold Func.isWrapper; first | (rw [if_pos (by decide +kernel)]; kernel_rfl) | (rw [if_neg (by decide +kernel)]; exact ⟨rfl, rfl⟩))
  (fun os started H enc _ => lifted os started H enc)
theorem proved : Rows.FnRecurrentHeapsSaid := over
end Go.Proofs.Ytdfabioienofhaa.fnRecurrentHeaps
namespace Go.Proofs.Ytdfabioienofhaa
set_option maxHeartbeats 8000000
set_option maxRecDepth 100000
theorem fnRecurrentHeaps_holds : Rows.FnRecurrentHeapsSaid := fnRecurrentHeaps.proved
#print axioms fnRecurrentHeaps_holds
end Go.Proofs.Ytdfabioienofhaa
