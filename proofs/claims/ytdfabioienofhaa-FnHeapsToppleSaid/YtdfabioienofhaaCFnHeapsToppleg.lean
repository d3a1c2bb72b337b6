/- The law FnHeapsTopple holds for every input: the program returns what the reference returns (or what the law says), for all arguments. -/
import Derived.Test.YtdfabioienofhaaCFnHeapsTopplef
import Derived.Test.YtdfabioienofhaaCFnHeapsToppled
import Derived.Test.YtdfabioienofhaaCFnHeapsToppleb
import Derived.Test.YtdfabioienofhaaCFnHeapsTopplec
import Derived.Test.YtdfabioienofhaaCFnHeapsTopplee
import Derived.Test.YtdfabioienofhaaCFnHeapsTopplea
import Derived.Test.YtdfabioienofhaaRows
import Derived.WalkKit
import Derived.ProofKit
import Derived.OpenShut
import Derived.ShutString
import Derived.ChangeOld
import Derived.Below
import Derived.SizedLaws
import Derived.Deep.Matrix
import Derived.Lib.SmallJoins
namespace Go.Proofs.Ytdfabioienofhaa.M
set_option maxHeartbeats 8000000
set_option maxRecDepth 100000
open Go.RowKit Go.Proofs.Ytdfabioienofhaa.P Go.Proofs.Ytdfabioienofhaa.In Go.Proofs.YtdfabioienofhaaW.PrintWords Go.Proofs.YtdfabioienofhaaW.PrintLast
set_option linter.unusedVariables false
set_option linter.unusedSimpArgs false
open DetKit
theorem sm_le {n : Nat} {f g : Nat → Int} (h : ∀ i, i < n → f i ≤ g i) : sm n f ≤ sm n g := by
 induction n with
 | zero => exact Int.le_refl _
 | succ n ih => simp only [sm]; have := ih (fun i hi => h i (by omega)); have := h n (by omega); omega
theorem sm_nonneg {n : Nat} {f : Nat → Int} (h : ∀ i, i < n → 0 ≤ f i) : 0 ≤ sm n f := by
 rw [← sm_zero (n := n) (f := fun _ => 0) (fun _ _ => rfl)]; exact sm_le h
theorem sm_all_zero {n : Nat} {f : Nat → Int} (h : ∀ i, i < n → 0 ≤ f i) (hs : sm n f ≤ 0) : ∀ i, i < n → f i = 0 := by
 induction n with
 | zero => intro i hi; omega
 | succ n ih =>
  simp only [sm] at hs
  have h1 := sm_nonneg (fun i hi => h i (by omega) : ∀ i, i < n → 0 ≤ f i)
  have h2 := h n (by omega)
  intro i hi
  by_cases e : i = n
  ·subst e; omega
  exact ih (fun i hi => h i (by omega)) (by omega) i (by omega)
def aft (n : Nat) (L : Nat → Nat → Int) (x u : Nat → Int) : Nat → Int := fun j => x j - sm n (fun i => u i * L i j)
def bump (u : Nat → Int) (i : Nat) : Nat → Int := fun j => u j + if j = i then 1 else 0
theorem aft_zero (n : Nat) (L : Nat → Nat → Int) (x : Nat → Int) : aft n L x (fun _ => 0) = x := by
 funext j; unfold aft; rw [sm_zero (fun i _ => Int.zero_mul _)]; omega
theorem aft_bump {n : Nat} (L : Nat → Nat → Int) (x u : Nat → Int) {i : Nat} (hi : i < n) (j : Nat) : aft n L x (bump u i) j = aft n L x u j - L i j := by
 unfold aft
 have : sm n (fun t => bump u i t * L t j) = sm n (fun t => u t * L t j) + L i j := by
  rw [← sm_unit n (fun t => L t j) i hi, ← sm_add]
  refine sm_congr (fun t _ => ?_)
  unfold bump; rw [Int.add_mul, Int.mul_comm (L t j)]
 omega
theorem aft_aft (n : Nat) (L : Nat → Nat → Int) (x u v : Nat → Int) : aft n L (aft n L x u) v = aft n L x (fun i => u i + v i) := by
 funext j
 show x j - sm n (fun t => u t * L t j) - sm n (fun t => v t * L t j) = x j - sm n (fun t => (u t + v t) * L t j)
 have : sm n (fun t => (u t + v t) * L t j) = sm n (fun t => u t * L t j) + sm n (fun t => v t * L t j) := by
  rw [← sm_add]; exact sm_congr (fun t _ => Int.add_mul _ _ _)
 omega
theorem aft_add (n : Nat) (L : Nat → Nat → Int) (x z u : Nat → Int) : aft n L (fun j => x j + z j) u = fun j => aft n L x u j + z j := by
 funext j
 show x j + z j - sm n (fun t => u t * L t j) = x j - sm n (fun t => u t * L t j) + z j
 omega
theorem aft_congr {n : Nat} {L : Nat → Nat → Int} {x y u v : Nat → Int} {j : Nat} (h : x j = y j) (hu : ∀ i, i < n → u i = v i) : aft n L x u j = aft n L y v j := by
 unfold aft; rw [h, sm_congr (fun i hi => by rw [hu i hi])]
def Stb (n : Nat) (d c : Nat → Int) : Prop := ∀ i, i < n → c i < d i
inductive Leg (n : Nat) (L : Nat → Nat → Int) (d x : Nat → Int) : (Nat → Int) → Nat → Prop
 | nil : Leg n L d x (fun _ => 0) 0
 | step {u : Nat → Int} {k i : Nat} : Leg n L d x u k → i < n → d i ≤ aft n L x u i → Leg n L d x (bump u i) (k + 1)
structure Pile (n : Nat) (L : Nat → Nat → Int) (d h : Nat → Int) : Prop where
 off : ∀ i j, i < n → j < n → i ≠ j → L i j ≤ 0
 dl : ∀ i, i < n → L i i ≤ d i
 h0 : ∀ i, i < n → 0 ≤ h i
 pot : ∀ i, i < n → 1 ≤ sm n (fun j => L i j * h j)
section
variable {n : Nat} {L : Nat → Nat → Int} {d : Nat → Int}
theorem Leg.pos {x u : Nat → Int} {k : Nat} (h : Leg n L d x u k) : ∀ i, 0 ≤ u i := by
 induction h with
 | nil => intro i; exact Int.le_refl _
 | step _ _ _ ih => intro i; unfold bump; have := ih i; split <;> omega
theorem Leg.congr {x y u : Nat → Int} {k : Nat} (e : ∀ j, j < n → x j = y j) (h : Leg n L d x u k) : Leg n L d y u k := by
 induction h with
 | nil => exact .nil
 | step _ hi hd ih => exact .step ih hi (by rw [← aft_congr (e _ hi) (fun _ _ => rfl)]; exact hd)
theorem Leg.least (off : ∀ i j, i < n → j < n → i ≠ j → L i j ≤ 0) {x u : Nat → Int} {k : Nat} (h : Leg n L d x u k) {v : Nat → Int} (hv : ∀ i, i < n → 0 ≤ v i) (hs : Stb n d (aft n L x v)) : ∀ i, i < n → u i ≤ v i := by
 induction h with
 | nil => exact hv
 | @step u k i _ hi hd ih =>
  intro t ht
  unfold bump
  by_cases e : t = i
  rotate_left
  ·rw [if_neg e]; have := ih t ht; omega
  subst e
  rw [if_pos rfl]
  apply Classical.byContradiction
  intro hc
  have he : u t = v t := by have := ih t ht; omega
  have h1 := hs t ht
  have h2 : sm n (fun s => v s * L s t) ≤ sm n (fun s => u s * L s t) := by
   refine sm_le (fun s hsn => ?_)
   by_cases e2 : s = t
   ·subst e2; rw [he]; exact Int.le_refl _
   exact Int.mul_le_mul_of_nonpos_right (ih s hsn) (off s t hsn ht e2)
  unfold aft at h1 hd
  omega
theorem Leg.add {x u z : Nat → Int} {k : Nat} (h : Leg n L d x u k) (hz : ∀ i, i < n → 0 ≤ z i) : Leg n L d (fun j => x j + z j) u k := by
 induction h with
 | nil => exact .nil
 | step _ hi hd ih => exact .step ih hi (by rw [aft_add]; have := hz _ hi; dsimp only; omega)
theorem Leg.cat {x u v : Nat → Int} {k l : Nat} (h : Leg n L d x u k) (h2 : Leg n L d (aft n L x u) v l) : Leg n L d x (fun i => u i + v i) (k + l) := by
 induction h2 with
 | nil =>
  have e : (fun i => u i + (fun _ => (0 : Int)) i) = u := by funext i; exact Int.add_zero _
  rw [e]; exact h
 | @step v l i _ hi hd ih =>
  rw [aft_aft] at hd
  have e : (fun j => u j + bump v i j) = bump (fun i => u i + v i) i := by
   funext j
   show u j + (v j + if j = i then 1 else 0) = u j + v j + if j = i then 1 else 0
   omega
  rw [e]; exact ih.step hi hd
theorem Leg.nonneg {h : Nat → Int} (P : Pile n L d h) {x u : Nat → Int} {k : Nat} (hx : ∀ j, j < n → 0 ≤ x j) (hl : Leg n L d x u k) : ∀ j, j < n → 0 ≤ aft n L x u j := by
 induction hl with
 | nil => rw [aft_zero]; exact hx
 | @step u k i _ hi hd ih =>
  intro j hj
  rw [aft_bump L x u hi]
  by_cases e : j = i
  ·subst e; have := P.dl j hj; omega
  have := ih j hj; have := P.off i j hi hj (Ne.symm e); omega
theorem Leg.bound {h : Nat → Int} (P : Pile n L d h) {x u : Nat → Int} {k : Nat} (hl : Leg n L d x u k) : (k : Int) + sm n (fun j => aft n L x u j * h j) ≤ sm n (fun j => x j * h j) := by
 induction hl with
 | nil => rw [aft_zero]; omega
 | @step u k i _ hi _ ih =>
  have : sm n (fun j => aft n L x (bump u i) j * h j) = sm n (fun j => aft n L x u j * h j) + -1 * sm n (fun j => L i j * h j) := by
   rw [← sm_mul, ← sm_add]
   exact sm_congr (fun j _ => by rw [aft_bump L x u hi, Int.sub_mul]; omega)
  have := P.pot i hi
  omega
theorem Leg.few {h : Nat → Int} (P : Pile n L d h) {x u : Nat → Int} {k : Nat} (hx : ∀ j, j < n → 0 ≤ x j) (hl : Leg n L d x u k) : (k : Int) ≤ sm n (fun j => x j * h j) := by
 have h1 := hl.bound P
 have h2 : 0 ≤ sm n (fun j => aft n L x u j * h j) := sm_nonneg (fun j hj => Int.mul_nonneg (hl.nonneg P hx j hj) (P.h0 j hj))
 omega
def Stz (n : Nat) (L : Nat → Nat → Int) (d x u : Nat → Int) : Prop := (∃ k, Leg n L d x u k) ∧ Stb n d (aft n L x u)
theorem Stz.uniq (off : ∀ i j, i < n → j < n → i ≠ j → L i j ≤ 0) {x u v : Nat → Int} (h : Stz n L d x u) (h2 : Stz n L d x v) : ∀ i, i < n → u i = v i := by
 obtain ⟨⟨k, hk⟩, hs⟩ := h
 obtain ⟨⟨l, hl⟩, ht⟩ := h2
 intro i hi
 have h1 := hk.least off (fun i _ => hl.pos i) ht i hi
 have h2 := hl.least off (fun i _ => hk.pos i) hs i hi
 omega
theorem Stz.end_ (off : ∀ i j, i < n → j < n → i ≠ j → L i j ≤ 0) {x u v : Nat → Int} (h : Stz n L d x u) (h2 : Stz n L d x v) (j : Nat) : aft n L x u j = aft n L x v j := aft_congr rfl (h.uniq off h2)
theorem Stz.congr {x y u : Nat → Int} (e : ∀ j, j < n → x j = y j) (h : Stz n L d x u) : Stz n L d y u := by
 obtain ⟨⟨k, hk⟩, hs⟩ := h
 exact ⟨⟨k, hk.congr e⟩, fun i hi => by rw [← aft_congr (e i hi) (fun _ _ => rfl)]; exact hs i hi⟩
theorem Stz.behind {x u v : Nat → Int} {k : Nat} (h : Leg n L d x u k) (h2 : Stz n L d (aft n L x u) v) : Stz n L d x (fun i => u i + v i) := by
 obtain ⟨⟨l, hl⟩, hs⟩ := h2
 exact ⟨⟨k + l, h.cat hl⟩, by rw [← aft_aft]; exact hs⟩
theorem Stz.same {x : Nat → Int} (h : Stb n d x) : Stz n L d x (fun _ => 0) := ⟨⟨0, .nil⟩, by rw [aft_zero]; exact h⟩
end
structure Burn (n : Nat) (L : Nat → Nat → Int) (d h w b : Nat → Int) : Prop where
 pile : Pile n L d h
 st : Stz n L d (fun j => 2 * (d j - 1)) w
 eq : ∀ j, j < n → b j = sm n (fun i => w i * L i j)
def Rec (n : Nat) (L : Nat → Nat → Int) (d b c : Nat → Int) : Prop := ∃ u, Stz n L d (fun j => c j + b j) u ∧ ∀ j, j < n → aft n L (fun j => c j + b j) u j = c j
section
variable {n : Nat} {L : Nat → Nat → Int} {d h w b : Nat → Int}
theorem Pile.one (P : Pile n L d h) {i : Nat} (hi : i < n) : 1 ≤ d i := by
 have h1 := P.pot i hi
 have h2 := P.dl i hi
 have : sm n (fun j => L i j * h j) ≤ sm n (fun j => (L i i * h i) * (if j = i then 1 else 0)) := by
  refine sm_le (fun j hj => ?_)
  by_cases e : j = i
  ·subst e; rw [if_pos rfl]; omega
  rw [if_neg e, Int.mul_zero]
  exact Int.mul_nonpos_of_nonpos_of_nonneg (P.off i j hi hj (Ne.symm e)) (P.h0 j hj)
 rw [sm_unit n (fun _ => L i i * h i) i hi] at this
 rcases Int.lt_or_le 0 (L i i) with h3 | h3
 ·omega
 ·have := Int.mul_nonpos_of_nonpos_of_nonneg h3 (P.h0 i hi); omega
theorem Pile.dead (P : Pile n L d h) {a : Nat → Int} (ha : ∀ i, i < n → 0 ≤ a i) (hs : ∀ j, j < n → sm n (fun i => a i * L i j) ≤ 0) : ∀ i, i < n → a i = 0 := by
 refine sm_all_zero ha ?_
 have h1 : sm n (fun j => sm n (fun i => a i * L i j) * h j) ≤ 0 := by
  rw [← sm_zero (n := n) (f := fun _ => 0) (fun _ _ => rfl)]
  exact sm_le (fun j hj => Int.mul_nonpos_of_nonpos_of_nonneg (hs j hj) (P.h0 j hj))
 have h2 : sm n (fun j => sm n (fun i => a i * L i j) * h j) = sm n (fun i => a i * sm n (fun j => L i j * h j)) := by
  rw [sm_congr (g := fun j => sm n (fun i => a i * (L i j * h j))) (fun j _ => by
   rw [Int.mul_comm, ← sm_mul]; exact sm_congr (fun i _ => by rw [Int.mul_comm (h j), Int.mul_assoc])), sm_swap]
  exact sm_congr (fun i _ => by rw [← sm_mul])
 have h3 : sm n a ≤ sm n (fun i => a i * sm n (fun j => L i j * h j)) := by
  refine sm_le (fun i hi => ?_)
  have := Int.mul_le_mul_of_nonneg_left (P.pot i hi) (ha i hi)
  omega
 omega
theorem abs_mul_le {v l : Int} (hl : l ≤ 0) : (v.natAbs : Int) * l ≤ v * l ∧ (v.natAbs : Int) * l ≤ -(v * l) := by
 constructor
 ·exact Int.mul_le_mul_of_nonpos_right (by omega) hl
 ·rw [← Int.neg_mul]; exact Int.mul_le_mul_of_nonpos_right (by omega) hl
theorem Pile.kernel (P : Pile n L d h) {v : Nat → Int} (hv : ∀ j, j < n → sm n (fun i => v i * L i j) = 0) : ∀ i, i < n → v i = 0 := by
 have := P.dead (a := fun i => ((v i).natAbs : Int)) (fun i _ => by omega) (fun j hj => by
  rcases Int.le_total 0 (v j) with h0 | h0
  ·rw [← hv j hj]
   refine sm_le (fun i hi => ?_)
   by_cases e : i = j
   ·subst e; rw [show ((v i).natAbs : Int) = v i by omega]; exact Int.le_refl _
   exact (abs_mul_le (P.off i j hi hj e)).1
  ·have : sm n (fun i => -(v i * L i j)) = 0 := by rw [sm_neg, hv j hj]; rfl
   rw [← this]
   refine sm_le (fun i hi => ?_)
   by_cases e : i = j
   ·subst e; rw [show ((v i).natAbs : Int) = -v i by omega, Int.neg_mul]; exact Int.le_refl _
   ·exact (abs_mul_le (P.off i j hi hj e)).2)
 intro i hi
 have := this i hi
 (try simp only at this)
 omega
theorem Burn.low (B : Burn n L d h w b) {j : Nat} (hj : j < n) : b j = 2 * (d j - 1) - aft n L (fun j => 2 * (d j - 1)) w j := by
 rw [B.eq j hj]; simp only [aft]; omega
theorem Burn.ge (B : Burn n L d h w b) {j : Nat} (hj : j < n) : d j - 1 ≤ b j := by
 have := B.st.2 j hj; have := B.low hj; omega
theorem Burn.pos (B : Burn n L d h w b) {j : Nat} (hj : j < n) : 0 ≤ b j := by
 have := B.ge hj; have := B.pile.one hj; omega
theorem Burn.full (B : Burn n L d h w b) {z : Nat → Int} (hz : ∀ i, i < n → 0 ≤ z i) : ∃ k, Leg n L d (fun j => (d j - 1 + z j) + b j) w k ∧ ∀ j, j < n → aft n L (fun j => (d j - 1 + z j) + b j) w j = d j - 1 + z j := by
 obtain ⟨⟨k, hk⟩, hs⟩ := B.st
 refine ⟨k, ?_, fun j hj => ?_⟩
 ·refine (hk.add (z := fun j => (d j - 1 - aft n L (fun j => 2 * (d j - 1)) w j) + z j) (fun i hi => ?_)).congr (fun j hj => ?_)
  ·have := hs i hi; have := hz i hi; omega
  ·have := B.low hj; omega
 ·simp only [aft]; rw [B.eq j hj]; omega
theorem Rec.more {c z : Nat → Int} (h : Rec n L d b c) (hz : ∀ i, i < n → 0 ≤ z i) (hs : Stb n d (fun j => c j + z j)) : Rec n L d b (fun j => c j + z j) := by
 obtain ⟨u, ⟨⟨k, hk⟩, _⟩, he⟩ := h
 have e : ∀ j, j < n → aft n L (fun j => c j + z j + b j) u j = c j + z j := fun j hj => by have := he j hj; simp only [aft] at this ⊢; omega
 exact ⟨u, ⟨⟨k, (hk.add hz).congr (fun j _ => by dsimp only; omega)⟩, fun i hi => by rw [e i hi]; exact hs i hi⟩, e⟩
theorem Rec.again (B : Burn n L d h w b) {c u : Nat → Int} (hst : Stz n L d (fun j => c j + b j) u) (he : ∀ j, j < n → aft n L (fun j => c j + b j) u j = c j) : ∀ k : Nat, ∃ l, Leg n L d (fun j => c j + (k : Int) * b j) (fun i => (k : Int) * u i) l := by
 obtain ⟨⟨m, hm⟩, _⟩ := hst
 have hb : ∀ j, j < n → sm n (fun i => u i * L i j) = b j := fun j hj => by have := he j hj; simp only [aft] at this; omega
 intro k
 induction k with
 | zero =>
  have e : (fun i => ((0 : Nat) : Int) * u i) = fun _ => 0 := by funext i; exact Int.zero_mul _
  rw [e]
  exact ⟨0, .nil⟩
 | succ k ih =>
  obtain ⟨l, hl⟩ := ih
  refine ⟨l + m, ?_⟩
  have h1 := hl.add (z := b) (fun i hi => B.pos hi)
  have h2 : Leg n L d (aft n L (fun j => c j + (k : Int) * b j + b j) (fun i => (k : Int) * u i)) u m := by
   refine hm.congr (fun j hj => ?_)
   simp only [aft]
   have : sm n (fun i => (k : Int) * u i * L i j) = (k : Int) * b j := by
    rw [← hb j hj, ← sm_mul]; exact sm_congr (fun i _ => Int.mul_assoc _ _ _)
   omega
  have h3 := h1.cat h2
  have e1 : (fun j => c j + (k : Int) * b j + b j) = fun j => c j + ((k + 1 : Nat) : Int) * b j := by
   funext j; rw [show ((k + 1 : Nat) : Int) = (k : Int) + 1 by omega, Int.add_mul]; omega
  have e2 : (fun i => (k : Int) * u i + u i) = fun i => ((k + 1 : Nat) : Int) * u i := by
   funext j; rw [show ((k + 1 : Nat) : Int) = (k : Int) + 1 by omega, Int.add_mul]; omega
  rw [e1, e2] at h3
  exact h3
end
theorem LReps.le {n : Nat} {A : Nat → Nat → Int} {l l' : List (Nat → Int)} (h : LReps n A l) (h' : LReps n A l') : l.length ≤ l'.length := by
 have hc : ∀ x : Nat → Int, ∃ i : Nat, i < l'.length ∧ ∀ y, l'[i]? = some y → Lat n A (fun j => x j - y j) := by
  intro x
  obtain ⟨y, hy, hl⟩ := h'.all x
  obtain ⟨i, hi, e⟩ := List.getElem_of_mem hy
  refine ⟨i, hi, fun z hz => ?_⟩
  rw [List.getElem?_eq_getElem hi, Option.some.injEq] at hz
  rw [← hz, e]; exact hl
 obtain ⟨f, hf⟩ := Classical.axiomOfChoice hc
 have := pigeon l'.length (l.map fun x => (f x : Int)) ?_ ?_
 ·rwa [List.length_map] at this
 ·unfold List.Nodup
  rw [List.pairwise_map]
  refine h.apart.imp (fun {x y} hxy e => hxy ?_)
  have hx := (hf x).2 _ (List.getElem?_eq_getElem (hf x).1)
  have hy := (hf y).2
  rw [show f y = f x by omega] at hy
  exact (hx.sub (hy _ (List.getElem?_eq_getElem (hf x).1))).congr (fun j _ => by omega)
 ·intro z hz
  obtain ⟨x, _, rfl⟩ := List.mem_map.1 hz
  have := (hf x).1
  omega
theorem LReps.len {n : Nat} {A : Nat → Nat → Int} {l l' : List (Nat → Int)} (h : LReps n A l) (h' : LReps n A l') : l.length = l'.length := Nat.le_antisymm (h.le h') (h'.le h)
def neg : List Int → Nat
 | [] => 0
 | x :: l => (if x < 0 then 1 else 0) + neg l
theorem neg_set (o : List Int) (i : Nat) (hi : i < o.length) (h : o[i] < 0) (v : Int) (hv : 0 ≤ v) : neg (o.set i v) + 1 = neg o := by
 induction o generalizing i with
 | nil => simp at hi
 | cons x o ih =>
  cases i with
  | zero =>
   simp only [List.getElem_cons_zero] at h
   simp only [List.set_cons_zero, neg]
   rw [if_neg (by omega), if_pos h]; omega
  | succ i =>
   simp only [List.getElem_cons_succ] at h
   simp only [List.set_cons_succ, neg]
   have := ih i (by simpa using hi) h
   omega
structure Known (n : Nat) (o : List Int) : Prop where
 len : o.length = n
 lo : ∀ x ∈ o, -1 ≤ x
 hi : ∀ x ∈ o, x + 1 ≤ (n : Int) - neg o
theorem Known.at {n : Nat} {o : List Int} (h : Known n o) {q : Int} (h0 : 0 ≤ q) (h1 : q < (n : Int)) : -1 ≤ rd o q ∧ rd o q + 1 ≤ (n : Int) - neg o := by
 have hl := h.len
 rw [rd_get h0 (by omega)]
 exact ⟨h.lo _ (List.getElem_mem _), h.hi _ (List.getElem_mem _)⟩
theorem Known.set {n : Nat} {o : List Int} (h : Known n o) {q : Int} (h0 : 0 ≤ q) (h1 : q < (n : Int)) (hq : rd o q < 0) {v : Int} (hv0 : 0 ≤ v) (hv : v ≤ (n : Int) - neg o) : Known n (o.set q.toNat v) ∧ neg (o.set q.toNat v) + 1 = neg o := by
 have hl := h.len
 rw [rd_get h0 (by omega)] at hq
 have hn := neg_set o q.toNat (by omega) hq v hv0
 refine ⟨⟨by rw [List.length_set]; exact hl, fun x hx => ?_, fun x hx => ?_⟩, hn⟩
 ·rcases List.mem_or_eq_of_mem_set hx with h' | h'
  ·exact h.lo x h'
  ·omega
 ·rcases List.mem_or_eq_of_mem_set hx with h' | h'
  ·have := h.hi x h'; omega
  ·omega
def vis (c : Int) : List Int → List Int → List Int → List Int × List Int
 | [], o, qs => (o, qs)
 | q :: row, o, qs => if rd o q < 0 then vis c row (o.set q.toNat (rd o c + 1)) (qs ++ [q]) else vis c row o qs
def bfs (g : List (List Int)) : Nat → List Int → List Int → List Int
 | 0, o, _ => o
 | _ + 1, o, [] => o
 | f + 1, o, c :: qs => bfs g f (vis c (rd_L2 g c) o qs).1 (vis c (rd_L2 g c) o qs).2
def far (g : List (List Int)) (p : Int) : List Int := bfs g g.length ((List.replicate g.length (-1)).set p.toNat 0) [p]
def Wait (n : Nat) (o qs : List Int) : Prop := ∀ q ∈ qs, 0 ≤ q ∧ q < (n : Int) ∧ 0 ≤ rd o q
theorem vis_keeps {n : Nat} (hn : n ≤ 8) (c : Int) : ∀ (row o qs : List Int), (∀ q ∈ row, 0 ≤ q ∧ q < (n : Int)) → Known n o → Wait n o qs → (0 ≤ c ∧ c < (n : Int) ∧ 0 ≤ rd o c) →
  Known n (vis c row o qs).1 ∧ Wait n (vis c row o qs).1 (vis c row o qs).2 ∧ (vis c row o qs).2.length + neg (vis c row o qs).1 = qs.length + neg o := by
 intro row
 induction row with
 | nil => intro o qs _ hk hw _; exact ⟨hk, hw, rfl⟩
 | cons q row ih =>
  intro o qs hr hk hw hc
  obtain ⟨hq0, hq1⟩ := hr q List.mem_cons_self
  have hr' : ∀ x ∈ row, 0 ≤ x ∧ x < (n : Int) := fun x hx => hr x (List.mem_cons_of_mem _ hx)
  simp only [vis]
  by_cases h : rd o q < 0
  rotate_left
  ·rw [if_neg h]
   exact ih o qs hr' hk hw hc
  rw [if_pos h]
  have hl := hk.len
  have hcc := hk.at hc.1 hc.2.1
  obtain ⟨hk', hn'⟩ := hk.set hq0 hq1 h (v := rd o c + 1) (by omega) (by omega)
  have hs : ∀ x, 0 ≤ x → 0 ≤ rd o x → 0 ≤ rd (o.set q.toNat (rd o c + 1)) x := fun x hx hx1 => by
   rw [rd_set hq0 (by omega) hx]; split <;> omega
  obtain ⟨h1, h2, h3⟩ := ih _ (qs ++ [q]) hr' hk' (fun x hx => by
   rcases List.mem_append.1 hx with hx | hx
   ·obtain ⟨a, b, c'⟩ := hw x hx; exact ⟨a, b, hs x a c'⟩
   ·rw [List.mem_singleton.1 hx]; exact ⟨hq0, hq1, by rw [rd_set hq0 (by omega) hq0, if_pos rfl]; omega⟩) ⟨hc.1, hc.2.1, hs c hc.1 hc.2.2⟩
  refine ⟨h1, h2, ?_⟩
  rw [h3, List.length_append]; simp; omega
theorem lengths_l1 {n : Nat} (hn : n ≤ 8) (g : List (List Int)) (c : Int) (row : List Int) (hr : ∀ q ∈ row, 0 ≤ q ∧ q < (n : Int)) (hrl : row.length ≤ 5) (r : List Int) : ∀ (d i : Nat) (o qs : List Int), row.length - i = d → i ≤ row.length → Known n o → Wait n o qs → (0 ≤ c ∧ c < (n : Int) ∧ 0 ≤ rd o c) → qs.length + neg o ≤ 8 →
  Ev (fun k => yh0.l0 k (vis c (row.drop i) o qs).1 (vis c (row.drop i) o qs).2 g) r → Ev (fun k => yh0.l1 k o (c :: qs) row row.length i g) r := by
 intro d
 induction d with
 | zero =>
  intro i o qs hd hi hk hw hc hb h
  rw [List.drop_of_length_le (by omega)] at h
  refine Ev.step (fun k => ?_) h
  simp only [yh0.l1, vis]
  rw [if_neg (by omega), if_pos (by simp; omega)]
  rfl
 | succ d ih =>
  intro i o qs hd hi hk hw hc hb h
  have hlt : i < row.length := by omega
  have hq := hr (rd row i) (by rw [rd_at hlt]; exact List.getElem_mem _)
  have hl := hk.len
  rw [drop_rd hlt] at h
  simp only [vis] at h
  by_cases hneg : rd o (rd row i) < 0
  rotate_left
  ·rw [if_neg hneg] at h
   refine Ev.step (fun k => ?_) (ih (i + 1) o qs (by omega) (by omega) hk hw hc hb h)
   simp only [yh0.l1]
   rw [if_pos (by omega), if_pos (by omega), if_pos (by omega), if_pos hq.1, if_pos (by omega), if_neg hneg, wrap_nat (by omega)]
  rw [if_pos hneg] at h
  have hcc := hk.at hc.1 hc.2.1
  obtain ⟨hk', hn'⟩ := hk.set hq.1 hq.2 hneg (v := rd o c + 1) (by omega) (by omega)
  have hs : ∀ x, 0 ≤ x → 0 ≤ rd o x → 0 ≤ rd (o.set (rd row i).toNat (rd o c + 1)) x := fun x hx hx1 => by
   rw [rd_set hq.1 (by omega) hx]; split <;> omega
  refine Ev.step (fun k => ?_) (ih (i + 1) _ (qs ++ [rd row i]) (by omega) (by omega) hk' (fun x hx => by
   rcases List.mem_append.1 hx with hx | hx
   ·obtain ⟨a, b, c'⟩ := hw x hx; exact ⟨a, b, hs x a c'⟩
   ·rw [List.mem_singleton.1 hx]; exact ⟨hq.1, hq.2, by rw [rd_set hq.1 (by omega) hq.1, if_pos rfl]; omega⟩) ⟨hc.1, hc.2.1, hs c hc.1 hc.2.2⟩ (by rw [List.length_append]; simp; omega) h)
  simp only [yh0.l1]
  have e0 : rd (c :: qs) 0 = c := rfl
  rw [if_pos (by omega), if_pos (by omega), if_pos (by omega), if_pos hq.1, if_pos (by omega), if_pos hneg, if_pos (by rw [List.length_cons]; omega), e0, if_pos hc.1, if_pos (by omega), if_pos (by rw [List.length_cons]; omega), wrap_nat (by omega), wrap_id (by omega)]
  rfl
theorem lengths_l0 {g : List (List Int)} (hg : goodG g = true) : ∀ (f : Nat) (o qs : List Int), Known g.length o → Wait g.length o qs → qs.length + neg o ≤ f → f ≤ 8 → Ev (fun k => yh0.l0 k o qs g) (bfs g f o qs) := by
 obtain ⟨⟨h1, h8⟩, hrows⟩ := good_iff hg
 intro f
 induction f with
 | zero =>
  intro o qs hk hw hb hf
  have : qs = [] := List.eq_nil_of_length_eq_zero (by omega)
  subst this
  refine Ev.const1 (fun k => ?_)
  simp only [yh0.l0]
  rw [if_neg (by simp)]; rfl
 | succ f ih =>
  intro o qs hk hw hb hf
  cases qs with
  | nil =>
   refine Ev.const1 (fun k => ?_)
   simp only [yh0.l0]
   rw [if_neg (by simp)]; rfl
  | cons c qs =>
   obtain ⟨hc0, hc1, hc2⟩ := hw c List.mem_cons_self
   have hrow := hrows (rd_L2 g c) (by rw [rdL_get hc0 hc1]; exact List.getElem_mem _)
   have hw' : Wait g.length o qs := fun x hx => hw x (List.mem_cons_of_mem _ hx)
   obtain ⟨k1, k2, k3⟩ := vis_keeps h8 c (rd_L2 g c) o qs hrow.2 hk hw' ⟨hc0, hc1, hc2⟩
   simp only [List.length_cons] at hb
   have := lengths_l1 h8 g c (rd_L2 g c) hrow.2 hrow.1 (bfs g (f + 1) o (c :: qs)) _ 0 o qs rfl (Nat.zero_le _) hk hw' ⟨hc0, hc1, hc2⟩ (by omega) (by
    rw [List.drop_zero]
    exact ih _ _ k1 k2 (by omega) (by omega))
   refine Ev.step (fun k => ?_) this
   simp only [yh0.l0]
   have e0 : rd (c :: qs) 0 = c := rfl
   rw [if_pos (by rw [List.length_cons]; omega), if_pos (by rw [List.length_cons]; omega), e0, if_pos hc0, if_pos hc1]
   rfl
theorem neg_rep (n : Nat) : neg (List.replicate n (-1)) = n := by
 induction n with
 | zero => rfl
 | succ n ih => simp only [List.replicate_succ, neg, ih]; rw [if_pos (by omega)]; omega
theorem known0 {n : Nat} {p : Int} (h0 : 0 ≤ p) (h1 : p < (n : Int)) : Known n ((List.replicate n (-1)).set p.toNat 0) ∧ Wait n ((List.replicate n (-1)).set p.toNat 0) [p] ∧ [p].length + neg ((List.replicate n (-1)).set p.toNat 0) ≤ n := by
 have hk : Known n (List.replicate n (-1)) := ⟨by simp, fun x hx => by rw [(List.mem_replicate.1 hx).2]; omega, fun x hx => by rw [(List.mem_replicate.1 hx).2, neg_rep]; omega⟩
 have hr : rd (List.replicate n (-1)) p < 0 := by rw [rd_get h0 (by simpa using h1)]; simp
 obtain ⟨k1, k2⟩ := hk.set h0 h1 hr (v := 0) (by omega) (by rw [neg_rep]; omega)
 rw [neg_rep] at k2
 refine ⟨k1, fun x hx => ?_, by simp; omega⟩
 rw [List.mem_singleton.1 hx]
 exact ⟨h0, h1, by rw [rd_set h0 (by simpa using h1) h0, if_pos rfl]; omega⟩
theorem lengths {g : List (List Int)} {p : Int} (h : placeB g p = true) : Ev (fun k => yh0.f k g p) (far g p) := by
 obtain ⟨hg, h0, h1⟩ := place_iff h
 obtain ⟨⟨hn1, hn8⟩, _⟩ := good_iff hg
 obtain ⟨k1, k2, k3⟩ := known0 h0 h1
 unfold yh0.f
 have hR : yv1.f [-1] (g.length : Int) = some (List.replicate g.length (-1)) := by
  unfold yv1.f; rw [if_pos ⟨rfl, by omega, by omega⟩]; rfl
 exact Ev.bind0 hR (Ev.pos h0 (Ev.pos (by simpa using h1) (lengths_l0 hg g.length _ _ k1 k2 k3 hn8)))
theorem far_len {g : List (List Int)} {p : Int} (h : placeB g p = true) : Known g.length (far g p) := by
 obtain ⟨hg, h0, h1⟩ := place_iff h
 obtain ⟨⟨hn1, hn8⟩, hrows⟩ := good_iff hg
 obtain ⟨k1, k2, k3⟩ := known0 h0 h1
 have : ∀ (f : Nat) (o qs : List Int), Known g.length o → Wait g.length o qs → Known g.length (bfs g f o qs) := by
  intro f
  induction f with
  | zero => intro o qs hk hw; exact hk
  | succ f ih =>
   intro o qs hk hw
   cases qs with
   | nil => exact hk
   | cons c qs =>
    obtain ⟨hc0, hc1, hc2⟩ := hw c List.mem_cons_self
    have hrow := hrows (rd_L2 g c) (by rw [rdL_get hc0 hc1]; exact List.getElem_mem _)
    obtain ⟨k1, k2, k3⟩ := vis_keeps hn8 c (rd_L2 g c) o qs hrow.2 hk (fun x hx => hw x (List.mem_cons_of_mem _ hx)) ⟨hc0, hc1, hc2⟩
    exact ih _ _ k1 k2
 exact this _ _ _ k1 k2
theorem far_l2 {n : Nat} (hn : n ≤ 8) (g : List (List Int)) (c : Int) (pre : List Int) (row : List Int) (hr : ∀ q ∈ row, 0 ≤ q ∧ q < (n : Int)) (hrl : row.length ≤ 5) (r : List Int) : ∀ (d i : Nat) (o qs : List Int), row.length - i = d → i ≤ row.length → Known n o → (0 ≤ c ∧ c < (n : Int) ∧ 0 ≤ rd o c) → pre.length + qs.length + neg o ≤ 8 →
  Ev (fun k => yd0.l1 k (vis c (row.drop i) o qs).1 (pre ++ c :: (vis c (row.drop i) o qs).2) ((pre.length + 1 : Nat) : Int) g) r → Ev (fun k => yd0.l2 k o (pre ++ c :: qs) (pre.length : Int) row row.length i g) r := by
 intro d
 induction d with
 | zero =>
  intro i o qs hd hi hk hc hb h
  rw [List.drop_of_length_le (by omega)] at h
  refine Ev.step (fun k => ?_) h
  simp only [yd0.l2, vis]
  rw [if_neg (by omega), wrap_nat (by omega)]
 | succ d ih =>
  intro i o qs hd hi hk hc hb h
  have hlt : i < row.length := by omega
  have hq := hr (rd row i) (by rw [rd_at hlt]; exact List.getElem_mem _)
  have hl := hk.len
  rw [drop_rd hlt] at h
  simp only [vis] at h
  by_cases hneg : rd o (rd row i) < 0
  rotate_left
  ·rw [if_neg hneg] at h
   refine Ev.step (fun k => ?_) (ih (i + 1) o qs (by omega) (by omega) hk hc hb h)
   simp only [yd0.l2]
   rw [if_pos (by omega), if_pos (by omega), if_pos (by omega), if_pos hq.1, if_pos (by omega), if_neg hneg, wrap_nat (by omega)]
  rw [if_pos hneg] at h
  have hcc := hk.at hc.1 hc.2.1
  obtain ⟨hk', hn'⟩ := hk.set hq.1 hq.2 hneg (v := rd o c + 1) (by omega) (by omega)
  have hs : ∀ x, 0 ≤ x → 0 ≤ rd o x → 0 ≤ rd (o.set (rd row i).toNat (rd o c + 1)) x := fun x hx hx1 => by
   rw [rd_set hq.1 (by omega) hx]; split <;> omega
  refine Ev.step (fun k => ?_) (ih (i + 1) _ (qs ++ [rd row i]) (by omega) (by omega) hk' ⟨hc.1, hc.2.1, hs c hc.1 hc.2.2⟩ (by rw [List.length_append]; simp; omega) h)
  simp only [yd0.l2]
  have e0 : rd (pre ++ c :: qs) (pre.length : Int) = c := by rw [rd_at (by simp)]; simp
  rw [if_pos (by omega), if_pos (by omega), if_pos (by omega), if_pos hq.1, if_pos (by omega), if_pos hneg, if_pos (by omega), if_pos (by simp; omega), e0, if_pos hc.1, if_pos (by omega), if_pos (by simp; omega), wrap_nat (by omega), wrap_id (by omega)]
  simp
theorem far_l1 {g : List (List Int)} (hg : goodG g = true) : ∀ (f : Nat) (o pre qs : List Int), Known g.length o → Wait g.length o qs → qs.length + neg o ≤ f → f ≤ 8 → pre.length + qs.length + neg o ≤ 8 → Ev (fun k => yd0.l1 k o (pre ++ qs) (pre.length : Int) g) (bfs g f o qs) := by
 obtain ⟨⟨h1, h8⟩, hrows⟩ := good_iff hg
 intro f
 induction f with
 | zero =>
  intro o pre qs hk hw hb hf hp
  have : qs = [] := List.eq_nil_of_length_eq_zero (by omega)
  subst this
  refine Ev.const1 (fun k => ?_)
  simp only [yd0.l1]
  rw [if_neg (by simp)]; rfl
 | succ f ih =>
  intro o pre qs hk hw hb hf hp
  cases qs with
  | nil =>
   refine Ev.const1 (fun k => ?_)
   simp only [yd0.l1]
   rw [if_neg (by simp)]; rfl
  | cons c qs =>
   obtain ⟨hc0, hc1, hc2⟩ := hw c List.mem_cons_self
   have hrow := hrows (rd_L2 g c) (by rw [rdL_get hc0 hc1]; exact List.getElem_mem _)
   have hw' : Wait g.length o qs := fun x hx => hw x (List.mem_cons_of_mem _ hx)
   obtain ⟨k1, k2, k3⟩ := vis_keeps h8 c (rd_L2 g c) o qs hrow.2 hk hw' ⟨hc0, hc1, hc2⟩
   simp only [List.length_cons] at hb hp
   have := far_l2 h8 g c pre (rd_L2 g c) hrow.2 hrow.1 (bfs g (f + 1) o (c :: qs)) _ 0 o qs rfl (Nat.zero_le _) hk ⟨hc0, hc1, hc2⟩ (by omega) (by
    rw [List.drop_zero]
    have := ih (vis c (rd_L2 g c) o qs).1 (pre ++ [c]) (vis c (rd_L2 g c) o qs).2 k1 k2 (by omega) (by omega) (by simp; omega)
    simpa [bfs] using this)
   refine Ev.step (fun k => ?_) this
   simp only [yd0.l1]
   have e0 : rd (pre ++ c :: qs) (pre.length : Int) = c := by rw [rd_at (by simp)]; simp
   rw [if_pos (by simp; omega), if_pos (by omega), e0, if_pos hc0, if_pos hc1]
   rfl
theorem far_l0 (g : List (List Int)) (p : Int) (n : Nat) (hn : n ≤ 8) (r : List Int) : ∀ (d i : Nat), n - i = d → i ≤ n → (0 ≤ p ∧ p < (n : Int)) → Ev (fun k => yd0.l1 k ((List.replicate n (-1)).set p.toNat 0) [p] 0 g) r → Ev (fun k => yd0.l0 k p (List.replicate i (-1) ++ List.replicate (n - i) 0) n i g) r := by
 intro d
 induction d with
 | zero =>
  intro i hd hi hp h
  have : i = n := by omega
  subst this
  refine Ev.step (fun k => ?_) h
  simp only [yd0.l0]
  rw [if_neg (by omega), if_pos hp.1, if_pos (by simp; omega)]
  simp
 | succ d ih =>
  intro i hd hi hp h
  refine Ev.step (fun k => ?_) (ih (i + 1) (by omega) (by omega) hp h)
  simp only [yd0.l0]
  rw [if_pos (by omega), if_pos (by omega), if_pos (by simp; omega), wrap_nat (by omega), Int.toNat_natCast]
  congr 1
  obtain ⟨m, hm⟩ : ∃ m, n - i = m + 1 := ⟨n - i - 1, by omega⟩
  rw [hm, show n - (i + 1) = m by omega, List.replicate_succ, List.replicate_succ', List.set_append_right _ _ (by simp)]
  simp
theorem grFar {g : List (List Int)} {p : Int} (h : placeB g p = true) : Ev (fun k => yd0.f k g p) (far g p) := by
 obtain ⟨hg, h0, h1⟩ := place_iff h
 obtain ⟨⟨hn1, hn8⟩, _⟩ := good_iff hg
 obtain ⟨k1, k2, k3⟩ := known0 h0 h1
 unfold yd0.f
 refine Ev.pos (by omega) (Ev.pos (by omega) (Ev.bind0 rfl ?_))
 have := far_l0 g p g.length hn8 (far g p) g.length 0 (by omega) (by omega) ⟨h0, h1⟩ (by
  have := far_l1 hg g.length _ [] [p] k1 k2 k3 hn8 (by simpa using by simp at k3; omega)
  exact this)
 simpa using this
def leadsFrom (g : List (List Int)) (p : Int) : Nat → Nat → Bool
 | 0, _ => true
 | d + 1, i => if rd (far g i) p < 0 then false else leadsFrom g p d (i + 1)
def leads (g : List (List Int)) (p : Int) : Bool := leadsFrom g p g.length 0
theorem leadsTo_l0 {g : List (List Int)} (hg : goodG g = true) (p : Int) (h0 : 0 ≤ p) (h1 : p < (g.length : Int)) : ∀ (d i : Nat), g.length - i = d → i ≤ g.length → Ev (fun k => yz0.l0 k p g.length i g) (leadsFrom g p d i) := by
 have h8 := (good_iff hg).1
 intro d
 induction d with
 | zero =>
  intro i hd hi
  refine Ev.succ ?_
  simp only [yz0.l0]
  exact Ev.neg (by omega) (Ev.now _)
 | succ d ih =>
  intro i hd hi
  have hp := place_of hg (i := i) (by omega)
  have hlen := (far_len hp).len
  refine Ev.succ ?_
  simp only [yz0.l0, leadsFrom]
  refine Ev.pos (by omega) (Ev.bind (lengths hp) (Ev.pos h0 (Ev.pos (by omega) ?_)))
  by_cases h : rd (far g i) p < 0
  ·rw [if_pos h]; exact Ev.pos h (Ev.now _)
  rw [if_neg h]
  refine Ev.neg h ?_
  rw [wrap_nat (by omega)]
  exact ih (i + 1) (by omega) (by omega)
theorem leadsTo {g : List (List Int)} {p : Int} (h : placeB g p = true) : Ev (fun k => yz0.f k g p) (leads g p) := by
 obtain ⟨hg, h0, h1⟩ := place_iff h
 exact leadsTo_l0 hg p h0 h1 g.length 0 (by omega) (by omega)
theorem grLeads_l0 {g : List (List Int)} (hg : goodG g = true) (p : Int) (h0 : 0 ≤ p) (h1 : p < (g.length : Int)) : ∀ (d i : Nat), g.length - i = d → i ≤ g.length → Ev (fun k => yb1.l0 k p g.length i g) (leadsFrom g p d i) := by
 have h8 := (good_iff hg).1
 intro d
 induction d with
 | zero =>
  intro i hd hi
  refine Ev.succ ?_
  simp only [yb1.l0]
  exact Ev.neg (by omega) (Ev.now _)
 | succ d ih =>
  intro i hd hi
  have hp := place_of hg (i := i) (by omega)
  have hlen := (far_len hp).len
  refine Ev.succ ?_
  simp only [yb1.l0, leadsFrom]
  refine Ev.pos (by omega) (Ev.bind (grFar hp) (Ev.pos h0 (Ev.pos (by omega) ?_)))
  by_cases h : rd (far g i) p < 0
  ·rw [if_pos h]; exact Ev.pos h (Ev.now _)
  rw [if_neg h]
  refine Ev.neg h ?_
  rw [wrap_nat (by omega)]
  exact ih (i + 1) (by omega) (by omega)
theorem grLeads {g : List (List Int)} {p : Int} (h : placeB g p = true) : Ev (fun k => yb1.f k g p) (leads g p) := by
 obtain ⟨hg, h0, h1⟩ := place_iff h
 exact grLeads_l0 hg p h0 h1 g.length 0 (by omega) (by omega)
def sunkB (g : List (List Int)) (sink : Int) : Bool := placeB g sink && leads g sink
theorem hasSink_ev (g : List (List Int)) (sink : Int) : Ev (fun k => yp1.f k g sink) (sunkB g sink) := by
 unfold yp1.f sunkB
 refine Ev.bind0 (has1 g sink) ?_
 by_cases hp : placeB g sink = true
 ·exact Ev.pos hp (Ev.bind (leadsTo hp) ((Ev.now _).val (by rw [hp]; rfl)))
 exact Ev.neg hp ((Ev.now _).val (by rw [Bool.eq_false_iff.mpr hp]; rfl))
theorem sunk_iff {g : List (List Int)} {sink : Int} (h : sunkB g sink = true) : placeB g sink = true ∧ leads g sink = true := by
 unfold sunkB at h; simpa using h
theorem chSink_ev (g : List (List Int)) (hl : okSS g) (sink : Int) : Ev (fun k => yn1.f k g sink) (sunkB g sink) := by
 unfold yn1.f sunkB
 refine Ev.bind (grPlace g sink hl) ?_
 by_cases hp : placeB g sink = true
 ·exact Ev.pos hp (Ev.bind (grLeads hp) ((Ev.now _).val (by rw [hp]; rfl)))
 exact Ev.neg hp ((Ev.now _).val (by rw [Bool.eq_false_iff.mpr hp]; rfl))
def heapB (g : List (List Int)) (sink : Int) (l : List Int) : Bool := sunkB g sink && ((decide (l.length = g.length) && l.all (fun q => decide (0 ≤ q) && decide (q ≤ 20))) && (rd l sink == 0))
theorem heap_iff {g : List (List Int)} {sink : Int} {l : List Int} (h : heapB g sink l = true) : sunkB g sink = true ∧ l.length = g.length ∧ ∀ q ∈ l, 0 ≤ q ∧ q ≤ 20 := by
 unfold heapB at h
 simp only [Bool.and_eq_true, decide_eq_true_eq, List.all_eq_true] at h
 exact ⟨h.1, h.2.1.1, fun q hq => by have := h.2.1.2 q hq; omega⟩
theorem isHeap_ev (g : List (List Int)) (sink : Int) (l : List Int) : Ev (fun k => yx0.f k g sink l) (heapB g sink l) := by
 unfold yx0.f heapB
 refine Ev.bind (hasSink_ev g sink) ?_
 by_cases hs : sunkB g sink = true
 rotate_left
 ·rw [Bool.eq_false_iff.mpr hs, Bool.false_and]; exact Ev.neg (by simp) (Ev.now _)
 have hp := place_iff (sunk_iff hs).1
 rw [hs, Bool.true_and]
 refine Ev.pos rfl (Ev.bind0 (show yu1.f g l = some (decide (l.length = g.length) && l.all (fun q => decide (0 ≤ q) && decide (q ≤ 20))) from rfl) ?_)
 by_cases hc : (decide (l.length = g.length) && l.all (fun q => decide (0 ≤ q) && decide (q ≤ 20))) = true
 rotate_left
 ·rw [Bool.eq_false_iff.mpr hc, Bool.false_and]; exact Ev.neg (by simp) (Ev.now _)
 rw [hc, Bool.true_and]
 have hle : l.length = g.length := by simp only [Bool.and_eq_true, decide_eq_true_eq] at hc; exact hc.1
 exact Ev.pos rfl (Ev.pos hp.2.1 (Ev.pos (by omega) (Ev.now _)))
theorem chHeap_ev (g : List (List Int)) (hl : okSS g) (sink : Int) (l : List Int) (hll : okIs l) : Ev (fun k => yq0.f k g sink l) (heapB g sink l) := by
 unfold yq0.f heapB
 refine Ev.bind (chSink_ev g hl sink) ?_
 by_cases hs : sunkB g sink = true
 rotate_left
 ·rw [Bool.eq_false_iff.mpr hs, Bool.false_and]; exact Ev.neg (by simp) (Ev.now _)
 have hp := place_iff (sunk_iff hs).1
 rw [hs, Bool.true_and]
 refine Ev.pos rfl ?_
 by_cases hle : l.length = g.length
 rotate_left
 ·rw [decide_eq_false hle, Bool.false_and, Bool.false_and]
  exact Ev.neg (by omega) (Ev.now _)
 refine Ev.pos (by omega) (Ev.bind (l1All l 0 20 hll.1) ?_)
 rw [decide_eq_true hle, Bool.true_and]
 by_cases hc : (l.all fun x => decide (0 ≤ x) && decide (x ≤ 20)) = true
 rotate_left
 ·rw [Bool.eq_false_iff.mpr hc, Bool.false_and]; exact Ev.neg (by simp) (Ev.now _)
 rw [hc, Bool.true_and]
 exact Ev.pos rfl (Ev.pos hp.2.1 (Ev.pos (by omega) (Ev.now _)))
def canB (g : List (List Int)) (sink : Int) (l : List Int) (p : Int) : Bool := decide (p ≠ sink) && decide (rd l p ≥ ((rd_L2 g p).length : Int))
theorem canTopple {g : List (List Int)} {sink : Int} {l : List Int} {p : Int} (h0 : 0 ≤ p) (h1 : p < (l.length : Int)) (h2 : p < (g.length : Int)) : yq1.f g sink l p = some (canB g sink l p) := by
 unfold yq1.f canB
 by_cases h : p = sink
 ·rw [if_pos h]; simp [h]
 rw [if_neg h, if_pos h0, if_pos h1, if_pos h2]; simp [h]
def fst (g : List (List Int)) (sink : Int) (l : List Int) : Nat → Nat → Nat
 | 0, i => i
 | d + 1, i => if canB g sink l i = true then i else fst g sink l d (i + 1)
theorem fst_le (g : List (List Int)) (sink : Int) (l : List Int) : ∀ d i, fst g sink l d i ≤ i + d := by
 intro d
 induction d with
 | zero => intro i; simp [fst]
 | succ d ih =>
  intro i; have := ih (i + 1); simp only [fst]
  split <;> omega
def high (g : List (List Int)) (sink : Int) (l : List Int) : Int := if fst g sink l g.length 0 = g.length then -1 else (fst g sink l g.length 0 : Int)
theorem chHigh_l0 {g : List (List Int)} (h8 : g.length ≤ 8) (sink : Int) (l : List Int) (hl : l.length = g.length) : ∀ (d i : Nat), g.length - i = d → i ≤ g.length → Ev (fun k => ym0.l0 k sink l g.length i g) (if fst g sink l d i = g.length then -1 else (fst g sink l d i : Int)) := by
 intro d
 induction d with
 | zero =>
  intro i hd hi
  refine Ev.succ ?_
  simp only [ym0.l0]
  refine Ev.neg (by omega) ((Ev.now _).val ?_)
  rw [show fst g sink l 0 i = i from rfl, if_pos (by omega)]
 | succ d ih =>
  intro i hd hi
  refine Ev.succ ?_
  simp only [ym0.l0]
  have hf : fst g sink l (d + 1) i = if canB g sink l i = true then i else fst g sink l d (i + 1) := rfl
  refine Ev.pos (by omega) (Ev.pos (by omega) (Ev.pos (by omega) ?_))
  have hn := ih (i + 1) (by omega) (by omega)
  by_cases h : (i : Int) = sink
  ·have hc : canB g sink l i = false := by unfold canB; simp [h]
   rw [show fst g sink l (d + 1) i = fst g sink l d (i + 1) by rw [hf, hc]; rfl]
   refine Ev.pos h ?_
   rw [wrap_nat (by omega)]; exact hn
  refine Ev.neg h (Ev.pos (by omega) ?_)
  by_cases h2 : rd l i ≥ ((rd_L2 g i).length : Int)
  ·have hc : canB g sink l i = true := by unfold canB; simp [h, h2]
   rw [show fst g sink l (d + 1) i = i by rw [hf, hc]; rfl]
   refine Ev.pos h2 ((Ev.now _).val ?_)
   rw [if_neg (by omega)]
  have hc : canB g sink l i = false := by unfold canB; simp only [decide_eq_false h2, Bool.and_false]
  rw [show fst g sink l (d + 1) i = fst g sink l d (i + 1) by rw [hf, hc]; rfl]
  refine Ev.neg h2 ?_
  rw [wrap_nat (by omega)]; exact hn
theorem chHigh_ev {g : List (List Int)} (h8 : g.length ≤ 8) (sink : Int) (l : List Int) (hl : l.length = g.length) : Ev (fun k => ym0.f k g sink l) (high g sink l) := by
 unfold ym0.f high
 rw [hl]
 exact chHigh_l0 h8 sink l hl g.length 0 (by omega) (by omega)
def topRow (sink : Int) : List Int → List Int → List Int
 | [], c => c
 | q :: row, c => topRow sink row (if q = sink then c else c.set q.toNat (wrap64 (rd c q + 1)))
def topp (g : List (List Int)) (sink : Int) (c : List Int) (p : Int) : List Int := topRow sink (rd_L2 g p) (c.set p.toNat (wrap64 (rd c p - ((rd_L2 g p).length : Int))))
theorem topRow_len (sink : Int) : ∀ (row c : List Int), (topRow sink row c).length = c.length := by
 intro row
 induction row with
 | nil => intro c; rfl
 | cons q row ih => intro c; simp only [topRow]; rw [ih]; split <;> simp
theorem topp_len (g : List (List Int)) (sink : Int) (c : List Int) (p : Int) : (topp g sink c p).length = c.length := by unfold topp; rw [topRow_len]; simp
theorem topple_l0 (sink : Int) (row : List Int) (n : Nat) (h5 : row.length ≤ 5) (hr : ∀ q ∈ row, 0 ≤ q ∧ q < (n : Int)) : ∀ (d i : Nat) (c : List Int), row.length - i = d → i ≤ row.length → c.length = n → Ev (fun k => yk0.l0 k sink c row row.length i) (topRow sink (row.drop i) c) := by
 intro d
 induction d with
 | zero =>
  intro i c hd hi hc
  refine Ev.succ ?_
  simp only [yk0.l0]
  refine Ev.neg (by omega) ((Ev.now _).val ?_)
  rw [List.drop_of_length_le (by omega)]; rfl
 | succ d ih =>
  intro i c hd hi hc
  have hlt : i < row.length := by omega
  have hq := hr (rd row i) (by rw [rd_at hlt]; exact List.getElem_mem _)
  refine Ev.succ ?_
  simp only [yk0.l0]
  rw [drop_rd hlt]; simp only [topRow]
  refine Ev.pos (by omega) (Ev.pos (by omega) (Ev.pos (by omega) ?_))
  rw [wrap_nat (by omega)]
  by_cases h : rd row i = sink
  ·rw [if_pos h]
   exact Ev.pos h (ih (i + 1) c (by omega) (by omega) hc)
  rw [if_neg h]
  exact Ev.neg h (Ev.pos hq.1 (Ev.pos (by omega) (ih (i + 1) _ (by omega) (by omega) (by simp; exact hc))))
theorem topple_ev {g : List (List Int)} (hg : goodG g = true) (sink : Int) {c : List Int} (hc : c.length = g.length) {p : Int} (h0 : 0 ≤ p) (h1 : p < (g.length : Int)) : Ev (fun k => yk0.f k g sink c p) (topp g sink c p) := by
 have hrow := (good_iff hg).2 (rd_L2 g p) (by rw [rdL_get h0 h1]; exact List.getElem_mem _)
 unfold yk0.f topp
 refine Ev.pos h0 (Ev.pos (by omega) (Ev.pos h1 ?_))
 exact (topple_l0 sink (rd_L2 g p) g.length hrow.1 hrow.2 (rd_L2 g p).length 0 _ (by omega) (by omega) (by simp; exact hc)).val (by simp)
theorem chTopple_l0 (sink : Int) (row : List Int) (n : Nat) (h5 : row.length ≤ 5) (hr : ∀ q ∈ row, 0 ≤ q ∧ q < (n : Int)) : ∀ (d i : Nat) (c : List Int), row.length - i = d → i ≤ row.length → c.length = n → Ev (fun k => yl0.l0 k sink c row row.length i) (topRow sink (row.drop i) c) := by
 intro d
 induction d with
 | zero =>
  intro i c hd hi hc
  refine Ev.succ ?_
  simp only [yl0.l0]
  refine Ev.neg (by omega) ((Ev.now _).val ?_)
  rw [List.drop_of_length_le (by omega)]; rfl
 | succ d ih =>
  intro i c hd hi hc
  have hlt : i < row.length := by omega
  have hq := hr (rd row i) (by rw [rd_at hlt]; exact List.getElem_mem _)
  refine Ev.succ ?_
  simp only [yl0.l0]
  rw [drop_rd hlt]; simp only [topRow]
  refine Ev.pos (by omega) (Ev.pos (by omega) (Ev.pos (by omega) ?_))
  rw [wrap_nat (by omega)]
  by_cases h : rd row i = sink
  ·rw [if_pos h]
   exact Ev.pos h (ih (i + 1) c (by omega) (by omega) hc)
  rw [if_neg h]
  exact Ev.neg h (Ev.pos hq.1 (Ev.pos (by omega) (ih (i + 1) _ (by omega) (by omega) (by simp; exact hc))))
theorem chTopple_ev {g : List (List Int)} (hg : goodG g = true) (sink : Int) {c : List Int} (hc : c.length = g.length) {p : Int} (h0 : 0 ≤ p) (h1 : p < (g.length : Int)) : Ev (fun k => yl0.f k g sink c p) (topp g sink c p) := by
 have hrow := (good_iff hg).2 (rd_L2 g p) (by rw [rdL_get h0 h1]; exact List.getElem_mem _)
 unfold yl0.f topp
 refine Ev.pos h0 (Ev.pos (by omega) (Ev.pos h1 ?_))
 exact (chTopple_l0 sink (rd_L2 g p) g.length hrow.1 hrow.2 (rd_L2 g p).length 0 _ (by omega) (by omega) (by simp; exact hc)).val (by simp)
theorem clone_ev (l : List Int) (h : l.length ≤ 1048576) : ys1.f l = some l := by unfold ys1.f; first | rfl | rw [if_pos (by omega)]
theorem own_ev (l : List Int) (h : l.length ≤ 1048576) : ym1.f l = some l := by
 unfold ym1.f
 show (if ([] : List Int).length + l.length < 17592186044416 then some ([] ++ l) else none) = some l
 rw [if_pos (by simp; omega)]; rfl
def sett (g : List (List Int)) (sink : Int) : Nat → List Int → List Int → List Int × List Int × Bool
 | 0, c, t => if fst g sink c g.length 0 = g.length then (c, t, true) else ([], [], false)
 | m + 1, c, t => if fst g sink c g.length 0 = g.length then (c, t, true) else sett g sink m (topp g sink c (fst g sink c g.length 0 : Int)) (t.set (fst g sink c g.length 0) (wrap64 (rd t (fst g sink c g.length 0 : Int) + 1)))
theorem sett_len {g : List (List Int)} {sink : Int} : ∀ (m : Nat) (c t : List Int), c.length = g.length → t.length = g.length → (sett g sink m c t).1.length ≤ g.length ∧ (sett g sink m c t).2.1.length ≤ g.length := by
 intro m
 induction m with
 | zero =>
  intro c t hc ht
  simp only [sett]
  split
  ·exact ⟨Nat.le_of_eq hc, Nat.le_of_eq ht⟩
  ·exact ⟨Nat.zero_le _, Nat.zero_le _⟩
 | succ m ih =>
  intro c t hc ht
  simp only [sett]
  split
  ·exact ⟨Nat.le_of_eq hc, Nat.le_of_eq ht⟩
  ·exact ih _ _ (by rw [topp_len]; exact hc) (by rw [List.length_set]; exact ht)
theorem settle_scanM {g : List (List Int)} (h8 : g.length ≤ 8) (sink : Int) (c t : List Int) (hc : c.length = g.length) (M m : Int) (r : List Int × List Int × Bool) : ∀ (d i : Nat), g.length - i = d → i ≤ g.length → Ev (fun k => yf0.j2 k sink M c t m (fst g sink c d i) g) r → Ev (fun k => yf0.l1 k sink M c t m i g) r := by
 intro d
 induction d with
 | zero =>
  intro i hd hi h
  refine Ev.succ ?_
  simp only [yf0.l1]
  refine Ev.neg (by omega) ?_
  exact h
 | succ d ih =>
  intro i hd hi h
  refine Ev.succ ?_
  simp only [yf0.l1]
  refine Ev.pos (by omega) (Ev.bind0 (canTopple (by omega) (by omega) (by omega)) ?_)
  simp only [fst] at h
  by_cases hb : canB g sink c i = true
  ·rw [if_pos hb] at h
   exact Ev.pos hb h
  rw [if_neg hb] at h
  refine Ev.neg hb ?_
  rw [wrap_nat (by omega)]
  exact ih (i + 1) (by omega) (by omega) h
theorem settleI {g : List (List Int)} (hg : goodG g = true) (sink : Int) (M : Nat) (hM : M ≤ 3000000) : ∀ (d m : Nat) (c t : List Int), M - m = d → m ≤ M → c.length = g.length → t.length = g.length → Ev (fun k => yf0.l0 k sink M c t m g) (sett g sink d c t) := by
 have h8 := (good_iff hg).1.2
 intro d
 induction d with
 | zero =>
  intro m c t hd hm hc ht
  refine Ev.succ ?_
  simp only [yf0.l0, sett]
  refine settle_scanM h8 sink c t hc M m _ g.length 0 (by omega) (by omega) ?_
  refine Ev.succ ?_
  simp only [yf0.j2]
  by_cases hf : fst g sink c g.length 0 = g.length
  ·rw [if_pos hf]; exact Ev.pos (by omega) (Ev.now _)
  rw [if_neg hf]; exact Ev.neg (by omega) (Ev.pos (by omega) (Ev.now _))
 | succ d ih =>
  intro m c t hd hm hc ht
  refine Ev.succ ?_
  simp only [yf0.l0, sett]
  refine settle_scanM h8 sink c t hc M m _ g.length 0 (by omega) (by omega) ?_
  refine Ev.succ ?_
  simp only [yf0.j2]
  by_cases hf : fst g sink c g.length 0 = g.length
  ·rw [if_pos hf]; exact Ev.pos (by omega) (Ev.now _)
  rw [if_neg hf]
  have hle := fst_le g sink c g.length 0
  refine Ev.neg (by omega) (Ev.neg (by omega) (Ev.bind (topple_ev hg sink hc (by omega) (by omega)) (Ev.pos (by omega) (Ev.pos (by omega) ?_))))
  rw [wrap_nat (by omega), Int.toNat_natCast]
  exact ih (m + 1) _ _ (by omega) (by omega) (by rw [topp_len]; exact hc) (by rw [List.length_set]; exact ht)
theorem settleS {g : List (List Int)} (hg : goodG g = true) (sink : Int) : ∀ (d m : Nat) (c t : List Int), 4000 - m = d → m ≤ 4000 → c.length = g.length → t.length = g.length → Ev (fun k => yn0.l0 k sink c t m g) (sett g sink d c t) := by
 have h8 := (good_iff hg).1.2
 intro d
 induction d with
 | zero =>
  intro m c t hd hm hc ht
  refine Ev.succ ?_
  simp only [yn0.l0, sett]
  refine Ev.bind (chHigh_ev h8 sink c hc) ?_
  unfold high
  by_cases hf : fst g sink c g.length 0 = g.length
  ·rw [if_pos hf, if_pos hf]; exact Ev.pos (by omega) (Ev.now _)
  rw [if_neg hf, if_neg hf]; exact Ev.neg (by omega) (Ev.pos (by omega) (Ev.now _))
 | succ d ih =>
  intro m c t hd hm hc ht
  refine Ev.succ ?_
  simp only [yn0.l0, sett]
  refine Ev.bind (chHigh_ev h8 sink c hc) ?_
  unfold high
  by_cases hf : fst g sink c g.length 0 = g.length
  ·rw [if_pos hf, if_pos hf]; exact Ev.pos (by omega) (Ev.now _)
  rw [if_neg hf, if_neg hf]
  have hle := fst_le g sink c g.length 0
  refine Ev.neg (by omega) (Ev.neg (by omega) (Ev.bind (chTopple_ev hg sink hc (by omega) (by omega)) (Ev.pos (by omega) (Ev.pos (by omega) ?_))))
  rw [wrap_nat (by omega), Int.toNat_natCast]
  exact ih (m + 1) _ _ (by omega) (by omega) (by rw [topp_len]; exact hc) (by rw [List.length_set]; exact ht)
theorem settI_ev {g : List (List Int)} (hg : goodG g = true) (sink : Int) (c : List Int) (hc : c.length = g.length) (M : Nat) (hM : M ≤ 3000000) : Ev (fun k => yf0.f k g sink c M) (sett g sink M c (List.replicate g.length 0)) := by
 have h8 := (good_iff hg).1.2
 unfold yf0.f
 refine Ev.bind0 (clone_ev c (by omega)) (Ev.pos (by omega) (Ev.pos (by omega) ?_))
 rw [show ((c.length : Int)).toNat = g.length by omega]
 exact settleI hg sink M hM M 0 c _ (by omega) (by omega) hc (by simp)
theorem settS_ev {g : List (List Int)} (hg : goodG g = true) (sink : Int) (c : List Int) (hc : c.length = g.length) : Ev (fun k => yn0.f k g sink c) (sett g sink 4000 c (List.replicate g.length 0)) := by
 have h8 := (good_iff hg).1.2
 unfold yn0.f
 refine Ev.bind0 (own_ev c (by omega)) (Ev.pos (by omega) (Ev.pos (by omega) ?_))
 rw [show ((g.length : Int)).toNat = g.length by omega]
 exact settleS hg sink 4000 0 c _ (by omega) (by omega) hc (by simp)
open DetKit
def LL (g : List (List Int)) (s : Nat) : Nat → Nat → Int := fun i j => Lp g (skip s i) (skip s j)
def dd (g : List (List Int)) (s : Nat) : Nat → Int := fun i => ((rd_L2 g ((skip s i : Nat) : Int)).length : Int)
def vec (s : Nat) (c : List Int) : Nat → Int := fun i => rd c ((skip s i : Nat) : Int)
def cntk (row : List Int) (q : Int) : Int := sm row.length (fun k => if rd row (k : Int) = q then 1 else 0)
theorem cntk_bound (row : List Int) (q : Int) : 0 ≤ cntk row q ∧ cntk row q ≤ row.length := by
 unfold cntk
 constructor
 ·exact sm_nonneg (fun i _ => by split <;> omega)
 ·have : sm row.length (fun k => if rd row (k : Int) = q then 1 else 0) ≤ sm row.length (fun _ => 1) := sm_le (fun i _ => by split <;> omega)
  rw [sm_const] at this; omega
theorem cntk_cons (x : Int) (row : List Int) (q : Int) : cntk (x :: row) q = (if x = q then 1 else 0) + cntk row q := by
 unfold cntk
 rw [List.length_cons, sm_head]
 have e2 : rd (x :: row) ((0 : Nat) : Int) = x := by rw [rd_at (by simp)]; rfl
 rw [e2, sm_congr (f := fun i => if rd (x :: row) ((i + 1 : Nat) : Int) = q then 1 else 0) (g := fun k => if rd row (k : Int) = q then 1 else 0) (fun i _ => by rw [rd_cons_succ])]
theorem Lp_eq (g : List (List Int)) (p q : Nat) : Lp g p q = (if p = q then ((rd_L2 g (p : Int)).length : Int) else 0) - cntk (rd_L2 g (p : Int)) (q : Int) := by
 unfold Lp cntk
 have e : sm (rd_L2 g (p : Int)).length (fun k => 1 * ((if p = q then (1 : Int) else 0) - (if rd (rd_L2 g (p : Int)) (k : Int) = (q : Int) then 1 else 0))) = ((rd_L2 g (p : Int)).length : Int) * (if p = q then (1 : Int) else 0) + (-1) * sm (rd_L2 g (p : Int)).length (fun k => if rd (rd_L2 g (p : Int)) (k : Int) = (q : Int) then 1 else 0) := by
  rw [← sm_const, ← sm_mul, ← sm_add]
  exact sm_congr (fun k _ => by omega)
 rw [e]
 split <;> omega
theorem LL_off (g : List (List Int)) (s : Nat) (i j : Nat) (h : i ≠ j) : LL g s i j ≤ 0 := by
 unfold LL
 rw [Lp_eq, if_neg (fun e => h (skip_eq.1 e))]
 have := cntk_bound (rd_L2 g ((skip s i : Nat) : Int)) ((skip s j : Nat) : Int); omega
theorem row_good {g : List (List Int)} (hg : goodG g = true) {p : Nat} (hp : p < g.length) : (rd_L2 g (p : Int)).length ≤ 5 ∧ ∀ q ∈ rd_L2 g (p : Int), 0 ≤ q ∧ q < (g.length : Int) :=
 (good_iff hg).2 _ (by rw [rdL_at hp]; exact List.getElem_mem _)
theorem topRow_rd (sink : Int) : ∀ (row c : List Int) (B : Int), (∀ x ∈ row, 0 ≤ x ∧ x < (c.length : Int)) → (∀ q : Nat, q < c.length → -B ≤ rd c (q : Int) ∧ rd c (q : Int) ≤ B) → B + row.length ≤ 1000000000 → ∀ q : Nat, q < c.length → rd (topRow sink row c) (q : Int) = rd c (q : Int) + if (q : Int) = sink then 0 else cntk row (q : Int) := by
 intro row
 induction row with
 | nil => intro c B _ _ _ q _; simp only [topRow, cntk, List.length_nil, sm]; split <;> omega
 | cons x row ih =>
  intro c B hx hb hB q hq
  have hx0 := hx x List.mem_cons_self
  have hbx := hb x.toNat (by omega)
  rw [show ((x.toNat : Nat) : Int) = x by omega] at hbx
  rw [List.length_cons] at hB
  simp only [topRow]
  by_cases e : x = sink
  ·rw [if_pos e, ih c B (fun y hy => hx y (List.mem_cons_of_mem _ hy)) hb (by omega) q hq, cntk_cons]
   by_cases e2 : (q : Int) = sink
   ·rw [if_pos e2, if_pos e2]
   rw [if_neg e2, if_neg e2, if_neg (by omega)]; omega
  rw [if_neg e]
  have hs : ∀ y : Nat, rd (c.set x.toNat (wrap64 (rd c x + 1))) (y : Int) = if (y : Int) = x then rd c x + 1 else rd c (y : Int) := fun y => by
   rw [rd_set hx0.1 hx0.2 (by omega), wrap_id (by omega)]
  have hbs : ∀ y : Nat, y < (c.set x.toNat (wrap64 (rd c x + 1))).length → -(B + 1) ≤ rd (c.set x.toNat (wrap64 (rd c x + 1))) (y : Int) ∧ rd (c.set x.toNat (wrap64 (rd c x + 1))) (y : Int) ≤ B + 1 := fun y hy => by
   rw [hs]
   rw [List.length_set] at hy
   have := hb y hy
   split <;> omega
  rw [ih _ (B + 1) (fun y hy => by rw [List.length_set]; exact hx y (List.mem_cons_of_mem _ hy)) hbs (by omega) q (by rw [List.length_set]; exact hq), hs, cntk_cons]
  by_cases e2 : (q : Int) = x
  ·rw [if_pos e2, if_neg (by omega), if_neg (by omega), if_pos e2.symm, e2]; omega
  rw [if_neg e2]
  by_cases e3 : (q : Int) = sink
  ·rw [if_pos e3, if_pos e3]
  rw [if_neg e3, if_neg e3, if_neg (show ¬ x = (q : Int) from fun h => e2 h.symm)]; omega
theorem topp_rd {g : List (List Int)} (hg : goodG g = true) {s p : Nat} {c : List Int} (hc : c.length = g.length) (hp : p < g.length) (hps : p ≠ s) {B : Int} (hB : B ≤ 900000000) (hb : ∀ q : Nat, q < g.length → 0 ≤ rd c (q : Int) ∧ rd c (q : Int) ≤ B) : ∀ q : Nat, q < g.length → rd (topp g (s : Int) c (p : Int)) (q : Int) = if q = s then rd c (q : Int) else rd c (q : Int) - Lp g p q := by
 intro q hq
 have hrow := row_good hg hp
 have hbp := hb p hp
 unfold topp
 have hs : ∀ y : Nat, rd (c.set ((p : Int)).toNat (wrap64 (rd c (p : Int) - ((rd_L2 g (p : Int)).length : Int)))) (y : Int) = if (y : Int) = (p : Int) then rd c (p : Int) - ((rd_L2 g (p : Int)).length : Int) else rd c (y : Int) := fun y => by
  rw [rd_set (o := c) (q := (p : Int)) (x := (y : Int)) (by omega) (by omega) (by omega), wrap_id (by omega)]
 rw [topRow_rd (s : Int) _ _ (B + 5) (fun x hx => by rw [List.length_set, hc]; exact hrow.2 x hx) (fun y hy => by
  rw [hs]
  rw [List.length_set, hc] at hy
  have := hb y hy
  split <;> omega) (by omega) q (by rw [List.length_set, hc]; exact hq), hs, Lp_eq]
 by_cases e : q = s
 ·rw [if_pos e, if_pos (show (q : Int) = (s : Int) by omega), if_neg (show ¬ (q : Int) = (p : Int) by omega)]; omega
 rw [if_neg e, if_neg (show ¬ (q : Int) = (s : Int) by omega)]
 by_cases e2 : p = q
 ·subst e2; rw [if_pos rfl, if_pos rfl]; omega
 rw [if_neg (show ¬ (q : Int) = (p : Int) by omega), if_neg e2]; omega
theorem fst_can {g : List (List Int)} {sink : Int} {c : List Int} : ∀ d i, fst g sink c d i ≠ i + d → fst g sink c d i < i + d ∧ canB g sink c (fst g sink c d i : Int) = true := by
 intro d
 induction d with
 | zero => intro i h; simp only [fst] at h; omega
 | succ d ih =>
  intro i h
  simp only [fst] at h ⊢
  by_cases e : canB g sink c (i : Int) = true
  ·rw [if_pos e]; exact ⟨by omega, e⟩
  rw [if_neg e] at h ⊢
  have := ih (i + 1) (by omega)
  exact ⟨by omega, this.2⟩
theorem fst_none {g : List (List Int)} {sink : Int} {c : List Int} : ∀ d i, fst g sink c d i = i + d → ∀ j : Nat, i ≤ j → j < i + d → canB g sink c (j : Int) = false := by
 intro d
 induction d with
 | zero => intro i _ j h1 h2; omega
 | succ d ih =>
  intro i h j h1 h2
  simp only [fst] at h
  by_cases e : canB g sink c (i : Int) = true
  ·rw [if_pos e] at h; omega
  rw [if_neg e] at h
  by_cases e2 : i = j
  ·subst e2; exact Bool.eq_false_iff.2 e
  exact ih (i + 1) (by omega) j (by omega) (by omega)
theorem fst_stop {g : List (List Int)} {sink : Int} {c : List Int} (h : ∀ j : Nat, j < g.length → canB g sink c (j : Int) = false) : fst g sink c g.length 0 = g.length := by
 apply Classical.byContradiction
 intro hn
 have := fst_can g.length 0 (g := g) (sink := sink) (c := c) (by omega)
 rw [h _ (by omega)] at this
 exact absurd this.2 (by simp)
theorem can_iff {g : List (List Int)} {s p : Nat} {c : List Int} : canB g (s : Int) c (p : Int) = true ↔ p ≠ s ∧ ((rd_L2 g (p : Int)).length : Int) ≤ rd c (p : Int) := by
 unfold canB
 rw [Bool.and_eq_true, decide_eq_true_eq, decide_eq_true_eq]
 constructor
 ·rintro ⟨h1, h2⟩; exact ⟨fun e => h1 (by omega), h2⟩
 ·rintro ⟨h1, h2⟩; exact ⟨fun e => h1 (by omega), h2⟩
structure Run (g : List (List Int)) (s : Nat) (B : Int) (x : Nat → Int) (c t : List Int) (u : Nat → Int) (k : Nat) : Prop where
 leg : Leg (g.length - 1) (LL g s) (dd g s) x u k
 cl : c.length = g.length
 tl : t.length = g.length
 ce : ∀ i, i < g.length - 1 → vec s c i = aft (g.length - 1) (LL g s) x u i
 te : ∀ i, i < g.length - 1 → vec s t i = u i
 cb : ∀ q : Nat, q < g.length → 0 ≤ rd c (q : Int) ∧ rd c (q : Int) ≤ B + 5 * (k : Int)
 tb : ∀ q : Nat, q < g.length → 0 ≤ rd t (q : Int) ∧ rd t (q : Int) ≤ (k : Int)
theorem Run.start {g : List (List Int)} {s : Nat} {B : Int} {c : List Int} (hc : c.length = g.length) (hb : ∀ q : Nat, q < g.length → 0 ≤ rd c (q : Int) ∧ rd c (q : Int) ≤ B) : Run g s B (vec s c) c (List.replicate g.length 0) (fun _ => 0) 0 := by
 have hz : ∀ q : Nat, rd (List.replicate g.length (0 : Int)) (q : Int) = 0 := fun q => by
  by_cases h : q < g.length
  ·rw [rd_at (by simpa using h)]; simp
  simp [rd, List.getElem?_replicate, h]
 refine ⟨.nil, hc, by simp, fun i _ => by rw [aft_zero], fun i _ => hz _, fun q hq => by have := hb q hq; omega, fun q _ => by rw [hz]; exact ⟨Int.le_refl _, Int.le_refl _⟩⟩
theorem Run.step {g : List (List Int)} (hg : goodG g = true) {s : Nat} (hs : s < g.length) {B : Int} (hB : B ≤ 1000000) {x : Nat → Int} {c t : List Int} {u : Nat → Int} {k : Nat} (hk : k ≤ 4000000) (r : Run g s B x c t u k) {p : Nat} (hp : p < g.length) (hcan : canB g (s : Int) c (p : Int) = true) :
  Run g s B x (topp g (s : Int) c (p : Int)) (t.set p (wrap64 (rd t (p : Int) + 1))) (bump u (usk s p)) (k + 1) ∧ rd (topp g (s : Int) c (p : Int)) (s : Int) = rd c (s : Int) ∧ rd (t.set p (wrap64 (rd t (p : Int) + 1))) (s : Int) = rd t (s : Int) := by
 obtain ⟨hps, hge⟩ := can_iff.1 hcan
 have hu : usk s p < g.length - 1 := usk_lt hp hs hps
 have hk2 : skip s (usk s p) = p := skip_usk hps
 have htp := topp_rd hg (s := s) r.cl hp hps (B := B + 5 * (k : Int)) (by omega) r.cb
 have htb := r.tb p hp
 have hts : ∀ y : Nat, rd (t.set p (wrap64 (rd t (p : Int) + 1))) (y : Int) = if y = p then rd t (p : Int) + 1 else rd t (y : Int) := fun y => by
  have := rd_set (o := t) (q := (p : Int)) (x := (y : Int)) (v := wrap64 (rd t (p : Int) + 1)) (by omega) (by rw [r.tl]; omega) (by omega)
  rw [Int.toNat_natCast, wrap_id (by omega)] at this
  rw [wrap_id (by omega), this]
  by_cases e : y = p
  ·rw [if_pos e, if_pos (by omega)]
  rw [if_neg e, if_neg (by omega)]
 refine ⟨⟨r.leg.step hu ?_, by rw [topp_len]; exact r.cl, by rw [List.length_set]; exact r.tl, fun i hi => ?_, fun i hi => ?_, fun q hq => ?_, fun q hq => ?_⟩, ?_, ?_⟩
 ·rw [← r.ce _ hu]; unfold dd vec; rw [hk2]; exact hge
 ·rw [aft_bump _ _ _ hu, ← r.ce i hi]
  unfold vec LL
  rw [htp _ (skip_lt' hi), if_neg (skip_ne s i), hk2]
 ·unfold vec bump
  rw [hts, show rd t ((skip s i : Nat) : Int) = u i from r.te i hi]
  by_cases e : i = usk s p
  ·subst e; rw [hk2, if_pos rfl, if_pos rfl, show rd t (p : Int) = u (usk s p) from by have := r.te _ hi; unfold vec at this; rw [hk2] at this; exact this]
  rw [if_neg (fun h => e (by rw [← h, usk_skip])), if_neg e]; omega
 ·rw [htp q hq]
  have h1 := r.cb q hq
  have hr := row_good hg hp
  by_cases e : q = s
  ·rw [if_pos e]; omega
  rw [if_neg e, Lp_eq]
  have h2 := cntk_bound (rd_L2 g (p : Int)) (q : Int)
  by_cases e2 : p = q
  ·subst e2; rw [if_pos rfl]; omega
  rw [if_neg e2]; omega
 ·rw [hts]
  have := r.tb q hq
  split <;> omega
 ·rw [htp s hs, if_pos rfl]
 ·rw [hts, if_neg (Ne.symm hps)]
theorem Run.stable {g : List (List Int)} {s : Nat} {B : Int} {x : Nat → Int} {c t : List Int} {u : Nat → Int} {k : Nat} (r : Run g s B x c t u k) (h : fst g (s : Int) c g.length 0 = g.length) : Stb (g.length - 1) (dd g s) (aft (g.length - 1) (LL g s) x u) := by
 intro i hi
 rw [← r.ce i hi]
 have := fst_none g.length 0 (g := g) (sink := (s : Int)) (c := c) (by omega) (skip s i) (by omega) (by have := skip_lt' (s := s) hi; omega)
 apply Classical.byContradiction
 intro hn
 rw [can_iff.2 ⟨skip_ne s i, by unfold dd vec at hn; omega⟩] at this
 exact absurd this (by simp)
theorem sett_ok {g : List (List Int)} (hg : goodG g = true) {s : Nat} (hs : s < g.length) {B : Int} (hB : B ≤ 1000000) {x : Nat → Int} : ∀ (m : Nat) (c t : List Int) (u : Nat → Int) (k : Nat), Run g s B x c t u k → k + m ≤ 4000000 → (sett g (s : Int) m c t).2.2 = true →
  ∃ U K, Run g s B x (sett g (s : Int) m c t).1 (sett g (s : Int) m c t).2.1 U K ∧ Stb (g.length - 1) (dd g s) (aft (g.length - 1) (LL g s) x U) ∧ rd (sett g (s : Int) m c t).1 (s : Int) = rd c (s : Int) ∧ rd (sett g (s : Int) m c t).2.1 (s : Int) = rd t (s : Int) ∧ K ≤ k + m := by
 intro m
 induction m with
 | zero =>
  intro c t u k r hk h
  simp only [sett] at h ⊢
  by_cases e : fst g (s : Int) c g.length 0 = g.length
  ·rw [if_pos e] at h ⊢; exact ⟨u, k, r, r.stable e, rfl, rfl, by omega⟩
  rw [if_neg e] at h; exact absurd h (by simp)
 | succ m ih =>
  intro c t u k r hk h
  simp only [sett] at h ⊢
  by_cases e : fst g (s : Int) c g.length 0 = g.length
  ·rw [if_pos e] at h ⊢; exact ⟨u, k, r, r.stable e, rfl, rfl, by omega⟩
  rw [if_neg e] at h ⊢
  have hf := fst_can g.length 0 (g := g) (sink := (s : Int)) (c := c) (by omega)
  obtain ⟨r2, e1, e2⟩ := r.step hg hs hB (by omega) (by omega) hf.2
  obtain ⟨U, K, h1, h2, h3, h4, h5⟩ := ih _ _ _ _ r2 (by omega) h
  exact ⟨U, K, h1, h2, h3.trans e1, h4.trans e2, by omega⟩
theorem ext_vec {s : Nat} {a b : List Int} (hl : a.length = b.length) (hs : s < a.length) (h0 : rd a (s : Int) = rd b (s : Int)) (h : ∀ i, i < a.length - 1 → vec s a i = vec s b i) : a = b := by
 apply List.ext_getElem hl
 intro i h1 h2
 rw [← rd_at h1, ← rd_at h2]
 by_cases e : i = s
 ·subst e; exact h0
 have := h (usk s i) (usk_lt h1 hs e)
 unfold vec at this
 rwa [skip_usk e] at this
theorem isStable_l0 {g : List (List Int)} (h8 : g.length ≤ 8) (sink : Int) (l : List Int) (hl : l.length = g.length) : ∀ (d i : Nat), g.length - i = d → i ≤ g.length → Ev (fun k => ya1.l0 k sink l g.length i g) (decide (fst g sink l d i = g.length)) := by
 intro d
 induction d with
 | zero =>
  intro i hd hi
  refine Ev.succ ?_
  simp only [ya1.l0]
  refine Ev.neg (by omega) ((Ev.now _).val ?_)
  rw [show fst g sink l 0 i = i from rfl, decide_eq_true (by omega)]
 | succ d ih =>
  intro i hd hi
  refine Ev.succ ?_
  simp only [ya1.l0]
  have hf : fst g sink l (d + 1) i = if canB g sink l i = true then i else fst g sink l d (i + 1) := rfl
  refine Ev.pos (by omega) (Ev.bind0 (canTopple (by omega) (by omega) (by omega)) ?_)
  by_cases hc : canB g sink l i = true
  ·rw [show fst g sink l (d + 1) i = i by rw [hf, hc]; rfl]
   refine Ev.pos hc ((Ev.now _).val ?_)
   rw [decide_eq_false (by omega)]
  rw [show fst g sink l (d + 1) i = fst g sink l d (i + 1) by rw [hf, if_neg hc]]
  refine Ev.neg hc ?_
  rw [wrap_nat (by omega)]
  exact ih (i + 1) (by omega) (by omega)
theorem isStable_ev {g : List (List Int)} (h8 : g.length ≤ 8) (sink : Int) (l : List Int) (hl : l.length = g.length) : Ev (fun k => ya1.f k g sink l) (decide (high g sink l < 0)) := by
 unfold ya1.f
 rw [hl]
 refine (isStable_l0 h8 sink l hl g.length 0 (by omega) (by omega)).val ?_
 unfold high
 by_cases h : fst g sink l g.length 0 = g.length
 ·rw [if_pos h, decide_eq_true h]; rfl
 rw [if_neg h, decide_eq_false h, decide_eq_false (by omega)]
def toppB (g : List (List Int)) (sink : Int) (c : List Int) (p : Int) : Bool := (topp g sink c p).all fun x => decide (0 ≤ x) && decide (x ≤ 20)
def toppR (g : List (List Int)) (sink : Int) (c : List Int) (p : Int) : List Int × Bool := if toppB g sink c p = true then (topp g sink c p, true) else ([], false)
theorem toppI {g : List (List Int)} (hg : goodG g = true) (sink : Int) {c : List Int} (hc : c.length = g.length) {p : Int} (h0 : 0 ≤ p) (h1 : p < (g.length : Int)) : Ev (fun k => yp0.j0 k sink c p false g) (toppR g sink c p) := by
 have h8 := (good_iff hg).1.2
 refine Ev.succ ?_
 simp only [yp0.j0]
 refine Ev.neg (by simp) (Ev.bind0 (clone_ev c (by omega)) (Ev.bind (topple_ev hg sink hc h0 h1) (Ev.bind0 (show yu1.f g (topp g sink c p) = some (decide ((topp g sink c p).length = g.length) && (topp g sink c p).all (fun q => decide (0 ≤ q) && decide (q ≤ 20))) from rfl) ?_)))
 rw [topp_len, decide_eq_true hc, Bool.true_and]
 unfold toppR toppB
 by_cases h : ((topp g sink c p).all fun x => decide (0 ≤ x) && decide (x ≤ 20)) = true
 ·exact Ev.pos h ((Ev.now _).val (by rw [if_pos h]))
 exact Ev.neg h ((Ev.now _).val (by rw [if_neg h]))
theorem toppS {g : List (List Int)} (hg : goodG g = true) (sink : Int) {c : List Int} (hc : c.length = g.length) {p : Int} (h0 : 0 ≤ p) (h1 : p < (g.length : Int)) : Ev (fun k => yg0.j0 k sink c p false g) (toppR g sink c p) := by
 have h8 := (good_iff hg).1.2
 refine Ev.succ ?_
 simp only [yg0.j0]
 refine Ev.neg (by simp) (Ev.bind0 (own_ev c (by omega)) (Ev.bind (chTopple_ev hg sink hc h0 h1) (Ev.bind (l1All (topp g sink c p) 0 20 (by rw [topp_len]; omega)) ?_)))
 unfold toppR toppB
 by_cases h : ((topp g sink c p).all fun x => decide (0 ≤ x) && decide (x ≤ 20)) = true
 ·exact Ev.pos h ((Ev.now _).val (by rw [if_pos h]))
 exact Ev.neg h ((Ev.now _).val (by rw [if_neg h]))
theorem toppI0 (g : List (List Int)) (sink : Int) (c : List Int) (p : Int) : Ev (fun k => yp0.j0 k sink c p true g) ([], false) := by
 refine Ev.succ ?_
 simp only [yp0.j0]
 exact Ev.pos (by simp) (Ev.now _)
theorem toppS0 (g : List (List Int)) (sink : Int) (c : List Int) (p : Int) : Ev (fun k => yg0.j0 k sink c p true g) ([], false) := by
 refine Ev.succ ?_
 simp only [yg0.j0]
 exact Ev.pos (by simp) (Ev.now _)
def zs (g : List (List Int)) : List Int := List.replicate g.length 0
def stabR (g : List (List Int)) (s : Int) (c : List Int) : List Int × Bool := if heapB g s c = true then ((sett g s 4000 c (zs g)).1, (sett g s 4000 c (zs g)).2.2) else ([], false)
def timeR (g : List (List Int)) (s : Int) (c : List Int) : List Int × Bool := if heapB g s c = true then ((sett g s 4000 c (zs g)).2.1, (sett g s 4000 c (zs g)).2.2) else ([], false)
def isR (g : List (List Int)) (s : Int) (c : List Int) : Bool × Bool := if heapB g s c = true then (decide (high g s c < 0), true) else (false, false)
def tpR (g : List (List Int)) (s : Int) (c : List Int) (p : Int) : List Int × Bool := if heapB g s c = true ∧ placeB g p = true ∧ canB g s c p = true then toppR g s c p else ([], false)
theorem heap_good {g : List (List Int)} {s : Int} {c : List Int} (h : heapB g s c = true) : goodG g = true ∧ g.length ≤ 8 ∧ c.length = g.length := by
 obtain ⟨hs, hc, _⟩ := heap_iff h
 have hg := (place_iff (sunk_iff hs).1).1
 exact ⟨hg, (good_iff hg).1.2, hc⟩
theorem stabI (g : List (List Int)) (s : Int) (c : List Int) : Ev (fun k => ys0.f k g s c) (stabR g s c) := by
 unfold ys0.f stabR
 by_cases h : heapB g s c = true
 rotate_left
 ·rw [if_neg h]; exact Ev.bind (isHeap_ev g s c) (Ev.neg h (Ev.now _))
 obtain ⟨hg, _, hc⟩ := heap_good h
 rw [if_pos h]
 exact Ev.bind (isHeap_ev g s c) (Ev.pos h (Ev.bind (settI_ev hg s c hc 4000 (by omega)) (Ev.now _)))
theorem stabS {g : List (List Int)} (hl : okSS g) (s : Int) {c : List Int} (hcc : okIs c) : Ev (fun k => yf1.f k g s c) (stabR g s c) := by
 unfold yf1.f stabR
 by_cases h : heapB g s c = true
 rotate_left
 ·rw [if_neg h]; exact Ev.bind (chHeap_ev g hl s c hcc) (Ev.neg h (Ev.now _))
 obtain ⟨hg, _, hc⟩ := heap_good h
 rw [if_pos h]
 exact Ev.bind (chHeap_ev g hl s c hcc) (Ev.pos h (Ev.bind (settS_ev hg s c hc) (Ev.now _)))
theorem timeI (g : List (List Int)) (s : Int) (c : List Int) : Ev (fun k => ye1.f k g s c) (timeR g s c) := by
 unfold ye1.f timeR
 by_cases h : heapB g s c = true
 rotate_left
 ·rw [if_neg h]; exact Ev.bind (isHeap_ev g s c) (Ev.neg h (Ev.now _))
 obtain ⟨hg, _, hc⟩ := heap_good h
 rw [if_pos h]
 exact Ev.bind (isHeap_ev g s c) (Ev.pos h (Ev.bind (settI_ev hg s c hc 4000 (by omega)) (Ev.now _)))
theorem timeS {g : List (List Int)} (hl : okSS g) (s : Int) {c : List Int} (hcc : okIs c) : Ev (fun k => yd1.f k g s c) (timeR g s c) := by
 unfold yd1.f timeR
 by_cases h : heapB g s c = true
 rotate_left
 ·rw [if_neg h]; exact Ev.bind (chHeap_ev g hl s c hcc) (Ev.neg h (Ev.now _))
 obtain ⟨hg, _, hc⟩ := heap_good h
 rw [if_pos h]
 exact Ev.bind (chHeap_ev g hl s c hcc) (Ev.pos h (Ev.bind (settS_ev hg s c hc) (Ev.now _)))
theorem isI (g : List (List Int)) (s : Int) (c : List Int) : Ev (fun k => yw0.f k g s c) (isR g s c) := by
 unfold yw0.f isR
 by_cases h : heapB g s c = true
 rotate_left
 ·rw [if_neg h]; exact Ev.bind (isHeap_ev g s c) (Ev.neg h (Ev.now _))
 obtain ⟨hg, h8, hc⟩ := heap_good h
 rw [if_pos h]
 exact Ev.bind (isHeap_ev g s c) (Ev.pos h (Ev.bind (isStable_ev h8 s c hc) (Ev.now _)))
theorem isS {g : List (List Int)} (hl : okSS g) (s : Int) {c : List Int} (hcc : okIs c) : Ev (fun k => yy0.f k g s c) (isR g s c) := by
 unfold yy0.f isR
 by_cases h : heapB g s c = true
 rotate_left
 ·rw [if_neg h]; exact Ev.bind (chHeap_ev g hl s c hcc) (Ev.neg h (Ev.now _))
 obtain ⟨hg, h8, hc⟩ := heap_good h
 rw [if_pos h]
 exact Ev.bind (chHeap_ev g hl s c hcc) (Ev.pos h (Ev.bind (chHigh_ev h8 s c hc) (Ev.now _)))
theorem tpI (g : List (List Int)) (s : Int) (c : List Int) (p : Int) : Ev (fun k => yp0.f k g s c p) (tpR g s c p) := by
 unfold yp0.f tpR
 by_cases h : heapB g s c = true
 rotate_left
 ·rw [if_neg (fun e => h e.1)]
  exact Ev.bind (isHeap_ev g s c) (Ev.neg h (toppI0 g s c p))
 obtain ⟨hg, h8, hc⟩ := heap_good h
 by_cases hp : placeB g p = true
 rotate_left
 ·rw [if_neg (fun e => hp e.2.1)]
  exact Ev.bind (isHeap_ev g s c) (Ev.pos h (Ev.bind0 (has1 g p) (Ev.neg hp (toppI0 g s c p))))
 obtain ⟨_, h0, h1⟩ := place_iff hp
 refine Ev.bind (isHeap_ev g s c) (Ev.pos h (Ev.bind0 (has1 g p) (Ev.pos hp (Ev.bind0 (canTopple h0 (by omega) h1) ?_))))
 by_cases hb : canB g s c p = true
 ·rw [hb, if_pos ⟨h, hp, rfl⟩]; exact toppI hg s hc h0 h1
 rw [Bool.eq_false_iff.mpr hb, if_neg (fun e => by simp at e)]; exact toppI0 g s c p
theorem tpS {g : List (List Int)} (hl : okSS g) (s : Int) {c : List Int} (hcc : okIs c) (p : Int) : Ev (fun k => yg0.f k g s c p) (tpR g s c p) := by
 unfold yg0.f tpR
 by_cases h : heapB g s c = true
 rotate_left
 ·rw [if_neg (fun e => h e.1)]
  exact Ev.bind (chHeap_ev g hl s c hcc) (Ev.neg h (toppS0 g s c p))
 obtain ⟨hg, h8, hc⟩ := heap_good h
 by_cases hp : placeB g p = true
 rotate_left
 ·rw [if_neg (fun e => hp e.2.1)]
  exact Ev.bind (chHeap_ev g hl s c hcc) (Ev.pos h (Ev.bind (grPlace g p hl) (Ev.neg hp (toppS0 g s c p))))
 obtain ⟨_, h0, h1⟩ := place_iff hp
 refine Ev.bind (chHeap_ev g hl s c hcc) (Ev.pos h (Ev.bind (grPlace g p hl) (Ev.pos hp ?_)))
 by_cases he : p = s
 ·rw [if_neg (fun e => by have := e.2.2; unfold canB at this; simp [he] at this)]
  exact Ev.pos he (toppS0 g s c p)
 refine Ev.neg he (Ev.pos h0 (Ev.pos (by omega) (Ev.pos h1 ?_)))
 by_cases hb : canB g s c p = true
 ·have hne : rd c p ≥ ((rd_L2 g p).length : Int) := by unfold canB at hb; simp at hb; exact hb.2
  rw [decide_eq_false (by omega), if_pos ⟨h, hp, hb⟩]
  exact toppS hg s hc h0 h1
 have : rd c p < ((rd_L2 g p).length : Int) := by
  unfold canB at hb; simp [he] at hb; omega
 rw [decide_eq_true this, if_neg (fun e => hb e.2.2)]
 exact toppS0 g s c p
theorem xSame_l0 (x y : List Int) (hl : x.length ≤ 9223372036854775807) (hxy : x.length = y.length) : ∀ (d i : Nat), x.length - i = d → i ≤ x.length → Ev (fun k => yc0.l0 k x y x.length i) (decide (x.drop i = y.drop i)) := by
 intro d
 induction d with
 | zero =>
  intro i hd hi
  refine Ev.const1 (fun k => ?_)
  simp only [yc0.l0]
  rw [if_neg (by omega), List.drop_of_length_le (by omega), List.drop_of_length_le (by omega)]
  simp
 | succ d ih =>
  intro i hd hi
  have hlt : i < x.length := by omega
  have hlt2 : i < y.length := by omega
  rw [List.drop_eq_getElem_cons hlt, List.drop_eq_getElem_cons hlt2]
  by_cases e : x[i] = y[i]
  ·refine Ev.step (f := fun k => yc0.l0 k x y x.length (i + 1 : Nat)) (fun k => ?_) ((ih (i + 1) (by omega) (by omega)).val (cons_dec e))
   simp only [yc0.l0]
   rw [if_pos (by omega), if_pos (by omega), if_pos (by omega), if_pos (by omega), rd_at hlt, rd_at hlt2, if_pos e, wrap_nat (by omega)]
  refine Ev.const1 (fun k => ?_)
  simp only [yc0.l0]
  rw [if_pos (by omega), if_pos (by omega), if_pos (by omega), if_pos (by omega), rd_at hlt, rd_at hlt2, if_neg e, decide_eq_false (fun h => e (List.cons.inj h).1)]
theorem xSame_ev (x y : List Int) (hl : x.length ≤ 9223372036854775807) : Ev (fun k => yc0.f k x y) (decide (x = y)) := by
 unfold yc0.f
 by_cases h : x.length = y.length
 ·refine Ev.pos (by omega) ?_
  exact xSame_l0 x y hl h x.length 0 (by omega) (by omega)
 refine Ev.neg (by omega) ?_
 exact (Ev.now _).val (by have : x ≠ y := fun e => h (by rw [e]); simp [this])
open DetKit
theorem sm_skip : ∀ (n s : Nat) (f : Nat → Int), s ≤ n → sm (n + 1) f = f s + sm n (fun i => f (skip s i)) := by
 intro n
 induction n with
 | zero =>
  intro s f h; obtain rfl : s = 0 := (by omega); simp [sm]
 | succ n ih =>
  intro s f h
  rw [show sm (n + 1 + 1) f = sm (n + 1) f + f (n + 1) from rfl]
  by_cases e : s = n + 1
  rotate_left
  ·rw [ih s f (by omega), show sm (n + 1) (fun i => f (skip s i)) = sm n (fun i => f (skip s i)) + f (skip s n) from rfl, show skip s n = n + 1 by unfold skip; rw [if_neg (by omega)]]
   omega
  subst e
  rw [sm_congr (f := fun i => f (skip (n + 1) i)) (g := f) (fun i hi => by rw [show skip (n + 1) i = i by unfold skip; rw [if_pos hi]])]
  omega
def addRow (s t : Int) : List Int → List Int → List Int
 | [], c => c
 | q :: row, c => addRow s t row (if q = s then c else c.set q.toNat (wrap64 (rd c q + t)))
theorem addRow_len (s t : Int) : ∀ row c : List Int, (addRow s t row c).length = c.length := by
 intro row
 induction row with
 | nil => intro c; rfl
 | cons q row ih => intro c; simp only [addRow]; rw [ih]; split <;> simp
def leftF (g : List (List Int)) (s : Int) (tm : List Int) : Nat → Nat → List Int → List Int
 | 0, _, c => c
 | d + 1, i, c => leftF g s tm d (i + 1) (addRow s (rd tm (i : Int)) (rd_L2 g (i : Int)) (c.set i (wrap64 (rd c (i : Int) - wrap64 (rd tm (i : Int) * ((rd_L2 g (i : Int)).length : Int))))))
theorem left_l1 (x1 : List Int) (s : Int) (st tm : List Int) (g : List (List Int)) (n : Int) (i : Nat) (hi : (i : Int) < (tm.length : Int)) (hib : i ≤ 1000) (row : List Int) (m : Nat) (h5 : row.length ≤ 5) (hr : ∀ q ∈ row, 0 ≤ q ∧ q < (m : Int)) (r : Bool) : ∀ (d j : Nat) (c : List Int), row.length - j = d → j ≤ row.length → c.length = m →
  Ev (fun k => ya0.l0 k x1 s st tm (addRow s (rd tm (i : Int)) (row.drop j) c) g n ((i + 1 : Nat) : Int)) r → Ev (fun k => ya0.l1 k x1 s st tm c i g n i row row.length j) r := by
 intro d
 induction d with
 | zero =>
  intro j c hd hj hc h
  refine Ev.succ ?_
  simp only [ya0.l1]
  refine Ev.neg (by omega) ?_
  rw [List.drop_of_length_le (by omega)] at h
  rw [wrap_nat (by omega)]
  exact h
 | succ d ih =>
  intro j c hd hj hc h
  have hlt : j < row.length := by omega
  have hq := hr (rd row j) (by rw [rd_at hlt]; exact List.getElem_mem _)
  rw [drop_rd hlt] at h
  simp only [addRow] at h
  refine Ev.succ ?_
  simp only [ya0.l1]
  refine Ev.pos (by omega) (Ev.pos (by omega) (Ev.pos (by omega) ?_))
  have e := wrap_nat (n := j) (by omega)
  by_cases hs : rd row (j : Int) = s
  ·rw [if_pos hs] at h
   refine Ev.pos hs ?_
   rw [e]
   exact ih (j + 1) c (by omega) (by omega) hc h
  rw [if_neg hs] at h
  refine Ev.neg hs (Ev.pos hq.1 (Ev.pos (by omega) (Ev.pos (by omega) (Ev.pos hi ?_))))
  rw [e]
  exact ih (j + 1) _ (by omega) (by omega) (by rw [List.length_set]; exact hc) h
theorem left_l0 {g : List (List Int)} (hg : goodG g = true) (x1 : List Int) (s : Int) (st tm : List Int) (ht : tm.length = g.length) (r : Bool) : ∀ (d i : Nat) (c : List Int), g.length - i = d → i ≤ g.length → c.length = g.length →
  (leftF g s tm d i c = st → Ev (fun k => ya0.j4 k x1) r) → leftF g s tm d i c = st → Ev (fun k => ya0.l0 k x1 s st tm c g g.length i) r := by
 have h8 := (good_iff hg).1
 intro d
 induction d with
 | zero =>
  intro i c hd hi hc hj he
  refine Ev.succ ?_
  simp only [ya0.l0]
  refine Ev.neg (by omega) (Ev.bind (xSame_ev c st (by omega)) (Ev.pos (decide_eq_true he) (hj he)))
 | succ d ih =>
  intro i c hd hi hc hj he
  have hrow := (good_iff hg).2 (rd_L2 g (i : Int)) (by rw [rdL_at (by omega)]; exact List.getElem_mem _)
  refine Ev.succ ?_
  simp only [ya0.l0]
  refine Ev.pos (by omega) (Ev.pos (by omega) (Ev.pos (by omega) (Ev.pos (by omega) (Ev.pos (by omega) ?_))))
  rw [show ((i : Int)).toNat = i by omega]
  refine left_l1 x1 s st tm g g.length i (by omega) (by omega) (rd_L2 g (i : Int)) g.length hrow.1 hrow.2 r _ 0 _ rfl (by omega) (by rw [List.length_set]; exact hc) ?_
  rw [List.drop_zero]
  simp only [leftF] at hj he
  exact ih (i + 1) _ (by omega) (by omega) (by rw [addRow_len, List.length_set]; exact hc) hj he
theorem addRow_rd (s t T : Int) (ht : 0 ≤ t ∧ t ≤ T) (hT : T ≤ 10000) : ∀ (row c : List Int) (B : Int), (∀ x ∈ row, 0 ≤ x ∧ x < (c.length : Int)) → (∀ q : Nat, q < c.length → -B ≤ rd c (q : Int) ∧ rd c (q : Int) ≤ B) → B + 10000 * (row.length : Int) ≤ 1000000000 → ∀ q : Nat, q < c.length → rd (addRow s t row c) (q : Int) = rd c (q : Int) + if (q : Int) = s then 0 else t * cntk row (q : Int) := by
 intro row
 induction row with
 | nil => intro c B _ _ _ q _; simp only [addRow, cntk, List.length_nil, sm]; split <;> omega
 | cons x row ih =>
  intro c B hx hb hB q hq
  have hx0 := hx x List.mem_cons_self
  have hbx := hb x.toNat (by omega)
  rw [show ((x.toNat : Nat) : Int) = x by omega] at hbx
  rw [List.length_cons] at hB
  simp only [addRow]
  by_cases e : x = s
  ·rw [if_pos e, ih c B (fun y hy => hx y (List.mem_cons_of_mem _ hy)) hb (by omega) q hq, cntk_cons]
   by_cases e2 : (q : Int) = s
   ·rw [if_pos e2, if_pos e2]
   rw [if_neg e2, if_neg e2, if_neg (by omega)]; simp
  rw [if_neg e]
  have hs : ∀ y : Nat, rd (c.set x.toNat (wrap64 (rd c x + t))) (y : Int) = if (y : Int) = x then rd c x + t else rd c (y : Int) := fun y => by
   rw [rd_set hx0.1 hx0.2 (by omega), wrap_id (by omega)]
  have hbs : ∀ y : Nat, y < (c.set x.toNat (wrap64 (rd c x + t))).length → -(B + 10000) ≤ rd (c.set x.toNat (wrap64 (rd c x + t))) (y : Int) ∧ rd (c.set x.toNat (wrap64 (rd c x + t))) (y : Int) ≤ B + 10000 := fun y hy => by
   rw [hs]
   rw [List.length_set] at hy
   have := hb y hy
   split <;> omega
  rw [ih _ (B + 10000) (fun y hy => by rw [List.length_set]; exact hx y (List.mem_cons_of_mem _ hy)) hbs (by omega) q (by rw [List.length_set]; exact hq), hs, cntk_cons]
  by_cases e2 : (q : Int) = x
  ·rw [if_pos e2, if_neg (show ¬ (q : Int) = s by omega), if_neg (show ¬ (q : Int) = s by omega), if_pos e2.symm, Int.mul_add, e2]; omega
  rw [if_neg e2]
  by_cases e3 : (q : Int) = s
  ·rw [if_pos e3, if_pos e3]
  rw [if_neg e3, if_neg e3, if_neg (show ¬ x = (q : Int) from fun h => e2 h.symm)]; simp
def Mq (g : List (List Int)) (s : Int) (p q : Nat) : Int := (if p = q then ((rd_L2 g (p : Int)).length : Int) else 0) - if (q : Int) = s then 0 else cntk (rd_L2 g (p : Int)) (q : Int)
theorem leftF_rd {g : List (List Int)} (hg : goodG g = true) (s : Int) (tm : List Int) (ht : ∀ p : Nat, p < g.length → 0 ≤ rd tm (p : Int) ∧ rd tm (p : Int) ≤ 4000) : ∀ (d i : Nat) (c : List Int), i + d = g.length → c.length = g.length → (∀ q : Nat, q < g.length → -(1000 + 100000 * (i : Int)) ≤ rd c (q : Int) ∧ rd c (q : Int) ≤ 1000 + 100000 * (i : Int)) →
  (leftF g s tm d i c).length = g.length ∧ ∀ q : Nat, q < g.length → rd (leftF g s tm d i c) (q : Int) = rd c (q : Int) - sm d (fun j => rd tm ((i + j : Nat) : Int) * Mq g s (i + j) q) := by
 have h8 := (good_iff hg).1
 intro d
 induction d with
 | zero => intro i c _ hc _; exact ⟨hc, fun q _ => by simp only [leftF, sm]; omega⟩
 | succ d ih =>
  intro i c hd hc hb
  have hti := ht i (by omega)
  have hrow := row_good hg (p := i) (by omega)
  have hbi := hb i (by omega)
  have hm5 : 0 ≤ rd tm (i : Int) * ((rd_L2 g (i : Int)).length : Int) ∧ rd tm (i : Int) * ((rd_L2 g (i : Int)).length : Int) ≤ 20000 := by
   have h1 : rd tm (i : Int) * ((rd_L2 g (i : Int)).length : Int) ≤ 4000 * ((rd_L2 g (i : Int)).length : Int) := Int.mul_le_mul_of_nonneg_right hti.2 (by omega)
   exact ⟨Int.mul_nonneg hti.1 (by omega), by omega⟩
  have hs : ∀ y : Nat, rd (c.set i (wrap64 (rd c (i : Int) - wrap64 (rd tm (i : Int) * ((rd_L2 g (i : Int)).length : Int))))) (y : Int) = if y = i then rd c (i : Int) - rd tm (i : Int) * ((rd_L2 g (i : Int)).length : Int) else rd c (y : Int) := fun y => by
   have := rd_set (o := c) (q := (i : Int)) (x := (y : Int)) (v := wrap64 (rd c (i : Int) - wrap64 (rd tm (i : Int) * ((rd_L2 g (i : Int)).length : Int)))) (by omega) (by omega) (by omega)
   rw [Int.toNat_natCast] at this
   rw [this, wrap_id (x := rd tm (i : Int) * ((rd_L2 g (i : Int)).length : Int)) (by omega), wrap_id (by omega)]
   by_cases e : y = i
   ·rw [if_pos e, if_pos (by omega)]
   rw [if_neg e, if_neg (by omega)]
  have ha : ∀ q : Nat, q < g.length → rd (addRow s (rd tm (i : Int)) (rd_L2 g (i : Int)) (c.set i (wrap64 (rd c (i : Int) - wrap64 (rd tm (i : Int) * ((rd_L2 g (i : Int)).length : Int)))))) (q : Int) = rd c (q : Int) - rd tm (i : Int) * Mq g s i q := fun q hq => by
   rw [addRow_rd s (rd tm (i : Int)) 4000 hti (by omega) (rd_L2 g (i : Int)) _ (1000 + 100000 * (i : Int) + 20000) (fun x hx => by rw [List.length_set, hc]; exact hrow.2 x hx) (fun y hy => by
    rw [hs]
    rw [List.length_set, hc] at hy
    have := hb y hy
    split <;> omega) (by omega) q (by rw [List.length_set, hc]; exact hq), hs]
   unfold Mq
   by_cases e : q = i
   rotate_left
   ·rw [if_neg e, if_neg (show ¬ i = q from fun h => e h.symm)]
    by_cases e2 : (q : Int) = s
    ·rw [if_pos e2, if_pos e2]; simp
    rw [if_neg e2, if_neg e2, Int.mul_sub]; omega
   subst e
   rw [if_pos rfl, if_pos rfl]
   by_cases e2 : (q : Int) = s
   ·rw [if_pos e2, if_pos e2]; simp
   rw [if_neg e2, if_neg e2, Int.mul_sub]; omega
  have hM : ∀ q : Nat, -20000 ≤ rd tm (i : Int) * Mq g s i q ∧ rd tm (i : Int) * Mq g s i q ≤ 20000 := fun q => by
   have hc5 := cntk_bound (rd_L2 g (i : Int)) (q : Int)
   have h1 : -5 ≤ Mq g s i q ∧ Mq g s i q ≤ 5 := by
    have h5 := hrow.1
    unfold Mq
    by_cases e : i = q
    ·rw [if_pos e]
     by_cases e2 : (q : Int) = s
     ·rw [if_pos e2]; omega
     rw [if_neg e2]; omega
    rw [if_neg e]
    by_cases e2 : (q : Int) = s
    ·rw [if_pos e2]; omega
    rw [if_neg e2]; omega
   have h2 : rd tm (i : Int) * Mq g s i q ≤ rd tm (i : Int) * 5 := Int.mul_le_mul_of_nonneg_left h1.2 hti.1
   have h3 : rd tm (i : Int) * (-5) ≤ rd tm (i : Int) * Mq g s i q := Int.mul_le_mul_of_nonneg_left h1.1 hti.1
   omega
  obtain ⟨i1, i2⟩ := ih (i + 1) (addRow s (rd tm (i : Int)) (rd_L2 g (i : Int)) (c.set i (wrap64 (rd c (i : Int) - wrap64 (rd tm (i : Int) * ((rd_L2 g (i : Int)).length : Int)))))) (by omega) (by rw [addRow_len, List.length_set]; exact hc) (fun q hq => by
   rw [ha q hq]
   have := hb q hq
   have := hM q
   omega)
  simp only [leftF]
  refine ⟨i1, fun q hq => ?_⟩
  rw [i2 q hq, ha q hq, sm_head]
  rw [sm_congr (f := fun j => rd tm ((i + (j + 1) : Nat) : Int) * Mq g s (i + (j + 1)) q) (g := fun j => rd tm ((i + 1 + j : Nat) : Int) * Mq g s (i + 1 + j) q) (fun j _ => by rw [show i + (j + 1) = i + 1 + j by omega])]
  rw [show i + 0 = i from rfl]
  omega
theorem left_ok {g : List (List Int)} (hg : goodG g = true) {s : Nat} (hs : s < g.length) {B : Int} {c c' t' : List Int} (hc : c.length = g.length) (hb : ∀ q : Nat, q < g.length → 0 ≤ rd c (q : Int) ∧ rd c (q : Int) ≤ 100) {U : Nat → Int} {K : Nat} (r : Run g s B (vec s c) c' t' U K) (hK : K ≤ 4000) (h0 : rd c' (s : Int) = rd c (s : Int)) (ht0 : rd t' (s : Int) = 0) : leftF g (s : Int) t' g.length 0 c = c' := by
 obtain ⟨l1, l2⟩ := leftF_rd hg (s : Int) t' (fun p hp => by have := r.tb p hp; omega) g.length 0 c (by omega) hc (fun q hq => by have := hb q hq; omega)
 have hn : g.length = g.length - 1 + 1 := by omega
 have key : ∀ q : Nat, sm g.length (fun j => rd t' ((0 + j : Nat) : Int) * Mq g (s : Int) (0 + j) q) = sm (g.length - 1) (fun i => U i * Mq g (s : Int) (skip s i) q) := fun q => by
  rw [sm_congr (g := fun j => rd t' (j : Int) * Mq g (s : Int) j q) (fun j _ => by rw [Nat.zero_add])]
  have : sm g.length (fun j => rd t' (j : Int) * Mq g (s : Int) j q) = sm (g.length - 1 + 1) (fun j => rd t' (j : Int) * Mq g (s : Int) j q) := by rw [← hn]
  rw [this, sm_skip _ s _ (by omega), ht0, Int.zero_mul, Int.zero_add]
  exact sm_congr (fun i hi => by rw [show rd t' ((skip s i : Nat) : Int) = U i from r.te i hi])
 refine ext_vec (s := s) (by rw [l1, r.cl]) (by omega) ?_ (fun i hi => ?_)
 ·rw [l2 s hs, key, sm_zero (fun i _ => by
   unfold Mq
   rw [if_neg (skip_ne s i), if_pos rfl]; simp), h0]
  omega
 ·rw [l1] at hi
  rw [r.ce i hi]
  unfold vec
  rw [l2 _ (skip_lt' hi), key]
  unfold aft
  congr 1
  refine sm_congr (fun t _ => ?_)
  unfold LL Mq
  rw [Lp_eq, if_neg (show ¬ ((skip s i : Nat) : Int) = (s : Int) from fun e => skip_ne s i (by omega))]
theorem vis_more {n : Nat} {c : Int} : ∀ (row o qs : List Int), (∀ q ∈ row, 0 ≤ q ∧ q < (n : Int)) → o.length = n → 0 ≤ rd o c → 0 ≤ c →
  (vis c row o qs).1.length = n ∧ (∀ x : Int, 0 ≤ x → 0 ≤ rd o x → 0 ≤ rd (vis c row o qs).1 x) ∧ (∀ q ∈ row, 0 ≤ rd (vis c row o qs).1 q) ∧ (∀ q ∈ qs, q ∈ (vis c row o qs).2) ∧ (∀ x : Int, 0 ≤ x → x < (n : Int) → 0 ≤ rd (vis c row o qs).1 x → 0 ≤ rd o x ∨ x ∈ (vis c row o qs).2) := by
 intro row
 induction row with
 | nil => intro o qs _ hl _ _; exact ⟨hl, fun _ _ h => h, fun q hq => absurd hq (by simp), fun q h => h, fun x _ _ h => .inl h⟩
 | cons q row ih =>
  intro o qs hr hl hc h0
  obtain ⟨hq0, hq1⟩ := hr q List.mem_cons_self
  have hr' : ∀ x ∈ row, 0 ≤ x ∧ x < (n : Int) := fun x hx => hr x (List.mem_cons_of_mem _ hx)
  simp only [vis]
  by_cases h : rd o q < 0
  rotate_left
  ·rw [if_neg h]
   obtain ⟨h1, h2, h3, h4, h5⟩ := ih o qs hr' hl hc h0
   refine ⟨h1, h2, fun x hx => ?_, h4, h5⟩
   rcases List.mem_cons.1 hx with rfl | hx
   ·exact h2 x hq0 (by omega)
   ·exact h3 x hx
  rw [if_pos h]
  have hs : ∀ x : Int, 0 ≤ x → rd (o.set q.toNat (rd o c + 1)) x = if x = q then rd o c + 1 else rd o x := fun x hx => rd_set hq0 (by omega) hx
  obtain ⟨h1, h2, h3, h4, h5⟩ := ih (o.set q.toNat (rd o c + 1)) (qs ++ [q]) hr' (by rw [List.length_set]; exact hl) (by rw [hs c h0]; split <;> omega) h0
  refine ⟨h1, fun x hx hx1 => h2 x hx (by rw [hs x hx]; split <;> omega), fun x hx => ?_, fun x hx => h4 x (List.mem_append_left _ hx), fun x hx hx1 hx2 => ?_⟩
  ·rcases List.mem_cons.1 hx with rfl | hx
   ·exact h2 x hq0 (by rw [hs x hq0, if_pos rfl]; omega)
   ·exact h3 x hx
  ·rcases h5 x hx hx1 hx2 with h | h
   ·rw [hs x hx] at h
    by_cases e : x = q
    ·exact .inr (h4 x (by rw [e]; simp))
    rw [if_neg e] at h; exact .inl h
   ·exact .inr h
theorem bfs_closed {g : List (List Int)} (hg : goodG g = true) : ∀ (f : Nat) (o qs : List Int), Known g.length o → Wait g.length o qs → qs.length + neg o ≤ f → (∀ q : Int, 0 ≤ q → q < (g.length : Int) → 0 ≤ rd o q → q ∈ qs ∨ ∀ x ∈ rd_L2 g q, 0 ≤ rd o x) →
  (∀ q : Int, 0 ≤ q → q < (g.length : Int) → 0 ≤ rd o q → 0 ≤ rd (bfs g f o qs) q) ∧ ∀ q : Int, 0 ≤ q → q < (g.length : Int) → 0 ≤ rd (bfs g f o qs) q → ∀ x ∈ rd_L2 g q, 0 ≤ rd (bfs g f o qs) x := by
 obtain ⟨⟨hn1, hn8⟩, hrows⟩ := good_iff hg
 have fin : ∀ o : List Int, (∀ q : Int, 0 ≤ q → q < (g.length : Int) → 0 ≤ rd o q → q ∈ ([] : List Int) ∨ ∀ x ∈ rd_L2 g q, 0 ≤ rd o x) → ∀ q : Int, 0 ≤ q → q < (g.length : Int) → 0 ≤ rd o q → ∀ x ∈ rd_L2 g q, 0 ≤ rd o x := by
  intro o h q h0 h1 h2
  rcases h q h0 h1 h2 with h | h
  ·exact absurd h (by simp)
  ·exact h
 intro f
 induction f with
 | zero =>
  intro o qs _ _ hf hcl
  obtain rfl : qs = [] := List.eq_nil_of_length_eq_zero (by omega)
  exact ⟨fun _ _ _ h => h, fin o hcl⟩
 | succ f ih =>
  intro o qs hk hw hf hcl
  cases qs with
  | nil => exact ⟨fun _ _ _ h => h, fin o hcl⟩
  | cons c qs =>
   obtain ⟨hc0, hc1, hc2⟩ := hw c List.mem_cons_self
   have hrow := hrows (rd_L2 g c) (by rw [rdL_get hc0 hc1]; exact List.getElem_mem _)
   obtain ⟨k1, k2, k3⟩ := vis_keeps hn8 c (rd_L2 g c) o qs hrow.2 hk (fun x hx => hw x (List.mem_cons_of_mem _ hx)) ⟨hc0, hc1, hc2⟩
   obtain ⟨v1, v2, v3, v4, v5⟩ := vis_more (rd_L2 g c) o qs hrow.2 hk.len hc2 hc0
   rw [List.length_cons] at hf
   obtain ⟨i1, i2⟩ := ih _ _ k1 k2 (by omega) (fun q q0 q1 hq => by
    rcases v5 q q0 q1 hq with h | h
    ·rcases hcl q q0 q1 h with h | h
     ·rcases List.mem_cons.1 h with rfl | h
      ·exact .inr v3
      ·exact .inl (v4 q h)
     ·refine .inr (fun x hx => v2 x ?_ (h x hx))
      have hr2 := hrows (rd_L2 g q) (by rw [rdL_get q0 q1]; exact List.getElem_mem _)
      exact (hr2.2 x hx).1
    ·exact .inl h)
   exact ⟨fun q q0 q1 hq => i1 q q0 q1 (v2 q q0 hq), i2⟩
theorem far_closed {g : List (List Int)} {p : Int} (h : placeB g p = true) : 0 ≤ rd (far g p) p ∧ ∀ q : Int, 0 ≤ q → q < (g.length : Int) → 0 ≤ rd (far g p) q → ∀ x ∈ rd_L2 g q, 0 ≤ rd (far g p) x := by
 obtain ⟨hg, h0, h1⟩ := place_iff h
 obtain ⟨k1, k2, k3⟩ := known0 h0 h1
 have hz : ∀ q : Int, 0 ≤ q → q < (g.length : Int) → rd ((List.replicate g.length (-1)).set p.toNat 0) q = if q = p then 0 else -1 := fun q q0 q1 => by
  rw [rd_set h0 (by simpa using h1) q0]
  by_cases e : q = p
  ·rw [if_pos e, if_pos e]
  rw [if_neg e, if_neg e, rd_get q0 (by simpa using q1)]; simp
 obtain ⟨b1, b2⟩ := bfs_closed hg g.length _ _ k1 k2 k3 (fun q q0 q1 hq => by
  rw [hz q q0 q1] at hq
  by_cases e : q = p
  ·exact .inl (by rw [e]; simp)
  ·rw [if_neg e] at hq; omega)
 exact ⟨b1 p h0 h1 (by rw [hz p h0 h1, if_pos rfl]; omega), b2⟩
def Byt (l : List Int) : Prop := l.length ≤ 1048576 ∧ ∀ x ∈ l, 0 ≤ x ∧ x ≤ 255
theorem and255 (y : Int) : 0 ≤ bits .and .u64 (IntKind.u64.wrap y / 1099511627776) 255 ∧ bits .and .u64 (IntKind.u64.wrap y / 1099511627776) 255 ≤ 255 := by
 have hw : ∀ n : Int, IntKind.u64.wrap n = n % 18446744073709551616 := fun n => by simp [IntKind.wrap, IntKind.bits, IntKind.signed]
 have h := bits_mask .u64 64 (by decide) (fun n h0 h1 => by rw [hw]; omega) 8 (by decide) (IntKind.u64.wrap y / 1099511627776) (by rw [hw]; omega) (by rw [hw]; omega)
 rw [show ((2 : Int) ^ 8 - 1) = 255 from rfl] at h
 rw [h]
 omega
theorem next_ok {l : List Int} (hl : Byt l) {a s : Int} (h0 : 0 ≤ a) (h1 : a ≤ 1000000000) : ∃ r s', yt1.f l a s = some (r, a + 1, s') ∧ 0 ≤ r ∧ r ≤ 255 := by
 have hll := hl.1
 unfold yt1.f
 rw [wrap_id (x := a + 1) (by omega)]
 by_cases h : a < (l.length : Int)
 ·rw [if_pos h, if_pos h0, if_pos (by omega)]
  have := hl.2 (rd l a) (by rw [rd_get h0 h]; exact List.getElem_mem _)
  exact ⟨_, _, rfl, by rw [wrap_id (by omega)]; exact this.1, by rw [wrap_id (by omega)]; exact this.2⟩
 rw [if_neg h, if_neg (by omega)]
 have hb := and255 (IntKind.u64.wrap (IntKind.u64.wrap (s * 6364136223846793005)) + 1442695040888963407)
 exact ⟨_, _, rfl, by rw [wrap_id (by omega)]; exact hb.1, by rw [wrap_id (by omega)]; exact hb.2⟩
theorem pick_ok {l : List Int} (hl : Byt l) {a s : Int} (h0 : 0 ≤ a) (h1 : a ≤ 1000000000) (n : Int) (hn : n ≤ 200) : ∃ r a' s', yu0.f l a s n = some (r, a', s') ∧ 0 ≤ r ∧ (r < n ∨ r = 0) ∧ a ≤ a' ∧ a' ≤ a + 1 := by
 unfold yu0.f
 by_cases h : n ≤ 1
 ·rw [if_pos h]; exact ⟨0, a, s, rfl, by omega, .inr rfl, by omega, by omega⟩
 rw [if_neg h]
 obtain ⟨r, s', e, r0, r1⟩ := next_ok hl (s := s) h0 h1
 rw [e]
 simp only [Option.bind_some]
 rw [if_neg (by omega), if_neg (by omega)]
 exact ⟨_, _, _, rfl, Int.tmod_nonneg _ r0, .inl (Int.tmod_lt_of_pos _ (by omega)), by omega, by omega⟩
theorem one_ok {l : List Int} (hl : Byt l) {a s : Int} (h0 : 0 ≤ a) (h1 : a ≤ 1000000000) (n : Int) (hn : n ≤ 200) : ∃ b a' s', yt0.f l a s n = some (b, a', s') ∧ a ≤ a' ∧ a' ≤ a + 1 := by
 unfold yt0.f
 obtain ⟨r, a', s', e, _, _, h2, h3⟩ := pick_ok hl (s := s) h0 h1 n hn
 rw [e]
 exact ⟨_, _, _, rfl, h2, h3⟩
theorem among_ok {l : List Int} (hl : Byt l) {a s : Int} (h0 : 0 ≤ a) (h1 : a ≤ 1000000000) (xs : List Int) (hx : 1 ≤ xs.length) (hx2 : xs.length ≤ 200) : ∃ r a' s', yw1.f l a s xs = some (r, a', s') ∧ r ∈ xs ∧ a ≤ a' ∧ a' ≤ a + 1 := by
 unfold yw1.f
 obtain ⟨r, a', s', e, r0, r1, h2, h3⟩ := pick_ok hl (s := s) h0 h1 (xs.length : Int) (by omega)
 rw [e]
 simp only [Option.bind_some]
 rw [if_pos r0, if_pos (by omega)]
 exact ⟨_, _, _, rfl, by rw [rd_get r0 (by omega)]; exact List.getElem_mem _, h2, h3⟩
structure Dr (n m : Nat) (g : List (List Int)) : Prop where
 len : g.length = n
 rows : ∀ row ∈ g, row.length ≤ m ∧ ∀ q ∈ row, 0 ≤ q ∧ q < (n : Int)
theorem Dr.le {n m m' : Nat} {g : List (List Int)} (h : Dr n m g) (hm : m ≤ m') : Dr n m' g := ⟨h.len, fun row hr => ⟨Nat.le_trans (h.rows row hr).1 hm, (h.rows row hr).2⟩⟩
theorem Dr.good {n m : Nat} {g : List (List Int)} (h : Dr n m g) (h1 : 1 ≤ n) (h8 : n ≤ 8) (h5 : m ≤ 5) : goodG g = true := by
 have hl := h.len
 simp only [goodG, goodRow, Bool.and_eq_true, decide_eq_true_eq, List.all_eq_true]
 refine ⟨by omega, by omega, fun row hr => ⟨by have := (h.rows row hr).1; omega, fun q hq => ?_⟩⟩
 have := (h.rows row hr).2 q hq
 omega
theorem Dr.ok {n m : Nat} {g : List (List Int)} (h : Dr n m g) (h8 : n ≤ 8) (h5 : m ≤ 5) : okSS g := by
 refine ⟨by rw [h.len]; omega, fun row hr => ⟨by have := (h.rows row hr).1; omega, fun x hx => ?_⟩⟩
 have := (h.rows row hr).2 x hx
 unfold okI; omega
theorem Dr.at {n m : Nat} {g : List (List Int)} (h : Dr n m g) {p : Int} (h0 : 0 ≤ p) (h1 : p < (n : Int)) : (rd_L2 g p).length ≤ m ∧ ∀ q ∈ rd_L2 g p, 0 ≤ q ∧ q < (n : Int) := by
 have hl := h.len
 exact h.rows _ (by rw [rdL_get h0 (by omega)]; exact List.getElem_mem _)
theorem tmod_in {x n : Int} (h0 : 0 ≤ x) (hn : 0 < n) : 0 ≤ Int.tmod x n ∧ Int.tmod x n < n := ⟨Int.tmod_nonneg _ h0, Int.tmod_lt_of_pos _ hn⟩
theorem cyc_l0 (n : Nat) (h1 : 1 ≤ n) (h5 : n ≤ 10) (b : Bool) : ∀ (d i : Nat) (acc : List (List Int)), n - i = d → i ≤ n → acc.length = i → (∀ row ∈ acc, row.length ≤ 2 ∧ ∀ q ∈ row, 0 ≤ q ∧ q < (n : Int)) → ∃ g, Ev (fun k => yr0.l0 k n b i acc) g ∧ Dr n 2 g := by
 intro d
 induction d with
 | zero =>
  intro i acc hd hi ha hr
  refine ⟨acc, ?_, ⟨by omega, hr⟩⟩
  refine Ev.succ ?_
  simp only [yr0.l0]
  exact Ev.neg (by omega) (Ev.now _)
 | succ d ih =>
  intro i acc hd hi ha hr
  have m1 := tmod_in (x := wrap64 ((i : Int) + 1)) (n := (n : Int)) (by rw [wrap_nat (by omega)]; omega) (by omega)
  have m2 := tmod_in (x := wrap64 (wrap64 ((i : Int) + n) - 1)) (n := (n : Int)) (by rw [wrap_id (x := (i : Int) + n) (by omega), wrap_id (by omega)]; omega) (by omega)
  obtain ⟨g, hg, hd2⟩ := ih (i + 1) (acc ++ [if b = true then [Int.tmod (wrap64 ((i : Int) + 1)) n] ++ [Int.tmod (wrap64 (wrap64 ((i : Int) + n) - 1)) n] else [Int.tmod (wrap64 ((i : Int) + 1)) n]]) (by omega) (by omega) (by simp; omega) (fun row hrow => by
   rcases List.mem_append.1 hrow with h | h
   ·exact hr row h
   ·rw [List.mem_singleton.1 h]
    cases b <;> simp [m1, m2])
  refine ⟨g, ?_, hd2⟩
  refine Ev.succ ?_
  simp only [yr0.l0]
  refine Ev.pos (by omega) (Ev.neg (by omega) (Ev.bind0 rfl ?_))
  cases b with
  | true => exact Ev.pos rfl (Ev.pos (by simp) (Ev.pos (by omega) (by have e := wrap_nat (n := i) (by omega); rw [e] at hg ⊢; exact hg)))
  | false => exact Ev.neg (by simp) (Ev.pos (by omega) (by have e := wrap_nat (n := i) (by omega); rw [e] at hg ⊢; exact hg))
theorem cyc_ok (n : Nat) (h1 : 1 ≤ n) (h5 : n ≤ 10) (b : Bool) : ∃ g, Ev (fun k => yr0.f k n b) g ∧ Dr n 2 g := cyc_l0 n h1 h5 b n 0 [] (by omega) (by omega) rfl (fun row h => absurd h (by simp))
def Rnd (n : Nat) (g : List (List Int)) : Prop := ∀ p : Nat, p < n → Int.tmod ((p : Int) + 1) n ∈ rd_L2 g (p : Int)
def Drn (n : Nat) (g : List (List Int)) : Prop := Dr n 3 g ∨ Dr n 4 g ∧ Rnd n g
theorem rdL_setn {g : List (List Int)} {i : Nat} (hi : i < g.length) (row : List Int) (j : Nat) : rd_L2 (g.set i row) (j : Int) = if j = i then row else rd_L2 g (j : Int) := by
 by_cases h : j < g.length
 rotate_left
 ·rw [if_neg (by omega)]
  simp [rd_L2, h]
 rw [rdL_at (by simpa using h), rdL_at h, List.getElem_set]
 by_cases e : j = i
 ·rw [if_pos e.symm, if_pos e]
 rw [if_neg (fun h => e h.symm), if_neg e]
theorem round_l2 {l : List Int} (n : Nat) (h1 : 1 ≤ n) (h5 : n ≤ 5) (a s : Int) : ∀ (d i : Nat) (g : List (List Int)), n - i = d → i ≤ n → g.length = n → (∀ p : Nat, p < n → (rd_L2 g (p : Int)).length ≤ (if p < i then 4 else 3) ∧ (∀ q ∈ rd_L2 g (p : Int), 0 ≤ q ∧ q < (n : Int)) ∧ (p < i → Int.tmod ((p : Int) + 1) n ∈ rd_L2 g (p : Int))) →
  ∃ g', Ev (fun k => ye0.l2 k n n i l a s g) (g', a, s) ∧ Drn n g' := by
 intro d
 induction d with
 | zero =>
  intro i g hd hi hg hr
  refine ⟨g, ?_, .inr ⟨⟨hg, fun row hrow => ?_⟩, fun p hp => (hr p hp).2.2 (by omega)⟩⟩
  ·refine Ev.succ ?_
   simp only [ye0.l2]
   exact Ev.neg (by omega) (Ev.now _)
  ·obtain ⟨p, hp, rfl⟩ := List.getElem_of_mem hrow
   rw [← rdL_at hp]
   have := hr p (by omega)
   rw [if_pos (by omega)] at this
   exact ⟨this.1, this.2.1⟩
 | succ d ih =>
  intro i g hd hi hg hr
  have hri := hr i (by omega)
  rw [if_neg (Nat.lt_irrefl i)] at hri
  have m1 := tmod_in (x := (i : Int) + 1) (n := (n : Int)) (by omega) (by omega)
  obtain ⟨g', h2, h3⟩ := ih (i + 1) (g.set i (rd_L2 g (i : Int) ++ [Int.tmod ((i : Int) + 1) n])) (by omega) (by omega) (by rw [List.length_set]; exact hg) (fun p hp => by
   rw [rdL_setn (by omega)]
   by_cases e : p = i
   ·subst e
    rw [if_pos rfl, if_pos (by omega)]
    refine ⟨by rw [List.length_append]; simp; omega, fun q hq => ?_, fun _ => by simp⟩
    rcases List.mem_append.1 hq with h | h
    ·exact hri.2.1 q h
    ·rw [List.mem_singleton.1 h]; exact m1
   ·rw [if_neg e]
    have := hr p hp
    refine ⟨?_, this.2.1, fun h => this.2.2 (by omega)⟩
    have h4 := this.1
    split
    ·rw [if_pos (by omega)] at h4; exact h4
    ·rw [if_neg (by omega)] at h4; exact h4)
  refine ⟨g', ?_, h3⟩
  refine Ev.succ ?_
  simp only [ye0.l2]
  have e := wrap_nat (n := i) (by omega)
  refine Ev.pos (by omega) (Ev.pos (by omega) (Ev.pos (by omega) (Ev.neg (by omega) (Ev.pos (by omega) ?_))))
  rw [e, show ((i : Int)).toNat = i by omega]
  exact h2
theorem sure_l0 {l : List Int} (hl : Byt l) (n : Nat) (h1 : 1 ≤ n) (h5 : n ≤ 5) : ∀ (d i : Nat) (a s : Int) (acc : List (List Int)), n - i = d → i ≤ n → 0 ≤ a → a + 5 * d + 1 ≤ 1000000 → acc.length = i → (∀ row ∈ acc, row.length ≤ 3 ∧ ∀ q ∈ row, 0 ≤ q ∧ q < (n : Int)) →
  ∃ g a' s', Ev (fun k => ye0.l0 k n i l a s acc) (g, a', s') ∧ Drn n g ∧ a ≤ a' ∧ a' ≤ a + 5 * d + 1 := by
 intro d
 induction d with
 | zero =>
  intro i a s acc hd hi h0 hb ha hr
  obtain ⟨b, a1, s1, e1, l1, u1⟩ := one_ok hl (s := s) h0 (by omega) 2 (by omega)
  have hD : Dr n 3 acc := ⟨by omega, hr⟩
  cases b with
  | true =>
   obtain ⟨g, hg, hd2⟩ := round_l2 (l := l) n h1 h5 a1 s1 n 0 acc (by omega) (by omega) (by omega) (fun p hp => by
    rw [if_neg (by omega)]
    have := hD.at (p := (p : Int)) (by omega) (by omega)
    exact ⟨this.1, this.2, fun h => by omega⟩)
   refine ⟨g, a1, s1, ?_, hd2, by omega, by omega⟩
   refine Ev.succ ?_
   simp only [ye0.l0]
   refine Ev.neg (by omega) (Ev.bind0 e1 (Ev.pos rfl ?_))
   rw [show (acc.length : Int) = (n : Int) by omega]
   exact hg
  | false =>
   refine ⟨acc, a1, s1, ?_, .inl hD, by omega, by omega⟩
   refine Ev.succ ?_
   simp only [ye0.l0]
   exact Ev.neg (by omega) (Ev.bind0 e1 (Ev.neg (by simp) (Ev.now _)))
 | succ d ih =>
  intro i a s acc hd hi h0 hb ha hr
  have row : ∀ (e : Nat) (x : List Int) (a s : Int), 0 ≤ a → a + e + 1 + 5 * d + 1 ≤ 1000000 → x.length + e ≤ 3 → (∀ q ∈ x, 0 ≤ q ∧ q < (n : Int)) → ∃ g a' s', Ev (fun k => ye0.l1 k n i x e l a s acc) (g, a', s') ∧ Drn n g ∧ a ≤ a' ∧ a' ≤ a + e + 1 + 5 * d + 1 := by
   intro e
   induction e with
   | zero =>
    intro x a s h0 hb hx hq
    obtain ⟨b, a1, s1, e1, l1, u1⟩ := one_ok hl (s := s) h0 (by omega) 8 (by omega)
    have fin : ∀ y : List Int, (y.length ≤ 3 ∧ ∀ q ∈ y, 0 ≤ q ∧ q < (n : Int)) → ∃ g a' s', Ev (fun k => ye0.l0 k n ((i + 1 : Nat) : Int) l a1 s1 (acc ++ [y])) (g, a', s') ∧ Drn n g ∧ a1 ≤ a' ∧ a' ≤ a1 + 5 * d + 1 := fun y hy =>
     ih (i + 1) a1 s1 (acc ++ [y]) (by omega) (by omega) (by omega) (by omega) (by simp; omega) (fun r hrr => by
      rcases List.mem_append.1 hrr with h | h
      ·exact hr r h
      ·rw [List.mem_singleton.1 h]; exact hy)
    have e := wrap_nat (n := i) (by omega)
    cases b with
    | true =>
     obtain ⟨g, a2, s2, h2, h3, h4, h6⟩ := fin [] (by simp)
     refine ⟨g, a2, s2, ?_, h3, by omega, by omega⟩
     refine Ev.succ ?_
     simp only [ye0.l1]
     refine Ev.neg (by omega) (Ev.bind0 e1 (Ev.pos rfl (Ev.pos (by omega) ?_)))
     rw [e]; exact h2
    | false =>
     obtain ⟨g, a2, s2, h2, h3, h4, h6⟩ := fin x ⟨by omega, hq⟩
     refine ⟨g, a2, s2, ?_, h3, by omega, by omega⟩
     refine Ev.succ ?_
     simp only [ye0.l1]
     refine Ev.neg (by omega) (Ev.bind0 e1 (Ev.neg (by simp) (Ev.pos (by omega) ?_)))
     rw [e]; exact h2
   | succ e ihe =>
    intro x a s h0 hb hx hq
    obtain ⟨r, a1, s1, e1, r0, r1, l1, u1⟩ := pick_ok hl (s := s) h0 (by omega) (n : Int) (by omega)
    obtain ⟨g, a2, s2, h2, h3, h4, h6⟩ := ihe (x ++ [r]) a1 s1 (by omega) (by omega) (by rw [List.length_append]; simp; omega) (fun q hqq => by
     rcases List.mem_append.1 hqq with h | h
     ·exact hq q h
     ·rw [List.mem_singleton.1 h]; omega)
    refine ⟨g, a2, s2, ?_, h3, by omega, by omega⟩
    refine Ev.succ ?_
    simp only [ye0.l1]
    refine Ev.pos (by omega) (Ev.bind0 e1 (Ev.pos (by omega) ?_))
    rw [show wrap64 (((e + 1 : Nat) : Int) - 1) = (e : Int) by rw [wrap_id (by omega)]; omega]
    exact h2
  obtain ⟨r, a1, s1, e1, r0, r1, l1, u1⟩ := pick_ok hl (s := s) h0 (by omega) 3 (by omega)
  obtain ⟨e, he⟩ : ∃ e : Nat, wrap64 (1 + r) = (e : Int) ∧ e ≤ 3 := ⟨(1 + r).toNat, by rw [wrap_id (by omega)]; omega, by omega⟩
  obtain ⟨g, a2, s2, h2, h3, h4, h6⟩ := row e [] a1 s1 (by omega) (by omega) (by simp; omega) (fun q h => absurd h (by simp))
  refine ⟨g, a2, s2, ?_, h3, by omega, by omega⟩
  refine Ev.succ ?_
  simp only [ye0.l0]
  refine Ev.pos (by omega) (Ev.bind0 e1 ?_)
  rw [← he.1] at h2
  exact h2
theorem sure_ok {l : List Int} (hl : Byt l) {a s : Int} (h0 : 0 ≤ a) (hb : a ≤ 100000) : ∃ n g a' s', Ev (fun k => ye0.f k l a s 5) (g, a', s') ∧ 1 ≤ n ∧ n ≤ 5 ∧ Drn n g ∧ a ≤ a' ∧ a' ≤ a + 100 := by
 unfold ye0.f
 obtain ⟨r, a1, s1, e1, r0, r1, l1, u1⟩ := pick_ok hl (s := s) h0 (by omega) 5 (by omega)
 obtain ⟨n, hn, hn1, hn5⟩ : ∃ n : Nat, wrap64 (1 + r) = (n : Int) ∧ 1 ≤ n ∧ n ≤ 5 := ⟨(1 + r).toNat, by rw [wrap_id (by omega)]; omega, by omega, by omega⟩
 obtain ⟨b, a2, s2, e2, l2, u2⟩ := one_ok hl (s := s1) (a := a1) (by omega) (by omega) 4 (by omega)
 cases b with
 | true =>
  obtain ⟨b3, a3, s3, e3, l3, u3⟩ := one_ok hl (s := s2) (a := a2) (by omega) (by omega) 2 (by omega)
  obtain ⟨g, hg, hd⟩ := cyc_ok n hn1 (by omega) b3
  refine ⟨n, g, a3, s3, ?_, hn1, hn5, .inl (hd.le (by omega)), by omega, by omega⟩
  refine Ev.bind0 e1 (Ev.bind0 e2 (Ev.pos rfl (Ev.bind0 e3 ?_)))
  rw [← hn] at hg
  exact Ev.bind hg (Ev.now _)
 | false =>
  obtain ⟨g, a3, s3, h2, h3, h4, h6⟩ := sure_l0 hl n hn1 hn5 n 0 a2 s2 [] (by omega) (by omega) (by omega) (by omega) rfl (fun row h => absurd h (by simp))
  refine ⟨n, g, a3, s3, ?_, hn1, hn5, h3, by omega, by omega⟩
  refine Ev.bind0 e1 (Ev.bind0 e2 (Ev.neg (by simp) ?_))
  rw [← hn] at h2
  exact h2
theorem rnd_far {n m : Nat} {g : List (List Int)} (hd : Dr n m g) (h1 : 1 ≤ n) (h8 : n ≤ 8) (h5 : m ≤ 5) (hr : Rnd n g) {p s : Nat} (hp : p < n) (hs : s < n) : 0 ≤ rd (far g (p : Int)) (s : Int) := by
 have hg := hd.good h1 h8 h5
 have hl := hd.len
 obtain ⟨c1, c2⟩ := far_closed (place_of hg (i := p) (by omega))
 have key : ∀ j : Nat, 0 ≤ rd (far g (p : Int)) (((p + j) % n : Nat) : Int) := by
  intro j
  induction j with
  | zero => rw [Nat.add_zero, Nat.mod_eq_of_lt hp]; exact c1
  | succ j ih =>
   have hm := Nat.mod_lt (p + j) (show 0 < n by omega)
   have := c2 _ (by omega) (by omega) ih _ (hr _ hm)
   rw [show Int.tmod ((((p + j) % n : Nat) : Int) + 1) n = ((((p + j) % n + 1) % n : Nat) : Int) from rfl] at this
   rw [show (p + (j + 1)) % n = ((p + j) % n + 1) % n by rw [Nat.mod_add_mod, Nat.add_assoc]]
   exact this
 have := key (s + n - p)
 rw [show p + (s + n - p) = s + n by omega, Nat.add_mod_right, Nat.mod_eq_of_lt hs] at this
 exact this
theorem sunk_round {l : List Int} (hl : Byt l) {n m : Nat} {g : List (List Int)} (hd : Dr n m g) (h1 : 1 ≤ n) (h8 : n ≤ 8) (h5 : m ≤ 5) {i s : Nat} (hi : i < n) (hs : s < n) {a sd : Int} (h0 : 0 ≤ a) (hb : a ≤ 1000000) :
  ∃ x a1 s1, (∀ r, Ev (fun k => yb0.j1 k s i n i x l a1 s1 g) r → Ev (fun k => yb0.l0 k s n i l a sd g) r) ∧ (x = true → rd (far g (i : Int)) (s : Int) < 0) ∧ a ≤ a1 ∧ a1 ≤ a + 1 := by
 have hg := hd.good h1 h8 h5
 have hlen := hd.len
 have hp := place_of hg (i := i) (by omega)
 have hk := (far_len hp).len
 by_cases e : (i : Int) = (s : Int)
 ·refine ⟨false, a, sd, fun r hr => ?_, by simp, by omega, by omega⟩
  refine Ev.succ ?_
  simp only [yb0.l0]
  exact Ev.pos (by omega) (Ev.bind (grFar hp) (Ev.pos (by omega) (Ev.pos e hr)))
 by_cases hf : rd (far g (i : Int)) (s : Int) < 0
 rotate_left
 ·refine ⟨false, a, sd, fun r hr => ?_, by simp, by omega, by omega⟩
  refine Ev.succ ?_
  simp only [yb0.l0]
  exact Ev.pos (by omega) (Ev.bind (grFar hp) (Ev.pos (by omega) (Ev.neg e (Ev.bind (grFar hp) (Ev.pos (by omega) (Ev.pos (by omega) (Ev.neg hf hr)))))))
 obtain ⟨b, a1, s1, e1, l1, u1⟩ := one_ok hl (s := sd) h0 (by omega) 12 (by omega)
 refine ⟨!b, a1, s1, fun r hr => ?_, fun _ => hf, l1, u1⟩
 refine Ev.succ ?_
 simp only [yb0.l0]
 exact Ev.pos (by omega) (Ev.bind (grFar hp) (Ev.pos (by omega) (Ev.neg e (Ev.bind (grFar hp) (Ev.pos (by omega) (Ev.pos (by omega) (Ev.pos hf (Ev.bind0 e1 hr))))))))
theorem sunk_few {l : List Int} (hl : Byt l) {n : Nat} (h1 : 1 ≤ n) (h8 : n ≤ 8) {s : Nat} (hs : s < n) : ∀ (d i : Nat) (g : List (List Int)) (a sd : Int), n - i = d → i ≤ n → g.length = n → 0 ≤ a → a + d ≤ 1000000 → (∀ p : Nat, p < n → (rd_L2 g (p : Int)).length ≤ (if p < i then 4 else 3) ∧ ∀ q ∈ rd_L2 g (p : Int), 0 ≤ q ∧ q < (n : Int)) →
  ∃ g' a' s', Ev (fun k => yb0.l0 k s n i l a sd g) (g', (s : Int), a', s') ∧ Dr n 4 g' ∧ a ≤ a' ∧ a' ≤ a + d := by
 intro d
 induction d with
 | zero =>
  intro i g a sd hd hi hg h0 hb hr
  refine ⟨g, a, sd, ?_, ⟨hg, fun row hrow => ?_⟩, by omega, by omega⟩
  ·refine Ev.succ ?_
   simp only [yb0.l0]
   exact Ev.neg (by omega) (Ev.now _)
  ·obtain ⟨p, hp, rfl⟩ := List.getElem_of_mem hrow
   rw [← rdL_at hp]
   have := hr p (by omega)
   rw [if_pos (by omega)] at this
   exact this
 | succ d ih =>
  intro i g a sd hd hi hg h0 hb hr
  have hD : Dr n 4 g := ⟨hg, fun row hrow => by
   obtain ⟨p, hp, rfl⟩ := List.getElem_of_mem hrow
   rw [← rdL_at hp]
   have := hr p (by omega)
   refine ⟨?_, this.2⟩
   have h4 := this.1
   split at h4 <;> omega⟩
  obtain ⟨x, a1, s1, hj, _, l1, u1⟩ := sunk_round hl hD h1 h8 (by omega) (i := i) (s := s) (by omega) hs (sd := sd) h0 (by omega)
  have hri := hr i (by omega)
  rw [if_neg (Nat.lt_irrefl i)] at hri
  have e := wrap_nat (n := i) (by omega)
  cases x with
  | false =>
   obtain ⟨g', a2, s2, h2, h3, h4, h6⟩ := ih (i + 1) g a1 s1 (by omega) (by omega) hg (by omega) (by omega) (fun p hp => by
    have := hr p hp
    refine ⟨?_, this.2⟩
    have h4 := this.1
    split at h4
    ·rw [if_pos (by omega)]; exact h4
    ·split <;> omega)
   refine ⟨g', a2, s2, hj _ ?_, h3, by omega, by omega⟩
   refine Ev.succ ?_
   simp only [yb0.j1]
   refine Ev.neg (by simp) ?_
   rw [e]; exact h2
  | true =>
   obtain ⟨g', a2, s2, h2, h3, h4, h6⟩ := ih (i + 1) (g.set i (rd_L2 g (i : Int) ++ [(s : Int)])) a1 s1 (by omega) (by omega) (by rw [List.length_set]; exact hg) (by omega) (by omega) (fun p hp => by
    rw [rdL_setn (by omega)]
    by_cases e : p = i
    ·subst e
     rw [if_pos rfl, if_pos (by omega)]
     refine ⟨by rw [List.length_append]; simp; omega, fun q hq => ?_⟩
     rcases List.mem_append.1 hq with h | h
     ·exact hri.2 q h
     ·rw [List.mem_singleton.1 h]; omega
    ·rw [if_neg e]
     have := hr p hp
     refine ⟨?_, this.2⟩
     have h4 := this.1
     split at h4
     ·rw [if_pos (by omega)]; exact h4
     ·rw [if_neg (by omega)]; exact h4)
   refine ⟨g', a2, s2, hj _ ?_, h3, by omega, by omega⟩
   refine Ev.succ ?_
   simp only [yb0.j1]
   refine Ev.pos trivial (Ev.pos (by omega) (Ev.pos (by omega) (Ev.pos (by omega) (Ev.bind0 (own_ev _ (by omega)) (Ev.bind0 rfl (Ev.pos (by simp; omega) ?_))))))
   rw [e, show ((i : Int)).toNat = i by omega]
   exact h2
theorem sunk_rnd {l : List Int} (hl : Byt l) {n : Nat} (h1 : 1 ≤ n) (h8 : n ≤ 8) {s : Nat} (hs : s < n) {g : List (List Int)} (hD : Dr n 4 g) (hr : Rnd n g) : ∀ (d i : Nat) (a sd : Int), n - i = d → i ≤ n → 0 ≤ a → a + d ≤ 1000000 →
  ∃ a' s', Ev (fun k => yb0.l0 k s n i l a sd g) (g, (s : Int), a', s') ∧ a ≤ a' ∧ a' ≤ a + d := by
 have hlen := hD.len
 intro d
 induction d with
 | zero =>
  intro i a sd hd hi h0 hb
  refine ⟨a, sd, ?_, by omega, by omega⟩
  refine Ev.succ ?_
  simp only [yb0.l0]
  exact Ev.neg (by omega) (Ev.now _)
 | succ d ih =>
  intro i a sd hd hi h0 hb
  obtain ⟨x, a1, s1, hj, hx, l1, u1⟩ := sunk_round hl hD h1 h8 (by omega) (i := i) (s := s) (by omega) hs (sd := sd) h0 (by omega)
  have hf := rnd_far hD h1 h8 (by omega) hr (p := i) (s := s) (by omega) hs
  obtain ⟨a2, s2, h2, h4, h6⟩ := ih (i + 1) a1 s1 (by omega) (by omega) (by omega) (by omega)
  refine ⟨a2, s2, hj _ ?_, by omega, by omega⟩
  have e := wrap_nat (n := i) (by omega)
  cases x with
  | false =>
   refine Ev.succ ?_
   simp only [yb0.j1]
   refine Ev.neg (by simp) ?_
   rw [e]; exact h2
  | true => have := hx rfl; omega
theorem sunk_ok {l : List Int} (hl : Byt l) {a sd : Int} (h0 : 0 ≤ a) (hb : a ≤ 100000) : ∃ (n s : Nat) (g : List (List Int)) (a' s' : Int), Ev (fun k => yb0.f k l a sd) (g, (s : Int), a', s') ∧ 1 ≤ n ∧ n ≤ 5 ∧ Dr n 4 g ∧ s < n ∧ a ≤ a' ∧ a' ≤ a + 200 := by
 unfold yb0.f
 obtain ⟨n, g, a1, s1, hg, hn1, hn5, hD, l1, u1⟩ := sure_ok hl (s := sd) h0 hb
 have hlen : g.length = n := by rcases hD with h | h; exact h.len; exact h.1.len
 obtain ⟨r, a2, s2, e2, r0, r1, l2, u2⟩ := pick_ok hl (s := s1) (a := a1) (by omega) (by omega) (g.length : Int) (by omega)
 obtain ⟨s, hs, hsn⟩ : ∃ s : Nat, r = (s : Int) ∧ s < n := ⟨r.toNat, by omega, by omega⟩
 subst hs
 have fin : ∃ g' a' s', Ev (fun k => yb0.l0 k s n ((0 : Nat) : Int) l a2 s2 g) (g', (s : Int), a', s') ∧ Dr n 4 g' ∧ a2 ≤ a' ∧ a' ≤ a2 + n := by
  rcases hD with hD | ⟨hD, hr⟩
  ·exact sunk_few hl hn1 (by omega) hsn n 0 g a2 s2 (by omega) (by omega) hlen (by omega) (by omega) (fun p hp => by
    rw [if_neg (by omega)]; exact hD.at (by omega) (by omega))
  ·obtain ⟨a', s', h2, h3, h4⟩ := sunk_rnd hl hn1 (by omega) hsn hD hr n 0 a2 s2 (by omega) (by omega) (by omega) (by omega)
   exact ⟨g, a', s', h2, hD, h3, h4⟩
 obtain ⟨g', a', s', h2, h3, h4, h5⟩ := fin
 refine ⟨n, s, g', a', s', ?_, hn1, hn5, h3, hsn, by omega, by omega⟩
 rw [← hlen] at h2
 exact Ev.bind hg (Ev.bind0 e2 h2)
theorem heap_l0 {l : List Int} (hl : Byt l) {n s : Nat} (h5 : n ≤ 5) (h1 : 1 ≤ n) (most : Int) (hm : most ≤ 200) {g : List (List Int)} : ∀ (d i : Nat) (c : List Int) (a sd : Int), n - i = d → i ≤ n → c.length = i → (∀ x ∈ c, okI x) → 0 ≤ a → a + 2 * d + 3 ≤ 1000000 →
  ∃ c' a' s', Ev (fun k => yi0.l0 k most s c n i l a sd g) (g, (s : Int), c', a', s') ∧ c'.length ≤ 6 ∧ (∀ x ∈ c', okI x) ∧ a ≤ a' ∧ a' ≤ a + 2 * d + 3 := by
 intro d
 induction d with
 | zero =>
  intro i c a sd hd hi hc hok h0 hb
  obtain ⟨r, a1, s1, e1, r0, r1, l1, u1⟩ := pick_ok hl (s := sd) h0 (by omega) 18 (by omega)
  by_cases h : r = 0
  ·obtain ⟨p, a2, s2, e2, p0, p1, l2, u2⟩ := pick_ok hl (s := s1) (a := a1) (by omega) (by omega) (c.length : Int) (by omega)
   obtain ⟨v, a3, s3, e3, hv, l3, u3⟩ := among_ok hl (s := s2) (a := a2) (by omega) (by omega) [-1, 20, 21, 4611686018427387904] (by simp) (by simp)
   refine ⟨c.set p.toNat v, a3, s3, ?_, by rw [List.length_set]; omega, fun x hx => ?_, by omega, by omega⟩
   ·refine Ev.succ ?_
    simp only [yi0.l0]
    exact Ev.neg (by omega) (Ev.bind0 e1 (Ev.pos h (Ev.bind0 e2 (Ev.bind0 e3 (Ev.pos p0 (Ev.pos (by omega) (Ev.now _)))))))
   ·rcases List.mem_or_eq_of_mem_set hx with h | h
    ·exact hok x h
    ·subst h
     simp only [List.mem_cons, List.not_mem_nil, or_false] at hv
     unfold okI; omega
  by_cases h2 : r = 1
  rotate_left
  ·refine ⟨c, a1, s1, ?_, by omega, hok, by omega, by omega⟩
   refine Ev.succ ?_
   simp only [yi0.l0]
   exact Ev.neg (by omega) (Ev.bind0 e1 (Ev.neg h (Ev.neg h2 (Ev.now _))))
  refine ⟨c ++ [0], a1, s1, ?_, by rw [List.length_append]; simp; omega, fun x hx => ?_, by omega, by omega⟩
  ·refine Ev.succ ?_
   simp only [yi0.l0]
   exact Ev.neg (by omega) (Ev.bind0 e1 (Ev.neg h (Ev.pos h2 (Ev.pos (by omega) (Ev.now _)))))
  ·rcases List.mem_append.1 hx with h | h
   ·exact hok x h
   ·rw [List.mem_singleton.1 h]; unfold okI; omega
 | succ d ih =>
  intro i c a sd hd hi hc hok h0 hb
  have e := wrap_nat (n := i) (by omega)
  have next : ∀ (v : Int) (a1 s1 : Int), okI v → a ≤ a1 → a1 ≤ a + 2 → ∃ c' a' s', Ev (fun k => yi0.l0 k most s (c ++ [v]) n ((i + 1 : Nat) : Int) l a1 s1 g) (g, (s : Int), c', a', s') ∧ c'.length ≤ 6 ∧ (∀ x ∈ c', okI x) ∧ a1 ≤ a' ∧ a' ≤ a1 + 2 * d + 3 := fun v a1 s1 hv l1 u1 =>
   ih (i + 1) (c ++ [v]) a1 s1 (by omega) (by omega) (by simp; omega) (fun x hx => by
    rcases List.mem_append.1 hx with h | h
    ·exact hok x h
    ·rw [List.mem_singleton.1 h]; exact hv) (by omega) (by omega)
  by_cases hs : (i : Int) = (s : Int)
  rotate_left
  ·obtain ⟨r, a2, s2, e2, r0, r1, l2, u2⟩ := pick_ok hl (s := sd) h0 (by omega) most hm
   obtain ⟨c', a3, s3, h2, h3, h4, h6, h7⟩ := next r a2 s2 (by unfold okI; omega) (by omega) (by omega)
   refine ⟨c', a3, s3, ?_, h3, h4, by omega, by omega⟩
   refine Ev.succ ?_
   simp only [yi0.l0]
   refine Ev.pos (by omega) (Ev.neg hs (Ev.bind0 e2 (Ev.pos (by omega) ?_)))
   rw [e]; exact h2
  obtain ⟨b, a1, s1, e1, l1, u1⟩ := one_ok hl (s := sd) h0 (by omega) 12 (by omega)
  cases b with
  | true =>
   obtain ⟨r, a2, s2, e2, r0, r1, l2, u2⟩ := pick_ok hl (s := s1) (a := a1) (by omega) (by omega) most hm
   obtain ⟨c', a3, s3, h2, h3, h4, h6, h7⟩ := next r a2 s2 (by unfold okI; omega) (by omega) (by omega)
   refine ⟨c', a3, s3, ?_, h3, h4, by omega, by omega⟩
   refine Ev.succ ?_
   simp only [yi0.l0]
   refine Ev.pos (by omega) (Ev.pos hs (Ev.bind0 e1 (Ev.pos rfl (Ev.bind0 e2 (Ev.pos (by omega) ?_)))))
   rw [e]; exact h2
  | false =>
   obtain ⟨c', a3, s3, h2, h3, h4, h6, h7⟩ := next 0 a1 s1 (by unfold okI; omega) (by omega) (by omega)
   refine ⟨c', a3, s3, ?_, h3, h4, by omega, by omega⟩
   refine Ev.succ ?_
   simp only [yi0.l0]
   refine Ev.pos (by omega) (Ev.pos hs (Ev.bind0 e1 (Ev.neg (by simp) (Ev.pos (by omega) ?_))))
   rw [e]; exact h2
theorem heap_ok {l : List Int} (hl : Byt l) {a sd : Int} (h0 : 0 ≤ a) (hb : a ≤ 100000) (most : Int) (hm : most ≤ 200) : ∃ (n s : Nat) (g : List (List Int)) (c : List Int) (a' s' : Int), Ev (fun k => yi0.f k l a sd most) (g, (s : Int), c, a', s') ∧ 1 ≤ n ∧ n ≤ 5 ∧ Dr n 4 g ∧ s < n ∧ c.length ≤ 6 ∧ (∀ x ∈ c, okI x) ∧ a ≤ a' ∧ a' ≤ a + 300 := by
 unfold yi0.f
 obtain ⟨n, s, g, a1, s1, hg, hn1, hn5, hD, hs, l1, u1⟩ := sunk_ok hl (sd := sd) h0 hb
 obtain ⟨c, a2, s2, h2, h3, h4, h6, h7⟩ := heap_l0 hl (s := s) hn5 hn1 most hm (g := g) n 0 [] a1 s1 (by omega) (by omega) rfl (fun x h => absurd h (by simp)) (by omega) (by omega)
 refine ⟨n, s, g, c, a2, s2, ?_, hn1, hn5, hD, hs, h3, h4, by omega, by omega⟩
 rw [← hD.len] at h2
 exact Ev.bind hg h2
theorem place_ok {l : List Int} (hl : Byt l) {a sd : Int} (h0 : 0 ≤ a) (hb : a ≤ 100000) {g : List (List Int)} (h1 : 1 ≤ g.length) (h8 : g.length ≤ 8) : ∃ p a' s', Ev (fun k => yj0.f k l a sd g) (p, a', s') ∧ okI p := by
 unfold yj0.f
 obtain ⟨b, a1, s1, e1, l1, u1⟩ := one_ok hl (s := sd) h0 (by omega) 14 (by omega)
 cases b with
 | true =>
  obtain ⟨v, a3, s3, e3, hv, l3, u3⟩ := among_ok hl (s := s1) (a := a1) (by omega) (by omega) [-1, 0, (g.length : Int), 4611686018427387904] (by simp) (by simp)
  refine ⟨v, a3, s3, ?_, ?_⟩
  ·refine Ev.neg (by omega) (Ev.bind0 e1 (Ev.succ ?_))
   simp only [yj0.j0]
   exact Ev.pos trivial (Ev.bind0 e3 (Ev.now _))
  ·simp only [List.mem_cons, List.not_mem_nil, or_false] at hv
   unfold okI; omega
 | false =>
  obtain ⟨p, a2, s2, e2, p0, p1, l2, u2⟩ := pick_ok hl (s := s1) (a := a1) (by omega) (by omega) (g.length : Int) (by omega)
  refine ⟨p, a2, s2, ?_, by unfold okI; omega⟩
  refine Ev.neg (by omega) (Ev.bind0 e1 (Ev.succ ?_))
  simp only [yj0.j0]
  exact Ev.neg (by simp) (Ev.bind0 e2 (Ev.now _))
structure Hd (g : List (List Int)) (c : List Int) : Prop where
 ok : okSS g
 cok : okIs c
 c6 : c.length ≤ 6
theorem Hd.of {n : Nat} {g : List (List Int)} {c : List Int} (h5 : n ≤ 5) (hD : Dr n 4 g) (hc : c.length ≤ 6) (ho : ∀ x ∈ c, okI x) : Hd g c := ⟨hD.ok (by omega) (by omega), ⟨by omega, ho⟩, hc⟩
theorem drawStable {l : List Int} (hl : Byt l) : ∃ g s c, Ev (fun k => yi1.f k l) (g, s, c) ∧ Hd g c := by
 obtain ⟨n, s, g, c, a, sd, h, h1, h5, hD, hs, hc, ho, _, _⟩ := heap_ok hl (a := 0) (sd := 0) (by omega) (by omega) 8 (by omega)
 refine ⟨g, s, c, ?_, Hd.of h5 hD hc ho⟩
 unfold yi1.f yx1.f
 exact Ev.bind (Ev.bind h (Ev.now _)) (Ev.now _)
theorem drawIs {l : List Int} (hl : Byt l) : ∃ g s c, Ev (fun k => yc1.f k l) (g, s, c) ∧ Hd g c := by
 obtain ⟨n, s, g, c, a, sd, h, h1, h5, hD, hs, hc, ho, _, _⟩ := heap_ok hl (a := 0) (sd := 0) (by omega) (by omega) 4 (by omega)
 refine ⟨g, s, c, ?_, Hd.of h5 hD hc ho⟩
 unfold yc1.f yy1.f
 exact Ev.bind (Ev.bind h (Ev.now _)) (Ev.now _)
theorem drawTopple {l : List Int} (hl : Byt l) : ∃ g s c p, Ev (fun k => yl1.f k l) (g, s, c, p) ∧ Hd g c := by
 obtain ⟨n, s, g, c, a, sd, h, h1, h5, hD, hs, hc, ho, l1, u1⟩ := heap_ok hl (a := 0) (sd := 0) (by omega) (by omega) 6 (by omega)
 have H := Hd.of h5 hD hc ho
 have hlen := hD.len
 have pl : ∀ a1 s1 : Int, 0 ≤ a1 → a1 ≤ 1000 → ∃ p a' s', Ev (fun k => yj0.f k l a1 s1 g) (p, a', s') ∧ okI p := fun a1 s1 h0 h1 => place_ok hl h0 (by omega) (by omega) (by omega)
 unfold yl1.f yg1.f
 by_cases hh : heapB g s c = true
 rotate_left
 ·obtain ⟨p, a3, s3, e3, _⟩ := pl a sd (by omega) (by omega)
  exact ⟨g, s, c, p, Ev.bind (Ev.bind h (Ev.bind (chHeap_ev g H.ok s c H.cok) (Ev.neg hh (Ev.bind e3 (Ev.now _))))) (Ev.now _), H⟩
 obtain ⟨_, hcl, _⟩ := heap_iff hh
 have hch := chHigh_ev (g := g) (by omega) s c hcl
 by_cases hp : high g s c ≥ 0
 rotate_left
 ·obtain ⟨p, a3, s3, e3, _⟩ := pl a sd (by omega) (by omega)
  exact ⟨g, s, c, p, Ev.bind (Ev.bind h (Ev.bind (chHeap_ev g H.ok s c H.cok) (Ev.pos hh (Ev.bind hch (Ev.neg hp (Ev.bind e3 (Ev.now _))))))) (Ev.now _), H⟩
 obtain ⟨b, a2, s2, e2, l2, u2⟩ := one_ok hl (s := sd) (a := a) (by omega) (by omega) 2 (by omega)
 cases b with
 | true => exact ⟨g, s, c, high g s c, Ev.bind (Ev.bind h (Ev.bind (chHeap_ev g H.ok s c H.cok) (Ev.pos hh (Ev.bind hch (Ev.pos hp (Ev.bind0 e2 (Ev.pos rfl (Ev.now _)))))))) (Ev.now _), H⟩
 | false =>
  obtain ⟨p, a3, s3, e3, _⟩ := pl a2 s2 (by omega) (by omega)
  exact ⟨g, s, c, p, Ev.bind (Ev.bind h (Ev.bind (chHeap_ev g H.ok s c H.cok) (Ev.pos hh (Ev.bind hch (Ev.pos hp (Ev.bind0 e2 (Ev.neg (by simp) (Ev.bind e3 (Ev.now _))))))))) (Ev.now _), H⟩
end Go.Proofs.Ytdfabioienofhaa.M
namespace Go.Proofs.Ytdfabioienofhaa.Pure
set_option maxHeartbeats 8000000
set_option maxRecDepth 100000
open Go.RowKit Go.Proofs.Ytdfabioienofhaa.P Go.Proofs.Ytdfabioienofhaa.In Go.Proofs.Ytdfabioienofhaa.M Go.Proofs.YtdfabioienofhaaW.PrintWords Go.Proofs.YtdfabioienofhaaW.PrintLast
set_option linter.unusedVariables false
set_option linter.unusedSimpArgs false
open DetKit
theorem big_ev (l0 l1 : List Int) (h0 : l0.length ≤ 9223372036854775807) (h1 : l1.length ≤ 9223372036854775807) : ∃ b, yz1.f l0 l1 = some b ∧ (b = false → l0.length ≤ 1048576 ∧ l1.length ≤ 1048576) := by
 unfold yz1.f
 by_cases h : (l0.length : Int) > 1048576
 ·rw [if_pos h]; exact ⟨true, rfl, by simp⟩
 rw [if_neg h, wrap_id (by omega)]
 refine ⟨_, rfl, fun hb => ?_⟩
 have := of_decide_eq_false hb
 omega
theorem rd_mem {c : List Int} {n : Nat} (hc : c.length = n) {P : Int → Prop} (h : ∀ x ∈ c, P x) : ∀ q : Nat, q < n → P (rd c (q : Int)) := fun q hq => by
 rw [rd_at (by omega)]; exact h _ (List.getElem_mem _)
theorem heap_sink {g : List (List Int)} {s : Int} {c : List Int} (h : heapB g s c = true) : ∃ t : Nat, s = (t : Int) ∧ t < g.length ∧ rd c s = 0 := by
 obtain ⟨h1, h2, h3⟩ := heap_iff h
 obtain ⟨_, h0, hlt⟩ := place_iff (sunk_iff h1).1
 refine ⟨s.toNat, by omega, by omega, ?_⟩
 unfold heapB at h
 simp only [Bool.and_eq_true, beq_iff_eq] at h
 exact h.2.2
theorem heap_of {g : List (List Int)} {s : Int} {c c' : List Int} (h : heapB g s c = true) (hl : c'.length = g.length) (hb : ∀ q : Nat, q < g.length → 0 ≤ rd c' (q : Int) ∧ rd c' (q : Int) ≤ 20) (h0 : rd c' s = 0) : heapB g s c' = true := by
 unfold heapB at h ⊢
 simp only [Bool.and_eq_true, decide_eq_true_eq, List.all_eq_true, beq_iff_eq] at h ⊢
 refine ⟨h.1, ⟨hl, fun x hx => ?_⟩, h0⟩
 obtain ⟨i, hi, rfl⟩ := List.getElem_of_mem hx
 have := hb i (by omega)
 rw [rd_at hi] at this
 exact this
theorem settled {g : List (List Int)} (hg : goodG g = true) {s : Nat} (hs : s < g.length) {B : Int} {x : Nat → Int} {c t : List Int} {U : Nat → Int} {K : Nat} (r : Run g s B x c t U K) (hst : Stb (g.length - 1) (dd g s) (aft (g.length - 1) (LL g s) x U)) : fst g (s : Int) c g.length 0 = g.length ∧ ∀ q : Nat, q < g.length → q ≠ s → rd c (q : Int) ≤ 20 := by
 have hlt : ∀ q : Nat, q < g.length → q ≠ s → rd c (q : Int) < ((rd_L2 g (q : Int)).length : Int) := fun q hq hqs => by
  have h := hst (usk s q) (usk_lt hq hs hqs)
  rw [← r.ce _ (usk_lt hq hs hqs)] at h
  unfold vec dd at h
  rw [skip_usk hqs] at h
  exact h
 refine ⟨fst_stop (fun j hj => ?_), fun q hq hqs => by have := hlt q hq hqs; have := (row_good hg hq).1; omega⟩
 apply Bool.eq_false_iff.2
 intro hc
 obtain ⟨h1, h2⟩ := can_iff.1 hc
 have := hlt j hj h1
 omega
theorem sett_stop {g : List (List Int)} {s : Int} {c t : List Int} (h : fst g s c g.length 0 = g.length) (m : Nat) : sett g s m c t = (c, t, true) := by
 cases m <;> simp only [sett] <;> rw [if_pos h]
theorem last_ev {l1 : List Int} (hl : Byt l1) : ∃ g s c, Ev (fun k => yc1.f k l1) (g, s, c) ∧ Ev (fun k => yw0.f k g s c) (isR g s c) ∧ Ev (fun k => yy0.f k g s c) (isR g s c) := by
 obtain ⟨g, s, c, h, H⟩ := drawIs hl
 exact ⟨g, s, c, h, isI g s c, isS H.ok s H.cok⟩
theorem j6_ev {l1 : List Int} (hl : Byt l1) : Ev (fun k => ya0.j6 k l1 false) true := by
 obtain ⟨g, s, c, h1, h2, h3⟩ := last_ev hl
 refine Ev.succ ?_
 simp only [ya0.j6]
 refine Ev.neg (by simp) (Ev.bind h1 (Ev.bind h2 (Ev.bind h3 (Ev.pos (by simp) ((Ev.now _).val (by simp))))))
theorem two_ways {g : List (List Int)} {s : Int} {c : List Int} {p : Int} (h : heapB g s c = true) (hp : placeB g p = true) (hcan : canB g s c p = true) (ht : heapB g s (topp g s c p) = true) (h1 : (sett g s 4000 c (zs g)).2.2 = true) (h2 : (sett g s 4000 (topp g s c p) (zs g)).2.2 = true) : (sett g s 4000 c (zs g)).1 = (sett g s 4000 (topp g s c p) (zs g)).1 := by
 obtain ⟨hg, h8, hc⟩ := heap_good h
 obtain ⟨_, hct, hbt⟩ := heap_iff ht
 obtain ⟨_, _, hb⟩ := heap_iff h
 obtain ⟨t, rfl, hts, hs0⟩ := heap_sink h
 obtain ⟨_, _, _, hs1⟩ := heap_sink ht
 obtain ⟨_, p0, p1⟩ := place_iff hp
 obtain ⟨q, rfl⟩ : ∃ q : Nat, p = (q : Int) := ⟨p.toNat, by omega⟩
 have hq : q < g.length := by omega
 have r1 := Run.start (g := g) (s := t) (B := 20) hc (rd_mem hc hb)
 have r2 := Run.start (g := g) (s := t) (B := 20) hct (rd_mem hct hbt)
 obtain ⟨U, K, ru, su, eu, _, _⟩ := sett_ok hg hts (by omega) 4000 c (zs g) _ 0 r1 (by omega) h1
 obtain ⟨V, J, rv, sv, ev, _, _⟩ := sett_ok hg hts (by omega) 4000 _ (zs g) _ 0 r2 (by omega) h2
 obtain ⟨rs, _, _⟩ := r1.step hg hts (by omega) (by omega) hq hcan
 have sb : Stz (g.length - 1) (LL g t) (dd g t) (vec t c) (fun i => bump (fun _ => 0) (usk t q) i + V i) := by
  refine Stz.behind rs.leg (Stz.congr (x := vec t (topp g (t : Int) c (q : Int))) (fun j hj => rs.ce j hj) ⟨⟨J, rv.leg⟩, sv⟩)
 have su2 : Stz (g.length - 1) (LL g t) (dd g t) (vec t c) U := ⟨⟨K, ru.leg⟩, su⟩
 refine ext_vec (s := t) (by rw [ru.cl, rv.cl]) (by rw [ru.cl]; exact hts) (by rw [eu, ev, hs0, hs1]) (fun i hi => ?_)
 rw [ru.cl] at hi
 rw [ru.ce i hi, rv.ce i hi, su2.end_ (fun i j _ _ hij => LL_off g t i j hij) sb i, ← aft_aft]
 exact aft_congr (rs.ce i hi).symm (fun _ _ => rfl)
theorem j4_ev {l1 : List Int} (hl : Byt l1) : Ev (fun k => ya0.j4 k l1) true := by
 obtain ⟨g, s, c, p, h1, H⟩ := drawTopple hl
 have hlen : (tpR g s c p).1.length ≤ 8 := by
  unfold tpR toppR
  split
  ·rename_i h
   split
   ·show (topp g s c p).length ≤ 8
    rw [topp_len]; have := heap_good h.1; omega
   ·simp
  ·simp
 refine Ev.succ ?_
 simp only [ya0.j4]
 refine Ev.bind h1 (Ev.bind (tpI g s c p) (Ev.bind (tpS H.ok s H.cok p) (Ev.neg (by simp) (Ev.bind ((xSame_ev _ _ (by omega)).val (decide_eq_true rfl)) ?_))))
 refine Ev.succ ?_
 simp only [ya0.j5]
 refine Ev.neg (by simp) ?_
 by_cases ht : (tpR g s c p).2 = true
 rotate_left
 ·obtain ⟨g2, s2, c2, h4, h5, h6⟩ := last_ev hl
  exact Ev.neg ht (Ev.bind h4 (Ev.bind h5 (Ev.bind h6 (Ev.pos (by simp) ((Ev.now _).val (by simp))))))
 refine Ev.pos ht (Ev.bind (stabI g s c) (Ev.bind (stabI g s (tpR g s c p).1) ?_))
 have hcond : heapB g s c = true ∧ placeB g p = true ∧ canB g s c p = true := by
  unfold tpR at ht
  apply Classical.byContradiction
  intro hn
  rw [if_neg hn] at ht
  exact absurd ht (by simp)
 have ht1 : (tpR g s c p).1 = topp g s c p := by
  unfold tpR at ht ⊢
  rw [if_pos hcond] at ht ⊢
  unfold toppR at ht ⊢
  split
  ·rfl
  ·rename_i hn; rw [if_neg hn] at ht; exact absurd ht (by simp)
 rw [ht1]
 by_cases ha : (stabR g s c).2 = true
 rotate_left
 ·exact Ev.neg ha (j6_ev hl)
 refine Ev.pos ha ?_
 by_cases hb : (stabR g s (topp g s c p)).2 = true
 rotate_left
 ·exact Ev.neg hb (j6_ev hl)
 refine Ev.pos hb ?_
 have hc2 : heapB g s (topp g s c p) = true := by
  apply Classical.byContradiction
  intro hn
  unfold stabR at hb
  rw [if_neg hn] at hb
  exact absurd hb (by simp)
 have e : (stabR g s c).1 = (stabR g s (topp g s c p)).1 := by
  unfold stabR at ha hb ⊢
  rw [if_pos hcond.1] at ha ⊢
  rw [if_pos hc2] at hb ⊢
  exact two_ways hcond.1 hcond.2.1 hcond.2.2 hc2 ha hb
 have hl8 : (stabR g s c).1.length ≤ 8 := by
  unfold stabR
  rw [if_pos hcond.1]
  have hh := heap_good hcond.1
  have := (sett_len (g := g) (sink := s) 4000 c (zs g) hh.2.2 (by simp [zs])).1
  show (sett g s 4000 c (zs g)).1.length ≤ 8
  omega
 exact Ev.bind ((xSame_ev _ _ (by omega)).val (decide_eq_true e)) (j6_ev hl)
theorem FnHeapsTopple (l0 : List Int) (h0 : okBy l0) (l1 : List Int) (h1 : okBy l1) : ∃ k, ya0.f k l0 l1 = some true := by
 refine Ev.rounds (g := fun k => ya0.f k l0 l1) ?_
 unfold ya0.f
 obtain ⟨b, hb, hbl⟩ := big_ev l0 l1 h0.1 h1.1
 refine Ev.bind0 hb ?_
 cases b with
 | true => exact Ev.pos rfl (Ev.now _)
 | false =>
  have hB := hbl rfl
  have b0 : Byt l0 := ⟨hB.1, h0.2⟩
  have b1 : Byt l1 := ⟨hB.2, h1.2⟩
  obtain ⟨g, s, c, hd, H⟩ := drawStable b0
  have hl8 : (stabR g s c).1.length ≤ 8 ∧ (timeR g s c).1.length ≤ 8 := by
   unfold stabR timeR
   by_cases h : heapB g s c = true
   rotate_left
   ·rw [if_neg h, if_neg h]; exact ⟨by simp, by simp⟩
   rw [if_pos h, if_pos h]
   have hh := heap_good h
   have := sett_len (g := g) (sink := s) 4000 c (zs g) hh.2.2 (by simp [zs])
   show (sett g s 4000 c (zs g)).1.length ≤ 8 ∧ (sett g s 4000 c (zs g)).2.1.length ≤ 8
   omega
  have e2 : (timeR g s c).2 = (stabR g s c).2 := by unfold timeR stabR; split <;> rfl
  refine Ev.neg (by simp) (Ev.bind hd (Ev.bind (stabI g s c) (Ev.bind (stabS H.ok s H.cok) (Ev.bind (timeI g s c) (Ev.bind (timeS H.ok s H.cok) ?_)))))
  refine Ev.neg (by simp) (Ev.bind ((xSame_ev _ _ (by omega)).val (decide_eq_true rfl)) (Ev.pos rfl (Ev.neg (by simp) (Ev.bind ((xSame_ev _ _ (by omega)).val (decide_eq_true rfl)) (Ev.pos rfl ?_)))))
  rw [show ((timeR g s c).2 != (stabR g s c).2) = false by rw [e2]; simp]
  refine Ev.succ ?_
  simp only [ya0.j0]
  refine Ev.neg (by simp) ?_
  by_cases hok : (stabR g s c).2 = true
  rotate_left
  ·exact Ev.neg hok (j4_ev b1)
  have h : heapB g s c = true := by
   apply Classical.byContradiction
   intro hn
   unfold stabR at hok
   rw [if_neg hn] at hok
   exact absurd hok (by simp)
  obtain ⟨hg, h8, hc⟩ := heap_good h
  obtain ⟨_, _, hbd⟩ := heap_iff h
  obtain ⟨t, rfl, hts, hs0⟩ := heap_sink h
  have r1 := Run.start (g := g) (s := t) (B := 20) hc (rd_mem hc hbd)
  have hset : (sett g (t : Int) 4000 c (zs g)).2.2 = true := by unfold stabR at hok; rw [if_pos h] at hok; exact hok
  obtain ⟨U, K, ru, su, eu, et, hK⟩ := sett_ok hg hts (by omega) 4000 c (zs g) _ 0 r1 (by omega) hset
  have ec : (stabR g (t : Int) c).1 = (sett g (t : Int) 4000 c (zs g)).1 := by unfold stabR; rw [if_pos h]
  have em : (timeR g (t : Int) c).1 = (sett g (t : Int) 4000 c (zs g)).2.1 := by unfold timeR; rw [if_pos h]
  rw [ec, em]
  generalize (sett g (t : Int) 4000 c (zs g)).1 = c' at ru eu
  generalize (sett g (t : Int) 4000 c (zs g)).2.1 = t' at ru et
  rw [hs0] at eu
  have ht0 : rd t' (t : Int) = 0 := by
   rw [et]; unfold zs
   rw [rd_at (by simpa using hts)]; simp
  obtain ⟨hf, h20⟩ := settled hg hts ru su
  have hh' : heapB g (t : Int) c' = true := heap_of h ru.cl (fun q hq => by
   have := ru.cb q hq
   by_cases e : q = t
   ·subst e; omega
   ·have := h20 q hq e; omega) eu
  have e1 : isR g (t : Int) c' = (true, true) := by
   unfold isR high
   rw [if_pos hh', if_pos hf]; rfl
  have e2 : stabR g (t : Int) c' = (c', true) := by
   unfold stabR
   rw [if_pos hh', sett_stop hf]
  refine Ev.pos hok (Ev.bind ((isI g (t : Int) c').val e1) (Ev.bind ((stabI g (t : Int) c').val e2) (Ev.pos rfl (Ev.pos rfl (Ev.pos rfl (Ev.bind ((xSame_ev c' c' (by have := ru.cl; omega)).val (decide_eq_true rfl)) (Ev.pos rfl (Ev.pos (by omega) (Ev.pos (by have := ru.tl; omega) ?_)))))))))
  rw [ht0, show ((0 : Int) != 0) = false by simp]
  refine Ev.succ ?_
  simp only [ya0.j1]
  refine Ev.neg (by simp) (Ev.bind0 rfl (Ev.pos (by have := H.c6; simp; omega) ?_))
  rw [List.nil_append]
  exact left_l0 hg l1 (t : Int) c' t' ru.tl true g.length 0 c (by omega) (by omega) hc (fun _ => j4_ev b1) (left_ok hg hts hc (fun q hq => by have := rd_mem hc hbd q hq; omega) ru (by omega) (by rw [eu, hs0]) ht0)
end Go.Proofs.Ytdfabioienofhaa.Pure
namespace Go.Proofs.Ytdfabioienofhaa.fnHeapsTopple
set_option maxHeartbeats 8000000
set_option maxRecDepth 100000
open Go.ChangeShapes Go.WideShapes Go.ChangeAt Go.RowKit
open Go.ChangeMaps (open_string shut_string)
open Go.Proofs.Ytdfabioienofhaa.In Go.Proofs.Ytdfabioienofhaa.P
set_option linter.unusedVariables false
theorem own : ownKnob Try.prog.godebug = none := by kernel_rfl
theorem laidOut : laidOutB Try.prog = true := by kernel_rfl
theorem lifted (os : Os) (started : os.Started) (H : Type) (enc : TypeId × Value → H) :
  ReturnsInHanded {} Try.checked os 3 .any (Rows.fnHeapsToppleSpec.pre6 enc Try.prog Try.f3 Rows.fnHeapsToppleRow.domain false) (Rows.fnHeapsToppleSpec.post enc Try.prog Try.f3 false true false false) := by
 refine returnsInHanded_of_change_sized (C := Try.checked) own started (by kernel_rfl) Try.func3
  (ChangeSpec.witness6 (enc := enc) (C := Try.checked) false ⟨#[], #[.slice none 0 0, .slice none 0 0], []⟩ 8 (by kernel_rfl) (by kernel_rfl) (by kernel_rfl) (by kernel_rfl)) ?_
 intro W base args ds gs before hval0 hW hcnd hsz0 _
 have hsz : (DataW.weightsEach Try.prog (Try.f3.params.toList ++ Rows.fnHeapsToppleSpec.plain.varTypes Try.prog) (ds ++ gs)).all (· ≤ reachBytes) = true := hsz0
 have hval : ∀ (j : Nat) t v, Try.f3.params[j]? = some t → args[j]? = some v → Value.okWide Try.prog W .any base t v := hval0
 have hW' := hW
 obtain ⟨p, q, hA0, hV, rfl, hfz, hnd⟩ := hW
 have hA : DataW.TrodAll enc Try.prog W 0 (fun _ => true) true Try.f3.params.toList args.toList ds p := hA0
 rw [Try.params3] at hA hval hsz
 obtain ⟨v0, vs0, d0, ds0, p0, q0, hargs, rfl, rfl, h0, r0⟩ := trodAll_cons hA
 obtain ⟨v1, vs1, d1, ds1, p1, q1, rfl, rfl, rfl, h1, r1⟩ := trodAll_cons r0
 obtain ⟨rfl, rfl, rfl⟩ := trodAll_nil r1
 obtain rfl : args = #[v0, v1] := by cases args; simp_all
 obtain ⟨rfl, rfl⟩ := trodVars_none hV
 have k0 := h0
 have lt0 : ∀ x ∈ p0, x.block < W.heap.size := by obtain ⟨m, hm⟩ := k0; exact DataW.trod_lt m _ _ _ hm
 obtain ⟨A0, l0, cap0, rfl, hl0, hc0, hw0⟩ := in_bytes (q := 5) Try.underlying22 Try.underlying5 (by kernel_rfl) (hval 0 22 v0 rfl rfl) h0
 have k1 := h1
 have lt1 : ∀ x ∈ p1, x.block < W.heap.size := by obtain ⟨m, hm⟩ := k1; exact DataW.trod_lt m _ _ _ hm
 obtain ⟨A1, l1, cap1, rfl, hl1, hc1, hw1⟩ := in_bytes (q := 5) Try.underlying22 Try.underlying5 (by kernel_rfl) (hval 1 22 v1 rfl rfl) h1
 clear hA0 hval0 hsz0 hsz
 obtain ⟨k, h⟩ := Pure.FnHeapsTopple l0 (okBy_wf hw0) l1 (okBy_wf hw1)
 refine (ya0.calls k _ _ l0 _ _ l1 true W hc0 hl0 hc1 hl1 h).mono fun e W' ⟨he, bel0⟩ => ?_
 have bel : Below W.heap.size W W' := bel0
 subst he
 exact ⟨_, rfl, _, _, _, [], _, [], hW', trodAll_mk1 (shut_bool Try.underlying4 _), (trodAll_cons_mk (Below.trod laidOut (by kernel_rfl) (of_decide_eq_true (by kernel_rfl)) k0 bel lt0) (trodAll_cons_mk (Below.trod laidOut (by kernel_rfl) (of_decide_eq_true (by kernel_rfl)) k1 bel lt1) trodAll_mk0)), rfl, bel.frame _, fun h => by cases h⟩
theorem over : Rows.fnHeapsToppleRow.holds Try.pinned (OpenSpec.ofChange Rows.fnHeapsToppleSpec) :=
 OpenClaim.holds_of_wide 3 Try.f3 rfl rfl rfl rfl rfl rfl rfl ⟨rfl, rfl, rfl, rfl, rfl⟩ rfl rfl rfl rfl rfl (by kernel_rfl) Try.func3 (by kernel_rfl)
  (of_decide_eq_true (by kernel_rfl)) (by unfold Func.isWrapper; first | (rw [if_pos (by decide +kernel)]; kernel_rfl) | (rw [if_neg (by decide +kernel)]; exact ⟨rfl, rfl⟩))
  (fun os started H enc _ => lifted os started H enc)
theorem proved : Rows.FnHeapsToppleSaid := over
end Go.Proofs.Ytdfabioienofhaa.fnHeapsTopple
namespace Go.Proofs.Ytdfabioienofhaa
set_option maxHeartbeats 8000000
set_option maxRecDepth 100000
theorem fnHeapsTopple_holds : Rows.FnHeapsToppleSaid := fnHeapsTopple.proved
#print axioms fnHeapsTopple_holds
end Go.Proofs.Ytdfabioienofhaa
