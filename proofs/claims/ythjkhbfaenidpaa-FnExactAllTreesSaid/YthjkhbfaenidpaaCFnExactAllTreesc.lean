/- The law FnExactAllTrees holds for every input: the program returns what the reference returns (or what the law says), for all arguments. -/
import Derived.Test.YthjkhbfaenidpaaCFnExactAllTreesb
import Derived.Test.YthjkhbfaenidpaaPimplallTrees
import Derived.Test.YthjkhbfaenidpaaCFnExactAllTreesa
import Derived.Test.YthjkhbfaenidpaaPimplAllTrees
import Derived.Test.YthjkhbfaenidpaaRows
import Derived.WalkKit
import Derived.ProofKit
import Derived.OpenShut
import Derived.ShutString
import Derived.ChangeOld
import Derived.Below
import Derived.SizedLaws
import Derived.Deep.Matrix
import Derived.Lib.SmallJoins
namespace Go.Proofs.Ythjkhbfaenidpaa.M
open Go.RowKit Go.Proofs.Ythjkhbfaenidpaa.P Go.Proofs.Ythjkhbfaenidpaa.In Go.Proofs.YthjkhbfaenidpaaW.PrintWords Go.Proofs.YthjkhbfaenidpaaW.PrintLast
set_option linter.unusedVariables false
set_option linter.unusedSimpArgs false
def lexL (g : List (List Int)) (s : Int) : Nat → Nat → List Int → List (List Int)
 | 0, _, r => [r]
 | d + 1, p, r => if (p : Int) = s then lexL g s d (p + 1) r else (List.range (max 1 (rd_L1 g (p : Int)).length)).flatMap fun (k : Nat) => lexL g s d (p + 1) (r.set p (k : Int))
/-- From q on, next places of places that are at most p lead to s or beyond p. -/
structure Goes (f : Int → Int) (s p q : Int) (m : Nat) : Prop where
 at_ : it f m q = s ∨ p < it f m q
 on : ∀ j, j < m → it f j q ≠ s ∧ it f j q ≤ p ∧ 0 ≤ f (it f j q)
open Classical in
noncomputable def loopsB (g : List (List Int)) (r : List Int) (s p : Int) : Bool := !decide (∃ m, Goes (nx g r) s p p m)
noncomputable def trL (g : List (List Int)) (s : Int) : Nat → Nat → List Int → List (List Int)
 | 0, _, r => [r]
 | d + 1, p, r => if (p : Int) = s then trL g s d (p + 1) r else (List.range (rd_L1 g (p : Int)).length).flatMap fun (k : Nat) => if loopsB g (r.set p (k : Int)) s p then [] else trL g s d (p + 1) (r.set p (k : Int))
theorem nx_congr {g : List (List Int)} {r r2 : List Int} {q : Int} (h : rd r q = rd r2 q) : nx g r q = nx g r2 q := by unfold nx; rw [h]
theorem it_congr {f f2 : Int → Int} {P q : Int} : ∀ (m : Nat), (∀ j, j < m → f (it f j q) = f2 (it f j q)) → it f m q = it f2 m q := by
 intro m
 induction m with
 | zero => intro _; rfl
 | succ m ih =>
  intro h
  rw [it_succ, it_succ, ← ih (fun j hj => h j (by omega)), h m (by omega)]
theorem Goes.congr {f f2 : Int → Int} {s p q : Int} {m : Nat} (h : Goes f s p q m) (he : ∀ x, 0 ≤ x → x ≤ p → f x = f2 x) (h0 : ∀ j, j < m → 0 ≤ it f j q) : Goes f2 s p q m := by
 have e : ∀ j, j ≤ m → it f j q = it f2 j q := fun j hj => it_congr (P := p) j (fun i hi => he _ (h0 i (by omega)) (h.on i (by omega)).2.1)
 refine ⟨by rw [← e m (Nat.le_refl m)]; exact h.at_, fun j hj => ?_⟩
 rw [← e j (by omega), ← he _ (h0 j hj) (h.on j hj).2.1]
 exact h.on j hj
theorem Rot.pos {g : List (List Int)} {rot : List Int} (h : Rot g rot) {q : Int} (h0 : 0 ≤ q) (h1 : q < (g.length : Int)) {m : Nat} (hm : ∀ j, j < m → 0 ≤ nx g rot (it (nx g rot) j q)) : ∀ j, j ≤ m → 0 ≤ it (nx g rot) j q ∧ it (nx g rot) j q < (g.length : Int) := fun j hj => h.it_ok h0 h1 j (fun i hi => hm i (by omega))
theorem rotB_of : ∀ (rot : List Int) (g : List (List Int)), (∀ (i : Nat) (h1 : i < rot.length) (h2 : i < g.length), 0 ≤ rot[i] ∧ (rot[i] < (g[i].length : Int) ∨ rot[i] = 0)) → rotB rot g = true := by
 intro rot
 induction rot with
 | nil => intro g _; unfold rotB; rfl
 | cons r rot ih =>
  intro g h
  cases g with
  | nil => unfold rotB; rfl
  | cons row g =>
   simp only [rotB, Bool.and_eq_true, decide_eq_true_eq]
   refine ⟨?_, ih g (fun i h1 h2 => ?_)⟩
   ·have := h 0 (by simp) (by simp)
    simp only [List.getElem_cons_zero] at this
    split <;> omega
   ·have := h (i + 1) (by simpa using h1) (by simpa using h2)
    simpa using this
theorem Rot.set {g : List (List Int)} {r : List Int} (h : Rot g r) {p : Nat} (hp : p < g.length) {k : Int} (k0 : 0 ≤ k) (k1 : k < ((rd_L1 g (p : Int)).length : Int) ∨ k = 0) : Rot g (r.set p k) := by
 have hl := h.len
 refine ⟨h.good, ?_, by simp [hl]⟩
 refine rotB_of _ _ (fun i h1 h2 => ?_)
 rw [List.getElem_set]
 split
 ·rename_i e
  subst e
  rw [rdL_at hp] at k1
  exact ⟨k0, k1⟩
 ·exact rot_at r g h.rb i (by simpa using h1) h2
theorem rd_set_nat {o : List Int} {p : Nat} (hp : p < o.length) {x v : Int} (hx : 0 ≤ x) : rd (o.set p v) x = if x = (p : Int) then v else rd o x := by
 have := rd_set (o := o) (q := (p : Int)) (x := x) (v := v) (by omega) (by omega) hx
 simpa using this
theorem mem_lexL {g : List (List Int)} (s : Int) : ∀ (d p : Nat) (r r2 : List Int), p + d = g.length → Rot g r → r2 ∈ lexL g s d p r → Rot g r2 ∧ ∀ i : Int, 0 ≤ i → i < (p : Int) → rd r2 i = rd r i := by
 intro d
 induction d with
 | zero =>
  intro p r r2 hp hr hm
  simp only [lexL, List.mem_singleton] at hm
  subst hm
  exact ⟨hr, fun _ _ _ => rfl⟩
 | succ d ih =>
  intro p r r2 hp hr hm
  simp only [lexL] at hm
  by_cases hs : (p : Int) = s
  ·rw [if_pos hs] at hm
   obtain ⟨h1, h2⟩ := ih (p + 1) r r2 (by omega) hr hm
   exact ⟨h1, fun i h0 hi => h2 i h0 (by omega)⟩
  ·rw [if_neg hs, List.mem_flatMap] at hm
   obtain ⟨k, hk, hm⟩ := hm
   rw [List.mem_range] at hk
   have hrk := hr.set (p := p) (by omega) (k := (k : Int)) (by omega) (by omega)
   obtain ⟨h1, h2⟩ := ih (p + 1) _ r2 (by omega) hrk hm
   refine ⟨h1, fun i h0 hi => ?_⟩
   rw [h2 i h0 (by omega), rd_set_nat (by have := hr.len; omega) h0, if_neg (by omega)]
theorem allFrom_iff {g : List (List Int)} {rot : List Int} {s : Int} : ∀ (d i : Nat), allFrom g rot s d i = true ↔ ∀ j, i ≤ j → j < i + d → ∃ m, Hit (nx g rot) s (j : Int) m := by
 intro d
 induction d with
 | zero => intro i; simp only [allFrom, true_iff]; intro j h1 h2; omega
 | succ d ih =>
  intro i
  simp only [allFrom]
  by_cases h : ∃ m, Hit (nx g rot) s (i : Int) m
  ·obtain ⟨m, hm⟩ := h
   rw [if_neg (by rw [dst_hit hm]; omega), ih]
   constructor
   ·intro h j h1 h2
    by_cases e : j = i
    ·subst e; exact ⟨m, hm⟩
    ·exact h j (by omega) (by omega)
   ·intro h j h1 h2; exact h j (by omega) (by omega)
  ·rw [if_pos (by rw [dst_no h]; omega)]
   constructor
   ·intro h; cases h
   ·intro h2; exact absurd (h2 i (Nat.le_refl i) (by omega)) h
theorem treeB_iff {g : List (List Int)} {rot : List Int} {s : Int} : treeB g rot s = true ↔ ∀ j, j < g.length → ∃ m, Hit (nx g rot) s (j : Int) m := by
 unfold treeB
 rw [allFrom_iff]
 exact ⟨fun h j hj => h j (by omega) (by omega), fun h j _ hj => h j (by omega)⟩
/-- A way to s goes to s or beyond p. -/
theorem goes_of_hit {f : Int → Int} {s p q : Int} : ∀ (m : Nat), Hit f s q m → ∃ m2, m2 ≤ m ∧ Goes f s p q m2 := by
 intro m h
 have key : ∀ d i, m - i = d → i ≤ m → (∀ j, j < i → it f j q ≠ s ∧ it f j q ≤ p ∧ 0 ≤ f (it f j q)) → ∃ m2, m2 ≤ m ∧ Goes f s p q m2 := by
  intro d
  induction d with
  | zero =>
   intro i hd hi ha
   obtain rfl : i = m := by omega
   exact ⟨i, Nat.le_refl i, .inl h.at_, ha⟩
  | succ d ih =>
   intro i hd hi ha
   by_cases hp : p < it f i q
   ·exact ⟨i, hi, .inr hp, ha⟩
   ·refine ih (i + 1) (by omega) (by omega) (fun j hj => ?_)
    rcases Nat.lt_or_ge j i with h2 | h2
    ·exact ha j h2
    ·obtain rfl : j = i := by omega
     exact ⟨(h.on j (by omega)).1, by omega, (h.on j (by omega)).2⟩
 exact key m 0 (by omega) (by omega) (fun j hj => by omega)
theorem Goes.append {f : Int → Int} {s p q : Int} {m m2 : Nat} (h : ∀ j, j < m → it f j q ≠ s ∧ it f j q ≤ p ∧ 0 ≤ f (it f j q)) (h2 : Goes f s p (it f m q) m2) : Goes f s p q (m + m2) := by
 refine ⟨by rw [it_add]; exact h2.at_, fun j hj => ?_⟩
 rcases Nat.lt_or_ge j m with h3 | h3
 ·exact h j h3
 ·have := h2.on (j - m) (by omega)
  rw [← it_add, show m + (j - m) = j by omega] at this
  exact this
def Inv (g : List (List Int)) (s : Int) (r : List Int) (p : Nat) : Prop := ∀ q : Int, 0 ≤ q → q < (p : Int) → q ≠ s → ∃ m, Goes (nx g r) s ((p : Int) - 1) q m
theorem filter_flat {α β : Type} (T : β → Bool) (F : α → List β) (xs : List α) : (xs.flatMap F).filter T = xs.flatMap fun x => (F x).filter T := by
 induction xs with
 | nil => rfl
 | cons x xs ih => simp only [List.flatMap_cons, List.filter_append, ih]
theorem flat_congr {α β : Type} {F G : α → List β} : ∀ (xs : List α), (∀ x, x ∈ xs → F x = G x) → xs.flatMap F = xs.flatMap G := by
 intro xs
 induction xs with
 | nil => intro _; rfl
 | cons x xs ih => intro h; simp only [List.flatMap_cons]; rw [h x (by simp), ih (fun y hy => h y (by simp [hy]))]
/-- **The trees among the rotors in order are those that are found place by place.** -/
theorem filter_lexL {g : List (List Int)} {s : Int} (hs0 : 0 ≤ s) (hs1 : s < (g.length : Int)) : ∀ (d p : Nat) (r : List Int), p + d = g.length → Rot g r → Inv g s r p → (lexL g s d p r).filter (fun r => treeB g r s) = trL g s d p r := by
 intro d
 induction d with
 | zero =>
  intro p r hp hr hi
  simp only [lexL, trL]
  rw [List.filter_cons_of_pos]
  ·rfl
  ·rw [treeB_iff]
   intro j hj
   by_cases hjs : (j : Int) = s
   ·exact ⟨0, hjs, fun i hi => by omega⟩
   ·obtain ⟨m, hm⟩ := hi (j : Int) (by omega) (by omega) hjs
    have hb := hr.pos (q := (j : Int)) (by omega) (by omega) (fun i hi => (hm.on i hi).2.2) m (Nat.le_refl m)
    refine ⟨m, ?_, fun i hi => ⟨(hm.on i hi).1, (hm.on i hi).2.2⟩⟩
    rcases hm.at_ with e | e
    ·exact e
    ·omega
 | succ d ih =>
  intro p r hp hr hi
  simp only [lexL, trL]
  by_cases hs : (p : Int) = s
  ·rw [if_pos hs, if_pos hs]
   refine ih (p + 1) r (by omega) hr (fun q q0 q1 qs => ?_)
   obtain ⟨m, hm⟩ := hi q q0 (by omega) qs
   refine ⟨m, ?_, fun j hj => ⟨(hm.on j hj).1, by have := (hm.on j hj).2.1; omega, (hm.on j hj).2.2⟩⟩
   rcases hm.at_ with e | e
   ·exact .inl e
   ·by_cases e2 : it (nx g r) m q = s
    ·exact .inl e2
    ·exact .inr (by omega)
  ·rw [if_neg hs, if_neg hs, filter_flat]
   have hl := hr.len
   by_cases hlen : (rd_L1 g (p : Int)).length = 0
   ·rw [hlen]
    show (List.range 1).flatMap _ = []
    rw [show List.range 1 = [0] from rfl, List.flatMap_cons, List.flatMap_nil, List.append_nil, List.filter_eq_nil_iff]
    intro r2 hm hT
    obtain ⟨m, hh⟩ := treeB_iff.1 hT p (by omega)
    cases m with
    | zero => exact hs hh.at_
    | succ m =>
     have := (hh.on 0 (by omega)).2
     simp only [it] at this
     unfold nx at this
     rw [if_pos (by omega)] at this
     omega
   ·rw [show max 1 (rd_L1 g (p : Int)).length = (rd_L1 g (p : Int)).length by omega]
    refine flat_congr _ (fun k hk => ?_)
    rw [List.mem_range] at hk
    have hrk := hr.set (p := p) (by omega) (k := (k : Int)) (by omega) (.inl (by omega))
    by_cases hloop : loopsB g (r.set p (k : Int)) s p = true
    ·rw [if_pos hloop, List.filter_eq_nil_iff]
     intro r2 hm hT
     obtain ⟨hr2, hag⟩ := mem_lexL s d (p + 1) _ r2 (by omega) hrk hm
     obtain ⟨m, hh⟩ := treeB_iff.1 hT p (by omega)
     obtain ⟨m2, hm2, hgo⟩ := goes_of_hit (p := (p : Int)) m hh
     have hpos := hr2.pos (q := (p : Int)) (by omega) (by omega) (fun i hi => (hh.on i hi).2)
     have := hgo.congr (f2 := nx g (r.set p (k : Int))) (fun x x0 x1 => nx_congr (hag x x0 (by omega))) (fun j hj => (hpos j (by omega)).1)
     unfold loopsB at hloop
     simp only [Bool.not_eq_true', decide_eq_false_iff_not] at hloop
     exact hloop ⟨m2, this⟩
    ·rw [if_neg hloop]
     have hgo : ∃ m, Goes (nx g (r.set p (k : Int))) s p p m := by
      unfold loopsB at hloop
      simpa using hloop
     refine ih (p + 1) _ (by omega) hrk (fun q q0 q1 qs => ?_)
     rw [show ((p + 1 : Nat) : Int) - 1 = (p : Int) by omega]
     by_cases hq : q = (p : Int)
     ·rw [hq]; exact hgo
     ·obtain ⟨m, hm⟩ := hi q q0 (by omega) qs
      have hpos := hr.pos (q := q) q0 (by omega) (fun i hi => (hm.on i hi).2.2)
      have hm2 := hm.congr (f2 := nx g (r.set p (k : Int))) (fun x x0 x1 => nx_congr (by rw [rd_set_nat (by omega) x0, if_neg (by omega)])) (fun j hj => (hpos j (by omega)).1)
      have hon : ∀ j, j < m → it (nx g (r.set p (k : Int))) j q ≠ s ∧ it (nx g (r.set p (k : Int))) j q ≤ p ∧ 0 ≤ nx g (r.set p (k : Int)) (it (nx g (r.set p (k : Int))) j q) := fun j hj => ⟨(hm2.on j hj).1, by have := (hm2.on j hj).2.1; omega, (hm2.on j hj).2.2⟩
      rcases hm2.at_ with e | e
      ·exact ⟨m, .inl e, hon⟩
      ·by_cases e2 : it (nx g (r.set p (k : Int))) m q = (p : Int)
       ·obtain ⟨m3, hg3⟩ := hgo
        exact ⟨m + m3, Goes.append hon (by rw [e2]; exact hg3)⟩
       ·exact ⟨m, .inr (by omega), hon⟩
theorem inv0 (g : List (List Int)) (s : Int) (r : List Int) : Inv g s r 0 := fun q h0 h1 => by omega
theorem rot0 {g : List (List Int)} (hg : goodG g = true) : Rot g (List.replicate g.length 0) := by
 refine ⟨hg, rotB_of _ _ (fun i h1 h2 => by simp), by simp⟩
def Zt (r : List Int) (p : Nat) : Prop := ∀ i : Nat, p ≤ i → i < r.length → rd r (i : Int) = 0
theorem Zt.set0 {r : List Int} {p : Nat} (h : Zt r p) (hp : p < r.length) : r.set p 0 = r := by
 have := h p (Nat.le_refl p) hp
 rw [rd_at hp] at this
 apply List.ext_getElem (by simp)
 intro i h1 h2
 rw [List.getElem_set]
 split
 ·rename_i e; subst e; exact this.symm
 ·rfl
theorem Zt.up {r : List Int} {p : Nat} (h : Zt r p) (hp : p < r.length) (k : Int) : Zt (r.set p k) (p + 1) := by
 intro i h1 h2
 rw [rd_set_nat hp (by omega), if_neg (by omega)]
 exact h i (by omega) (by simpa using h2)
theorem Zt.next {r : List Int} {p : Nat} (h : Zt r p) : Zt r (p + 1) := fun i h1 h2 => h i (by omega) h2
/-- What the search does behind all rotors that begin so. -/
def Next (g : List (List Int)) (s most : Int) (p : Nat) (r : List Int) (out res : List (List Int)) : Prop :=
 match odoN g s p r with
 | none => res = out
 | some r2 => Ev (fun k => rots g s most k out r2) res
theorem rots_lex {g : List (List Int)} {s : Int} (most : Nat) (hmost : most ≤ 1000) : ∀ (d p : Nat) (r : List Int) (out res : List (List Int)), p + d = g.length → Rot g r → Zt r p → out.length < most →
  (most ≤ (out ++ (lexL g s d p r).filter (fun r => treeB g r s)).length → res = (out ++ (lexL g s d p r).filter (fun r => treeB g r s)).take most) →
  ((out ++ (lexL g s d p r).filter (fun r => treeB g r s)).length < most → Next g s most p r (out ++ (lexL g s d p r).filter (fun r => treeB g r s)) res) →
  Ev (fun k => rots g s most k out r) res := by
 intro d
 induction d with
 | zero =>
  intro p r out res hp hr hz ho hstop hgo
  obtain rfl : p = g.length := by omega
  refine Ev.succ ?_
  simp only [rots]
  refine Ev.pos (by omega) (Ev.bind (isTree_ev hr s) ?_)
  simp only [lexL] at hstop hgo
  have hf : out ++ [r].filter (fun r => treeB g r s) = if treeB g r s then out ++ [r] else out := by
   by_cases h : treeB g r s = true
   ·rw [List.filter_cons_of_pos (by exact h), if_pos h]; rfl
   ·rw [List.filter_cons_of_neg (by exact h), if_neg h]; simp
  rw [hf] at hstop hgo
  by_cases hlt : (if treeB g r s then out ++ [r] else out).length < most
  ·refine Ev.pos (by omega) ?_
   have := hgo hlt
   unfold Next at this
   cases ho2 : odoN g s g.length r with
   | none => rw [ho2] at this; exact (Ev.now _).val this.symm
   | some r2 => rw [ho2] at this; exact this
  ·refine Ev.neg (by omega) ((Ev.now _).val ?_)
   rw [hstop (by omega), List.take_of_length_le]
   split
   ·simp; omega
   ·omega
 | succ d ih =>
  intro p r out res hp hr hz ho hstop hgo
  have hl := hr.len
  simp only [lexL] at hstop hgo
  by_cases hs : (p : Int) = s
  ·rw [if_pos hs] at hstop hgo
   refine ih (p + 1) r out res (by omega) hr hz.next ho hstop (fun h => ?_)
   have := hgo h
   unfold Next at this ⊢
   rw [odoN, if_pos (.inl hs), hz.set0 (by omega)]
   exact this
  ·rw [if_neg hs] at hstop hgo
   obtain ⟨m, hm⟩ : ∃ m, m = max 1 (rd_L1 g (p : Int)).length := ⟨_, rfl⟩
   rw [← hm] at hstop hgo
   have h5 := ((good_iff hr.good).2 (rd_L1 g (p : Int)) (by rw [rdL_at (by omega)]; exact List.getElem_mem _)).1
   -- from the j-th rotor on
   have key : ∀ e j (out : List (List Int)), m - j = e → j < m → out.length < most →
     (most ≤ (out ++ (((List.range m).drop j).flatMap fun (k : Nat) => lexL g s d (p + 1) (r.set p (k : Int))).filter (fun r => treeB g r s)).length → res = (out ++ (((List.range m).drop j).flatMap fun (k : Nat) => lexL g s d (p + 1) (r.set p (k : Int))).filter (fun r => treeB g r s)).take most) →
     ((out ++ (((List.range m).drop j).flatMap fun (k : Nat) => lexL g s d (p + 1) (r.set p (k : Int))).filter (fun r => treeB g r s)).length < most → Next g s most p r (out ++ (((List.range m).drop j).flatMap fun (k : Nat) => lexL g s d (p + 1) (r.set p (k : Int))).filter (fun r => treeB g r s)) res) →
     Ev (fun k => rots g s most k out (r.set p (j : Int))) res := by
    intro e
    induction e with
    | zero => intro j out he hj; omega
    | succ e ihe =>
     intro j out he hj ho hstop hgo
     have hd : (List.range m).drop j = j :: (List.range m).drop (j + 1) := by
      rw [List.drop_eq_getElem_cons (by simpa using hj)]; simp
     rw [hd, List.flatMap_cons, List.filter_append, ← List.append_assoc] at hstop hgo
     have hrj : Rot g (r.set p (j : Int)) := hr.set (by omega) (by omega) (by omega)
     refine ih (p + 1) (r.set p (j : Int)) out res (by omega) hrj (hz.up (by omega) _) ho (fun h => ?_) (fun h => ?_)
     ·rw [hstop (by rw [List.length_append]; omega), List.take_append_of_le_length h]
     ·unfold Next
      rw [odoN, rd_set_nat (by omega) (by omega), if_pos rfl, wrap_id (x := ((rd_L1 g (p : Int)).length : Int) - 1) (by omega), wrap_nat (by omega)]
      by_cases hlast : j + 1 < m
      ·rw [if_neg (by omega)]
       simp only [List.set_set]
       exact ihe (j + 1) _ (by omega) hlast h hstop hgo
      ·rw [if_pos (by omega)]
       have hnil : (List.range m).drop (j + 1) = [] := List.drop_eq_nil_of_le (by simp; omega)
       rw [hnil] at hgo
       simp only [List.flatMap_nil, List.filter_nil, List.append_nil] at hgo
       have := hgo h
       unfold Next at this
       rw [List.set_set, hz.set0 (by omega)]
       exact this
   have := key m 0 out (by omega) (by omega) ho (by simpa using hstop) (by simpa using hgo)
   have e0 : r.set p ((0 : Nat) : Int) = r := hz.set0 (by omega)
   rw [e0] at this
   exact this
theorem zt0 (n : Nat) : Zt (List.replicate n 0) 0 := by
 intro i _ h
 rw [rd_at h]
 simp
/-- **The program's search: the trees among all rotors, at most so many.** -/
theorem rots_ev {g : List (List Int)} (hg : goodG g = true) {s : Int} (hs0 : 0 ≤ s) (hs1 : s < (g.length : Int)) (most : Nat) (hm : 0 < most) (hm2 : most ≤ 1000) : Ev (fun k => rots g s most k [] (List.replicate g.length 0)) ((trL g s g.length 0 (List.replicate g.length 0)).take most) := by
 have hf := filter_lexL hs0 hs1 g.length 0 (List.replicate g.length 0) (by omega) (rot0 hg) (inv0 g s _)
 refine rots_lex most hm2 g.length 0 _ [] _ (by omega) (rot0 hg) (zt0 _) hm (fun h => ?_) (fun h => ?_)
 ·rw [hf, List.nil_append]
 ·rw [hf, List.nil_append] at h ⊢
  show _ = _
  exact List.take_of_length_le (by omega)
theorem allTrees_ev {g : List (List Int)} (hg : goodG g = true) {s : Int} (hs0 : 0 ≤ s) (hs1 : s < (g.length : Int)) (most : Nat) (hm : 0 < most) (hm2 : most ≤ 1000) : Ev (fun k => impl_allTrees.f k g s most) ((trL g s g.length 0 (List.replicate g.length 0)).take most) := by
 have h8 := (good_iff hg).1
 unfold impl_allTrees.f
 exact Ev.pos (by omega) (Ev.pos (by omega) (rots_ev hg hs0 hs1 most hm hm2))
theorem Goes.nodup {f : Int → Int} {s p q : Int} {m : Nat} (h : Goes f s p q m) : (orb f q (m + 1)).Nodup := by
 unfold orb
 rw [List.nodup_iff_pairwise_ne, List.pairwise_map]
 refine List.Pairwise.imp_of_mem ?_ (List.pairwise_lt_range (n := m + 1))
 intro i j hi hj hlt he
 have hj2 : j < m + 1 := List.mem_range.1 hj
 have e : it f (i + (m - j)) q = it f m q := by
  rw [it_add, he, ← it_add, show j + (m - j) = m by omega]
 have := h.on (i + (m - j)) (by omega)
 rw [e] at this
 rcases h.at_ with h2 | h2
 ·exact this.1 h2
 ·omega
theorem Goes.lt {g : List (List Int)} {rot : List Int} (hr : Rot g rot) {s p q : Int} (h0 : 0 ≤ q) (h1 : q < (g.length : Int)) {m : Nat} (h : Goes (nx g rot) s p q m) : m < g.length := by
 have := pigeon g.length _ h.nodup (hr.orb_ok h0 h1 (fun j hj => (h.on j (by omega)).2.2))
 rw [orb_len] at this; omega
theorem loopsL_ev {g : List (List Int)} {rot : List Int} (hr : Rot g rot) {s p : Int} (h0 : 0 ≤ p) (h1 : p < (g.length : Int)) : ∀ (d i : Nat), g.length + 1 - i = d → i ≤ g.length + 1 → (∀ j, j < i → it (nx g rot) j p ≠ s ∧ it (nx g rot) j p ≤ p ∧ 0 ≤ nx g rot (it (nx g rot) j p)) →
  Ev (fun k => loopsL g rot s p k (it (nx g rot) i p) (i : Int)) (loopsB g rot s p) := by
 have h8 := (good_iff hr.good).1.2
 have hno : (¬ ∃ m, Goes (nx g rot) s p p m) → loopsB g rot s p = true := fun h => by unfold loopsB; simp [h]
 have hyes : (∃ m, Goes (nx g rot) s p p m) → loopsB g rot s p = false := fun h => by unfold loopsB; simp [h]
 intro d
 induction d with
 | zero =>
  intro i hd hi ha
  refine Ev.succ ?_
  simp only [loopsL]
  refine Ev.neg (by omega) ((Ev.now _).val ?_)
  symm; apply hno
  rintro ⟨m, hm⟩
  have hlt := hm.lt hr h0 h1
  have := ha m (by omega)
  rcases hm.at_ with e | e
  ·exact this.1 e
  ·omega
 | succ d ih =>
  intro i hd hi ha
  have hp := hr.it_ok h0 h1 i (fun j hj => (ha j hj).2.2)
  refine Ev.succ ?_
  simp only [loopsL]
  refine Ev.pos (by omega) ?_
  by_cases hs : it (nx g rot) i p = s
  ·exact Ev.pos hs ((Ev.now _).val (hyes ⟨i, .inl hs, ha⟩).symm)
  ·refine Ev.neg hs ?_
   by_cases hq : p < it (nx g rot) i p
   ·exact Ev.pos hq ((Ev.now _).val (hyes ⟨i, .inr hq, ha⟩).symm)
   ·refine Ev.neg hq (Ev.bind0 (trNext_eq hr.rb hr.len hp.1 hp.2) ?_)
    by_cases hneg : nx g rot (it (nx g rot) i p) < 0
    ·refine Ev.pos hneg ((Ev.now _).val ?_)
     symm; apply hno
     rintro ⟨m, hm⟩
     rcases Nat.lt_trichotomy m i with h2 | h2 | h2
     ·have := ha m h2
      rcases hm.at_ with e | e
      ·exact this.1 e
      ·omega
     ·subst h2
      rcases hm.at_ with e | e
      ·exact hs e
      ·omega
     ·have := (hm.on i h2).2.2; omega
    ·refine Ev.neg hneg ?_
     rw [← it_succ (nx g rot) i p, wrap_nat (by omega)]
     exact ih (i + 1) (by omega) (by omega) (fun j hj => by
      rcases Nat.lt_or_ge j i with h2 | h2
      ·exact ha j h2
      ·obtain rfl : j = i := by omega
       exact ⟨hs, by omega, by omega⟩)
theorem own_lk (l : List Int) (h : l.length ≤ 1048576) : spec_l1Own.f l = some l := by
 unfold spec_l1Own.f
 show (if ([] : List Int).length + l.length < 17592186044416 then some ([] ++ l) else none) = some l
 rw [if_pos (by simp; omega)]; rfl
def Zr (r : List Int) (p : Nat) : Prop := ∀ i : Nat, p ≤ i → i < r.length → rd r (i : Int) = 0
theorem Zr.set0 {r : List Int} {p : Nat} (h : Zr r p) (hp : p < r.length) : r.set p 0 = r := by
 have := h p (Nat.le_refl p) hp
 rw [rd_at hp] at this
 apply List.ext_getElem (by simp)
 intro i h1 h2
 rw [List.getElem_set]
 split
 ·rename_i e; subst e; exact this.symm
 ·rfl
theorem Zr.up {r : List Int} {p : Nat} (h : Zr r p) (hp : p < r.length) (k : Int) : Zr (r.set p k) (p + 1) := by
 intro i h1 h2
 rw [rd_set_nat hp (by omega), if_neg (by omega)]
 exact h i (by omega) (by simpa using h2)
/-- What is found: at most so many and one. -/
theorem lookF_ev {g : List (List Int)} {s : Int} (most : Nat) (hm : most ≤ 1000) : ∀ (d p : Nat) (r : List Int) (found : List (List Int)), p + d = g.length → Rot g r → Zr r p → found.length ≤ most + 1 →
  Ev (fun k => lookF g s most k none (p : Int) r found) (r, (found ++ trL g s d p r).take (most + 1)) := by
 intro d
 induction d with
 | zero =>
  intro p r found hp hr hz hf
  have h8 := (good_iff hr.good).1.2
  have hl := hr.len
  refine Ev.succ ?_
  simp only [lookF]
  by_cases h : (most : Int) < (found.length : Int)
  ·refine Ev.pos h ((Ev.now _).val ?_)
   rw [List.take_append_of_le_length (by omega), List.take_of_length_le (by omega)]
  ·refine Ev.neg h (Ev.pos (by omega) (Ev.bind0 (own_lk r (by omega)) (Ev.pos (by omega) ((Ev.now _).val ?_))))
   simp only [trL]
   rw [List.take_of_length_le (by simp; omega)]
 | succ d ih =>
  intro p r found hp hr hz hf
  have h8 := (good_iff hr.good).1.2
  have hl := hr.len
  refine Ev.succ ?_
  simp only [lookF]
  by_cases h : (most : Int) < (found.length : Int)
  ·refine Ev.pos h ((Ev.now _).val ?_)
   rw [List.take_append_of_le_length (by omega), List.take_of_length_le (by omega)]
  ·refine Ev.neg h (Ev.neg (by omega) ?_)
   simp only [trL]
   by_cases hs : (p : Int) = s
   ·rw [if_pos hs]
    refine Ev.pos hs ?_
    rw [wrap_nat (by omega)]
    exact ih (p + 1) r found (by omega) hr (fun i h1 h2 => hz i (by omega) h2) hf
   ·rw [if_neg hs]
    refine Ev.neg hs (Ev.pos (by omega) (Ev.pos (by omega) ?_))
    have h5 := ((good_iff hr.good).2 (rd_L1 g (p : Int)) (by rw [rdL_at (by omega)]; exact List.getElem_mem _)).1
    have key : ∀ e j (x : Int) (found : List (List Int)), (rd_L1 g (p : Int)).length - j = e → j ≤ (rd_L1 g (p : Int)).length → (x = 0 ∨ x < ((rd_L1 g (p : Int)).length : Int)) → 0 ≤ x → found.length ≤ most + 1 →
      Ev (fun k => lookF g s most k (some (j : Int)) (p : Int) (r.set p x) found) (r, (found ++ ((List.range (rd_L1 g (p : Int)).length).drop j).flatMap fun (k : Nat) => if loopsB g (r.set p (k : Int)) s p then [] else trL g s d (p + 1) (r.set p (k : Int))).take (most + 1)) := by
     intro e
     induction e with
     | zero =>
      intro j x found he hj hx hx0 hf
      refine Ev.succ ?_
      simp only [lookF]
      refine Ev.neg (by omega) (Ev.pos (by simp; omega) ((Ev.now _).val ?_))
      rw [Int.toNat_natCast, List.set_set, hz.set0 (by omega), List.drop_eq_nil_of_le (by simp; omega), List.flatMap_nil, List.append_nil, List.take_of_length_le hf]
     | succ e ihe =>
      intro j x found he hj hx hx0 hf
      have hd : (List.range (rd_L1 g (p : Int)).length).drop j = j :: (List.range (rd_L1 g (p : Int)).length).drop (j + 1) := by
       rw [List.drop_eq_getElem_cons (by simp; omega)]; simp
      rw [hd, List.flatMap_cons]
      have hrj : Rot g (r.set p (j : Int)) := hr.set (by omega) (by omega) (.inl (by omega))
      refine Ev.succ ?_
      simp only [lookF]
      refine Ev.pos (by omega) (Ev.pos (by simp; omega) ?_)
      rw [Int.toNat_natCast, List.set_set, wrap_nat (by omega)]
      have hlo := loopsL_ev hrj (s := s) (p := (p : Int)) (by omega) (by omega) (g.length + 1) 0 (by omega) (by omega) (fun j hj => by omega)
      refine Ev.bind hlo ?_
      by_cases hb : loopsB g (r.set p (j : Int)) s p = true
      ·rw [if_pos hb, List.nil_append]
       exact Ev.pos hb (ihe (j + 1) _ found (by omega) (by omega) (.inr (by omega)) (by omega) hf)
      ·rw [if_neg hb]
       refine Ev.neg hb ?_
       rw [wrap_nat (by omega)]
       refine Ev.bind (ih (p + 1) (r.set p (j : Int)) found (by omega) hrj (hz.up (by omega) _) hf) ?_
       refine (ihe (j + 1) _ _ (by omega) (by omega) (.inr (by omega)) (by omega) (by rw [List.length_take]; omega)).val ?_
       rw [← List.append_assoc, List.take_append (l₁ := found ++ trL g s d (p + 1) (r.set p (j : Int)))]
       rw [List.take_append (l₁ := (found ++ trL g s d (p + 1) (r.set p (j : Int))).take (most + 1)), List.take_take, Nat.min_self]
       congr 3
       rw [List.length_take]
       omega
    have := key (rd_L1 g (p : Int)).length 0 0 found (by omega) (by omega) (.inl rfl) (by omega) hf
    rw [hz.set0 (by omega)] at this
    simpa using this
theorem zr0 (n : Nat) : Zr (List.replicate n 0) 0 := by
 intro i _ h
 rw [rd_at h]
 simp
theorem trAll_ev {g : List (List Int)} (hg : goodG g = true) (s : Int) (most : Nat) (hm : most ≤ 1000) : Ev (fun k => spec_trAll.f k g s most) ((trL g s g.length 0 (List.replicate g.length 0)).take (most + 1)) := by
 have h8 := (good_iff hg).1
 unfold spec_trAll.f
 refine Ev.pos (by omega) (Ev.pos (by omega) (Ev.bind (lookF_ev most hm g.length 0 _ [] (by omega) (rot0 hg) (zr0 _) (by simp)) ((Ev.now _).val ?_)))
 rw [List.nil_append]
def marks (a : Int) : Nat → List Int
 | 0 => []
 | n + 1 => a :: marks (a + 1) n
theorem marks_len (a : Int) (n : Nat) : (marks a n).length = n := by
 induction n generalizing a with
 | zero => rfl
 | succ n ih => simp [marks, ih]
theorem markIntS_l0 (n : Nat) (hn : n ≤ 4611686018427387904) : ∀ (d i : Nat) (x : List Int) (a : Int), x.length = n → n - i = d → i ≤ n → 0 ≤ a → a + d ≤ 4611686018427387904 → Ev (fun k => laws_markIntS.l0 k x a i) (a + d, x.take i ++ marks a d) := by
 intro d
 induction d with
 | zero =>
  intro i x a hx hd hi h0 h1
  refine Ev.succ ?_
  simp only [laws_markIntS.l0]
  refine Ev.neg (by omega) ((Ev.now _).val ?_)
  rw [List.take_of_length_le (by omega)]; simp [marks]
 | succ d ih =>
  intro i x a hx hd hi h0 h1
  refine Ev.succ ?_
  simp only [laws_markIntS.l0]
  refine Ev.pos (by omega) (Ev.pos (by omega) ?_)
  rw [wrap_id (x := a + 1) (by omega), wrap_nat (by omega), Int.toNat_natCast]
  refine (ih (i + 1) (x.set i a) (a + 1) (by rw [List.length_set]; exact hx) (by omega) (by omega) (by omega) (by omega)).val ?_
  rw [List.take_succ_eq_append_getElem (by rw [List.length_set]; omega), List.take_set_of_le (Nat.le_refl _), List.getElem_set_self]
  simp only [marks, List.append_assoc, List.singleton_append]
  congr 1; omega
theorem markIntS (x : List Int) (a : Int) (hn : x.length ≤ 4611686018427387904) (h0 : 0 ≤ a) (h1 : a + x.length ≤ 4611686018427387904) : Ev (fun k => laws_markIntS.f k x a) (a + x.length, marks a x.length) := by
 have := markIntS_l0 x.length hn x.length 0 x a rfl (by omega) (by omega) h0 h1
 unfold laws_markIntS.f
 simpa using this
theorem heldIntS_l0 (n : Nat) (hn : n ≤ 4611686018427387904) (y : List Int) (hy : y.length = n) : ∀ (d i : Nat) (a : Int), n - i = d → i ≤ n → 0 ≤ a → a + d ≤ 4611686018427387904 → y.drop i = marks a d → Ev (fun k => laws_heldIntS.l0 k y a i) (a + d) := by
 intro d
 induction d with
 | zero =>
  intro i a hd hi h0 h1 he
  refine Ev.succ ?_
  simp only [laws_heldIntS.l0]
  exact Ev.neg (by omega) ((Ev.now _).val (by simp))
 | succ d ih =>
  intro i a hd hi h0 h1 he
  have hlt : i < y.length := by omega
  rw [List.drop_eq_getElem_cons hlt] at he
  simp only [marks, List.cons.injEq] at he
  refine Ev.succ ?_
  simp only [laws_heldIntS.l0]
  refine Ev.pos (by omega) (Ev.pos (by omega) (Ev.pos (by rw [rd_at hlt]; exact he.1) ?_))
  rw [wrap_id (x := a + 1) (by omega), wrap_nat (by omega)]
  exact (ih (i + 1) (a + 1) (by omega) (by omega) (by omega) (by omega) he.2).val (by omega)
theorem heldIntS (a : Int) (n : Nat) (h0 : 0 ≤ a) (h1 : a + n ≤ 4611686018427387904) : Ev (fun k => laws_heldIntS.f k (marks a n) a) (a + n) :=
 heldIntS_l0 n (by omega) _ (marks_len a n) n 0 a (by omega) (by omega) h0 h1 (by simp)
theorem markR (r : List Int) (h : r.length ≤ 1048576) : ∃ q r', Ev (fun k => laws_markIntS.f k r 1) (q, r') ∧ 0 ≤ q ∧ Ev (fun k => laws_heldIntS.f k r' 1) q ∧ True :=
 ⟨_, _, markIntS r 1 (by omega) (by omega) (by omega), by omega, heldIntS 1 r.length (by omega) (by omega), trivial⟩
def markRows (a : Int) : List (List Int) → Int × List (List Int)
 | [] => (a, [])
 | row :: rest => ((markRows (a + row.length) rest).1, marks a row.length :: (markRows (a + row.length) rest).2)
theorem markIntSS_l0 (n : Nat) (hn : n ≤ 1048576) : ∀ (d i : Nat) (x : List (List Int)) (a : Int), x.length = n → (∀ row ∈ x.drop i, row.length ≤ 1048576) → n - i = d → i ≤ n → 0 ≤ a → a + 1048576 * d ≤ 4611686018427387904 → Ev (fun k => laws_markIntSS.l0 k x a i) ((markRows a (x.drop i)).1, x.take i ++ (markRows a (x.drop i)).2) ∧ a ≤ (markRows a (x.drop i)).1 ∧ (markRows a (x.drop i)).1 ≤ a + 1048576 * d := by
 intro d
 induction d with
 | zero =>
  intro i x a hx hr hd hi h0 h1
  rw [List.drop_of_length_le (by omega)]
  refine ⟨?_, by simp [markRows], by simp [markRows]⟩
  refine Ev.succ ?_
  simp only [laws_markIntSS.l0]
  refine Ev.neg (by omega) ((Ev.now _).val ?_)
  rw [List.take_of_length_le (by omega)]; simp [markRows]
 | succ d ih =>
  intro i x a hx hr hd hi h0 h1
  have hlt : i < x.length := by omega
  have hrow := hr x[i] (by rw [List.drop_eq_getElem_cons hlt]; exact List.mem_cons_self)
  have hdrop : (x.set i (marks a x[i].length)).drop (i + 1) = x.drop (i + 1) := List.drop_set_of_lt (by omega)
  obtain ⟨e1, e2, e3⟩ := ih (i + 1) (x.set i (marks a x[i].length)) (a + x[i].length) (by rw [List.length_set]; exact hx) (fun row hm => hr row (by rw [hdrop] at hm; rw [List.drop_eq_getElem_cons hlt]; exact List.mem_cons_of_mem _ hm)) (by omega) (by omega) (by omega) (by omega)
  rw [hdrop] at e1 e2 e3
  rw [List.drop_eq_getElem_cons hlt]
  simp only [markRows]
  refine ⟨?_, by omega, by omega⟩
  refine Ev.succ ?_
  simp only [laws_markIntSS.l0]
  refine Ev.pos (by omega) (Ev.pos (by omega) ?_)
  rw [rdL_at hlt]
  refine Ev.bind (markIntS x[i] a (by omega) h0 (by omega)) ?_
  rw [wrap_nat (by omega), Int.toNat_natCast]
  refine e1.val ?_
  rw [List.take_succ_eq_append_getElem (by rw [List.length_set]; omega), List.take_set_of_le (Nat.le_refl _), List.getElem_set_self]
  simp
theorem markIntSS (x : List (List Int)) (hx : small x) (a : Int) (h0 : 0 ≤ a) (h1 : a ≤ 1099511627776) : Ev (fun k => laws_markIntSS.f k x a) ((markRows a x).1, (markRows a x).2) ∧ a ≤ (markRows a x).1 ∧ (markRows a x).1 ≤ a + 1099511627776 := by
 have hl := hx.1
 obtain ⟨e1, e2, e3⟩ := markIntSS_l0 x.length hx.1 x.length 0 x a rfl (fun row hm => hx.2 row (by simpa using hm)) (by omega) (by omega) h0 (by omega)
 refine ⟨by unfold laws_markIntSS.f; simpa using e1, by simpa using e2, ?_⟩
 have : (markRows a x).1 ≤ a + 1048576 * x.length := by simpa using e3
 omega
theorem markG (x : List (List Int)) (hx : small x) : ∃ m x', Ev (fun k => laws_markGraph.f k x 1) (m, x') ∧ 0 ≤ m ∧ m ≤ 1099511627777 := by
 obtain ⟨e1, e2, e3⟩ := markIntSS x hx 1 (by omega) (by omega)
 exact ⟨_, _, e1, by omega, by omega⟩
theorem heldIntSS_l0 (n : Nat) (hn : n ≤ 1048576) (y : List (List Int)) (hy : y.length = n) : ∀ (d i : Nat) (x : List (List Int)) (a : Int), x.length = d → (∀ row ∈ x, row.length ≤ 1048576) → n - i = d → i ≤ n → 0 ≤ a → a + 1048576 * d ≤ 4611686018427387904 → y.drop i = (markRows a x).2 → Ev (fun k => laws_heldIntSS.l0 k y a i) (markRows a x).1 := by
 intro d
 induction d with
 | zero =>
  intro i x a hx hr hd hi h0 h1 he
  have : x = [] := List.length_eq_zero_iff.1 hx
  subst this
  refine Ev.succ ?_
  simp only [laws_heldIntSS.l0]
  exact Ev.neg (by omega) (Ev.now _)
 | succ d ih =>
  intro i x a hx hr hd hi h0 h1 he
  have hlt : i < y.length := by omega
  cases x with
  | nil => simp at hx
  | cons row rest =>
   rw [List.drop_eq_getElem_cons hlt] at he
   simp only [markRows, List.cons.injEq] at he
   have hrow := hr row List.mem_cons_self
   refine Ev.succ ?_
   simp only [laws_heldIntSS.l0]
   refine Ev.pos (by omega) (Ev.pos (by omega) ?_)
   rw [rdL_at hlt, he.1]
   refine Ev.bind (heldIntS a row.length h0 (by omega)) (Ev.neg (by omega) ?_)
   rw [wrap_nat (by omega)]
   exact ih (i + 1) rest (a + row.length) (by simpa using hx) (fun r hm => hr r (List.mem_cons_of_mem _ hm)) (by omega) (by omega) (by omega) (by omega) he.2
theorem markRows_len (a : Int) (x : List (List Int)) : (markRows a x).2.length = x.length := by
 induction x generalizing a with
 | nil => rfl
 | cons r x ih => simp [markRows, ih]
theorem heldIntSS (x : List (List Int)) (hx : small x) (a : Int) (h0 : 0 ≤ a) (h1 : a ≤ 1099511627776) : Ev (fun k => laws_heldIntSS.f k (markRows a x).2 a) (markRows a x).1 := by
 have hl := hx.1
 exact heldIntSS_l0 x.length hx.1 _ (markRows_len a x) x.length 0 x a rfl hx.2 (by omega) (by omega) h0 (by omega) (by simp)
theorem markRR (x : List (List Int)) (hx : small x) : ∃ q x', Ev (fun k => laws_markIntSS.f k x 1) (q, x') ∧ 0 ≤ q ∧ Ev (fun k => laws_heldIntSS.f k x' 1) q ∧ True := by
 obtain ⟨e1, e2, e3⟩ := markIntSS x hx 1 (by omega) (by omega)
 exact ⟨_, _, e1, by omega, heldIntSS x hx 1 (by omega) (by omega), trivial⟩
end Go.Proofs.Ythjkhbfaenidpaa.M
namespace Go.Proofs.Ythjkhbfaenidpaa.Pure
open Go.RowKit Go.Proofs.Ythjkhbfaenidpaa.P Go.Proofs.Ythjkhbfaenidpaa.In Go.Proofs.Ythjkhbfaenidpaa.M Go.Proofs.YthjkhbfaenidpaaW.PrintWords Go.Proofs.YthjkhbfaenidpaaW.PrintLast
set_option linter.unusedVariables false
set_option linter.unusedSimpArgs false
open DetKit
theorem FnExactAllTrees (l : List (List Int)) (hl : okSS l) (p : Int) (hp : okI p) : laws_FnExactAllTrees.f l p = some true := by
 unfold laws_FnExactAllTrees.f
 rw [if_pos]
 unfold laws_FnExactAllTrees.Good
 obtain ⟨r, hr, _, hs⟩ := szGraph l hl
 refine ⟨r, hr, fun h => ?_⟩
 have sm := hs h
 obtain ⟨v, b, hS, hI, hv⟩ : ∃ (v : List (List Int)) (b : Bool), Ev (fun k => spec_AllTrees.f k l p) (v, b) ∧ Ev (fun k => impl_AllTrees.f k l p) (v, b) ∧ small v := by
  by_cases hg : placeB l p = true
  ·obtain ⟨hgood, h0, h1⟩ := place_iff hg
   have h8 := (good_iff hgood).1.2
   have hsq := lap_sq hgood (sink := p.toNat) (by omega)
   by_cases hd : D (l.length - 1) (mat (lap l p.toNat)) > 300
   ·refine ⟨[], false, ?_, ?_, ⟨by simp, by simp⟩⟩
    ·unfold spec_AllTrees.f
     exact Ev.bind (grPlace l p hl) (Ev.pos hg (Ev.bind (trLaplace_ev hgood h0 h1) (Ev.bind (trDet_ev _ _ (by omega) hsq) (Ev.pos hd (Ev.now _)))))
    ·unfold impl_AllTrees.f
     exact Ev.bind0 (has1 l p) (Ev.pos hg (Ev.bind (laplace_ev hgood h0 h1) (Ev.bind (determinant_ev (by omega) _ hsq) (Ev.pos hd (Ev.now _)))))
   ·refine ⟨(trL l p l.length 0 (List.replicate l.length 0)).take 301, true, ?_, ?_, ⟨by rw [List.length_take]; omega, fun row hrow => ?_⟩⟩
    ·unfold spec_AllTrees.f
     exact Ev.bind (grPlace l p hl) (Ev.pos hg (Ev.bind (trLaplace_ev hgood h0 h1) (Ev.bind (trDet_ev _ _ (by omega) hsq) (Ev.neg hd (Ev.bind (trAll_ev hgood p 300 (by omega)) (Ev.now _))))))
    ·unfold impl_AllTrees.f
     exact Ev.bind0 (has1 l p) (Ev.pos hg (Ev.bind (laplace_ev hgood h0 h1) (Ev.bind (determinant_ev (by omega) _ hsq) (Ev.neg hd (Ev.bind (allTrees_ev hgood h0 h1 301 (by omega) (by omega)) (Ev.now _))))))
    ·have := List.mem_of_mem_take hrow
     rw [← filter_lexL h0 h1 l.length 0 _ (by omega) (rot0 hgood) (inv0 l p _)] at this
     have := (mem_lexL p l.length 0 _ row (by omega) (rot0 hgood) (List.mem_filter.1 this).1).1.len
     omega
  ·refine ⟨[], false, ?_, ?_, ⟨by simp, by simp⟩⟩
   ·unfold spec_AllTrees.f
    exact Ev.bind (grPlace l p hl) (Ev.neg hg (Ev.now _))
   ·unfold impl_AllTrees.f
    exact Ev.bind0 (has1 l p) (Ev.neg hg (Ev.now _))
 obtain ⟨m, l', hm, hm0, hm1⟩ := markG l sm
 exact ⟨toGraph l sm, v, b, hS, hI, (eqIntSS v v (by have := hv.1; omega) (fun row hr => by have := hv.2 row hr; omega)).val (decide_eq_true rfl), small_eq l sm, m, l', hm, hm0, markRR v hv⟩
end Go.Proofs.Ythjkhbfaenidpaa.Pure
namespace Go.Proofs.Ythjkhbfaenidpaa.fnExactAllTrees
open Go.ChangeShapes Go.WideShapes Go.ChangeAt Go.RowKit
open Go.ChangeMaps (open_string shut_string)
open Go.Proofs.Ythjkhbfaenidpaa.In Go.Proofs.Ythjkhbfaenidpaa.P
set_option linter.unusedVariables false
theorem own : ownKnob Try.prog.godebug = none := by kernel_rfl
theorem laidOut : laidOutB Try.prog = true := by kernel_rfl
set_option maxRecDepth 100000 in
theorem lifted (os : Os) (started : os.Started) (H : Type) (enc : TypeId × Value → H) :
    ReturnsInHanded {} Try.checked os 3 .any (Rows.fnExactAllTreesSpec.pre6 enc Try.prog Try.f3 Rows.fnExactAllTreesRow.domain false) (Rows.fnExactAllTreesSpec.post enc Try.prog Try.f3 false true false false) := by
  refine returnsInHanded_of_change_sized (C := Try.checked) own started (by kernel_rfl) Try.func3
    (ChangeSpec.witness6 (enc := enc) (C := Try.checked) false ⟨#[], #[.agg #[.slice none 0 0], .int .i64 0], []⟩ 8 (by kernel_rfl) (by kernel_rfl) (by kernel_rfl) (by kernel_rfl)) ?_
  intro W base args ds gs before hval0 hW hcnd hsz0 _
  have hsz : (DataW.weightsEach Try.prog (Try.f3.params.toList ++ Rows.fnExactAllTreesSpec.plain.varTypes Try.prog) (ds ++ gs)).all (· ≤ reachBytes) = true := hsz0
  have hval : ∀ (j : Nat) t v, Try.f3.params[j]? = some t → args[j]? = some v → Value.okWide Try.prog W .any base t v := hval0
  have hW' := hW
  obtain ⟨p, q, hA0, hV, rfl, hfz, hnd⟩ := hW
  have hA : DataW.TrodAll enc Try.prog W 0 (fun _ => true) true Try.f3.params.toList args.toList ds p := hA0
  rw [Try.params3] at hA hval hsz
  obtain ⟨v0, vs0, d0, ds0, p0, q0, hargs, rfl, rfl, h0, r0⟩ := trodAll_cons hA
  obtain ⟨v1, vs1, d1, ds1, p1, q1, rfl, rfl, rfl, h1, r1⟩ := trodAll_cons r0
  obtain ⟨rfl, rfl, rfl⟩ := trodAll_nil r1
  obtain rfl : args = #[v0, v1] := by cases args; simp_all
  obtain ⟨rfl, rfl⟩ := trodVars_none hV
  have k0 := h0
  have lt0 : ∀ x ∈ p0, x.block < W.heap.size := by obtain ⟨m, hm⟩ := k0; exact DataW.trod_lt m _ _ _ hm
  obtain ⟨A0, l0, cap0, rfl, hl0, hc0, hw0⟩ := in_graph (q := 3) Try.underlying24 (by kernel_rfl) (by kernel_rfl) rfl Try.underlying22 Try.underlying35 Try.underlying3 (by kernel_rfl) (by kernel_rfl) (hval 0 24 v0 rfl rfl) h0
  obtain ⟨a1, rfl, rfl, rfl, w1⟩ := open_int Try.underlying3 (hval 1 3 v1 rfl rfl) h1
  clear hA0 hval0 hsz0 hsz
  have h := Pure.FnExactAllTrees l0 (okSS_wf hc0 hw0) a1 (okI_wf w1)
  refine (laws_FnExactAllTrees.calls _ _ l0 a1 true W hc0 hl0 h).mono fun e W' ⟨he, bel0⟩ => ?_
  have bel : Below W.heap.size W W' := bel0
  subst he
  exact ⟨_, rfl, _, _, _, [], _, [], hW', trodAll_mk1 (shut_bool Try.underlying4 _), (trodAll_cons_mk (Below.trod laidOut (by kernel_rfl) (of_decide_eq_true (by kernel_rfl)) k0 bel lt0) (trodAll_cons_mk (shut_int Try.underlying3 w1) trodAll_mk0)), rfl, bel.frame _, fun h => by cases h⟩
theorem over : Rows.fnExactAllTreesRow.holds Try.pinned (OpenSpec.ofChange Rows.fnExactAllTreesSpec) :=
  OpenClaim.holds_of_wide 3 Try.f3 rfl rfl rfl rfl rfl rfl rfl ⟨rfl, rfl, rfl, rfl, rfl⟩ rfl rfl rfl rfl rfl (by kernel_rfl) Try.func3 (by kernel_rfl)
    (of_decide_eq_true (by kernel_rfl)) (by unfold Func.isWrapper; first | (rw [if_pos (by decide +kernel)]; kernel_rfl) | (rw [if_neg (by decide +kernel)]; exact ⟨rfl, rfl⟩))
    (fun os started H enc _ => lifted os started H enc)
theorem proved : Rows.FnExactAllTreesSaid := over
end Go.Proofs.Ythjkhbfaenidpaa.fnExactAllTrees
namespace Go.Proofs.Ythjkhbfaenidpaa
/-- The law, under a short name, for the claim. -/
theorem fnExactAllTrees_holds : Rows.FnExactAllTreesSaid := fnExactAllTrees.proved
#print axioms fnExactAllTrees_holds
end Go.Proofs.Ythjkhbfaenidpaa
