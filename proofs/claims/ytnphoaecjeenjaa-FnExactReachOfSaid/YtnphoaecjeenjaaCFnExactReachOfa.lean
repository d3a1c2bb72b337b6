/- The law FnExactReachOf holds for every input: the program returns what the reference returns (or what the law says), for all arguments. -/
import Derived.Test.YtnphoaecjeenjaaPlawsszGraph
import Derived.Test.YtnphoaecjeenjaaPlawstoGraph
import Derived.Test.YtnphoaecjeenjaaPlawseqGraph
import Derived.Test.YtnphoaecjeenjaaPlawseqIntS
import Derived.Test.YtnphoaecjeenjaaPspecgrGood
import Derived.Test.YtnphoaecjeenjaaPspecl1All
import Derived.Test.YtnphoaecjeenjaaPspecl1In
import Derived.Test.YtnphoaecjeenjaaPimplisGraph
import Derived.Test.YtnphoaecjeenjaaRIn
import Derived.Test.YtnphoaecjeenjaaPimplGraphlengths
import Derived.Test.YtnphoaecjeenjaaPspecgrFar
import Derived.Test.YtnphoaecjeenjaaPspecgrPlace
import Derived.Test.YtnphoaecjeenjaaPimplhas
import Derived.Test.YtnphoaecjeenjaaP0
import Derived.Test.YtnphoaecjeenjaaPimplGraphreach
import Derived.Test.YtnphoaecjeenjaaPspecgrReach
import Derived.Test.YtnphoaecjeenjaaPlawsmarkIntS
import Derived.Test.YtnphoaecjeenjaaPlawsheldIntS
import Derived.Test.YtnphoaecjeenjaaPlawsmarkIntSS
import Derived.Test.YtnphoaecjeenjaaPlawsmarkGraph
import Derived.Test.YtnphoaecjeenjaaPlawsFnExactReachOf
import Derived.Test.YtnphoaecjeenjaaRows
import Derived.WalkKit
import Derived.ProofKit
import Derived.OpenShut
import Derived.ShutString
import Derived.ChangeOld
import Derived.Below
import Derived.SizedLaws
import Derived.Deep.Matrix
import Derived.Lib.SmallJoins
namespace Go.Proofs.Ytnphoaecjeenjaa.M
open Go.RowKit Go.Proofs.Ytnphoaecjeenjaa.P Go.Proofs.Ytnphoaecjeenjaa.In Go.Proofs.YtnphoaecjeenjaaW.PrintWords Go.Proofs.YtnphoaecjeenjaaW.PrintLast
set_option linter.unusedVariables false
set_option linter.unusedSimpArgs false
/-! numbers -/
theorem wrap_id {x : Int} (h : -9223372036854775808 ≤ x ∧ x ≤ 9223372036854775807) : wrap64 x = x := by unfold wrap64; omega
theorem wrap_nat {n : Nat} (h : n < 9223372036854775807) : wrap64 ((n : Int) + 1) = ((n + 1 : Nat) : Int) := by unfold wrap64; omega
theorem rd_at {l : List Int} {n : Nat} (h : n < l.length) : rd l (n : Int) = l[n] := by simp [rd, h]
theorem rdL_at {l : List (List Int)} {n : Nat} (h : n < l.length) : rd_L1 l (n : Int) = l[n] := by simp [rd_L1, h]
theorem _root_.Go.Proofs.YtnphoaecjeenjaaW.PrintWords.Ev.val {α : Type} {g : Nat → Option α} {r r' : α} (h : Ev g r) (e : r = r') : Ev g r' := e ▸ h
theorem _root_.Go.Proofs.YtnphoaecjeenjaaW.PrintWords.Ev.const {α : Type} {g : Nat → Option α} {r : α} (h : ∀ k, g k = some r) : Ev g r := ⟨0, fun k _ => h k⟩
theorem _root_.Go.Proofs.YtnphoaecjeenjaaW.PrintWords.Ev.const1 {α : Type} {g : Nat → Option α} {r : α} (h : ∀ k, g (k + 1) = some r) : Ev g r := Ev.step (f := fun _ => some r) h (Ev.const fun _ => rfl)
theorem _root_.Go.Proofs.YtnphoaecjeenjaaW.PrintWords.Ev.succ {α : Type} {g : Nat → Option α} {r : α} (h : Ev (fun k => g (k + 1)) r) : Ev g r := Ev.step (f := fun k => g (k + 1)) (fun _ => rfl) h
theorem _root_.Go.Proofs.YtnphoaecjeenjaaW.PrintWords.Ev.uniq {α : Type} {g : Nat → Option α} {r r' : α} (h : Ev g r) (h' : Ev g r') : r = r' := by
  obtain ⟨K, hK⟩ := h
  obtain ⟨K', hK'⟩ := h'
  have := (hK (max K K') (Nat.le_max_left _ _)).symm.trans (hK' (max K K') (Nat.le_max_right _ _))
  exact Option.some.inj this
theorem _root_.Go.Proofs.YtnphoaecjeenjaaW.PrintWords.Ev.bind0 {α β : Type} {g : Option α} {f : Nat → α → Option β} {a : α} {r : β} (h : g = some a) (k : Ev (fun n => f n a) r) : Ev (fun n => g.bind (f n)) r := by
  subst h; exact k
theorem _root_.Go.Proofs.YtnphoaecjeenjaaW.PrintWords.Ev.pos {α : Type} {g f : Nat → Option α} {r : α} {c : Prop} [Decidable c] (h : c) (k : Ev g r) : Ev (fun n => if c then g n else f n) r := by
  simp only [if_pos h]; exact k
theorem _root_.Go.Proofs.YtnphoaecjeenjaaW.PrintWords.Ev.neg {α : Type} {g f : Nat → Option α} {r : α} {c : Prop} [Decidable c] (h : ¬ c) (k : Ev f r) : Ev (fun n => if c then g n else f n) r := by
  simp only [if_neg h]; exact k

/-! copies -/
theorem toIntS_l0 (l : List Int) (hl : l.length < 9223372036854775807) : ∀ (d i : Nat) (y : List Int), l.length - i = d → i ≤ l.length → y.length = l.length → y.take i = l.take i → Ev (fun k => laws_toIntS.l0 k l y i) l := by
  intro d
  induction d with
  | zero =>
    intro i y hd hi hy ht
    have : i = l.length := by omega
    subst this
    refine Ev.const1 (fun k => ?_)
    simp only [laws_toIntS.l0]
    rw [if_neg (by omega)]
    rw [List.take_of_length_le (by omega), List.take_of_length_le (by omega)] at ht
    rw [ht]
  | succ d ih =>
    intro i y hd hi hy ht
    have hlt : i < l.length := by omega
    refine Ev.step (f := fun k => laws_toIntS.l0 k l (y.set i l[i]) (i + 1 : Nat)) (fun k => ?_) (ih (i + 1) (y.set i l[i]) (by omega) (by omega) (by rw [List.length_set]; exact hy) ?_)
    · simp only [laws_toIntS.l0]
      rw [if_pos (by omega), if_pos (by omega), if_pos (by omega), wrap_nat (by omega), rd_at hlt, Int.toNat_natCast]
    · rw [List.take_succ_eq_append_getElem (by rw [List.length_set]; omega), List.take_succ_eq_append_getElem hlt, List.take_set_of_le (Nat.le_refl _), ht, List.getElem_set_self]
theorem toIntS (l : List Int) (hl : l.length ≤ 35184372088832) : Ev (fun k => laws_toIntS.f k l) l := by
  unfold laws_toIntS.f
  refine Ev.pos (by omega) (Ev.pos (by omega) ?_)
  exact toIntS_l0 l (by omega) l.length 0 _ (by omega) (by omega) (by simp) (by simp)
theorem toIntSS_l0 (l : List (List Int)) (hl : l.length < 9223372036854775807) (hr : ∀ row ∈ l, row.length ≤ 35184372088832) : ∀ (d i : Nat) (y : List (List Int)), l.length - i = d → i ≤ l.length → y.length = l.length → y.take i = l.take i → Ev (fun k => laws_toIntSS.l0 k l y i) l := by
  intro d
  induction d with
  | zero =>
    intro i y hd hi hy ht
    have : i = l.length := by omega
    subst this
    refine Ev.const1 (fun k => ?_)
    simp only [laws_toIntSS.l0]
    rw [if_neg (by omega)]
    rw [List.take_of_length_le (by omega), List.take_of_length_le (by omega)] at ht
    rw [ht]
  | succ d ih =>
    intro i y hd hi hy ht
    have hlt : i < l.length := by omega
    refine Ev.step (f := fun k => (laws_toIntS.f k l[i]).bind fun t => laws_toIntSS.l0 k l (y.set i t) (i + 1 : Nat)) (fun k => ?_) (Ev.bind (toIntS l[i] (hr _ (List.getElem_mem hlt))) (ih (i + 1) (y.set i l[i]) (by omega) (by omega) (by rw [List.length_set]; exact hy) ?_))
    · simp only [laws_toIntSS.l0]
      rw [if_pos (by omega), if_pos (by omega), wrap_nat (by omega), rdL_at hlt, Int.toNat_natCast]
      congr 1
      funext t
      rw [if_pos (by omega)]
    · rw [List.take_succ_eq_append_getElem (by rw [List.length_set]; omega), List.take_succ_eq_append_getElem hlt, List.take_set_of_le (Nat.le_refl _), ht, List.getElem_set_self]
theorem toIntSS (l : List (List Int)) (hl : l.length ≤ 11728124029610) (hr : ∀ row ∈ l, row.length ≤ 35184372088832) : Ev (fun k => laws_toIntSS.f k l) l := by
  unfold laws_toIntSS.f
  refine Ev.pos (by omega) (Ev.pos (by omega) ?_)
  exact toIntSS_l0 l (by omega) hr l.length 0 _ (by omega) (by omega) (by simp) (by simp)
/-- A graph that is small enough for a law to look at it. -/
def small (l : List (List Int)) : Prop := l.length ≤ 1048576 ∧ ∀ row ∈ l, row.length ≤ 1048576
theorem toGraph (l : List (List Int)) (h : small l) : Ev (fun k => laws_toGraph.f k l) l := by
  unfold laws_toGraph.f
  exact Ev.bind (toIntSS l (by have := h.1; omega) (fun row hr => by have := h.2 row hr; omega)) (Ev.now _)

/-! sizes -/
theorem szIntSS_l0 (l : List (List Int)) (hl : okSS l) : ∀ (d i : Nat) (a : Int), l.length - i = d → i ≤ l.length → 0 ≤ a → a ≤ 1048576 → ∃ r, Ev (fun k => laws_szIntSS.l0 k l a i) r ∧ r ≤ 1048576 ∧ (0 ≤ r → ∀ j (hj : j < l.length), i ≤ j → l[j].length ≤ 1048576) := by
  intro d
  induction d with
  | zero =>
    intro i a hd hi h0 h1
    refine ⟨a, Ev.const1 (fun k => ?_), h1, fun _ j hj hij => by omega⟩
    simp only [laws_szIntSS.l0]
    rw [if_neg (by omega)]
  | succ d ih =>
    intro i a hd hi h0 h1
    have hlt : i < l.length := by omega
    have hll := hl.1
    have hrow := (hl.2 _ (List.getElem_mem hlt)).1
    by_cases hneg : a - (l[i].length : Int) < 0
    · refine ⟨-1, Ev.const1 (fun k => ?_), by omega, fun h => by omega⟩
      simp only [laws_szIntSS.l0, laws_szIntS.f]
      rw [if_pos (by omega), if_pos (by omega), rdL_at hlt, if_pos (by rw [wrap_id (by omega)]; exact hneg)]
      rfl
    · obtain ⟨r, h2, h3, h4⟩ := ih (i + 1) (a - (l[i].length : Int)) (by omega) (by omega) (by omega) (by omega)
      refine ⟨r, Ev.step (fun k => ?_) h2, h3, fun h j hj hij => ?_⟩
      · simp only [laws_szIntSS.l0, laws_szIntS.f]
        rw [if_pos (by omega), if_pos (by omega), rdL_at hlt, wrap_id (by omega), if_neg hneg, wrap_nat (by omega)]
        simp only [Option.bind_some]
        rw [if_neg hneg]
      · by_cases e : j = i
        · subst e; omega
        · exact h4 h j hj (by omega)
theorem szGraph (l : List (List Int)) (hl : okSS l) : ∃ r, Ev (fun k => laws_szGraph.f k l 1048576) r ∧ r ≤ 1048576 ∧ (0 ≤ r → small l) := by
  have hll := hl.1
  unfold laws_szGraph.f laws_szIntSS.f
  rw [wrap_id (by omega)]
  by_cases h : (1048576 : Int) - (l.length : Int) < 0
  · exact ⟨-1, Ev.bind (Ev.pos h (Ev.now _)) (Ev.pos (by omega) (Ev.now _)), by omega, fun h => by omega⟩
  · obtain ⟨r, h2, h3, h4⟩ := szIntSS_l0 l hl l.length 0 (1048576 - (l.length : Int)) (by omega) (by omega) (by omega) (by omega)
    by_cases hr : r < 0
    · exact ⟨-1, Ev.bind (Ev.neg h h2) (Ev.pos hr (Ev.now _)), by omega, fun h => by omega⟩
    · refine ⟨r, Ev.bind (Ev.neg h h2) (Ev.neg hr (Ev.now _)), h3, fun h0 => ⟨by omega, fun row hrow => ?_⟩⟩
      obtain ⟨j, hj, rfl⟩ := List.getElem_of_mem hrow
      exact h4 h0 j hj (Nat.zero_le _)

/-! comparisons -/
theorem cons_dec {α : Type} [DecidableEq α] {a b : α} {l m : List α} (e : a = b) : decide (l = m) = decide (a :: l = b :: m) := by
  subst e; exact decide_eq_decide.mpr ⟨fun h => by rw [h], fun h => (List.cons.inj h).2⟩
theorem eqIntS_l0 (x y : List Int) (hl : x.length ≤ 9223372036854775807) (hxy : x.length = y.length) : ∀ (d i : Nat), x.length - i = d → i ≤ x.length → Ev (fun k => laws_eqIntS.l0 k x y i) (decide (x.drop i = y.drop i)) := by
  intro d
  induction d with
  | zero =>
    intro i hd hi
    refine Ev.const1 (fun k => ?_)
    simp only [laws_eqIntS.l0]
    rw [if_neg (by omega), List.drop_of_length_le (by omega), List.drop_of_length_le (by omega)]
    simp
  | succ d ih =>
    intro i hd hi
    have hlt : i < x.length := by omega
    have hlt2 : i < y.length := by omega
    rw [List.drop_eq_getElem_cons hlt, List.drop_eq_getElem_cons hlt2]
    by_cases e : x[i] = y[i]
    · refine Ev.step (f := fun k => laws_eqIntS.l0 k x y (i + 1 : Nat)) (fun k => ?_) ((ih (i + 1) (by omega) (by omega)).val (cons_dec e))
      simp only [laws_eqIntS.l0]
      rw [if_pos (by omega), if_pos (by omega), if_pos (by omega), rd_at hlt, rd_at hlt2, if_pos e, wrap_nat (by omega)]
    · refine Ev.const1 (fun k => ?_)
      simp only [laws_eqIntS.l0]
      rw [if_pos (by omega), if_pos (by omega), if_pos (by omega), rd_at hlt, rd_at hlt2, if_neg e, decide_eq_false (fun h => e (List.cons.inj h).1)]
theorem eqIntS (x y : List Int) (hl : x.length ≤ 9223372036854775807) : Ev (fun k => laws_eqIntS.f k x y) (decide (x = y)) := by
  unfold laws_eqIntS.f
  by_cases h : x.length = y.length
  · refine Ev.pos (by omega) ?_
    exact eqIntS_l0 x y hl h x.length 0 (by omega) (by omega)
  · refine Ev.neg (by omega) ?_
    exact (Ev.now _).val (by have : x ≠ y := fun e => h (by rw [e]); simp [this])
theorem eqIntSS_l0 (x y : List (List Int)) (hl : x.length ≤ 9223372036854775807) (hr : ∀ row ∈ x, row.length ≤ 9223372036854775807) (hxy : x.length = y.length) : ∀ (d i : Nat), x.length - i = d → i ≤ x.length → Ev (fun k => laws_eqIntSS.l0 k x y i) (decide (x.drop i = y.drop i)) := by
  intro d
  induction d with
  | zero =>
    intro i hd hi
    refine Ev.const1 (fun k => ?_)
    simp only [laws_eqIntSS.l0]
    rw [if_neg (by omega), List.drop_of_length_le (by omega), List.drop_of_length_le (by omega)]
    simp
  | succ d ih =>
    intro i hd hi
    have hlt : i < x.length := by omega
    have hlt2 : i < y.length := by omega
    rw [List.drop_eq_getElem_cons hlt, List.drop_eq_getElem_cons hlt2]
    refine Ev.step (f := fun k => (laws_eqIntS.f k x[i] y[i]).bind fun t => if t = true then laws_eqIntSS.l0 k x y (i + 1 : Nat) else some false) (fun k => ?_) ?_
    · simp only [laws_eqIntSS.l0]
      rw [if_pos (by omega), if_pos (by omega), if_pos (by omega), rdL_at hlt, rdL_at hlt2, wrap_nat (by omega)]
    · by_cases e : x[i] = y[i]
      · exact Ev.bind ((eqIntS x[i] y[i] (hr _ (List.getElem_mem hlt))).val (decide_eq_true e)) (Ev.pos rfl ((ih (i + 1) (by omega) (by omega)).val (cons_dec e)))
      · exact Ev.bind ((eqIntS x[i] y[i] (hr _ (List.getElem_mem hlt))).val (decide_eq_false e)) (Ev.neg (by simp) ((Ev.now _).val (decide_eq_false (fun h => e (List.cons.inj h).1)).symm))
theorem eqIntSS (x y : List (List Int)) (hl : x.length ≤ 9223372036854775807) (hr : ∀ row ∈ x, row.length ≤ 9223372036854775807) : Ev (fun k => laws_eqIntSS.f k x y) (decide (x = y)) := by
  unfold laws_eqIntSS.f
  by_cases h : x.length = y.length
  · refine Ev.pos (by omega) ?_
    exact eqIntSS_l0 x y hl hr h x.length 0 (by omega) (by omega)
  · refine Ev.neg (by omega) ?_
    exact (Ev.now _).val (by have : x ≠ y := fun e => h (by rw [e]); simp [this])
theorem eqGraph (x y : List (List Int)) (hl : x.length ≤ 9223372036854775807) (hr : ∀ row ∈ x, row.length ≤ 9223372036854775807) : Ev (fun k => laws_eqGraph.f k x y) (decide (x = y)) := by
  unfold laws_eqGraph.f
  refine Ev.bind (eqIntSS x y hl hr) ?_
  by_cases e : x = y
  · exact Ev.pos (decide_eq_true e) ((Ev.now _).val (decide_eq_true e).symm)
  · exact Ev.neg (by simp [e]) ((Ev.now _).val (decide_eq_false e).symm)
theorem small_eq (l : List (List Int)) (h : small l) : Ev (fun k => laws_eqGraph.f k l l) true := (eqGraph l l (by have := h.1; omega) (fun row hr => by have := h.2 row hr; omega)).val (decide_eq_true rfl)

/-! what a graph is -/
theorem l1In (a lo hi : Int) : spec_l1In.f a lo hi = some (decide (lo ≤ a) && decide (a ≤ hi)) := by
  unfold spec_l1In.f
  by_cases h : a ≥ lo
  · rw [if_pos h]; have : lo ≤ a := h; simp [this]
  · rw [if_neg h]; have : ¬ lo ≤ a := h; simp [this]
theorem implin (a lo hi : Int) : impl_in.f a lo hi = some (decide (lo ≤ a) && decide (a ≤ hi)) := by
  unfold impl_in.f
  by_cases h : lo ≤ a
  · rw [if_pos h]; simp [h]
  · rw [if_neg h]; simp [h]
theorem l1All_l0 (l : List Int) (lo hi : Int) (hl : l.length ≤ 9223372036854775807) : ∀ (d i : Nat), l.length - i = d → i ≤ l.length → Ev (fun k => spec_l1All.l0 k lo hi l l.length i) ((l.drop i).all fun x => decide (lo ≤ x) && decide (x ≤ hi)) := by
  intro d
  induction d with
  | zero =>
    intro i hd hi
    refine Ev.const1 (fun k => ?_)
    simp only [spec_l1All.l0]
    rw [if_neg (by omega), List.drop_of_length_le (by omega)]
    rfl
  | succ d ih =>
    intro i hd hi'
    have hlt : i < l.length := by omega
    rw [List.drop_eq_getElem_cons hlt, List.all_cons]
    by_cases e : (decide (lo ≤ l[i]) && decide (l[i] ≤ hi)) = true
    · refine Ev.step (f := fun k => spec_l1All.l0 k lo hi l l.length (i + 1 : Nat)) (fun k => ?_) ((ih (i + 1) (by omega) (by omega)).val (by rw [e]; simp))
      simp only [spec_l1All.l0, l1In]
      rw [if_pos (by omega), if_pos (by omega), if_pos (by omega), rd_at hlt, wrap_nat (by omega)]
      simp only [Option.bind_some]
      rw [if_pos e]
    · refine Ev.const1 (fun k => ?_)
      simp only [spec_l1All.l0, l1In]
      rw [if_pos (by omega), if_pos (by omega), if_pos (by omega), rd_at hlt]
      simp only [Option.bind_some]
      rw [if_neg e]
      simp only [Bool.not_eq_true] at e
      rw [e]; rfl
theorem l1All (l : List Int) (lo hi : Int) (hl : l.length ≤ 9223372036854775807) : Ev (fun k => spec_l1All.f k l lo hi) (l.all fun x => decide (lo ≤ x) && decide (x ≤ hi)) := by
  unfold spec_l1All.f
  exact l1All_l0 l lo hi hl l.length 0 (by omega) (by omega)
theorem grGood_l0 (l : List (List Int)) (hl : okSS l) : ∀ (d i : Nat), l.length - i = d → i ≤ l.length → Ev (fun k => spec_grGood.l0 k l.length l l.length i) ((l.drop i).all (goodRow l.length)) := by
  intro d
  induction d with
  | zero =>
    intro i hd hi
    refine Ev.const1 (fun k => ?_)
    simp only [spec_grGood.l0]
    rw [if_neg (by omega), List.drop_of_length_le (by omega)]
    rfl
  | succ d ih =>
    intro i hd hi'
    have hlt : i < l.length := by omega
    have hll := hl.1
    have hrow := (hl.2 _ (List.getElem_mem hlt)).1
    rw [List.drop_eq_getElem_cons hlt, List.all_cons]
    by_cases h5 : l[i].length ≤ 5
    · refine Ev.step (f := fun k => (spec_l1All.f k l[i] 0 ((l.length : Int) - 1)).bind fun t => if t = true then spec_grGood.l0 k l.length l l.length (i + 1 : Nat) else some false) (fun k => ?_) ?_
      · simp only [spec_grGood.l0]
        rw [if_pos (by omega), if_pos (by omega), if_pos (by omega), rdL_at hlt, if_neg (by omega), wrap_nat (by omega), wrap_id (by omega)]
      · by_cases e : (l[i].all fun x => decide (0 ≤ x) && decide (x ≤ (l.length : Int) - 1)) = true
        · exact Ev.bind ((l1All _ 0 _ hrow).val e) (Ev.pos rfl ((ih (i + 1) (by omega) (by omega)).val (by unfold goodRow; rw [e]; simp [h5])))
        · exact Ev.bind ((l1All _ 0 _ hrow).val (Bool.eq_false_iff.mpr e)) (Ev.neg (by simp) ((Ev.now _).val (by unfold goodRow; simp only [Bool.not_eq_true] at e; rw [e]; simp)))
    · refine Ev.const1 (fun k => ?_)
      simp only [spec_grGood.l0]
      rw [if_pos (by omega), if_pos (by omega), if_pos (by omega), rdL_at hlt, if_pos (by omega)]
      simp [goodRow, h5]
theorem grGood (l : List (List Int)) (hl : okSS l) : Ev (fun k => spec_grGood.f k l) (goodG l) := by
  unfold spec_grGood.f
  rw [l1In]
  simp only [Option.bind_some]
  by_cases h : 1 ≤ l.length ∧ l.length ≤ 8
  · have h1 : (1 : Int) ≤ l.length := by omega
    have h2 : (l.length : Int) ≤ 8 := by omega
    refine Ev.pos (by simp [h1, h2]) ?_
    exact (grGood_l0 l hl l.length 0 (by omega) (by omega)).val (by simp [goodG, h.1, h.2])
  · refine Ev.neg (by simp; omega) ((Ev.now _).val ?_)
    unfold goodG
    by_cases h1 : 1 ≤ l.length
    · have h2 : ¬ l.length ≤ 8 := by omega
      simp [h1, h2]
    · simp [h1]
theorem ok_small {l : List (List Int)} (h : okSS l) : l.length ≤ 9223372036854775807 ∧ ∀ row ∈ l, row.length ≤ 9223372036854775807 := ⟨h.1, fun row hr => (h.2 row hr).1⟩
end Go.Proofs.Ytnphoaecjeenjaa.M
namespace Go.Proofs.Ytnphoaecjeenjaa.M
open Go.RowKit Go.Proofs.Ytnphoaecjeenjaa.P Go.Proofs.Ytnphoaecjeenjaa.In Go.Proofs.YtnphoaecjeenjaaW.PrintWords Go.Proofs.YtnphoaecjeenjaaW.PrintLast
set_option linter.unusedVariables false
set_option linter.unusedSimpArgs false
theorem good_iff {l : List (List Int)} (h : goodG l = true) : (1 ≤ l.length ∧ l.length ≤ 8) ∧ ∀ row ∈ l, row.length ≤ 5 ∧ ∀ q ∈ row, 0 ≤ q ∧ q < (l.length : Int) := by
  simp only [goodG, goodRow, Bool.and_eq_true, decide_eq_true_eq, List.all_eq_true] at h
  refine ⟨⟨h.1, h.2.1⟩, fun row hr => ⟨(h.2.2 row hr).1, fun q hq => ?_⟩⟩
  have := (h.2.2 row hr).2 q hq
  omega
/-- A place of a graph. -/
def placeB (l : List (List Int)) (p : Int) : Bool := goodG l && (decide (0 ≤ p) && decide (p ≤ (l.length : Int) - 1))
theorem place_iff {l : List (List Int)} {p : Int} (h : placeB l p = true) : goodG l = true ∧ 0 ≤ p ∧ p < (l.length : Int) := by
  simp only [placeB, Bool.and_eq_true, decide_eq_true_eq] at h
  exact ⟨h.1, h.2.1, by omega⟩
theorem grPlace (l : List (List Int)) (p : Int) (hl : okSS l) : Ev (fun k => spec_grPlace.f k l p) (placeB l p) := by
  unfold spec_grPlace.f
  have hll := hl.1
  refine Ev.bind (grGood l hl) ?_
  by_cases h : goodG l = true
  · refine Ev.pos h ?_
    rw [l1In, wrap_id (by omega)]
    exact Ev.bind0 rfl ((Ev.now _).val (by simp [placeB, h]))
  · exact Ev.neg h ((Ev.now _).val (by simp only [Bool.not_eq_true] at h; simp [placeB, h]))
theorem has1 (l : List (List Int)) (p : Int) : impl_has.f l [p] = some (placeB l p) := by
  unfold impl_has.f placeB; simp
theorem has2 (l : List (List Int)) (p q : Int) : impl_has.f l [p, q] = some (placeB l p && placeB l q) := by
  unfold impl_has.f placeB
  cases goodG l <;> simp

/-! how far -/
def neg : List Int → Nat
  | [] => 0
  | x :: l => (if x < 0 then 1 else 0) + neg l
theorem neg_set (o : List Int) (i : Nat) (hi : i < o.length) (h : o[i] < 0) (v : Int) (hv : 0 ≤ v) : neg (o.set i v) + 1 = neg o := by
  induction o generalizing i with
  | nil => simp at hi
  | cons x o ih =>
    cases i with
    | zero =>
      simp only [List.getElem_cons_zero] at h
      simp only [List.set_cons_zero, neg]
      rw [if_neg (by omega), if_pos h]; omega
    | succ i =>
      simp only [List.getElem_cons_succ] at h
      simp only [List.set_cons_succ, neg]
      have := ih i (by simpa using hi) h
      omega
theorem neg_le (o : List Int) : neg o ≤ o.length := by
  induction o with
  | nil => simp [neg]
  | cons x o ih => simp only [neg, List.length_cons]; split <;> omega
theorem rd_get {l : List Int} {q : Int} (h0 : 0 ≤ q) (h1 : q < (l.length : Int)) : rd l q = l[q.toNat]'(by omega) := by
  unfold rd; rw [List.getD_eq_getElem?_getD, List.getElem?_eq_getElem (by omega)]; rfl
theorem rdL_get {l : List (List Int)} {q : Int} (h0 : 0 ≤ q) (h1 : q < (l.length : Int)) : rd_L1 l q = l[q.toNat]'(by omega) := by
  unfold rd_L1; rw [List.getD_eq_getElem?_getD, List.getElem?_eq_getElem (by omega)]; rfl
/-- What is known of the lengths, on the way. -/
structure Known (n : Nat) (o : List Int) : Prop where
  len : o.length = n
  lo : ∀ x ∈ o, -1 ≤ x
  hi : ∀ x ∈ o, x + 1 ≤ (n : Int) - neg o
theorem Known.at {n : Nat} {o : List Int} (h : Known n o) {q : Int} (h0 : 0 ≤ q) (h1 : q < (n : Int)) : -1 ≤ rd o q ∧ rd o q + 1 ≤ (n : Int) - neg o := by
  have hl := h.len
  rw [rd_get h0 (by omega)]
  exact ⟨h.lo _ (List.getElem_mem _), h.hi _ (List.getElem_mem _)⟩
theorem Known.set {n : Nat} {o : List Int} (h : Known n o) {q : Int} (h0 : 0 ≤ q) (h1 : q < (n : Int)) (hq : rd o q < 0) {v : Int} (hv0 : 0 ≤ v) (hv : v ≤ (n : Int) - neg o) : Known n (o.set q.toNat v) ∧ neg (o.set q.toNat v) + 1 = neg o := by
  have hl := h.len
  rw [rd_get h0 (by omega)] at hq
  have hn := neg_set o q.toNat (by omega) hq v hv0
  refine ⟨⟨by rw [List.length_set]; exact hl, fun x hx => ?_, fun x hx => ?_⟩, hn⟩
  · rcases List.mem_or_eq_of_mem_set hx with h' | h'
    · exact h.lo x h'
    · omega
  · rcases List.mem_or_eq_of_mem_set hx with h' | h'
    · have := h.hi x h'; omega
    · omega
/-- The exits of a place are looked at. -/
def vis (c : Int) : List Int → List Int → List Int → List Int × List Int
  | [], o, qs => (o, qs)
  | q :: row, o, qs => if rd o q < 0 then vis c row (o.set q.toNat (rd o c + 1)) (qs ++ [q]) else vis c row o qs
def bfs (g : List (List Int)) : Nat → List Int → List Int → List Int
  | 0, o, _ => o
  | _ + 1, o, [] => o
  | f + 1, o, c :: qs => bfs g f (vis c (rd_L1 g c) o qs).1 (vis c (rd_L1 g c) o qs).2
/-- How far each place is from p, -1 where no way leads. -/
def far (g : List (List Int)) (p : Int) : List Int := bfs g g.length ((List.replicate g.length (-1)).set p.toNat 0) [p]
/-- The places that wait: places that are known. -/
def Wait (n : Nat) (o qs : List Int) : Prop := ∀ q ∈ qs, 0 ≤ q ∧ q < (n : Int) ∧ 0 ≤ rd o q
theorem rd_set {o : List Int} {q x v : Int} (hq0 : 0 ≤ q) (hq : q < (o.length : Int)) (hx0 : 0 ≤ x) : rd (o.set q.toNat v) x = if x = q then v else rd o x := by
  unfold rd
  rw [List.getD_eq_getElem?_getD, List.getElem?_set, List.getD_eq_getElem?_getD]
  by_cases e : x = q
  · subst e; rw [if_pos rfl, if_pos (by omega), if_pos rfl]; rfl
  · rw [if_neg (by omega), if_neg e]
theorem vis_keeps {n : Nat} (hn : n ≤ 8) (c : Int) : ∀ (row o qs : List Int), (∀ q ∈ row, 0 ≤ q ∧ q < (n : Int)) → Known n o → Wait n o qs → (0 ≤ c ∧ c < (n : Int) ∧ 0 ≤ rd o c) →
    Known n (vis c row o qs).1 ∧ Wait n (vis c row o qs).1 (vis c row o qs).2 ∧ (vis c row o qs).2.length + neg (vis c row o qs).1 = qs.length + neg o := by
  intro row
  induction row with
  | nil => intro o qs _ hk hw _; exact ⟨hk, hw, rfl⟩
  | cons q row ih =>
    intro o qs hr hk hw hc
    obtain ⟨hq0, hq1⟩ := hr q List.mem_cons_self
    have hr' : ∀ x ∈ row, 0 ≤ x ∧ x < (n : Int) := fun x hx => hr x (List.mem_cons_of_mem _ hx)
    simp only [vis]
    by_cases h : rd o q < 0
    · rw [if_pos h]
      have hl := hk.len
      have hcc := hk.at hc.1 hc.2.1
      obtain ⟨hk', hn'⟩ := hk.set hq0 hq1 h (v := rd o c + 1) (by omega) (by omega)
      have hs : ∀ x, 0 ≤ x → 0 ≤ rd o x → 0 ≤ rd (o.set q.toNat (rd o c + 1)) x := fun x hx hx1 => by
        rw [rd_set hq0 (by omega) hx]; split <;> omega
      obtain ⟨h1, h2, h3⟩ := ih _ (qs ++ [q]) hr' hk' (fun x hx => by
        rcases List.mem_append.1 hx with hx | hx
        · obtain ⟨a, b, c'⟩ := hw x hx; exact ⟨a, b, hs x a c'⟩
        · rw [List.mem_singleton.1 hx]; exact ⟨hq0, hq1, by rw [rd_set hq0 (by omega) hq0, if_pos rfl]; omega⟩) ⟨hc.1, hc.2.1, hs c hc.1 hc.2.2⟩
      refine ⟨h1, h2, ?_⟩
      rw [h3, List.length_append]; simp; omega
    · rw [if_neg h]
      exact ih o qs hr' hk hw hc
theorem drop_rd {row : List Int} {i : Nat} (h : i < row.length) : row.drop i = rd row (i : Int) :: row.drop (i + 1) := by
  rw [List.drop_eq_getElem_cons h, rd_at h]
/-- The program's look at the exits. -/
theorem lengths_l1 {n : Nat} (hn : n ≤ 8) (g : List (List Int)) (c : Int) (row : List Int) (hr : ∀ q ∈ row, 0 ≤ q ∧ q < (n : Int)) (hrl : row.length ≤ 5) (r : List Int) : ∀ (d i : Nat) (o qs : List Int), row.length - i = d → i ≤ row.length → Known n o → Wait n o qs → (0 ≤ c ∧ c < (n : Int) ∧ 0 ≤ rd o c) → qs.length + neg o ≤ 8 →
    Ev (fun k => impl_Graph_lengths.l0 k (vis c (row.drop i) o qs).1 (vis c (row.drop i) o qs).2 g) r → Ev (fun k => impl_Graph_lengths.l1 k o (c :: qs) row row.length i g) r := by
  intro d
  induction d with
  | zero =>
    intro i o qs hd hi hk hw hc hb h
    rw [List.drop_of_length_le (by omega)] at h
    refine Ev.step (fun k => ?_) h
    simp only [impl_Graph_lengths.l1, vis]
    rw [if_neg (by omega), if_pos (by simp; omega)]
    rfl
  | succ d ih =>
    intro i o qs hd hi hk hw hc hb h
    have hlt : i < row.length := by omega
    have hq := hr (rd row i) (by rw [rd_at hlt]; exact List.getElem_mem _)
    have hl := hk.len
    rw [drop_rd hlt] at h
    simp only [vis] at h
    by_cases hneg : rd o (rd row i) < 0
    · rw [if_pos hneg] at h
      have hcc := hk.at hc.1 hc.2.1
      obtain ⟨hk', hn'⟩ := hk.set hq.1 hq.2 hneg (v := rd o c + 1) (by omega) (by omega)
      have hs : ∀ x, 0 ≤ x → 0 ≤ rd o x → 0 ≤ rd (o.set (rd row i).toNat (rd o c + 1)) x := fun x hx hx1 => by
        rw [rd_set hq.1 (by omega) hx]; split <;> omega
      refine Ev.step (fun k => ?_) (ih (i + 1) _ (qs ++ [rd row i]) (by omega) (by omega) hk' (fun x hx => by
        rcases List.mem_append.1 hx with hx | hx
        · obtain ⟨a, b, c'⟩ := hw x hx; exact ⟨a, b, hs x a c'⟩
        · rw [List.mem_singleton.1 hx]; exact ⟨hq.1, hq.2, by rw [rd_set hq.1 (by omega) hq.1, if_pos rfl]; omega⟩) ⟨hc.1, hc.2.1, hs c hc.1 hc.2.2⟩ (by rw [List.length_append]; simp; omega) h)
      simp only [impl_Graph_lengths.l1]
      have e0 : rd (c :: qs) 0 = c := rfl
      rw [if_pos (by omega), if_pos (by omega), if_pos (by omega), if_pos hq.1, if_pos (by omega), if_pos hneg, if_pos (by rw [List.length_cons]; omega), e0, if_pos hc.1, if_pos (by omega), if_pos (by rw [List.length_cons]; omega), wrap_nat (by omega), wrap_id (by omega)]
      rfl
    · rw [if_neg hneg] at h
      refine Ev.step (fun k => ?_) (ih (i + 1) o qs (by omega) (by omega) hk hw hc hb h)
      simp only [impl_Graph_lengths.l1]
      rw [if_pos (by omega), if_pos (by omega), if_pos (by omega), if_pos hq.1, if_pos (by omega), if_neg hneg, wrap_nat (by omega)]
theorem lengths_l0 {g : List (List Int)} (hg : goodG g = true) : ∀ (f : Nat) (o qs : List Int), Known g.length o → Wait g.length o qs → qs.length + neg o ≤ f → f ≤ 8 → Ev (fun k => impl_Graph_lengths.l0 k o qs g) (bfs g f o qs) := by
  obtain ⟨⟨h1, h8⟩, hrows⟩ := good_iff hg
  intro f
  induction f with
  | zero =>
    intro o qs hk hw hb hf
    have : qs = [] := List.eq_nil_of_length_eq_zero (by omega)
    subst this
    refine Ev.const1 (fun k => ?_)
    simp only [impl_Graph_lengths.l0]
    rw [if_neg (by simp)]; rfl
  | succ f ih =>
    intro o qs hk hw hb hf
    cases qs with
    | nil =>
      refine Ev.const1 (fun k => ?_)
      simp only [impl_Graph_lengths.l0]
      rw [if_neg (by simp)]; rfl
    | cons c qs =>
      obtain ⟨hc0, hc1, hc2⟩ := hw c List.mem_cons_self
      have hrow := hrows (rd_L1 g c) (by rw [rdL_get hc0 hc1]; exact List.getElem_mem _)
      have hw' : Wait g.length o qs := fun x hx => hw x (List.mem_cons_of_mem _ hx)
      obtain ⟨k1, k2, k3⟩ := vis_keeps h8 c (rd_L1 g c) o qs hrow.2 hk hw' ⟨hc0, hc1, hc2⟩
      simp only [List.length_cons] at hb
      have := lengths_l1 h8 g c (rd_L1 g c) hrow.2 hrow.1 (bfs g (f + 1) o (c :: qs)) _ 0 o qs rfl (Nat.zero_le _) hk hw' ⟨hc0, hc1, hc2⟩ (by omega) (by
        rw [List.drop_zero]
        exact ih _ _ k1 k2 (by omega) (by omega))
      refine Ev.step (fun k => ?_) this
      simp only [impl_Graph_lengths.l0]
      have e0 : rd (c :: qs) 0 = c := rfl
      rw [if_pos (by rw [List.length_cons]; omega), if_pos (by rw [List.length_cons]; omega), e0, if_pos hc0, if_pos hc1]
      rfl
theorem neg_rep (n : Nat) : neg (List.replicate n (-1)) = n := by
  induction n with
  | zero => rfl
  | succ n ih => simp only [List.replicate_succ, neg, ih]; rw [if_pos (by omega)]; omega
theorem known0 {n : Nat} {p : Int} (h0 : 0 ≤ p) (h1 : p < (n : Int)) : Known n ((List.replicate n (-1)).set p.toNat 0) ∧ Wait n ((List.replicate n (-1)).set p.toNat 0) [p] ∧ [p].length + neg ((List.replicate n (-1)).set p.toNat 0) ≤ n := by
  have hk : Known n (List.replicate n (-1)) := ⟨by simp, fun x hx => by rw [(List.mem_replicate.1 hx).2]; omega, fun x hx => by rw [(List.mem_replicate.1 hx).2, neg_rep]; omega⟩
  have hr : rd (List.replicate n (-1)) p < 0 := by rw [rd_get h0 (by simpa using h1)]; simp
  obtain ⟨k1, k2⟩ := hk.set h0 h1 hr (v := 0) (by omega) (by rw [neg_rep]; omega)
  rw [neg_rep] at k2
  refine ⟨k1, fun x hx => ?_, by simp; omega⟩
  rw [List.mem_singleton.1 hx]
  exact ⟨h0, h1, by rw [rd_set h0 (by simpa using h1) h0, if_pos rfl]; omega⟩
theorem lengths {g : List (List Int)} {p : Int} (h : placeB g p = true) : Ev (fun k => impl_Graph_lengths.f k g p) (far g p) := by
  obtain ⟨hg, h0, h1⟩ := place_iff h
  obtain ⟨⟨hn1, hn8⟩, _⟩ := good_iff hg
  obtain ⟨k1, k2, k3⟩ := known0 h0 h1
  unfold impl_Graph_lengths.f
  have hR : slices_Repeat_int_int.f [-1] (g.length : Int) = some (List.replicate g.length (-1)) := by
    unfold slices_Repeat_int_int.f; rw [if_pos ⟨rfl, by omega, by omega⟩]; rfl
  exact Ev.bind0 hR (Ev.pos h0 (Ev.pos (by simpa using h1) (lengths_l0 hg g.length _ _ k1 k2 k3 hn8)))
theorem far_len {g : List (List Int)} {p : Int} (h : placeB g p = true) : Known g.length (far g p) := by
  obtain ⟨hg, h0, h1⟩ := place_iff h
  obtain ⟨⟨hn1, hn8⟩, hrows⟩ := good_iff hg
  obtain ⟨k1, k2, k3⟩ := known0 h0 h1
  have : ∀ (f : Nat) (o qs : List Int), Known g.length o → Wait g.length o qs → Known g.length (bfs g f o qs) := by
    intro f
    induction f with
    | zero => intro o qs hk hw; exact hk
    | succ f ih =>
      intro o qs hk hw
      cases qs with
      | nil => exact hk
      | cons c qs =>
        obtain ⟨hc0, hc1, hc2⟩ := hw c List.mem_cons_self
        have hrow := hrows (rd_L1 g c) (by rw [rdL_get hc0 hc1]; exact List.getElem_mem _)
        obtain ⟨k1, k2, k3⟩ := vis_keeps hn8 c (rd_L1 g c) o qs hrow.2 hk (fun x hx => hw x (List.mem_cons_of_mem _ hx)) ⟨hc0, hc1, hc2⟩
        exact ih _ _ k1 k2
  exact this _ _ _ k1 k2
/-! the reference's search -/
theorem far_l2 {n : Nat} (hn : n ≤ 8) (g : List (List Int)) (c : Int) (pre : List Int) (row : List Int) (hr : ∀ q ∈ row, 0 ≤ q ∧ q < (n : Int)) (hrl : row.length ≤ 5) (r : List Int) : ∀ (d i : Nat) (o qs : List Int), row.length - i = d → i ≤ row.length → Known n o → (0 ≤ c ∧ c < (n : Int) ∧ 0 ≤ rd o c) → pre.length + qs.length + neg o ≤ 8 →
    Ev (fun k => spec_grFar.l1 k (vis c (row.drop i) o qs).1 (pre ++ c :: (vis c (row.drop i) o qs).2) ((pre.length + 1 : Nat) : Int) g) r → Ev (fun k => spec_grFar.l2 k o (pre ++ c :: qs) (pre.length : Int) row row.length i g) r := by
  intro d
  induction d with
  | zero =>
    intro i o qs hd hi hk hc hb h
    rw [List.drop_of_length_le (by omega)] at h
    refine Ev.step (fun k => ?_) h
    simp only [spec_grFar.l2, vis]
    rw [if_neg (by omega), wrap_nat (by omega)]
  | succ d ih =>
    intro i o qs hd hi hk hc hb h
    have hlt : i < row.length := by omega
    have hq := hr (rd row i) (by rw [rd_at hlt]; exact List.getElem_mem _)
    have hl := hk.len
    rw [drop_rd hlt] at h
    simp only [vis] at h
    by_cases hneg : rd o (rd row i) < 0
    · rw [if_pos hneg] at h
      have hcc := hk.at hc.1 hc.2.1
      obtain ⟨hk', hn'⟩ := hk.set hq.1 hq.2 hneg (v := rd o c + 1) (by omega) (by omega)
      have hs : ∀ x, 0 ≤ x → 0 ≤ rd o x → 0 ≤ rd (o.set (rd row i).toNat (rd o c + 1)) x := fun x hx hx1 => by
        rw [rd_set hq.1 (by omega) hx]; split <;> omega
      refine Ev.step (fun k => ?_) (ih (i + 1) _ (qs ++ [rd row i]) (by omega) (by omega) hk' ⟨hc.1, hc.2.1, hs c hc.1 hc.2.2⟩ (by rw [List.length_append]; simp; omega) h)
      simp only [spec_grFar.l2]
      have e0 : rd (pre ++ c :: qs) (pre.length : Int) = c := by rw [rd_at (by simp)]; simp
      rw [if_pos (by omega), if_pos (by omega), if_pos (by omega), if_pos hq.1, if_pos (by omega), if_pos hneg, if_pos (by omega), if_pos (by simp; omega), e0, if_pos hc.1, if_pos (by omega), if_pos (by simp; omega), wrap_nat (by omega), wrap_id (by omega)]
      simp
    · rw [if_neg hneg] at h
      refine Ev.step (fun k => ?_) (ih (i + 1) o qs (by omega) (by omega) hk hc hb h)
      simp only [spec_grFar.l2]
      rw [if_pos (by omega), if_pos (by omega), if_pos (by omega), if_pos hq.1, if_pos (by omega), if_neg hneg, wrap_nat (by omega)]
theorem far_l1 {g : List (List Int)} (hg : goodG g = true) : ∀ (f : Nat) (o pre qs : List Int), Known g.length o → Wait g.length o qs → qs.length + neg o ≤ f → f ≤ 8 → pre.length + qs.length + neg o ≤ 8 → Ev (fun k => spec_grFar.l1 k o (pre ++ qs) (pre.length : Int) g) (bfs g f o qs) := by
  obtain ⟨⟨h1, h8⟩, hrows⟩ := good_iff hg
  intro f
  induction f with
  | zero =>
    intro o pre qs hk hw hb hf hp
    have : qs = [] := List.eq_nil_of_length_eq_zero (by omega)
    subst this
    refine Ev.const1 (fun k => ?_)
    simp only [spec_grFar.l1]
    rw [if_neg (by simp)]; rfl
  | succ f ih =>
    intro o pre qs hk hw hb hf hp
    cases qs with
    | nil =>
      refine Ev.const1 (fun k => ?_)
      simp only [spec_grFar.l1]
      rw [if_neg (by simp)]; rfl
    | cons c qs =>
      obtain ⟨hc0, hc1, hc2⟩ := hw c List.mem_cons_self
      have hrow := hrows (rd_L1 g c) (by rw [rdL_get hc0 hc1]; exact List.getElem_mem _)
      have hw' : Wait g.length o qs := fun x hx => hw x (List.mem_cons_of_mem _ hx)
      obtain ⟨k1, k2, k3⟩ := vis_keeps h8 c (rd_L1 g c) o qs hrow.2 hk hw' ⟨hc0, hc1, hc2⟩
      simp only [List.length_cons] at hb hp
      have := far_l2 h8 g c pre (rd_L1 g c) hrow.2 hrow.1 (bfs g (f + 1) o (c :: qs)) _ 0 o qs rfl (Nat.zero_le _) hk ⟨hc0, hc1, hc2⟩ (by omega) (by
        rw [List.drop_zero]
        have := ih (vis c (rd_L1 g c) o qs).1 (pre ++ [c]) (vis c (rd_L1 g c) o qs).2 k1 k2 (by omega) (by omega) (by simp; omega)
        simpa [bfs] using this)
      refine Ev.step (fun k => ?_) this
      simp only [spec_grFar.l1]
      have e0 : rd (pre ++ c :: qs) (pre.length : Int) = c := by rw [rd_at (by simp)]; simp
      rw [if_pos (by simp; omega), if_pos (by omega), e0, if_pos hc0, if_pos hc1]
      rfl
theorem far_l0 (g : List (List Int)) (p : Int) (n : Nat) (hn : n ≤ 8) (r : List Int) : ∀ (d i : Nat), n - i = d → i ≤ n → (0 ≤ p ∧ p < (n : Int)) → Ev (fun k => spec_grFar.l1 k ((List.replicate n (-1)).set p.toNat 0) [p] 0 g) r → Ev (fun k => spec_grFar.l0 k p (List.replicate i (-1) ++ List.replicate (n - i) 0) n i g) r := by
  intro d
  induction d with
  | zero =>
    intro i hd hi hp h
    have : i = n := by omega
    subst this
    refine Ev.step (fun k => ?_) h
    simp only [spec_grFar.l0]
    rw [if_neg (by omega), if_pos hp.1, if_pos (by simp; omega)]
    simp
  | succ d ih =>
    intro i hd hi hp h
    refine Ev.step (fun k => ?_) (ih (i + 1) (by omega) (by omega) hp h)
    simp only [spec_grFar.l0]
    rw [if_pos (by omega), if_pos (by omega), if_pos (by simp; omega), wrap_nat (by omega), Int.toNat_natCast]
    congr 1
    obtain ⟨m, hm⟩ : ∃ m, n - i = m + 1 := ⟨n - i - 1, by omega⟩
    rw [hm, show n - (i + 1) = m by omega, List.replicate_succ, List.replicate_succ', List.set_append_right _ _ (by simp)]
    simp
theorem grFar {g : List (List Int)} {p : Int} (h : placeB g p = true) : Ev (fun k => spec_grFar.f k g p) (far g p) := by
  obtain ⟨hg, h0, h1⟩ := place_iff h
  obtain ⟨⟨hn1, hn8⟩, _⟩ := good_iff hg
  obtain ⟨k1, k2, k3⟩ := known0 h0 h1
  unfold spec_grFar.f
  refine Ev.pos (by omega) (Ev.pos (by omega) (Ev.bind0 rfl ?_))
  have := far_l0 g p g.length hn8 (far g p) g.length 0 (by omega) (by omega) ⟨h0, h1⟩ (by
    have := far_l1 hg g.length _ [] [p] k1 k2 k3 hn8 (by simpa using by simp at k3; omega)
    exact this)
  simpa using this
end Go.Proofs.Ytnphoaecjeenjaa.M
namespace Go.Proofs.Ytnphoaecjeenjaa.P
open Go.RowKit Go.Proofs.YtnphoaecjeenjaaW.PrintWords Go.Proofs.YtnphoaecjeenjaaW.PrintLast Go.Proofs.YtnphoaecjeenjaaW.PrintMore
attribute [local go_sem] max2_int min2_int max_two min_two max_three min_three max_four min_four   -- for this text's walks alone
set_option linter.unusedVariables false
set_option linter.unusedSimpArgs false

/-! ### impl_Graph_leadsTo: function 66 -/
def impl_Graph_leadsTo.l0 : Nat → Int → Int → Int → List (List Int) → Option (Bool)
  | 0, _, _, _, _ => none
  | k + 1, x1, x8, x9, x253000 => if x9 < x8 then ((impl_Graph_lengths.f k x253000 x9).bind fun t253 => (if 0 ≤ x1 then (if x1 < (t253.length : Int) then (if (rd t253 x1) < 0 then (some false) else (impl_Graph_leadsTo.l0 k x1 x8 (wrap64 (x9 + 1)) x253000)) else (none)) else (none))) else (some true)
def impl_Graph_leadsTo.f (k : Nat) (l0_0 : List (List Int)) (a1 : Int) : Option (Bool) := impl_Graph_leadsTo.l0 k a1 (l0_0.length : Int) 0 l0_0
theorem impl_Graph_leadsTo.mono_l : ∀ k, (∀ y0 y1 y2 y3, LeO (impl_Graph_leadsTo.l0 k y0 y1 y2 y3) (impl_Graph_leadsTo.l0 (k + 1) y0 y1 y2 y3))
  | 0 => fun _ _ _ _ r h => by simp [impl_Graph_leadsTo.l0] at h
  | k + 1 => by
    have ih0 := impl_Graph_leadsTo.mono_l k
    · intro y0 y1 y2 y3
      unfold impl_Graph_leadsTo.l0
      repeat' first
      | (with_reducible exact ih0 _ _ _ _)
      | (with_reducible exact impl_Graph_lengths.mono _ _ _)
      | (with_reducible exact LeO.refl _)
      | (with_reducible exact LeO.none _)
      | (with_reducible refine LeO.ite ?_ ?_)
      | (with_reducible refine LeO.bind ?_ (fun _ => ?_))
      | exact ih0 _ _ _ _
      | exact impl_Graph_lengths.mono _ _ _
      | exact LeO.none _
      | refine LeO.ite ?_ ?_
      | refine LeO.bind ?_ (fun _ => ?_)
theorem impl_Graph_leadsTo.mono : ∀ a0 a1 k, LeO (impl_Graph_leadsTo.f k a0 a1) (impl_Graph_leadsTo.f (k + 1) a0 a1) := by
  intro a0 a1 k
  have ih0 := impl_Graph_leadsTo.mono_l k
  unfold impl_Graph_leadsTo.f
  repeat' first
      | (with_reducible exact ih0 _ _ _ _)
      | (with_reducible exact impl_Graph_lengths.mono _ _ _)
      | (with_reducible exact LeO.refl _)
      | (with_reducible exact LeO.none _)
      | (with_reducible refine LeO.ite ?_ ?_)
      | (with_reducible refine LeO.bind ?_ (fun _ => ?_))
      | exact ih0 _ _ _ _
      | exact impl_Graph_lengths.mono _ _ _
      | exact LeO.none _
      | refine LeO.ite ?_ ?_
      | refine LeO.bind ?_ (fun _ => ?_)
set_option maxHeartbeats 8000000 in
set_option maxRecDepth 100000 in
theorem impl_Graph_leadsTo.calls (k : Nat) (A0_0 : Option Addr) (c0_0 : Nat) (l0_0 : List (List Int)) (a1 : Int) (r : Bool) (w : World) (hr0_0 : Kd.C (Kd.slice 3 (Kd.int .i64)) w A0_0 l0_0.length l0_0) (hc0_0 : l0_0.length ≤ c0_0) (h : impl_Graph_leadsTo.f k l0_0 a1 = some r) :
    Calls Try.prog 66 #[.agg #[.slice A0_0 l0_0.length c0_0], .int .i64 a1] w fun e w' => e = .returned (.bool r) ∧ Below w.heap.size w w' := by
  have hu28 := Try.underlying28
  have HR0_0 := Aside0.mk hr0_0
  have HC0_0 := Aside0.mk hc0_0
  clear hr0_0 hc0_0
  have HB := Aside0.mk (Below.refl w.heap.size w)
  have H : (impl_Graph_leadsTo.l0 k a1 (l0_0.length : Int) 0 l0_0) = some r := h
  clear h
  have H' := Aside0.mk H
  clear H
  go_enter Try.func66, Try.ntmps66
  go_wp2_with (first | ((with_reducible refine gate_dst (N := 2) rfl ?_); refine box_event ?hg (N := 2) ?hd (cs := #[.slice A0_0 l0_0.length c0_0]) (t := 28) ?hr ?_; (case hd => rfl); (case hg => rfl); (case hr => first | (go_simp; done) | (go_simp; rfl)); intro gb252 hg w3 hbox hb; have n0_ := Aside0.mk (below_step (by repeat (first | (with_reducible first | exact HB.out | apply below_alloc | apply pw_below_drewN | apply below_drew1) | exact HB.out)) hb); have n1_ := Aside0.mk (hbox); have n2_ := Aside0.mk ((by rw [hg]; exact (below_size (by repeat (first | (with_reducible first | exact HB.out | apply below_alloc | apply pw_below_drewN | apply below_drew1) | exact HB.out))) : w.heap.size ≤ gb252)); have n3_ := Aside0.mk ((by rw [hg]; exact (below_size (by repeat (first | (with_reducible first | exact HB.out | apply below_alloc | apply pw_below_drewN | apply below_drew1) | exact HB.out))) : w.heap.size ≤ gb252)); clear HB; have HB := n0_; have BK252 := n1_; have GW252 := n2_; have GE252 := n3_; clear n0_ n1_ n2_ n3_; clear hb hbox hg; have hcz4_0 : w3.cell? ⟨gb252, 0, none⟩ = some (.slice A0_0 l0_0.length c0_0) := (blk_cell BK252.out 0).trans rfl; have hfz4_0 := blk_frozen BK252.out 0))
  go_loopg [9] k (fun kq v9 w' => ∃ (x9_1 : Int), v9 = .int .i64 x9_1 ∧ Aside0 (impl_Graph_leadsTo.l0 kq a1 (l0_0.length : Int) x9_1 l0_0 = some r) ∧ Aside0 (kq ≤ k) ∧ Aside0 (w'.heap[gb252]? = some (.cells #[(.slice A0_0 l0_0.length c0_0)] 28 (0, 0))) ∧ Aside0 (Below w.heap.size w w'))
  case atStart => exact ⟨(0), (by first | rfl | (simp; done) | (simp [*]; done)), H', ⟨Nat.le_refl _⟩, ⟨by (with_reducible repeat (first | refine blk_drewN ?_ _ | refine blk_drew ?_ | refine blk_alloc ?_ _)); exact BK252.out⟩, ⟨by repeat (first | (with_reducible first | exact HB.out | apply below_alloc | apply pw_below_drewN | apply below_drew1 | refine below_set ?_ GE252.out) | exact HB.out)⟩⟩
  case round =>
    clear H'
    try clear p2
    try clear hcz4_0
    try clear hfz4_0
    obtain ⟨x9_1, rfl, HA, HK1, BK252, HB⟩ := hrel
    cases gk with
    | zero => exact absurd HA.out (by simp [impl_Graph_leadsTo.l0])
    | succ k1 =>
      have H := HA.out
      clear HA
      simp only [impl_Graph_leadsTo.l0] at H
      by_cases c5 : x9_1 < (l0_0.length : Int)
      · rw [if_pos c5] at H
        have c5b0 : decide (x9_1 < (l0_0.length : Int)) = true := decide_eq_true c5
        clear c5
        replace H := Option.bind_eq_some_iff.mp H
        obtain ⟨t253, A60, H⟩ := H
        replace H : (if 0 ≤ a1 then (if a1 < (t253.length : Int) then (if (rd t253 a1) < 0 then (some false) else (impl_Graph_leadsTo.l0 k1 a1 (l0_0.length : Int) (wrap64 (x9_1 + 1)) l0_0)) else (none)) else (none)) = some r := H
        have A6 := Aside0.mk A60
        clear A60
        by_cases c7 : 0 ≤ a1
        · rw [if_pos c7] at H
          have c7b0 : decide (0 ≤ a1) = true := decide_eq_true c7
          clear c7
          by_cases c8 : a1 < (t253.length : Int)
          · rw [if_pos c8] at H
            have c8b0 : decide (a1 < (t253.length : Int)) = true := decide_eq_true c8
            clear c8
            by_cases c9 : (rd t253 a1) < 0
            · rw [if_pos c9] at H
              have c9b0 : decide ((rd t253 a1) < 0) = true := decide_eq_true c9
              clear c9
              obtain rfl := Option.some.inj H
              have hcz10_0 : wr.cell? ⟨gb252, 0, none⟩ = some (.slice A0_0 l0_0.length c0_0) := (blk_cell BK252.out 0).trans rfl
              have hfz10_0 := blk_frozen BK252.out 0
              go_wp2_with (first | ((with_reducible refine gate_callee (f := 100) rfl ?_); refine goesL_ (some 14) rfl rfl Try.func100 (by kernel_rfl) rfl #[.agg #[.slice A0_0 l0_0.length c0_0], .int .i64 x9_1] rfl (by (try simp only [List.map_toArray, List.map_cons, List.map_nil]); first | done | rfl | (simp only [List.length_drop, List.length_take]; rfl)) ?_; (with_reducible refine (impl_Graph_lengths.calls k1 _ _ l0_0 x9_1 t253 _ ?side1 ?side2 A6.out).mono ?_); (case side1 => repeat (first | exact (Kd.C_below HR0_0.out HB.out) | (with_reducible refine Kd.C_alloc ?_ _) | (with_reducible refine Kd.C_drewN ?_ _) | (with_reducible refine Kd.C_drew ?_))); (case side2 => exact HC0_0.out); rintro e w11 ⟨v254, rfl, ho0, hb⟩; refine ⟨_, rfl, ?_⟩; have n0_ := Aside0.mk (Kd.R_lower ho0 (below_size (by repeat (first | (with_reducible first | exact HB.out | apply below_alloc | apply pw_below_drewN | apply below_drew1 | refine below_set ?_ GE252.out) | exact HB.out)))); have n1_ := Aside0.mk (blk_below (g := gb252) (o := .cells #[.slice A0_0 l0_0.length c0_0] 28 (0, 0)) (by (with_reducible repeat (first | refine blk_drewN ?_ _ | refine blk_drew ?_ | refine blk_alloc ?_ _)); exact BK252.out) hb); have n2_ := Aside0.mk (below_step (by repeat (first | (with_reducible first | exact HB.out | apply below_alloc | apply pw_below_drewN | apply below_drew1 | refine below_set ?_ GE252.out) | exact HB.out)) hb); clear BK252; clear HB; have HO255 := n0_; have BK252 := n1_; have HB := n2_; clear n0_ n1_ n2_; (try clear hb); (try clear hb2); (try clear hk); (try clear hi); (try clear ho0); obtain ⟨Ao12, co12, eo12⟩ := Kd.R_slice HO255.out; subst eo12; have p256 : 0 ≤ (a1 : Int) := of_decide_eq_true (by first | (with_reducible assumption) | assumption); have q256 : a1 < (t253.length : Int) := of_decide_eq_true (by first | (with_reducible assumption) | assumption); obtain ⟨ad256, e256, hx256_0⟩ := Kd.at_int (Kd.R_reads' HO255.out).2.2 a1 p256 q256; cases e256; replace p256 := eq_true p256; replace q256 := eq_true q256))
              go_ret
              exact ⟨by first | rfl | (simp [errW_none, errW_some] <;> rfl) | (simp [*, errW_none, errW_some] <;> rfl), by repeat (first | (with_reducible first | exact HB.out | apply below_alloc | apply pw_below_drewN | apply below_drew1 | refine below_set ?_ GE252.out) | exact HB.out)⟩
            · rw [if_neg c9] at H
              have c9b0 : decide ((rd t253 a1) < 0) = false := decide_eq_false c9
              clear c9
              have H' := Aside0.mk H
              clear H
              have hcz13_0 : wr.cell? ⟨gb252, 0, none⟩ = some (.slice A0_0 l0_0.length c0_0) := (blk_cell BK252.out 0).trans rfl
              have hfz13_0 := blk_frozen BK252.out 0
              go_wp2_with (first | ((with_reducible refine gate_callee (f := 100) rfl ?_); refine goesL_ (some 14) rfl rfl Try.func100 (by kernel_rfl) rfl #[.agg #[.slice A0_0 l0_0.length c0_0], .int .i64 x9_1] rfl (by (try simp only [List.map_toArray, List.map_cons, List.map_nil]); first | done | rfl | (simp only [List.length_drop, List.length_take]; rfl)) ?_; (with_reducible refine (impl_Graph_lengths.calls k1 _ _ l0_0 x9_1 t253 _ ?side1 ?side2 A6.out).mono ?_); (case side1 => repeat (first | exact (Kd.C_below HR0_0.out HB.out) | (with_reducible refine Kd.C_alloc ?_ _) | (with_reducible refine Kd.C_drewN ?_ _) | (with_reducible refine Kd.C_drew ?_))); (case side2 => exact HC0_0.out); rintro e w14 ⟨v254, rfl, ho0, hb⟩; refine ⟨_, rfl, ?_⟩; have n0_ := Aside0.mk (Kd.R_lower ho0 (below_size (by repeat (first | (with_reducible first | exact HB.out | apply below_alloc | apply pw_below_drewN | apply below_drew1 | refine below_set ?_ GE252.out) | exact HB.out)))); have n1_ := Aside0.mk (blk_below (g := gb252) (o := .cells #[.slice A0_0 l0_0.length c0_0] 28 (0, 0)) (by (with_reducible repeat (first | refine blk_drewN ?_ _ | refine blk_drew ?_ | refine blk_alloc ?_ _)); exact BK252.out) hb); have n2_ := Aside0.mk (below_step (by repeat (first | (with_reducible first | exact HB.out | apply below_alloc | apply pw_below_drewN | apply below_drew1 | refine below_set ?_ GE252.out) | exact HB.out)) hb); clear BK252; clear HB; have HO255 := n0_; have BK252 := n1_; have HB := n2_; clear n0_ n1_ n2_; (try clear hb); (try clear hb2); (try clear hk); (try clear hi); (try clear ho0); obtain ⟨Ao15, co15, eo15⟩ := Kd.R_slice HO255.out; subst eo15; have p256 : 0 ≤ (a1 : Int) := of_decide_eq_true (by first | (with_reducible assumption) | assumption); have q256 : a1 < (t253.length : Int) := of_decide_eq_true (by first | (with_reducible assumption) | assumption); obtain ⟨ad256, e256, hx256_0⟩ := Kd.at_int (Kd.R_reads' HO255.out).2.2 a1 p256 q256; cases e256; replace p256 := eq_true p256; replace q256 := eq_true q256))
              go_roundg k1
              case measure => have := HK1.out; omega
              case rel => exact ⟨(wrap64 (x9_1 + 1)), (by first | rfl | (simp; done) | (simp [*]; done)), H', ⟨by have := HK1.out; omega⟩, ⟨by (with_reducible repeat (first | refine blk_drewN ?_ _ | refine blk_drew ?_ | refine blk_alloc ?_ _)); exact BK252.out⟩, ⟨by repeat (first | (with_reducible first | exact HB.out | apply below_alloc | apply pw_below_drewN | apply below_drew1 | refine below_set ?_ GE252.out) | exact HB.out)⟩⟩
          · rw [if_neg c8] at H
            exact absurd H (by simp)
        · rw [if_neg c7] at H
          exact absurd H (by simp)
      · rw [if_neg c5] at H
        have c5b0 : decide (x9_1 < (l0_0.length : Int)) = false := decide_eq_false c5
        clear c5
        obtain rfl := Option.some.inj H
        go_wp2
        go_ret
        exact ⟨by first | rfl | (simp [errW_none, errW_some] <;> rfl) | (simp [*, errW_none, errW_some] <;> rfl), by repeat (first | (with_reducible first | exact HB.out | apply below_alloc | apply pw_below_drewN | apply below_drew1 | refine below_set ?_ GE252.out) | exact HB.out)⟩

end Go.Proofs.Ytnphoaecjeenjaa.P
namespace Go.Proofs.Ytnphoaecjeenjaa.P
open Go.RowKit Go.Proofs.YtnphoaecjeenjaaW.PrintWords Go.Proofs.YtnphoaecjeenjaaW.PrintLast Go.Proofs.YtnphoaecjeenjaaW.PrintMore
attribute [local go_sem] max2_int min2_int max_two min_two max_three min_three max_four min_four   -- for this text's walks alone
set_option linter.unusedVariables false
set_option linter.unusedSimpArgs false

/-! ### impl_Graph_isStrong: function 73 -/
def impl_Graph_isStrong.l0 : Nat → Int → Int → List (List Int) → Option (Bool)
  | 0, _, _, _ => none
  | k + 1, x6, x7, x369000 => if x7 < x6 then ((impl_Graph_reach.f k x369000 x7).bind fun t369 => (if (t369.length : Int) = (x369000.length : Int) then (impl_Graph_isStrong.l0 k x6 (wrap64 (x7 + 1)) x369000) else (some false))) else (some true)
def impl_Graph_isStrong.f (k : Nat) (l0_0 : List (List Int)) : Option (Bool) := impl_Graph_isStrong.l0 k (l0_0.length : Int) 0 l0_0
theorem impl_Graph_isStrong.mono_l : ∀ k, (∀ y0 y1 y2, LeO (impl_Graph_isStrong.l0 k y0 y1 y2) (impl_Graph_isStrong.l0 (k + 1) y0 y1 y2))
  | 0 => fun _ _ _ r h => by simp [impl_Graph_isStrong.l0] at h
  | k + 1 => by
    have ih0 := impl_Graph_isStrong.mono_l k
    · intro y0 y1 y2
      unfold impl_Graph_isStrong.l0
      repeat' first
      | (with_reducible exact ih0 _ _ _)
      | (with_reducible exact impl_Graph_reach.mono _ _ _)
      | (with_reducible exact LeO.refl _)
      | (with_reducible exact LeO.none _)
      | (with_reducible refine LeO.ite ?_ ?_)
      | (with_reducible refine LeO.bind ?_ (fun _ => ?_))
      | exact ih0 _ _ _
      | exact impl_Graph_reach.mono _ _ _
      | exact LeO.none _
      | refine LeO.ite ?_ ?_
      | refine LeO.bind ?_ (fun _ => ?_)
theorem impl_Graph_isStrong.mono : ∀ a0 k, LeO (impl_Graph_isStrong.f k a0) (impl_Graph_isStrong.f (k + 1) a0) := by
  intro a0 k
  have ih0 := impl_Graph_isStrong.mono_l k
  unfold impl_Graph_isStrong.f
  repeat' first
      | (with_reducible exact ih0 _ _ _)
      | (with_reducible exact impl_Graph_reach.mono _ _ _)
      | (with_reducible exact LeO.refl _)
      | (with_reducible exact LeO.none _)
      | (with_reducible refine LeO.ite ?_ ?_)
      | (with_reducible refine LeO.bind ?_ (fun _ => ?_))
      | exact ih0 _ _ _
      | exact impl_Graph_reach.mono _ _ _
      | exact LeO.none _
      | refine LeO.ite ?_ ?_
      | refine LeO.bind ?_ (fun _ => ?_)
def impl_Graph_isStrong.T4 : Bool × List (List Nat × List Nat) := (true, [([], []), ([], []), ([0, 1], [0, 1]), ([2], [2]), ([], []), ([4], [4]), ([5], [5]), ([3, 6], [3, 6])])
def impl_Graph_isStrong.B4 : List Nat := [0, 0, 3, 7, 0, 16, 48, 127]
theorem impl_Graph_isStrong.tab4 : rtab .any (opsOf Try.f73 4) = impl_Graph_isStrong.T4 := by kernel_rfl
theorem impl_Graph_isStrong.bits4 : waitsOk impl_Graph_isStrong.T4.2 impl_Graph_isStrong.B4 = true := by kernel_rfl
set_option maxHeartbeats 8000000 in
set_option maxRecDepth 100000 in
theorem impl_Graph_isStrong.calls (k : Nat) (A0_0 : Option Addr) (c0_0 : Nat) (l0_0 : List (List Int)) (r : Bool) (w : World) (hr0_0 : Kd.C (Kd.slice 3 (Kd.int .i64)) w A0_0 l0_0.length l0_0) (hc0_0 : l0_0.length ≤ c0_0) (h : impl_Graph_isStrong.f k l0_0 = some r) :
    Calls Try.prog 73 #[.agg #[.slice A0_0 l0_0.length c0_0]] w fun e w' => e = .returned (.bool r) ∧ Below w.heap.size w w' := by
  have hu28 := Try.underlying28
  have HR0_0 := Aside0.mk hr0_0
  have HC0_0 := Aside0.mk hc0_0
  clear hr0_0 hc0_0
  have HB := Aside0.mk (Below.refl w.heap.size w)
  have H : (impl_Graph_isStrong.l0 k (l0_0.length : Int) 0 l0_0) = some r := h
  clear h
  have H' := Aside0.mk H
  clear H
  go_enter Try.func73, Try.ntmps73
  go_wp2_with (first | ((with_reducible refine gate_dst (N := 1) rfl ?_); refine box_event ?hg (N := 1) ?hd (cs := #[.slice A0_0 l0_0.length c0_0]) (t := 28) ?hr ?_; (case hd => rfl); (case hg => rfl); (case hr => first | (go_simp; done) | (go_simp; rfl)); intro gb368 hg w2 hbox hb; have n0_ := Aside0.mk (below_step (by repeat (first | (with_reducible first | exact HB.out | apply below_alloc | apply pw_below_drewN | apply below_drew1) | exact HB.out)) hb); have n1_ := Aside0.mk (hbox); have n2_ := Aside0.mk ((by rw [hg]; exact (below_size (by repeat (first | (with_reducible first | exact HB.out | apply below_alloc | apply pw_below_drewN | apply below_drew1) | exact HB.out))) : w.heap.size ≤ gb368)); have n3_ := Aside0.mk ((by rw [hg]; exact (below_size (by repeat (first | (with_reducible first | exact HB.out | apply below_alloc | apply pw_below_drewN | apply below_drew1) | exact HB.out))) : w.heap.size ≤ gb368)); clear HB; have HB := n0_; have BK368 := n1_; have GW368 := n2_; have GE368 := n3_; clear n0_ n1_ n2_ n3_; clear hb hbox hg; have hcz3_0 : w2.cell? ⟨gb368, 0, none⟩ = some (.slice A0_0 l0_0.length c0_0) := (blk_cell BK368.out 0).trans rfl; have hfz3_0 := blk_frozen BK368.out 0))
  go_loopg [7] k (fun kq v7 w' => ∃ (x7_1 : Int), v7 = .int .i64 x7_1 ∧ Aside0 (impl_Graph_isStrong.l0 kq (l0_0.length : Int) x7_1 l0_0 = some r) ∧ Aside0 (kq ≤ k) ∧ Aside0 (w'.heap[gb368]? = some (.cells #[(.slice A0_0 l0_0.length c0_0)] 28 (0, 0))) ∧ Aside0 (Below w.heap.size w w'))
  case atStart => exact ⟨(0), (by first | rfl | (simp; done) | (simp [*]; done)), H', ⟨Nat.le_refl _⟩, ⟨by (with_reducible repeat (first | refine blk_drewN ?_ _ | refine blk_drew ?_ | refine blk_alloc ?_ _)); exact BK368.out⟩, ⟨by repeat (first | (with_reducible first | exact HB.out | apply below_alloc | apply pw_below_drewN | apply below_drew1 | refine below_set ?_ GE368.out) | exact HB.out)⟩⟩
  case round =>
    clear H'
    try clear p2
    try clear hcz3_0
    try clear hfz3_0
    obtain ⟨x7_1, rfl, HA, HK1, BK368, HB⟩ := hrel
    cases gk with
    | zero => exact absurd HA.out (by simp [impl_Graph_isStrong.l0])
    | succ k1 =>
      have H := HA.out
      clear HA
      simp only [impl_Graph_isStrong.l0] at H
      by_cases c4 : x7_1 < (l0_0.length : Int)
      · rw [if_pos c4] at H
        have c4b0 : decide (x7_1 < (l0_0.length : Int)) = true := decide_eq_true c4
        clear c4
        replace H := Option.bind_eq_some_iff.mp H
        obtain ⟨t369, A50, H⟩ := H
        replace H : (if (t369.length : Int) = (l0_0.length : Int) then (impl_Graph_isStrong.l0 k1 (l0_0.length : Int) (wrap64 (x7_1 + 1)) l0_0) else (some false)) = some r := H
        have A5 := Aside0.mk A50
        clear A50
        by_cases c6 : (t369.length : Int) = (l0_0.length : Int)
        · rw [if_pos c6] at H
          have c6b0 : ((t369.length : Int) == (l0_0.length : Int)) = true := beq_iff_eq.mpr c6
          have c6b1 : ((t369.length : Int) != (l0_0.length : Int)) = false := bne_eq_false_iff_eq.mpr c6
          have c6b2 : (t369.length == l0_0.length) = true := by first | simpa using c6 | (simp at c6 ⊢; omega)
          clear c6
          have H' := Aside0.mk H
          clear H
          try go_wp2
          have n0_ := Aside0.mk (blk_drew BK368.out)
          have n1_ := Aside0.mk (below_drew1 HB.out)
          clear BK368
          clear HB
          have BK368 := n0_
          have HB := n1_
          clear n0_ n1_
          refine start_ (n := 8) (S := fun w' => w'.cell? ⟨gb368, 0, none⟩ = some (.slice A0_0 l0_0.length c0_0)) (ds := []) #[false, false, false, false, false, false, false, false] (by kernel_rfl) rfl rfl ((blk_cell BK368.out 0).trans rfl) (fun hHeld => ?_); refine with_tabW impl_Graph_isStrong.tab4 impl_Graph_isStrong.bits4 (fun HT_ HW_ => ?_)
          generalize wr.drew = w7 at BK368 HB hHeld ⊢
          refine pure_ (i := 1) (N := some 11) (v := ?_) (a' := ?_) #[false, true, false, false, false, false, false, false] rfl rfl (any_of HT_.out (by kernel_rfl)) (fun _ _ _ h => h) (Or.inl ⟨by rfl, ?_⟩) ?_ ?_
          rotate_left
          · intro w'
            go_simp
            with_reducible rfl
          rotate_left
          · simp only [Act.put, List.setIfInBounds_toArray, List.set_cons_zero, List.set_cons_succ, i64_w, i32_w]
            rfl
          refine pure_ (i := 4) (N := some 14) (v := ?_) (a' := ?_) #[false, true, false, false, true, false, false, false] rfl rfl (any_of HT_.out (by kernel_rfl)) (fun _ _ _ h => h) (Or.inl ⟨by rfl, ?_⟩) ?_ ?_
          rotate_left
          · intro w'
            go_simp
            with_reducible rfl
          rotate_left
          · simp only [Act.put, List.setIfInBounds_toArray, List.set_cons_zero, List.set_cons_succ, i64_w, i32_w]
            rfl
          refine take_ (i := 0) (N := some 10) (v := ?_) (a' := ?_) #[true, true, false, false, true, false, false, false] rfl rfl (take_ofW HT_.out HW_.out (by kernel_rfl)) (fun _ _ _ h => h) (Or.inl ⟨by rfl, ?_⟩) hHeld ?_ ?_
          rotate_left
          · intro w' s0
            go_simp
            with_reducible rfl
          rotate_left
          · simp only [Act.put, List.setIfInBounds_toArray, List.set_cons_zero, List.set_cons_succ, i64_w, i32_w]
            rfl
          refine take_ (i := 5) (N := some 15) (v := ?_) (a' := ?_) #[true, true, false, false, true, true, false, false] rfl rfl (take_ofW HT_.out HW_.out (by kernel_rfl)) (fun _ _ _ h => h) (Or.inl ⟨by rfl, ?_⟩) hHeld ?_ ?_
          rotate_left
          · intro w' s0
            go_simp
            with_reducible rfl
          rotate_left
          · simp only [Act.put, List.setIfInBounds_toArray, List.set_cons_zero, List.set_cons_succ, i64_w, i32_w]
            rfl
          refine pure_ (i := 6) (N := some 16) (v := ?_) (a' := ?_) #[true, true, false, false, true, true, true, false] rfl rfl (any_of HT_.out (by kernel_rfl)) (fun _ _ _ h => h) (Or.inl ⟨by rfl, ?_⟩) ?_ ?_
          rotate_left
          · intro w'
            go_simp
            with_reducible rfl
          rotate_left
          · simp only [Act.put, List.setIfInBounds_toArray, List.set_cons_zero, List.set_cons_succ, i64_w, i32_w]
            rfl
          refine one_ (i := 2) (N := some 12) #[true, true, true, false, true, true, true, false] rfl rfl (one_of HT_.out (by kernel_rfl)) (by decide) (fun K hK => ?_)
          refine goes_ Try.func77 (by kernel_rfl) rfl #[.agg #[.slice A0_0 l0_0.length c0_0], .int .i64 x7_1] (by rfl) rfl rfl (by (try simp only [List.map_toArray, List.map_cons, List.map_nil]); first | done | rfl | (simp only [List.length_drop, List.length_take]; rfl)) ?_
          with_reducible refine (impl_Graph_reach.calls k1 _ _ l0_0 x7_1 t369 _ ?side1 ?side2 A5.out).mono ?_
          (case side1 => repeat (first | exact (Kd.C_below HR0_0.out HB.out) | (with_reducible refine Kd.C_alloc ?_ _) | (with_reducible refine Kd.C_drewN ?_ _) | (with_reducible refine Kd.C_drew ?_)))
          (case side2 => exact HC0_0.out)
          rintro e w8 ⟨v370, rfl, ho0, hb⟩
          refine ⟨_, rfl, ?_⟩
          have n0_ := Aside0.mk (Kd.R_lower ho0 (below_size (by repeat (first | (with_reducible first | exact HB.out | apply below_alloc | apply pw_below_drewN | apply below_drew1 | refine below_set ?_ GE368.out) | exact HB.out))))
          have n1_ := Aside0.mk (blk_below (g := gb368) (o := .cells #[.slice A0_0 l0_0.length c0_0] 28 (0, 0)) (by (with_reducible repeat (first | refine blk_drewN ?_ _ | refine blk_drew ?_ | refine blk_alloc ?_ _)); exact BK368.out) hb)
          have n2_ := Aside0.mk (below_step (by repeat (first | (with_reducible first | exact HB.out | apply below_alloc | apply pw_below_drewN | apply below_drew1 | refine below_set ?_ GE368.out) | exact HB.out)) hb)
          clear BK368
          clear HB
          have HO371 := n0_
          have BK368 := n1_
          have HB := n2_
          clear n0_ n1_ n2_
          (try clear hb)
          (try clear hb2)
          (try clear hk)
          (try clear hi)
          (try clear ho0)
          obtain ⟨Ao9, co9, eo9⟩ := Kd.R_slice HO371.out
          (first | subst eo9 | (injection eo9 with f1_ f2_ f3_; have f4_ := f1_.symm; have f5_ := f3_.symm; clear f1_ f2_ f3_; subst f4_; subst f5_))
          refine hK.out _ _ ((blk_cell BK368.out 0).trans rfl) (fun hHeld => ?_)
          clear hK K
          refine norm_ (a' := ?_) ?_ ?_
          rotate_left
          · show Act.put _ (some 12) _ = _
            simp only [Act.put, List.setIfInBounds_toArray, List.set_cons_zero, List.set_cons_succ, i64_w, i32_w]
            rfl
          refine pure_ (i := 3) (N := some 13) (v := ?_) (a' := ?_) #[true, true, true, true, true, true, true, false] rfl rfl (any_of HT_.out (by kernel_rfl)) (fun _ _ _ h => h) (Or.inl ⟨by rfl, ?_⟩) ?_ ?_
          rotate_left
          · intro w'
            go_simp
            with_reducible rfl
          rotate_left
          · simp only [Act.put, List.setIfInBounds_toArray, List.set_cons_zero, List.set_cons_succ, i64_w, i32_w]
            rfl
          refine pure_ (i := 7) (N := some 17) (v := ?_) (a' := ?_) #[true, true, true, true, true, true, true, true] rfl rfl (any_of HT_.out (by kernel_rfl)) (fun _ _ _ h => h) (Or.inl ⟨by rfl, ?_⟩) ?_ ?_
          rotate_left
          · intro w'
            go_simp
            with_reducible rfl
          rotate_left
          · simp only [Act.put, List.setIfInBounds_toArray, List.set_cons_zero, List.set_cons_succ, i64_w, i32_w]
            rfl
          refine done_ (done_of HT_.out (by kernel_rfl)) ?_
          try go_wp2
          go_roundg k1
          case measure => have := HK1.out; omega
          case rel => exact ⟨(wrap64 (x7_1 + 1)), (by first | rfl | (simp; done) | (simp [*]; done)), H', ⟨by have := HK1.out; omega⟩, ⟨by (with_reducible repeat (first | refine blk_drewN ?_ _ | refine blk_drew ?_ | refine blk_alloc ?_ _)); exact BK368.out⟩, ⟨by repeat (first | (with_reducible first | exact HB.out | apply below_alloc | apply pw_below_drewN | apply below_drew1 | refine below_set ?_ GE368.out) | exact HB.out)⟩⟩
        · rw [if_neg c6] at H
          have c6b0 : ((t369.length : Int) == (l0_0.length : Int)) = false := beq_eq_false_iff_ne.mpr c6
          have c6b1 : ((t369.length : Int) != (l0_0.length : Int)) = true := bne_iff_ne.mpr c6
          have c6b2 : (t369.length == l0_0.length) = false := by first | simpa using c6 | (simp at c6 ⊢; omega)
          obtain rfl := Option.some.inj H
          try go_wp2
          have n0_ := Aside0.mk (blk_drew BK368.out)
          have n1_ := Aside0.mk (below_drew1 HB.out)
          clear BK368
          clear HB
          have BK368 := n0_
          have HB := n1_
          clear n0_ n1_
          refine start_ (n := 8) (S := fun w' => w'.cell? ⟨gb368, 0, none⟩ = some (.slice A0_0 l0_0.length c0_0)) (ds := []) #[false, false, false, false, false, false, false, false] (by kernel_rfl) rfl rfl ((blk_cell BK368.out 0).trans rfl) (fun hHeld => ?_); refine with_tabW impl_Graph_isStrong.tab4 impl_Graph_isStrong.bits4 (fun HT_ HW_ => ?_)
          generalize wr.drew = w10 at BK368 HB hHeld ⊢
          refine pure_ (i := 1) (N := some 11) (v := ?_) (a' := ?_) #[false, true, false, false, false, false, false, false] rfl rfl (any_of HT_.out (by kernel_rfl)) (fun _ _ _ h => h) (Or.inl ⟨by rfl, ?_⟩) ?_ ?_
          rotate_left
          · intro w'
            go_simp
            with_reducible rfl
          rotate_left
          · simp only [Act.put, List.setIfInBounds_toArray, List.set_cons_zero, List.set_cons_succ, i64_w, i32_w]
            rfl
          refine pure_ (i := 4) (N := some 14) (v := ?_) (a' := ?_) #[false, true, false, false, true, false, false, false] rfl rfl (any_of HT_.out (by kernel_rfl)) (fun _ _ _ h => h) (Or.inl ⟨by rfl, ?_⟩) ?_ ?_
          rotate_left
          · intro w'
            go_simp
            with_reducible rfl
          rotate_left
          · simp only [Act.put, List.setIfInBounds_toArray, List.set_cons_zero, List.set_cons_succ, i64_w, i32_w]
            rfl
          refine take_ (i := 0) (N := some 10) (v := ?_) (a' := ?_) #[true, true, false, false, true, false, false, false] rfl rfl (take_ofW HT_.out HW_.out (by kernel_rfl)) (fun _ _ _ h => h) (Or.inl ⟨by rfl, ?_⟩) hHeld ?_ ?_
          rotate_left
          · intro w' s0
            go_simp
            with_reducible rfl
          rotate_left
          · simp only [Act.put, List.setIfInBounds_toArray, List.set_cons_zero, List.set_cons_succ, i64_w, i32_w]
            rfl
          refine take_ (i := 5) (N := some 15) (v := ?_) (a' := ?_) #[true, true, false, false, true, true, false, false] rfl rfl (take_ofW HT_.out HW_.out (by kernel_rfl)) (fun _ _ _ h => h) (Or.inl ⟨by rfl, ?_⟩) hHeld ?_ ?_
          rotate_left
          · intro w' s0
            go_simp
            with_reducible rfl
          rotate_left
          · simp only [Act.put, List.setIfInBounds_toArray, List.set_cons_zero, List.set_cons_succ, i64_w, i32_w]
            rfl
          refine pure_ (i := 6) (N := some 16) (v := ?_) (a' := ?_) #[true, true, false, false, true, true, true, false] rfl rfl (any_of HT_.out (by kernel_rfl)) (fun _ _ _ h => h) (Or.inl ⟨by rfl, ?_⟩) ?_ ?_
          rotate_left
          · intro w'
            go_simp
            with_reducible rfl
          rotate_left
          · simp only [Act.put, List.setIfInBounds_toArray, List.set_cons_zero, List.set_cons_succ, i64_w, i32_w]
            rfl
          refine one_ (i := 2) (N := some 12) #[true, true, true, false, true, true, true, false] rfl rfl (one_of HT_.out (by kernel_rfl)) (by decide) (fun K hK => ?_)
          refine goes_ Try.func77 (by kernel_rfl) rfl #[.agg #[.slice A0_0 l0_0.length c0_0], .int .i64 x7_1] (by rfl) rfl rfl (by (try simp only [List.map_toArray, List.map_cons, List.map_nil]); first | done | rfl | (simp only [List.length_drop, List.length_take]; rfl)) ?_
          with_reducible refine (impl_Graph_reach.calls k1 _ _ l0_0 x7_1 t369 _ ?side1 ?side2 A5.out).mono ?_
          (case side1 => repeat (first | exact (Kd.C_below HR0_0.out HB.out) | (with_reducible refine Kd.C_alloc ?_ _) | (with_reducible refine Kd.C_drewN ?_ _) | (with_reducible refine Kd.C_drew ?_)))
          (case side2 => exact HC0_0.out)
          rintro e w11 ⟨v370, rfl, ho0, hb⟩
          refine ⟨_, rfl, ?_⟩
          have n0_ := Aside0.mk (Kd.R_lower ho0 (below_size (by repeat (first | (with_reducible first | exact HB.out | apply below_alloc | apply pw_below_drewN | apply below_drew1 | refine below_set ?_ GE368.out) | exact HB.out))))
          have n1_ := Aside0.mk (blk_below (g := gb368) (o := .cells #[.slice A0_0 l0_0.length c0_0] 28 (0, 0)) (by (with_reducible repeat (first | refine blk_drewN ?_ _ | refine blk_drew ?_ | refine blk_alloc ?_ _)); exact BK368.out) hb)
          have n2_ := Aside0.mk (below_step (by repeat (first | (with_reducible first | exact HB.out | apply below_alloc | apply pw_below_drewN | apply below_drew1 | refine below_set ?_ GE368.out) | exact HB.out)) hb)
          clear BK368
          clear HB
          have HO371 := n0_
          have BK368 := n1_
          have HB := n2_
          clear n0_ n1_ n2_
          (try clear hb)
          (try clear hb2)
          (try clear hk)
          (try clear hi)
          (try clear ho0)
          obtain ⟨Ao12, co12, eo12⟩ := Kd.R_slice HO371.out
          (first | subst eo12 | (injection eo12 with f1_ f2_ f3_; have f4_ := f1_.symm; have f5_ := f3_.symm; clear f1_ f2_ f3_; subst f4_; subst f5_))
          refine hK.out _ _ ((blk_cell BK368.out 0).trans rfl) (fun hHeld => ?_)
          clear hK K
          refine norm_ (a' := ?_) ?_ ?_
          rotate_left
          · show Act.put _ (some 12) _ = _
            simp only [Act.put, List.setIfInBounds_toArray, List.set_cons_zero, List.set_cons_succ, i64_w, i32_w]
            rfl
          refine pure_ (i := 3) (N := some 13) (v := ?_) (a' := ?_) #[true, true, true, true, true, true, true, false] rfl rfl (any_of HT_.out (by kernel_rfl)) (fun _ _ _ h => h) (Or.inl ⟨by rfl, ?_⟩) ?_ ?_
          rotate_left
          · intro w'
            go_simp
            with_reducible rfl
          rotate_left
          · simp only [Act.put, List.setIfInBounds_toArray, List.set_cons_zero, List.set_cons_succ, i64_w, i32_w]
            rfl
          refine pure_ (i := 7) (N := some 17) (v := ?_) (a' := ?_) #[true, true, true, true, true, true, true, true] rfl rfl (any_of HT_.out (by kernel_rfl)) (fun _ _ _ h => h) (Or.inl ⟨by rfl, ?_⟩) ?_ ?_
          rotate_left
          · intro w'
            go_simp
            with_reducible rfl
          rotate_left
          · simp only [Act.put, List.setIfInBounds_toArray, List.set_cons_zero, List.set_cons_succ, i64_w, i32_w]
            rfl
          refine done_ (done_of HT_.out (by kernel_rfl)) ?_
          try go_wp2
          go_ret
          exact ⟨by first | rfl | (simp [errW_none, errW_some] <;> rfl) | (simp [*, errW_none, errW_some] <;> rfl), by repeat (first | (with_reducible first | exact HB.out | apply below_alloc | apply pw_below_drewN | apply below_drew1 | refine below_set ?_ GE368.out) | exact HB.out)⟩
      · rw [if_neg c4] at H
        have c4b0 : decide (x7_1 < (l0_0.length : Int)) = false := decide_eq_false c4
        clear c4
        obtain rfl := Option.some.inj H
        go_wp2
        go_ret
        exact ⟨by first | rfl | (simp [errW_none, errW_some] <;> rfl) | (simp [*, errW_none, errW_some] <;> rfl), by repeat (first | (with_reducible first | exact HB.out | apply below_alloc | apply pw_below_drewN | apply below_drew1 | refine below_set ?_ GE368.out) | exact HB.out)⟩

end Go.Proofs.Ytnphoaecjeenjaa.P
namespace Go.Proofs.Ytnphoaecjeenjaa.P
open Go.RowKit Go.Proofs.YtnphoaecjeenjaaW.PrintWords Go.Proofs.YtnphoaecjeenjaaW.PrintLast Go.Proofs.YtnphoaecjeenjaaW.PrintMore
attribute [local go_sem] max2_int min2_int max_two min_two max_three min_three max_four min_four   -- for this text's walks alone
set_option linter.unusedVariables false
set_option linter.unusedSimpArgs false

/-! ### spec_grLeads: function 65 -/
def spec_grLeads.l0 : Nat → Int → Int → Int → List (List Int) → Option (Bool)
  | 0, _, _, _, _ => none
  | k + 1, x1, x8, x9, x283000 => if x9 < x8 then ((spec_grFar.f k x283000 x9).bind fun t283 => (if 0 ≤ x1 then (if x1 < (t283.length : Int) then (if (rd t283 x1) < 0 then (some false) else (spec_grLeads.l0 k x1 x8 (wrap64 (x9 + 1)) x283000)) else (none)) else (none))) else (some true)
def spec_grLeads.f (k : Nat) (l0_0 : List (List Int)) (a1 : Int) : Option (Bool) := spec_grLeads.l0 k a1 (l0_0.length : Int) 0 l0_0
theorem spec_grLeads.mono_l : ∀ k, (∀ y0 y1 y2 y3, LeO (spec_grLeads.l0 k y0 y1 y2 y3) (spec_grLeads.l0 (k + 1) y0 y1 y2 y3))
  | 0 => fun _ _ _ _ r h => by simp [spec_grLeads.l0] at h
  | k + 1 => by
    have ih0 := spec_grLeads.mono_l k
    · intro y0 y1 y2 y3
      unfold spec_grLeads.l0
      repeat' first
      | (with_reducible exact ih0 _ _ _ _)
      | (with_reducible exact spec_grFar.mono _ _ _)
      | (with_reducible exact LeO.refl _)
      | (with_reducible exact LeO.none _)
      | (with_reducible refine LeO.ite ?_ ?_)
      | (with_reducible refine LeO.bind ?_ (fun _ => ?_))
      | exact ih0 _ _ _ _
      | exact spec_grFar.mono _ _ _
      | exact LeO.none _
      | refine LeO.ite ?_ ?_
      | refine LeO.bind ?_ (fun _ => ?_)
theorem spec_grLeads.mono : ∀ a0 a1 k, LeO (spec_grLeads.f k a0 a1) (spec_grLeads.f (k + 1) a0 a1) := by
  intro a0 a1 k
  have ih0 := spec_grLeads.mono_l k
  unfold spec_grLeads.f
  repeat' first
      | (with_reducible exact ih0 _ _ _ _)
      | (with_reducible exact spec_grFar.mono _ _ _)
      | (with_reducible exact LeO.refl _)
      | (with_reducible exact LeO.none _)
      | (with_reducible refine LeO.ite ?_ ?_)
      | (with_reducible refine LeO.bind ?_ (fun _ => ?_))
      | exact ih0 _ _ _ _
      | exact spec_grFar.mono _ _ _
      | exact LeO.none _
      | refine LeO.ite ?_ ?_
      | refine LeO.bind ?_ (fun _ => ?_)
set_option maxHeartbeats 8000000 in
set_option maxRecDepth 100000 in
theorem spec_grLeads.calls (k : Nat) (A0_0 : Option Addr) (c0_0 : Nat) (l0_0 : List (List Int)) (a1 : Int) (r : Bool) (w : World) (hr0_0 : Kd.C (Kd.slice 3 (Kd.int .i64)) w A0_0 l0_0.length l0_0) (hc0_0 : l0_0.length ≤ c0_0) (h : spec_grLeads.f k l0_0 a1 = some r) :
    Calls Try.prog 65 #[.agg #[.slice A0_0 l0_0.length c0_0], .int .i64 a1] w fun e w' => e = .returned (.bool r) ∧ Below w.heap.size w w' := by
  have hu28 := Try.underlying28
  have HR0_0 := Aside0.mk hr0_0
  have HC0_0 := Aside0.mk hc0_0
  clear hr0_0 hc0_0
  have HB := Aside0.mk (Below.refl w.heap.size w)
  have H : (spec_grLeads.l0 k a1 (l0_0.length : Int) 0 l0_0) = some r := h
  clear h
  have H' := Aside0.mk H
  clear H
  go_enter Try.func65, Try.ntmps65
  go_wp2_with (first | ((with_reducible refine gate_dst (N := 2) rfl ?_); refine box_event ?hg (N := 2) ?hd (cs := #[.slice A0_0 l0_0.length c0_0]) (t := 28) ?hr ?_; (case hd => rfl); (case hg => rfl); (case hr => first | (go_simp; done) | (go_simp; rfl)); intro gb282 hg w3 hbox hb; have n0_ := Aside0.mk (below_step (by repeat (first | (with_reducible first | exact HB.out | apply below_alloc | apply pw_below_drewN | apply below_drew1) | exact HB.out)) hb); have n1_ := Aside0.mk (hbox); have n2_ := Aside0.mk ((by rw [hg]; exact (below_size (by repeat (first | (with_reducible first | exact HB.out | apply below_alloc | apply pw_below_drewN | apply below_drew1) | exact HB.out))) : w.heap.size ≤ gb282)); have n3_ := Aside0.mk ((by rw [hg]; exact (below_size (by repeat (first | (with_reducible first | exact HB.out | apply below_alloc | apply pw_below_drewN | apply below_drew1) | exact HB.out))) : w.heap.size ≤ gb282)); clear HB; have HB := n0_; have BK282 := n1_; have GW282 := n2_; have GE282 := n3_; clear n0_ n1_ n2_ n3_; clear hb hbox hg; have hcz4_0 : w3.cell? ⟨gb282, 0, none⟩ = some (.slice A0_0 l0_0.length c0_0) := (blk_cell BK282.out 0).trans rfl; have hfz4_0 := blk_frozen BK282.out 0))
  go_loopg [9] k (fun kq v9 w' => ∃ (x9_1 : Int), v9 = .int .i64 x9_1 ∧ Aside0 (spec_grLeads.l0 kq a1 (l0_0.length : Int) x9_1 l0_0 = some r) ∧ Aside0 (kq ≤ k) ∧ Aside0 (w'.heap[gb282]? = some (.cells #[(.slice A0_0 l0_0.length c0_0)] 28 (0, 0))) ∧ Aside0 (Below w.heap.size w w'))
  case atStart => exact ⟨(0), (by first | rfl | (simp; done) | (simp [*]; done)), H', ⟨Nat.le_refl _⟩, ⟨by (with_reducible repeat (first | refine blk_drewN ?_ _ | refine blk_drew ?_ | refine blk_alloc ?_ _)); exact BK282.out⟩, ⟨by repeat (first | (with_reducible first | exact HB.out | apply below_alloc | apply pw_below_drewN | apply below_drew1 | refine below_set ?_ GE282.out) | exact HB.out)⟩⟩
  case round =>
    clear H'
    try clear p2
    try clear hcz4_0
    try clear hfz4_0
    obtain ⟨x9_1, rfl, HA, HK1, BK282, HB⟩ := hrel
    cases gk with
    | zero => exact absurd HA.out (by simp [spec_grLeads.l0])
    | succ k1 =>
      have H := HA.out
      clear HA
      simp only [spec_grLeads.l0] at H
      by_cases c5 : x9_1 < (l0_0.length : Int)
      · rw [if_pos c5] at H
        have c5b0 : decide (x9_1 < (l0_0.length : Int)) = true := decide_eq_true c5
        clear c5
        replace H := Option.bind_eq_some_iff.mp H
        obtain ⟨t283, A60, H⟩ := H
        replace H : (if 0 ≤ a1 then (if a1 < (t283.length : Int) then (if (rd t283 a1) < 0 then (some false) else (spec_grLeads.l0 k1 a1 (l0_0.length : Int) (wrap64 (x9_1 + 1)) l0_0)) else (none)) else (none)) = some r := H
        have A6 := Aside0.mk A60
        clear A60
        by_cases c7 : 0 ≤ a1
        · rw [if_pos c7] at H
          have c7b0 : decide (0 ≤ a1) = true := decide_eq_true c7
          clear c7
          by_cases c8 : a1 < (t283.length : Int)
          · rw [if_pos c8] at H
            have c8b0 : decide (a1 < (t283.length : Int)) = true := decide_eq_true c8
            clear c8
            by_cases c9 : (rd t283 a1) < 0
            · rw [if_pos c9] at H
              have c9b0 : decide ((rd t283 a1) < 0) = true := decide_eq_true c9
              clear c9
              obtain rfl := Option.some.inj H
              have hcz10_0 : wr.cell? ⟨gb282, 0, none⟩ = some (.slice A0_0 l0_0.length c0_0) := (blk_cell BK282.out 0).trans rfl
              have hfz10_0 := blk_frozen BK282.out 0
              go_wp2_with (first | ((with_reducible refine gate_callee (f := 99) rfl ?_); refine goesL_ (some 14) rfl rfl Try.func99 (by kernel_rfl) rfl #[.agg #[.slice A0_0 l0_0.length c0_0], .int .i64 x9_1] rfl (by (try simp only [List.map_toArray, List.map_cons, List.map_nil]); first | done | rfl | (simp only [List.length_drop, List.length_take]; rfl)) ?_; (with_reducible refine (spec_grFar.calls k1 _ _ l0_0 x9_1 t283 _ ?side1 ?side2 A6.out).mono ?_); (case side1 => repeat (first | exact (Kd.C_below HR0_0.out HB.out) | (with_reducible refine Kd.C_alloc ?_ _) | (with_reducible refine Kd.C_drewN ?_ _) | (with_reducible refine Kd.C_drew ?_))); (case side2 => exact HC0_0.out); rintro e w11 ⟨v284, rfl, ho0, hb⟩; refine ⟨_, rfl, ?_⟩; have n0_ := Aside0.mk (Kd.R_lower ho0 (below_size (by repeat (first | (with_reducible first | exact HB.out | apply below_alloc | apply pw_below_drewN | apply below_drew1 | refine below_set ?_ GE282.out) | exact HB.out)))); have n1_ := Aside0.mk (blk_below (g := gb282) (o := .cells #[.slice A0_0 l0_0.length c0_0] 28 (0, 0)) (by (with_reducible repeat (first | refine blk_drewN ?_ _ | refine blk_drew ?_ | refine blk_alloc ?_ _)); exact BK282.out) hb); have n2_ := Aside0.mk (below_step (by repeat (first | (with_reducible first | exact HB.out | apply below_alloc | apply pw_below_drewN | apply below_drew1 | refine below_set ?_ GE282.out) | exact HB.out)) hb); clear BK282; clear HB; have HO285 := n0_; have BK282 := n1_; have HB := n2_; clear n0_ n1_ n2_; (try clear hb); (try clear hb2); (try clear hk); (try clear hi); (try clear ho0); obtain ⟨Ao12, co12, eo12⟩ := Kd.R_slice HO285.out; subst eo12; have p286 : 0 ≤ (a1 : Int) := of_decide_eq_true (by first | (with_reducible assumption) | assumption); have q286 : a1 < (t283.length : Int) := of_decide_eq_true (by first | (with_reducible assumption) | assumption); obtain ⟨ad286, e286, hx286_0⟩ := Kd.at_int (Kd.R_reads' HO285.out).2.2 a1 p286 q286; cases e286; replace p286 := eq_true p286; replace q286 := eq_true q286))
              go_ret
              exact ⟨by first | rfl | (simp [errW_none, errW_some] <;> rfl) | (simp [*, errW_none, errW_some] <;> rfl), by repeat (first | (with_reducible first | exact HB.out | apply below_alloc | apply pw_below_drewN | apply below_drew1 | refine below_set ?_ GE282.out) | exact HB.out)⟩
            · rw [if_neg c9] at H
              have c9b0 : decide ((rd t283 a1) < 0) = false := decide_eq_false c9
              clear c9
              have H' := Aside0.mk H
              clear H
              have hcz13_0 : wr.cell? ⟨gb282, 0, none⟩ = some (.slice A0_0 l0_0.length c0_0) := (blk_cell BK282.out 0).trans rfl
              have hfz13_0 := blk_frozen BK282.out 0
              go_wp2_with (first | ((with_reducible refine gate_callee (f := 99) rfl ?_); refine goesL_ (some 14) rfl rfl Try.func99 (by kernel_rfl) rfl #[.agg #[.slice A0_0 l0_0.length c0_0], .int .i64 x9_1] rfl (by (try simp only [List.map_toArray, List.map_cons, List.map_nil]); first | done | rfl | (simp only [List.length_drop, List.length_take]; rfl)) ?_; (with_reducible refine (spec_grFar.calls k1 _ _ l0_0 x9_1 t283 _ ?side1 ?side2 A6.out).mono ?_); (case side1 => repeat (first | exact (Kd.C_below HR0_0.out HB.out) | (with_reducible refine Kd.C_alloc ?_ _) | (with_reducible refine Kd.C_drewN ?_ _) | (with_reducible refine Kd.C_drew ?_))); (case side2 => exact HC0_0.out); rintro e w14 ⟨v284, rfl, ho0, hb⟩; refine ⟨_, rfl, ?_⟩; have n0_ := Aside0.mk (Kd.R_lower ho0 (below_size (by repeat (first | (with_reducible first | exact HB.out | apply below_alloc | apply pw_below_drewN | apply below_drew1 | refine below_set ?_ GE282.out) | exact HB.out)))); have n1_ := Aside0.mk (blk_below (g := gb282) (o := .cells #[.slice A0_0 l0_0.length c0_0] 28 (0, 0)) (by (with_reducible repeat (first | refine blk_drewN ?_ _ | refine blk_drew ?_ | refine blk_alloc ?_ _)); exact BK282.out) hb); have n2_ := Aside0.mk (below_step (by repeat (first | (with_reducible first | exact HB.out | apply below_alloc | apply pw_below_drewN | apply below_drew1 | refine below_set ?_ GE282.out) | exact HB.out)) hb); clear BK282; clear HB; have HO285 := n0_; have BK282 := n1_; have HB := n2_; clear n0_ n1_ n2_; (try clear hb); (try clear hb2); (try clear hk); (try clear hi); (try clear ho0); obtain ⟨Ao15, co15, eo15⟩ := Kd.R_slice HO285.out; subst eo15; have p286 : 0 ≤ (a1 : Int) := of_decide_eq_true (by first | (with_reducible assumption) | assumption); have q286 : a1 < (t283.length : Int) := of_decide_eq_true (by first | (with_reducible assumption) | assumption); obtain ⟨ad286, e286, hx286_0⟩ := Kd.at_int (Kd.R_reads' HO285.out).2.2 a1 p286 q286; cases e286; replace p286 := eq_true p286; replace q286 := eq_true q286))
              go_roundg k1
              case measure => have := HK1.out; omega
              case rel => exact ⟨(wrap64 (x9_1 + 1)), (by first | rfl | (simp; done) | (simp [*]; done)), H', ⟨by have := HK1.out; omega⟩, ⟨by (with_reducible repeat (first | refine blk_drewN ?_ _ | refine blk_drew ?_ | refine blk_alloc ?_ _)); exact BK282.out⟩, ⟨by repeat (first | (with_reducible first | exact HB.out | apply below_alloc | apply pw_below_drewN | apply below_drew1 | refine below_set ?_ GE282.out) | exact HB.out)⟩⟩
          · rw [if_neg c8] at H
            exact absurd H (by simp)
        · rw [if_neg c7] at H
          exact absurd H (by simp)
      · rw [if_neg c5] at H
        have c5b0 : decide (x9_1 < (l0_0.length : Int)) = false := decide_eq_false c5
        clear c5
        obtain rfl := Option.some.inj H
        go_wp2
        go_ret
        exact ⟨by first | rfl | (simp [errW_none, errW_some] <;> rfl) | (simp [*, errW_none, errW_some] <;> rfl), by repeat (first | (with_reducible first | exact HB.out | apply below_alloc | apply pw_below_drewN | apply below_drew1 | refine below_set ?_ GE282.out) | exact HB.out)⟩

end Go.Proofs.Ytnphoaecjeenjaa.P
namespace Go.Proofs.Ytnphoaecjeenjaa.P
open Go.RowKit Go.Proofs.YtnphoaecjeenjaaW.PrintWords Go.Proofs.YtnphoaecjeenjaaW.PrintLast Go.Proofs.YtnphoaecjeenjaaW.PrintMore
attribute [local go_sem] max2_int min2_int max_two min_two max_three min_three max_four min_four   -- for this text's walks alone
set_option linter.unusedVariables false
set_option linter.unusedSimpArgs false

/-! ### spec_grStrong: function 72 -/
def spec_grStrong.l0 : Nat → Int → Int → List (List Int) → Option (Bool)
  | 0, _, _, _ => none
  | k + 1, x6, x7, x384000 => if x7 < x6 then ((spec_grReach.f k x384000 x7).bind fun t384 => (if (t384.length : Int) = (x384000.length : Int) then (spec_grStrong.l0 k x6 (wrap64 (x7 + 1)) x384000) else (some false))) else (some true)
def spec_grStrong.f (k : Nat) (l0_0 : List (List Int)) : Option (Bool) := spec_grStrong.l0 k (l0_0.length : Int) 0 l0_0
theorem spec_grStrong.mono_l : ∀ k, (∀ y0 y1 y2, LeO (spec_grStrong.l0 k y0 y1 y2) (spec_grStrong.l0 (k + 1) y0 y1 y2))
  | 0 => fun _ _ _ r h => by simp [spec_grStrong.l0] at h
  | k + 1 => by
    have ih0 := spec_grStrong.mono_l k
    · intro y0 y1 y2
      unfold spec_grStrong.l0
      repeat' first
      | (with_reducible exact ih0 _ _ _)
      | (with_reducible exact spec_grReach.mono _ _ _)
      | (with_reducible exact LeO.refl _)
      | (with_reducible exact LeO.none _)
      | (with_reducible refine LeO.ite ?_ ?_)
      | (with_reducible refine LeO.bind ?_ (fun _ => ?_))
      | exact ih0 _ _ _
      | exact spec_grReach.mono _ _ _
      | exact LeO.none _
      | refine LeO.ite ?_ ?_
      | refine LeO.bind ?_ (fun _ => ?_)
theorem spec_grStrong.mono : ∀ a0 k, LeO (spec_grStrong.f k a0) (spec_grStrong.f (k + 1) a0) := by
  intro a0 k
  have ih0 := spec_grStrong.mono_l k
  unfold spec_grStrong.f
  repeat' first
      | (with_reducible exact ih0 _ _ _)
      | (with_reducible exact spec_grReach.mono _ _ _)
      | (with_reducible exact LeO.refl _)
      | (with_reducible exact LeO.none _)
      | (with_reducible refine LeO.ite ?_ ?_)
      | (with_reducible refine LeO.bind ?_ (fun _ => ?_))
      | exact ih0 _ _ _
      | exact spec_grReach.mono _ _ _
      | exact LeO.none _
      | refine LeO.ite ?_ ?_
      | refine LeO.bind ?_ (fun _ => ?_)
def spec_grStrong.T4 : Bool × List (List Nat × List Nat) := (true, [([], []), ([], []), ([0, 1], [0, 1]), ([2], [2]), ([], []), ([4], [4]), ([5], [5]), ([3, 6], [3, 6])])
def spec_grStrong.B4 : List Nat := [0, 0, 3, 7, 0, 16, 48, 127]
theorem spec_grStrong.tab4 : rtab .any (opsOf Try.f72 4) = spec_grStrong.T4 := by kernel_rfl
theorem spec_grStrong.bits4 : waitsOk spec_grStrong.T4.2 spec_grStrong.B4 = true := by kernel_rfl
set_option maxHeartbeats 8000000 in
set_option maxRecDepth 100000 in
theorem spec_grStrong.calls (k : Nat) (A0_0 : Option Addr) (c0_0 : Nat) (l0_0 : List (List Int)) (r : Bool) (w : World) (hr0_0 : Kd.C (Kd.slice 3 (Kd.int .i64)) w A0_0 l0_0.length l0_0) (hc0_0 : l0_0.length ≤ c0_0) (h : spec_grStrong.f k l0_0 = some r) :
    Calls Try.prog 72 #[.agg #[.slice A0_0 l0_0.length c0_0]] w fun e w' => e = .returned (.bool r) ∧ Below w.heap.size w w' := by
  have hu28 := Try.underlying28
  have HR0_0 := Aside0.mk hr0_0
  have HC0_0 := Aside0.mk hc0_0
  clear hr0_0 hc0_0
  have HB := Aside0.mk (Below.refl w.heap.size w)
  have H : (spec_grStrong.l0 k (l0_0.length : Int) 0 l0_0) = some r := h
  clear h
  have H' := Aside0.mk H
  clear H
  go_enter Try.func72, Try.ntmps72
  go_wp2_with (first | ((with_reducible refine gate_dst (N := 1) rfl ?_); refine box_event ?hg (N := 1) ?hd (cs := #[.slice A0_0 l0_0.length c0_0]) (t := 28) ?hr ?_; (case hd => rfl); (case hg => rfl); (case hr => first | (go_simp; done) | (go_simp; rfl)); intro gb383 hg w2 hbox hb; have n0_ := Aside0.mk (below_step (by repeat (first | (with_reducible first | exact HB.out | apply below_alloc | apply pw_below_drewN | apply below_drew1) | exact HB.out)) hb); have n1_ := Aside0.mk (hbox); have n2_ := Aside0.mk ((by rw [hg]; exact (below_size (by repeat (first | (with_reducible first | exact HB.out | apply below_alloc | apply pw_below_drewN | apply below_drew1) | exact HB.out))) : w.heap.size ≤ gb383)); have n3_ := Aside0.mk ((by rw [hg]; exact (below_size (by repeat (first | (with_reducible first | exact HB.out | apply below_alloc | apply pw_below_drewN | apply below_drew1) | exact HB.out))) : w.heap.size ≤ gb383)); clear HB; have HB := n0_; have BK383 := n1_; have GW383 := n2_; have GE383 := n3_; clear n0_ n1_ n2_ n3_; clear hb hbox hg; have hcz3_0 : w2.cell? ⟨gb383, 0, none⟩ = some (.slice A0_0 l0_0.length c0_0) := (blk_cell BK383.out 0).trans rfl; have hfz3_0 := blk_frozen BK383.out 0))
  go_loopg [7] k (fun kq v7 w' => ∃ (x7_1 : Int), v7 = .int .i64 x7_1 ∧ Aside0 (spec_grStrong.l0 kq (l0_0.length : Int) x7_1 l0_0 = some r) ∧ Aside0 (kq ≤ k) ∧ Aside0 (w'.heap[gb383]? = some (.cells #[(.slice A0_0 l0_0.length c0_0)] 28 (0, 0))) ∧ Aside0 (Below w.heap.size w w'))
  case atStart => exact ⟨(0), (by first | rfl | (simp; done) | (simp [*]; done)), H', ⟨Nat.le_refl _⟩, ⟨by (with_reducible repeat (first | refine blk_drewN ?_ _ | refine blk_drew ?_ | refine blk_alloc ?_ _)); exact BK383.out⟩, ⟨by repeat (first | (with_reducible first | exact HB.out | apply below_alloc | apply pw_below_drewN | apply below_drew1 | refine below_set ?_ GE383.out) | exact HB.out)⟩⟩
  case round =>
    clear H'
    try clear p2
    try clear hcz3_0
    try clear hfz3_0
    obtain ⟨x7_1, rfl, HA, HK1, BK383, HB⟩ := hrel
    cases gk with
    | zero => exact absurd HA.out (by simp [spec_grStrong.l0])
    | succ k1 =>
      have H := HA.out
      clear HA
      simp only [spec_grStrong.l0] at H
      by_cases c4 : x7_1 < (l0_0.length : Int)
      · rw [if_pos c4] at H
        have c4b0 : decide (x7_1 < (l0_0.length : Int)) = true := decide_eq_true c4
        clear c4
        replace H := Option.bind_eq_some_iff.mp H
        obtain ⟨t384, A50, H⟩ := H
        replace H : (if (t384.length : Int) = (l0_0.length : Int) then (spec_grStrong.l0 k1 (l0_0.length : Int) (wrap64 (x7_1 + 1)) l0_0) else (some false)) = some r := H
        have A5 := Aside0.mk A50
        clear A50
        by_cases c6 : (t384.length : Int) = (l0_0.length : Int)
        · rw [if_pos c6] at H
          have c6b0 : ((t384.length : Int) == (l0_0.length : Int)) = true := beq_iff_eq.mpr c6
          have c6b1 : ((t384.length : Int) != (l0_0.length : Int)) = false := bne_eq_false_iff_eq.mpr c6
          have c6b2 : (t384.length == l0_0.length) = true := by first | simpa using c6 | (simp at c6 ⊢; omega)
          clear c6
          have H' := Aside0.mk H
          clear H
          try go_wp2
          have n0_ := Aside0.mk (blk_drew BK383.out)
          have n1_ := Aside0.mk (below_drew1 HB.out)
          clear BK383
          clear HB
          have BK383 := n0_
          have HB := n1_
          clear n0_ n1_
          refine start_ (n := 8) (S := fun w' => w'.cell? ⟨gb383, 0, none⟩ = some (.slice A0_0 l0_0.length c0_0)) (ds := []) #[false, false, false, false, false, false, false, false] (by kernel_rfl) rfl rfl ((blk_cell BK383.out 0).trans rfl) (fun hHeld => ?_); refine with_tabW spec_grStrong.tab4 spec_grStrong.bits4 (fun HT_ HW_ => ?_)
          generalize wr.drew = w7 at BK383 HB hHeld ⊢
          refine pure_ (i := 1) (N := some 11) (v := ?_) (a' := ?_) #[false, true, false, false, false, false, false, false] rfl rfl (any_of HT_.out (by kernel_rfl)) (fun _ _ _ h => h) (Or.inl ⟨by rfl, ?_⟩) ?_ ?_
          rotate_left
          · intro w'
            go_simp
            with_reducible rfl
          rotate_left
          · simp only [Act.put, List.setIfInBounds_toArray, List.set_cons_zero, List.set_cons_succ, i64_w, i32_w]
            rfl
          refine pure_ (i := 4) (N := some 14) (v := ?_) (a' := ?_) #[false, true, false, false, true, false, false, false] rfl rfl (any_of HT_.out (by kernel_rfl)) (fun _ _ _ h => h) (Or.inl ⟨by rfl, ?_⟩) ?_ ?_
          rotate_left
          · intro w'
            go_simp
            with_reducible rfl
          rotate_left
          · simp only [Act.put, List.setIfInBounds_toArray, List.set_cons_zero, List.set_cons_succ, i64_w, i32_w]
            rfl
          refine take_ (i := 0) (N := some 10) (v := ?_) (a' := ?_) #[true, true, false, false, true, false, false, false] rfl rfl (take_ofW HT_.out HW_.out (by kernel_rfl)) (fun _ _ _ h => h) (Or.inl ⟨by rfl, ?_⟩) hHeld ?_ ?_
          rotate_left
          · intro w' s0
            go_simp
            with_reducible rfl
          rotate_left
          · simp only [Act.put, List.setIfInBounds_toArray, List.set_cons_zero, List.set_cons_succ, i64_w, i32_w]
            rfl
          refine take_ (i := 5) (N := some 15) (v := ?_) (a' := ?_) #[true, true, false, false, true, true, false, false] rfl rfl (take_ofW HT_.out HW_.out (by kernel_rfl)) (fun _ _ _ h => h) (Or.inl ⟨by rfl, ?_⟩) hHeld ?_ ?_
          rotate_left
          · intro w' s0
            go_simp
            with_reducible rfl
          rotate_left
          · simp only [Act.put, List.setIfInBounds_toArray, List.set_cons_zero, List.set_cons_succ, i64_w, i32_w]
            rfl
          refine pure_ (i := 6) (N := some 16) (v := ?_) (a' := ?_) #[true, true, false, false, true, true, true, false] rfl rfl (any_of HT_.out (by kernel_rfl)) (fun _ _ _ h => h) (Or.inl ⟨by rfl, ?_⟩) ?_ ?_
          rotate_left
          · intro w'
            go_simp
            with_reducible rfl
          rotate_left
          · simp only [Act.put, List.setIfInBounds_toArray, List.set_cons_zero, List.set_cons_succ, i64_w, i32_w]
            rfl
          refine one_ (i := 2) (N := some 12) #[true, true, true, false, true, true, true, false] rfl rfl (one_of HT_.out (by kernel_rfl)) (by decide) (fun K hK => ?_)
          refine goes_ Try.func76 (by kernel_rfl) rfl #[.agg #[.slice A0_0 l0_0.length c0_0], .int .i64 x7_1] (by rfl) rfl rfl (by (try simp only [List.map_toArray, List.map_cons, List.map_nil]); first | done | rfl | (simp only [List.length_drop, List.length_take]; rfl)) ?_
          with_reducible refine (spec_grReach.calls k1 _ _ l0_0 x7_1 t384 _ ?side1 ?side2 A5.out).mono ?_
          (case side1 => repeat (first | exact (Kd.C_below HR0_0.out HB.out) | (with_reducible refine Kd.C_alloc ?_ _) | (with_reducible refine Kd.C_drewN ?_ _) | (with_reducible refine Kd.C_drew ?_)))
          (case side2 => exact HC0_0.out)
          rintro e w8 ⟨v385, rfl, ho0, hb⟩
          refine ⟨_, rfl, ?_⟩
          have n0_ := Aside0.mk (Kd.R_lower ho0 (below_size (by repeat (first | (with_reducible first | exact HB.out | apply below_alloc | apply pw_below_drewN | apply below_drew1 | refine below_set ?_ GE383.out) | exact HB.out))))
          have n1_ := Aside0.mk (blk_below (g := gb383) (o := .cells #[.slice A0_0 l0_0.length c0_0] 28 (0, 0)) (by (with_reducible repeat (first | refine blk_drewN ?_ _ | refine blk_drew ?_ | refine blk_alloc ?_ _)); exact BK383.out) hb)
          have n2_ := Aside0.mk (below_step (by repeat (first | (with_reducible first | exact HB.out | apply below_alloc | apply pw_below_drewN | apply below_drew1 | refine below_set ?_ GE383.out) | exact HB.out)) hb)
          clear BK383
          clear HB
          have HO386 := n0_
          have BK383 := n1_
          have HB := n2_
          clear n0_ n1_ n2_
          (try clear hb)
          (try clear hb2)
          (try clear hk)
          (try clear hi)
          (try clear ho0)
          obtain ⟨Ao9, co9, eo9⟩ := Kd.R_slice HO386.out
          (first | subst eo9 | (injection eo9 with f1_ f2_ f3_; have f4_ := f1_.symm; have f5_ := f3_.symm; clear f1_ f2_ f3_; subst f4_; subst f5_))
          refine hK.out _ _ ((blk_cell BK383.out 0).trans rfl) (fun hHeld => ?_)
          clear hK K
          refine norm_ (a' := ?_) ?_ ?_
          rotate_left
          · show Act.put _ (some 12) _ = _
            simp only [Act.put, List.setIfInBounds_toArray, List.set_cons_zero, List.set_cons_succ, i64_w, i32_w]
            rfl
          refine pure_ (i := 3) (N := some 13) (v := ?_) (a' := ?_) #[true, true, true, true, true, true, true, false] rfl rfl (any_of HT_.out (by kernel_rfl)) (fun _ _ _ h => h) (Or.inl ⟨by rfl, ?_⟩) ?_ ?_
          rotate_left
          · intro w'
            go_simp
            with_reducible rfl
          rotate_left
          · simp only [Act.put, List.setIfInBounds_toArray, List.set_cons_zero, List.set_cons_succ, i64_w, i32_w]
            rfl
          refine pure_ (i := 7) (N := some 17) (v := ?_) (a' := ?_) #[true, true, true, true, true, true, true, true] rfl rfl (any_of HT_.out (by kernel_rfl)) (fun _ _ _ h => h) (Or.inl ⟨by rfl, ?_⟩) ?_ ?_
          rotate_left
          · intro w'
            go_simp
            with_reducible rfl
          rotate_left
          · simp only [Act.put, List.setIfInBounds_toArray, List.set_cons_zero, List.set_cons_succ, i64_w, i32_w]
            rfl
          refine done_ (done_of HT_.out (by kernel_rfl)) ?_
          try go_wp2
          go_roundg k1
          case measure => have := HK1.out; omega
          case rel => exact ⟨(wrap64 (x7_1 + 1)), (by first | rfl | (simp; done) | (simp [*]; done)), H', ⟨by have := HK1.out; omega⟩, ⟨by (with_reducible repeat (first | refine blk_drewN ?_ _ | refine blk_drew ?_ | refine blk_alloc ?_ _)); exact BK383.out⟩, ⟨by repeat (first | (with_reducible first | exact HB.out | apply below_alloc | apply pw_below_drewN | apply below_drew1 | refine below_set ?_ GE383.out) | exact HB.out)⟩⟩
        · rw [if_neg c6] at H
          have c6b0 : ((t384.length : Int) == (l0_0.length : Int)) = false := beq_eq_false_iff_ne.mpr c6
          have c6b1 : ((t384.length : Int) != (l0_0.length : Int)) = true := bne_iff_ne.mpr c6
          have c6b2 : (t384.length == l0_0.length) = false := by first | simpa using c6 | (simp at c6 ⊢; omega)
          obtain rfl := Option.some.inj H
          try go_wp2
          have n0_ := Aside0.mk (blk_drew BK383.out)
          have n1_ := Aside0.mk (below_drew1 HB.out)
          clear BK383
          clear HB
          have BK383 := n0_
          have HB := n1_
          clear n0_ n1_
          refine start_ (n := 8) (S := fun w' => w'.cell? ⟨gb383, 0, none⟩ = some (.slice A0_0 l0_0.length c0_0)) (ds := []) #[false, false, false, false, false, false, false, false] (by kernel_rfl) rfl rfl ((blk_cell BK383.out 0).trans rfl) (fun hHeld => ?_); refine with_tabW spec_grStrong.tab4 spec_grStrong.bits4 (fun HT_ HW_ => ?_)
          generalize wr.drew = w10 at BK383 HB hHeld ⊢
          refine pure_ (i := 1) (N := some 11) (v := ?_) (a' := ?_) #[false, true, false, false, false, false, false, false] rfl rfl (any_of HT_.out (by kernel_rfl)) (fun _ _ _ h => h) (Or.inl ⟨by rfl, ?_⟩) ?_ ?_
          rotate_left
          · intro w'
            go_simp
            with_reducible rfl
          rotate_left
          · simp only [Act.put, List.setIfInBounds_toArray, List.set_cons_zero, List.set_cons_succ, i64_w, i32_w]
            rfl
          refine pure_ (i := 4) (N := some 14) (v := ?_) (a' := ?_) #[false, true, false, false, true, false, false, false] rfl rfl (any_of HT_.out (by kernel_rfl)) (fun _ _ _ h => h) (Or.inl ⟨by rfl, ?_⟩) ?_ ?_
          rotate_left
          · intro w'
            go_simp
            with_reducible rfl
          rotate_left
          · simp only [Act.put, List.setIfInBounds_toArray, List.set_cons_zero, List.set_cons_succ, i64_w, i32_w]
            rfl
          refine take_ (i := 0) (N := some 10) (v := ?_) (a' := ?_) #[true, true, false, false, true, false, false, false] rfl rfl (take_ofW HT_.out HW_.out (by kernel_rfl)) (fun _ _ _ h => h) (Or.inl ⟨by rfl, ?_⟩) hHeld ?_ ?_
          rotate_left
          · intro w' s0
            go_simp
            with_reducible rfl
          rotate_left
          · simp only [Act.put, List.setIfInBounds_toArray, List.set_cons_zero, List.set_cons_succ, i64_w, i32_w]
            rfl
          refine take_ (i := 5) (N := some 15) (v := ?_) (a' := ?_) #[true, true, false, false, true, true, false, false] rfl rfl (take_ofW HT_.out HW_.out (by kernel_rfl)) (fun _ _ _ h => h) (Or.inl ⟨by rfl, ?_⟩) hHeld ?_ ?_
          rotate_left
          · intro w' s0
            go_simp
            with_reducible rfl
          rotate_left
          · simp only [Act.put, List.setIfInBounds_toArray, List.set_cons_zero, List.set_cons_succ, i64_w, i32_w]
            rfl
          refine pure_ (i := 6) (N := some 16) (v := ?_) (a' := ?_) #[true, true, false, false, true, true, true, false] rfl rfl (any_of HT_.out (by kernel_rfl)) (fun _ _ _ h => h) (Or.inl ⟨by rfl, ?_⟩) ?_ ?_
          rotate_left
          · intro w'
            go_simp
            with_reducible rfl
          rotate_left
          · simp only [Act.put, List.setIfInBounds_toArray, List.set_cons_zero, List.set_cons_succ, i64_w, i32_w]
            rfl
          refine one_ (i := 2) (N := some 12) #[true, true, true, false, true, true, true, false] rfl rfl (one_of HT_.out (by kernel_rfl)) (by decide) (fun K hK => ?_)
          refine goes_ Try.func76 (by kernel_rfl) rfl #[.agg #[.slice A0_0 l0_0.length c0_0], .int .i64 x7_1] (by rfl) rfl rfl (by (try simp only [List.map_toArray, List.map_cons, List.map_nil]); first | done | rfl | (simp only [List.length_drop, List.length_take]; rfl)) ?_
          with_reducible refine (spec_grReach.calls k1 _ _ l0_0 x7_1 t384 _ ?side1 ?side2 A5.out).mono ?_
          (case side1 => repeat (first | exact (Kd.C_below HR0_0.out HB.out) | (with_reducible refine Kd.C_alloc ?_ _) | (with_reducible refine Kd.C_drewN ?_ _) | (with_reducible refine Kd.C_drew ?_)))
          (case side2 => exact HC0_0.out)
          rintro e w11 ⟨v385, rfl, ho0, hb⟩
          refine ⟨_, rfl, ?_⟩
          have n0_ := Aside0.mk (Kd.R_lower ho0 (below_size (by repeat (first | (with_reducible first | exact HB.out | apply below_alloc | apply pw_below_drewN | apply below_drew1 | refine below_set ?_ GE383.out) | exact HB.out))))
          have n1_ := Aside0.mk (blk_below (g := gb383) (o := .cells #[.slice A0_0 l0_0.length c0_0] 28 (0, 0)) (by (with_reducible repeat (first | refine blk_drewN ?_ _ | refine blk_drew ?_ | refine blk_alloc ?_ _)); exact BK383.out) hb)
          have n2_ := Aside0.mk (below_step (by repeat (first | (with_reducible first | exact HB.out | apply below_alloc | apply pw_below_drewN | apply below_drew1 | refine below_set ?_ GE383.out) | exact HB.out)) hb)
          clear BK383
          clear HB
          have HO386 := n0_
          have BK383 := n1_
          have HB := n2_
          clear n0_ n1_ n2_
          (try clear hb)
          (try clear hb2)
          (try clear hk)
          (try clear hi)
          (try clear ho0)
          obtain ⟨Ao12, co12, eo12⟩ := Kd.R_slice HO386.out
          (first | subst eo12 | (injection eo12 with f1_ f2_ f3_; have f4_ := f1_.symm; have f5_ := f3_.symm; clear f1_ f2_ f3_; subst f4_; subst f5_))
          refine hK.out _ _ ((blk_cell BK383.out 0).trans rfl) (fun hHeld => ?_)
          clear hK K
          refine norm_ (a' := ?_) ?_ ?_
          rotate_left
          · show Act.put _ (some 12) _ = _
            simp only [Act.put, List.setIfInBounds_toArray, List.set_cons_zero, List.set_cons_succ, i64_w, i32_w]
            rfl
          refine pure_ (i := 3) (N := some 13) (v := ?_) (a' := ?_) #[true, true, true, true, true, true, true, false] rfl rfl (any_of HT_.out (by kernel_rfl)) (fun _ _ _ h => h) (Or.inl ⟨by rfl, ?_⟩) ?_ ?_
          rotate_left
          · intro w'
            go_simp
            with_reducible rfl
          rotate_left
          · simp only [Act.put, List.setIfInBounds_toArray, List.set_cons_zero, List.set_cons_succ, i64_w, i32_w]
            rfl
          refine pure_ (i := 7) (N := some 17) (v := ?_) (a' := ?_) #[true, true, true, true, true, true, true, true] rfl rfl (any_of HT_.out (by kernel_rfl)) (fun _ _ _ h => h) (Or.inl ⟨by rfl, ?_⟩) ?_ ?_
          rotate_left
          · intro w'
            go_simp
            with_reducible rfl
          rotate_left
          · simp only [Act.put, List.setIfInBounds_toArray, List.set_cons_zero, List.set_cons_succ, i64_w, i32_w]
            rfl
          refine done_ (done_of HT_.out (by kernel_rfl)) ?_
          try go_wp2
          go_ret
          exact ⟨by first | rfl | (simp [errW_none, errW_some] <;> rfl) | (simp [*, errW_none, errW_some] <;> rfl), by repeat (first | (with_reducible first | exact HB.out | apply below_alloc | apply pw_below_drewN | apply below_drew1 | refine below_set ?_ GE383.out) | exact HB.out)⟩
      · rw [if_neg c4] at H
        have c4b0 : decide (x7_1 < (l0_0.length : Int)) = false := decide_eq_false c4
        clear c4
        obtain rfl := Option.some.inj H
        go_wp2
        go_ret
        exact ⟨by first | rfl | (simp [errW_none, errW_some] <;> rfl) | (simp [*, errW_none, errW_some] <;> rfl), by repeat (first | (with_reducible first | exact HB.out | apply below_alloc | apply pw_below_drewN | apply below_drew1 | refine below_set ?_ GE383.out) | exact HB.out)⟩

end Go.Proofs.Ytnphoaecjeenjaa.P
namespace Go.Proofs.Ytnphoaecjeenjaa.M
open Go.RowKit Go.Proofs.Ytnphoaecjeenjaa.P Go.Proofs.Ytnphoaecjeenjaa.In Go.Proofs.YtnphoaecjeenjaaW.PrintWords Go.Proofs.YtnphoaecjeenjaaW.PrintLast
set_option linter.unusedVariables false
set_option linter.unusedSimpArgs false
theorem place_of {g : List (List Int)} (hg : goodG g = true) {i : Nat} (hi : i < g.length) : placeB g (i : Int) = true := by
  unfold placeB; rw [hg]; simp; omega
def leadsFrom (g : List (List Int)) (p : Int) : Nat → Nat → Bool
  | 0, _ => true
  | d + 1, i => if rd (far g i) p < 0 then false else leadsFrom g p d (i + 1)
def leads (g : List (List Int)) (p : Int) : Bool := leadsFrom g p g.length 0
theorem leadsTo_l0 {g : List (List Int)} (hg : goodG g = true) (p : Int) (h0 : 0 ≤ p) (h1 : p < (g.length : Int)) : ∀ (d i : Nat), g.length - i = d → i ≤ g.length → Ev (fun k => impl_Graph_leadsTo.l0 k p g.length i g) (leadsFrom g p d i) := by
  have h8 := (good_iff hg).1
  intro d
  induction d with
  | zero =>
    intro i hd hi
    refine Ev.succ ?_
    simp only [impl_Graph_leadsTo.l0]
    exact Ev.neg (by omega) (Ev.now _)
  | succ d ih =>
    intro i hd hi
    have hp := place_of hg (i := i) (by omega)
    have hlen := (far_len hp).len
    refine Ev.succ ?_
    simp only [impl_Graph_leadsTo.l0, leadsFrom]
    refine Ev.pos (by omega) (Ev.bind (lengths hp) (Ev.pos h0 (Ev.pos (by omega) ?_)))
    by_cases h : rd (far g i) p < 0
    · rw [if_pos h]; exact Ev.pos h (Ev.now _)
    · rw [if_neg h]
      refine Ev.neg h ?_
      rw [wrap_nat (by omega)]
      exact ih (i + 1) (by omega) (by omega)
theorem leadsTo {g : List (List Int)} {p : Int} (h : placeB g p = true) : Ev (fun k => impl_Graph_leadsTo.f k g p) (leads g p) := by
  obtain ⟨hg, h0, h1⟩ := place_iff h
  exact leadsTo_l0 hg p h0 h1 g.length 0 (by omega) (by omega)
theorem grLeads_l0 {g : List (List Int)} (hg : goodG g = true) (p : Int) (h0 : 0 ≤ p) (h1 : p < (g.length : Int)) : ∀ (d i : Nat), g.length - i = d → i ≤ g.length → Ev (fun k => spec_grLeads.l0 k p g.length i g) (leadsFrom g p d i) := by
  have h8 := (good_iff hg).1
  intro d
  induction d with
  | zero =>
    intro i hd hi
    refine Ev.succ ?_
    simp only [spec_grLeads.l0]
    exact Ev.neg (by omega) (Ev.now _)
  | succ d ih =>
    intro i hd hi
    have hp := place_of hg (i := i) (by omega)
    have hlen := (far_len hp).len
    refine Ev.succ ?_
    simp only [spec_grLeads.l0, leadsFrom]
    refine Ev.pos (by omega) (Ev.bind (grFar hp) (Ev.pos h0 (Ev.pos (by omega) ?_)))
    by_cases h : rd (far g i) p < 0
    · rw [if_pos h]; exact Ev.pos h (Ev.now _)
    · rw [if_neg h]
      refine Ev.neg h ?_
      rw [wrap_nat (by omega)]
      exact ih (i + 1) (by omega) (by omega)
theorem grLeads {g : List (List Int)} {p : Int} (h : placeB g p = true) : Ev (fun k => spec_grLeads.f k g p) (leads g p) := by
  obtain ⟨hg, h0, h1⟩ := place_iff h
  exact grLeads_l0 hg p h0 h1 g.length 0 (by omega) (by omega)

def reachFrom (o : List Int) : Nat → Nat → List Int → List Int
  | 0, _, acc => acc
  | d + 1, i, acc => if rd o i ≥ 0 then reachFrom o d (i + 1) (acc ++ [(i : Int)]) else reachFrom o d (i + 1) acc
def reach (g : List (List Int)) (p : Int) : List Int := reachFrom (far g p) g.length 0 []
theorem reachFrom_len (o : List Int) : ∀ (d i : Nat) (acc : List Int), (reachFrom o d i acc).length ≤ acc.length + d := by
  intro d
  induction d with
  | zero => intro i acc; exact Nat.le_refl _
  | succ d ih =>
    intro i acc; simp only [reachFrom]; split
    · have := ih (i + 1) (acc ++ [(i : Int)]); simp at this; omega
    · have := ih (i + 1) acc; omega
theorem reachFrom_mem (o : List Int) : ∀ (d i : Nat) (acc : List Int) (q : Int), q ∈ reachFrom o d i acc → q ∈ acc ∨ ((i : Int) ≤ q ∧ q < (i : Int) + d ∧ rd o q ≥ 0) := by
  intro d
  induction d with
  | zero => intro i acc q h; exact .inl h
  | succ d ih =>
    intro i acc q h; simp only [reachFrom] at h; split at h
    · rcases ih _ _ _ h with h2 | h2
      · rcases List.mem_append.mp h2 with h3 | h3
        · exact .inl h3
        · simp at h3; subst h3; exact .inr ⟨by omega, by omega, by assumption⟩
      · refine .inr ⟨by omega, by omega, h2.2.2⟩
    · rcases ih _ _ _ h with h2 | h2
      · exact .inl h2
      · refine .inr ⟨by omega, by omega, h2.2.2⟩
theorem reach_mem {g : List (List Int)} {p q : Int} (h : q ∈ reach g p) : 0 ≤ q ∧ q < (g.length : Int) := by
  rcases reachFrom_mem _ _ _ _ _ h with h2 | h2
  · cases h2
  · omega
theorem reach_len (g : List (List Int)) (p : Int) : (reach g p).length ≤ g.length := by
  have := reachFrom_len (far g p) g.length 0 []; unfold reach; simpa using this
theorem reach_l0 {n : Nat} (hn : n ≤ 8) (o : List Int) (ho : o.length = n) : ∀ (d i : Nat) (acc : List Int), n - i = d → i ≤ n → acc.length ≤ i → Ev (fun k => impl_Graph_reach.l0 k acc o n i) (reachFrom o d i acc) := by
  intro d
  induction d with
  | zero =>
    intro i acc hd hi ha
    refine Ev.succ ?_
    simp only [impl_Graph_reach.l0]
    exact Ev.neg (by omega) (Ev.now _)
  | succ d ih =>
    intro i acc hd hi ha
    refine Ev.succ ?_
    simp only [impl_Graph_reach.l0, reachFrom]
    refine Ev.pos (by omega) (Ev.pos (by omega) (Ev.pos (by omega) ?_))
    rw [wrap_nat (by omega)]
    by_cases h : rd o i ≥ 0
    · rw [if_pos h]
      exact Ev.pos h (Ev.pos (by omega) (ih (i + 1) _ (by omega) (by omega) (by simp; omega)))
    · rw [if_neg h]
      exact Ev.neg h (ih (i + 1) _ (by omega) (by omega) (by omega))
theorem reach_ev {g : List (List Int)} {p : Int} (h : placeB g p = true) : Ev (fun k => impl_Graph_reach.f k g p) (reach g p) := by
  obtain ⟨hg, h0, h1⟩ := place_iff h
  have hlen := (far_len h).len
  unfold impl_Graph_reach.f
  refine Ev.bind (lengths h) ?_
  rw [hlen]
  exact reach_l0 (good_iff hg).1.2 _ hlen g.length 0 [] (by omega) (by omega) (by simp)
theorem grReach_l0 {n : Nat} (hn : n ≤ 8) (o : List Int) (ho : o.length = n) : ∀ (d i : Nat) (acc : List Int), n - i = d → i ≤ n → acc.length ≤ i → Ev (fun k => spec_grReach.l0 k acc o n i) (reachFrom o d i acc) := by
  intro d
  induction d with
  | zero =>
    intro i acc hd hi ha
    refine Ev.succ ?_
    simp only [spec_grReach.l0]
    exact Ev.neg (by omega) (Ev.now _)
  | succ d ih =>
    intro i acc hd hi ha
    refine Ev.succ ?_
    simp only [spec_grReach.l0, reachFrom]
    refine Ev.pos (by omega) (Ev.pos (by omega) (Ev.pos (by omega) ?_))
    rw [wrap_nat (by omega)]
    by_cases h : rd o i ≥ 0
    · rw [if_pos h]
      exact Ev.pos h (Ev.pos (by omega) (ih (i + 1) _ (by omega) (by omega) (by simp; omega)))
    · rw [if_neg h]
      exact Ev.neg h (ih (i + 1) _ (by omega) (by omega) (by omega))
theorem grReach_ev {g : List (List Int)} {p : Int} (h : placeB g p = true) : Ev (fun k => spec_grReach.f k g p) (reach g p) := by
  obtain ⟨hg, h0, h1⟩ := place_iff h
  have hlen := (far_len h).len
  unfold spec_grReach.f
  refine Ev.bind (grFar h) ?_
  rw [hlen]
  exact grReach_l0 (good_iff hg).1.2 _ hlen g.length 0 [] (by omega) (by omega) (by simp)

def strongFrom (g : List (List Int)) : Nat → Nat → Bool
  | 0, _ => true
  | d + 1, i => if ((reach g i).length : Int) = (g.length : Int) then strongFrom g d (i + 1) else false
def strong (g : List (List Int)) : Bool := strongFrom g g.length 0
theorem isStrong_l0 {g : List (List Int)} (hg : goodG g = true) : ∀ (d i : Nat), g.length - i = d → i ≤ g.length → Ev (fun k => impl_Graph_isStrong.l0 k g.length i g) (strongFrom g d i) := by
  have h8 := (good_iff hg).1
  intro d
  induction d with
  | zero =>
    intro i hd hi
    refine Ev.succ ?_
    simp only [impl_Graph_isStrong.l0]
    exact Ev.neg (by omega) (Ev.now _)
  | succ d ih =>
    intro i hd hi
    have hp := place_of hg (i := i) (by omega)
    refine Ev.succ ?_
    simp only [impl_Graph_isStrong.l0, strongFrom]
    refine Ev.pos (by omega) (Ev.bind (reach_ev hp) ?_)
    by_cases h : ((reach g i).length : Int) = (g.length : Int)
    · rw [if_pos h]
      refine Ev.pos h ?_
      rw [wrap_nat (by omega)]
      exact ih (i + 1) (by omega) (by omega)
    · rw [if_neg h]; exact Ev.neg h (Ev.now _)
theorem isStrong {g : List (List Int)} (hg : goodG g = true) : Ev (fun k => impl_Graph_isStrong.f k g) (strong g) := isStrong_l0 hg g.length 0 (by omega) (by omega)
theorem grStrong_l0 {g : List (List Int)} (hg : goodG g = true) : ∀ (d i : Nat), g.length - i = d → i ≤ g.length → Ev (fun k => spec_grStrong.l0 k g.length i g) (strongFrom g d i) := by
  have h8 := (good_iff hg).1
  intro d
  induction d with
  | zero =>
    intro i hd hi
    refine Ev.succ ?_
    simp only [spec_grStrong.l0]
    exact Ev.neg (by omega) (Ev.now _)
  | succ d ih =>
    intro i hd hi
    have hp := place_of hg (i := i) (by omega)
    refine Ev.succ ?_
    simp only [spec_grStrong.l0, strongFrom]
    refine Ev.pos (by omega) (Ev.bind (grReach_ev hp) ?_)
    by_cases h : ((reach g i).length : Int) = (g.length : Int)
    · rw [if_pos h]
      refine Ev.pos h ?_
      rw [wrap_nat (by omega)]
      exact ih (i + 1) (by omega) (by omega)
    · rw [if_neg h]; exact Ev.neg h (Ev.now _)
theorem grStrong {g : List (List Int)} (hg : goodG g = true) : Ev (fun k => spec_grStrong.f k g) (strong g) := grStrong_l0 hg g.length 0 (by omega) (by omega)
end Go.Proofs.Ytnphoaecjeenjaa.M
namespace Go.Proofs.Ytnphoaecjeenjaa.M
open Go.RowKit Go.Proofs.Ytnphoaecjeenjaa.P Go.Proofs.Ytnphoaecjeenjaa.In Go.Proofs.YtnphoaecjeenjaaW.PrintWords Go.Proofs.YtnphoaecjeenjaaW.PrintLast
set_option linter.unusedVariables false
set_option linter.unusedSimpArgs false
def marks (a : Int) : Nat → List Int
  | 0 => []
  | n + 1 => a :: marks (a + 1) n
theorem marks_len (a : Int) (n : Nat) : (marks a n).length = n := by
  induction n generalizing a with
  | zero => rfl
  | succ n ih => simp [marks, ih]
theorem markIntS_l0 (n : Nat) (hn : n ≤ 4611686018427387904) : ∀ (d i : Nat) (x : List Int) (a : Int), x.length = n → n - i = d → i ≤ n → 0 ≤ a → a + d ≤ 4611686018427387904 → Ev (fun k => laws_markIntS.l0 k x a i) (a + d, x.take i ++ marks a d) := by
  intro d
  induction d with
  | zero =>
    intro i x a hx hd hi h0 h1
    refine Ev.succ ?_
    simp only [laws_markIntS.l0]
    refine Ev.neg (by omega) ((Ev.now _).val ?_)
    rw [List.take_of_length_le (by omega)]; simp [marks]
  | succ d ih =>
    intro i x a hx hd hi h0 h1
    refine Ev.succ ?_
    simp only [laws_markIntS.l0]
    refine Ev.pos (by omega) (Ev.pos (by omega) ?_)
    rw [wrap_id (x := a + 1) (by omega), wrap_nat (by omega), Int.toNat_natCast]
    refine (ih (i + 1) (x.set i a) (a + 1) (by rw [List.length_set]; exact hx) (by omega) (by omega) (by omega) (by omega)).val ?_
    rw [List.take_succ_eq_append_getElem (by rw [List.length_set]; omega), List.take_set_of_le (Nat.le_refl _), List.getElem_set_self]
    simp only [marks, List.append_assoc, List.singleton_append]
    congr 1; omega
theorem markIntS (x : List Int) (a : Int) (hn : x.length ≤ 4611686018427387904) (h0 : 0 ≤ a) (h1 : a + x.length ≤ 4611686018427387904) : Ev (fun k => laws_markIntS.f k x a) (a + x.length, marks a x.length) := by
  have := markIntS_l0 x.length hn x.length 0 x a rfl (by omega) (by omega) h0 h1
  unfold laws_markIntS.f
  simpa using this
theorem heldIntS_l0 (n : Nat) (hn : n ≤ 4611686018427387904) (y : List Int) (hy : y.length = n) : ∀ (d i : Nat) (a : Int), n - i = d → i ≤ n → 0 ≤ a → a + d ≤ 4611686018427387904 → y.drop i = marks a d → Ev (fun k => laws_heldIntS.l0 k y a i) (a + d) := by
  intro d
  induction d with
  | zero =>
    intro i a hd hi h0 h1 he
    refine Ev.succ ?_
    simp only [laws_heldIntS.l0]
    exact Ev.neg (by omega) ((Ev.now _).val (by simp))
  | succ d ih =>
    intro i a hd hi h0 h1 he
    have hlt : i < y.length := by omega
    rw [List.drop_eq_getElem_cons hlt] at he
    simp only [marks, List.cons.injEq] at he
    refine Ev.succ ?_
    simp only [laws_heldIntS.l0]
    refine Ev.pos (by omega) (Ev.pos (by omega) (Ev.pos (by rw [rd_at hlt]; exact he.1) ?_))
    rw [wrap_id (x := a + 1) (by omega), wrap_nat (by omega)]
    exact (ih (i + 1) (a + 1) (by omega) (by omega) (by omega) (by omega) he.2).val (by omega)
theorem heldIntS (a : Int) (n : Nat) (h0 : 0 ≤ a) (h1 : a + n ≤ 4611686018427387904) : Ev (fun k => laws_heldIntS.f k (marks a n) a) (a + n) :=
  heldIntS_l0 n (by omega) _ (marks_len a n) n 0 a (by omega) (by omega) h0 h1 (by simp)
theorem markR (r : List Int) (h : r.length ≤ 1048576) : ∃ q r', Ev (fun k => laws_markIntS.f k r 1) (q, r') ∧ 0 ≤ q ∧ Ev (fun k => laws_heldIntS.f k r' 1) q ∧ True :=
  ⟨_, _, markIntS r 1 (by omega) (by omega) (by omega), by omega, heldIntS 1 r.length (by omega) (by omega), trivial⟩
end Go.Proofs.Ytnphoaecjeenjaa.M
namespace Go.Proofs.Ytnphoaecjeenjaa.M
open Go.RowKit Go.Proofs.Ytnphoaecjeenjaa.P Go.Proofs.Ytnphoaecjeenjaa.In Go.Proofs.YtnphoaecjeenjaaW.PrintWords Go.Proofs.YtnphoaecjeenjaaW.PrintLast
set_option linter.unusedVariables false
set_option linter.unusedSimpArgs false
def markRows (a : Int) : List (List Int) → Int × List (List Int)
  | [] => (a, [])
  | row :: rest => ((markRows (a + row.length) rest).1, marks a row.length :: (markRows (a + row.length) rest).2)
theorem markIntSS_l0 (n : Nat) (hn : n ≤ 1048576) : ∀ (d i : Nat) (x : List (List Int)) (a : Int), x.length = n → (∀ row ∈ x.drop i, row.length ≤ 1048576) → n - i = d → i ≤ n → 0 ≤ a → a + 1048576 * d ≤ 4611686018427387904 → Ev (fun k => laws_markIntSS.l0 k x a i) ((markRows a (x.drop i)).1, x.take i ++ (markRows a (x.drop i)).2) ∧ a ≤ (markRows a (x.drop i)).1 ∧ (markRows a (x.drop i)).1 ≤ a + 1048576 * d := by
  intro d
  induction d with
  | zero =>
    intro i x a hx hr hd hi h0 h1
    rw [List.drop_of_length_le (by omega)]
    refine ⟨?_, by simp [markRows], by simp [markRows]⟩
    refine Ev.succ ?_
    simp only [laws_markIntSS.l0]
    refine Ev.neg (by omega) ((Ev.now _).val ?_)
    rw [List.take_of_length_le (by omega)]; simp [markRows]
  | succ d ih =>
    intro i x a hx hr hd hi h0 h1
    have hlt : i < x.length := by omega
    have hrow := hr x[i] (by rw [List.drop_eq_getElem_cons hlt]; exact List.mem_cons_self)
    have hdrop : (x.set i (marks a x[i].length)).drop (i + 1) = x.drop (i + 1) := List.drop_set_of_lt (by omega)
    obtain ⟨e1, e2, e3⟩ := ih (i + 1) (x.set i (marks a x[i].length)) (a + x[i].length) (by rw [List.length_set]; exact hx) (fun row hm => hr row (by rw [hdrop] at hm; rw [List.drop_eq_getElem_cons hlt]; exact List.mem_cons_of_mem _ hm)) (by omega) (by omega) (by omega) (by omega)
    rw [hdrop] at e1 e2 e3
    rw [List.drop_eq_getElem_cons hlt]
    simp only [markRows]
    refine ⟨?_, by omega, by omega⟩
    refine Ev.succ ?_
    simp only [laws_markIntSS.l0]
    refine Ev.pos (by omega) (Ev.pos (by omega) ?_)
    rw [rdL_at hlt]
    refine Ev.bind (markIntS x[i] a (by omega) h0 (by omega)) ?_
    rw [wrap_nat (by omega), Int.toNat_natCast]
    refine e1.val ?_
    rw [List.take_succ_eq_append_getElem (by rw [List.length_set]; omega), List.take_set_of_le (Nat.le_refl _), List.getElem_set_self]
    simp
theorem markIntSS (x : List (List Int)) (hx : small x) (a : Int) (h0 : 0 ≤ a) (h1 : a ≤ 1099511627776) : Ev (fun k => laws_markIntSS.f k x a) ((markRows a x).1, (markRows a x).2) ∧ a ≤ (markRows a x).1 ∧ (markRows a x).1 ≤ a + 1099511627776 := by
  have hl := hx.1
  obtain ⟨e1, e2, e3⟩ := markIntSS_l0 x.length hx.1 x.length 0 x a rfl (fun row hm => hx.2 row (by simpa using hm)) (by omega) (by omega) h0 (by omega)
  refine ⟨by unfold laws_markIntSS.f; simpa using e1, by simpa using e2, ?_⟩
  have : (markRows a x).1 ≤ a + 1048576 * x.length := by simpa using e3
  omega
theorem markG (x : List (List Int)) (hx : small x) : ∃ m x', Ev (fun k => laws_markGraph.f k x 1) (m, x') ∧ 0 ≤ m ∧ m ≤ 1099511627777 := by
  obtain ⟨e1, e2, e3⟩ := markIntSS x hx 1 (by omega) (by omega)
  exact ⟨_, _, e1, by omega, by omega⟩
end Go.Proofs.Ytnphoaecjeenjaa.M
namespace Go.Proofs.Ytnphoaecjeenjaa.Pure
open Go.RowKit Go.Proofs.Ytnphoaecjeenjaa.P Go.Proofs.Ytnphoaecjeenjaa.In Go.Proofs.Ytnphoaecjeenjaa.M Go.Proofs.YtnphoaecjeenjaaW.PrintWords Go.Proofs.YtnphoaecjeenjaaW.PrintLast
set_option linter.unusedVariables false
set_option linter.unusedSimpArgs false
theorem FnExactReachOf (l : List (List Int)) (hl : okSS l) (p : Int) (hp : okI p) : laws_FnExactReachOf.f l p = some true := by
  unfold laws_FnExactReachOf.f
  rw [if_pos]
  unfold laws_FnExactReachOf.Good
  obtain ⟨r, hr, _, hs⟩ := szGraph l hl
  refine ⟨r, hr, fun h => ?_⟩
  have sm := hs h
  obtain ⟨v, b, hS, hI, hv⟩ : ∃ (v : List Int) (b : Bool), Ev (fun k => spec_ReachOf.f k l p) (v, b) ∧ Ev (fun k => impl_ReachOf.f k l p) (v, b) ∧ v.length ≤ 1048576 := by
    by_cases hg : placeB l p = true
    · have h8 := (good_iff (place_iff hg).1).1.2
      refine ⟨reach l p, true, ?_, ?_, by have := reach_len l p; omega⟩
      · unfold spec_ReachOf.f
        exact Ev.bind (grPlace l p hl) (Ev.pos hg (Ev.bind (grReach_ev hg) (Ev.now _)))
      · unfold impl_ReachOf.f
        exact Ev.bind0 (has1 l p) (Ev.pos hg (Ev.bind (reach_ev hg) (Ev.now _)))
    · refine ⟨[], false, ?_, ?_, by simp⟩
      · unfold spec_ReachOf.f
        exact Ev.bind (grPlace l p hl) (Ev.neg hg (Ev.now _))
      · unfold impl_ReachOf.f
        exact Ev.bind0 (has1 l p) (Ev.neg hg (Ev.now _))
  obtain ⟨m, l', hm, hm0, _⟩ := markG l sm
  exact ⟨toGraph l sm, v, b, hS, hI, (eqIntS v v (by omega)).val (decide_eq_true rfl), small_eq l sm, m, l', hm, hm0, markR v hv⟩
end Go.Proofs.Ytnphoaecjeenjaa.Pure
namespace Go.Proofs.Ytnphoaecjeenjaa.fnExactReachOf
open Go.ChangeShapes Go.WideShapes Go.ChangeAt Go.RowKit
open Go.ChangeMaps (open_string shut_string)
open Go.Proofs.Ytnphoaecjeenjaa.In Go.Proofs.Ytnphoaecjeenjaa.P
set_option linter.unusedVariables false
theorem own : ownKnob Try.prog.godebug = none := by kernel_rfl
theorem laidOut : laidOutB Try.prog = true := by kernel_rfl
set_option maxRecDepth 100000 in
theorem lifted (os : Os) (started : os.Started) (H : Type) (enc : TypeId × Value → H) :
    ReturnsInHanded {} Try.checked os 10 .any (Rows.fnExactReachOfSpec.pre6 enc Try.prog Try.f10 Rows.fnExactReachOfRow.domain false) (Rows.fnExactReachOfSpec.post enc Try.prog Try.f10 false true false false) := by
  refine returnsInHanded_of_change_sized (C := Try.checked) own started (by kernel_rfl) Try.func10
    (ChangeSpec.witness6 (enc := enc) (C := Try.checked) false ⟨#[], #[.agg #[.slice none 0 0], .int .i64 0], []⟩ 8 (by kernel_rfl) (by kernel_rfl) (by kernel_rfl) (by kernel_rfl)) ?_
  intro W base args ds gs before hval0 hW hcnd hsz0 _
  have hsz : (DataW.weightsEach Try.prog (Try.f10.params.toList ++ Rows.fnExactReachOfSpec.plain.varTypes Try.prog) (ds ++ gs)).all (· ≤ reachBytes) = true := hsz0
  have hval : ∀ (j : Nat) t v, Try.f10.params[j]? = some t → args[j]? = some v → Value.okWide Try.prog W .any base t v := hval0
  have hW' := hW
  obtain ⟨p, q, hA0, hV, rfl, hfz, hnd⟩ := hW
  have hA : DataW.TrodAll enc Try.prog W 0 (fun _ => true) true Try.f10.params.toList args.toList ds p := hA0
  rw [Try.params10] at hA hval hsz
  obtain ⟨v0, vs0, d0, ds0, p0, q0, hargs, rfl, rfl, h0, r0⟩ := trodAll_cons hA
  obtain ⟨v1, vs1, d1, ds1, p1, q1, rfl, rfl, rfl, h1, r1⟩ := trodAll_cons r0
  obtain ⟨rfl, rfl, rfl⟩ := trodAll_nil r1
  obtain rfl : args = #[v0, v1] := by cases args; simp_all
  obtain ⟨rfl, rfl⟩ := trodVars_none hV
  have k0 := h0
  have lt0 : ∀ x ∈ p0, x.block < W.heap.size := by obtain ⟨m, hm⟩ := k0; exact DataW.trod_lt m _ _ _ hm
  obtain ⟨A0, l0, cap0, rfl, hl0, hc0, hw0⟩ := in_graph (q := 3) Try.underlying24 (by kernel_rfl) (by kernel_rfl) rfl Try.underlying22 Try.underlying35 Try.underlying3 (by kernel_rfl) (by kernel_rfl) (hval 0 24 v0 rfl rfl) h0
  obtain ⟨a1, rfl, rfl, rfl, w1⟩ := open_int Try.underlying3 (hval 1 3 v1 rfl rfl) h1
  clear hA0 hval0 hsz0 hsz
  have h := Pure.FnExactReachOf l0 (okSS_wf hc0 hw0) a1 (okI_wf w1)
  refine (laws_FnExactReachOf.calls _ _ l0 a1 true W hc0 hl0 h).mono fun e W' ⟨he, bel0⟩ => ?_
  have bel : Below W.heap.size W W' := bel0
  subst he
  exact ⟨_, rfl, _, _, _, [], _, [], hW', trodAll_mk1 (shut_bool Try.underlying4 _), (trodAll_cons_mk (Below.trod laidOut (by kernel_rfl) (of_decide_eq_true (by kernel_rfl)) k0 bel lt0) (trodAll_cons_mk (shut_int Try.underlying3 w1) trodAll_mk0)), rfl, bel.frame _, fun h => by cases h⟩
theorem over : Rows.fnExactReachOfRow.holds Try.pinned (OpenSpec.ofChange Rows.fnExactReachOfSpec) :=
  OpenClaim.holds_of_wide 10 Try.f10 rfl rfl rfl rfl rfl rfl rfl ⟨rfl, rfl, rfl, rfl, rfl⟩ rfl rfl rfl rfl rfl (by kernel_rfl) Try.func10 (by kernel_rfl)
    (of_decide_eq_true (by kernel_rfl)) (by unfold Func.isWrapper; first | (rw [if_pos (by decide +kernel)]; kernel_rfl) | (rw [if_neg (by decide +kernel)]; exact ⟨rfl, rfl⟩))
    (fun os started H enc _ => lifted os started H enc)
theorem proved : Rows.FnExactReachOfSaid := over
end Go.Proofs.Ytnphoaecjeenjaa.fnExactReachOf
namespace Go.Proofs.Ytnphoaecjeenjaa
/-- The law, under a short name, for the claim. -/
theorem fnExactReachOf_holds : Rows.FnExactReachOfSaid := fnExactReachOf.proved
#print axioms fnExactReachOf_holds
end Go.Proofs.Ytnphoaecjeenjaa
