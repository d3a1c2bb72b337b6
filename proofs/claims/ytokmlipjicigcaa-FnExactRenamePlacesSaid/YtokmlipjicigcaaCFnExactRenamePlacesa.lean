/- The law FnExactRenamePlaces holds for every input: the program returns what the reference returns (or what the law says), for all arguments. -/
import Derived.Test.YtokmlipjicigcaaPlawsszGraph
import Derived.Test.YtokmlipjicigcaaPlawstoGraph
import Derived.Test.YtokmlipjicigcaaPlawseqGraph
import Derived.Test.YtokmlipjicigcaaPlawseqIntS
import Derived.Test.YtokmlipjicigcaaPspecgrGood
import Derived.Test.YtokmlipjicigcaaPspecl1All
import Derived.Test.YtokmlipjicigcaaPspecl1In
import Derived.Test.YtokmlipjicigcaaPimplisGraph
import Derived.Test.YtokmlipjicigcaaRIn
import Derived.Test.YtokmlipjicigcaaP0
import Derived.Test.YtokmlipjicigcaaPimplin
import Derived.Test.YtokmlipjicigcaaPlawsmarkIntS
import Derived.Test.YtokmlipjicigcaaPlawsheldIntS
import Derived.Test.YtokmlipjicigcaaPlawsmarkIntSS
import Derived.Test.YtokmlipjicigcaaPlawsmarkGraph
import Derived.Test.YtokmlipjicigcaaPlawsheldIntSS
import Derived.Test.YtokmlipjicigcaaPlawsheldGraph
import Derived.Test.YtokmlipjicigcaaPslicesinsertionSortOrderedint
import Derived.Test.YtokmlipjicigcaaPcmpLessint
import Derived.Test.YtokmlipjicigcaaPimplareNames
import Derived.Test.YtokmlipjicigcaaPspecgrNames
import Derived.Test.YtokmlipjicigcaaPspecl1Has
import Derived.Test.YtokmlipjicigcaaPlawsFnExactRenamePlaces
import Derived.Test.YtokmlipjicigcaaPimplRenamePlaces
import Derived.Test.YtokmlipjicigcaaPspecRenamePlaces
import Derived.Test.YtokmlipjicigcaaPspecgrRename
import Derived.Test.YtokmlipjicigcaaRows
import Derived.WalkKit
import Derived.ProofKit
import Derived.OpenShut
import Derived.ShutString
import Derived.ChangeOld
import Derived.Below
import Derived.SizedLaws
import Derived.Deep.Matrix
import Derived.Lib.SmallJoins
namespace Go.Proofs.Ytokmlipjicigcaa.M
open Go.RowKit Go.Proofs.Ytokmlipjicigcaa.P Go.Proofs.Ytokmlipjicigcaa.In Go.Proofs.YtokmlipjicigcaaW.PrintWords Go.Proofs.YtokmlipjicigcaaW.PrintLast
set_option linter.unusedVariables false
set_option linter.unusedSimpArgs false
/-! numbers -/
theorem wrap_id {x : Int} (h : -9223372036854775808 ≤ x ∧ x ≤ 9223372036854775807) : wrap64 x = x := by unfold wrap64; omega
theorem wrap_nat {n : Nat} (h : n < 9223372036854775807) : wrap64 ((n : Int) + 1) = ((n + 1 : Nat) : Int) := by unfold wrap64; omega
theorem rd_at {l : List Int} {n : Nat} (h : n < l.length) : rd l (n : Int) = l[n] := by simp [rd, h]
theorem rdL_at {l : List (List Int)} {n : Nat} (h : n < l.length) : rd_L1 l (n : Int) = l[n] := by simp [rd_L1, h]
theorem _root_.Go.Proofs.YtokmlipjicigcaaW.PrintWords.Ev.val {α : Type} {g : Nat → Option α} {r r' : α} (h : Ev g r) (e : r = r') : Ev g r' := e ▸ h
theorem _root_.Go.Proofs.YtokmlipjicigcaaW.PrintWords.Ev.const {α : Type} {g : Nat → Option α} {r : α} (h : ∀ k, g k = some r) : Ev g r := ⟨0, fun k _ => h k⟩
theorem _root_.Go.Proofs.YtokmlipjicigcaaW.PrintWords.Ev.const1 {α : Type} {g : Nat → Option α} {r : α} (h : ∀ k, g (k + 1) = some r) : Ev g r := Ev.step (f := fun _ => some r) h (Ev.const fun _ => rfl)
theorem _root_.Go.Proofs.YtokmlipjicigcaaW.PrintWords.Ev.succ {α : Type} {g : Nat → Option α} {r : α} (h : Ev (fun k => g (k + 1)) r) : Ev g r := Ev.step (f := fun k => g (k + 1)) (fun _ => rfl) h
theorem _root_.Go.Proofs.YtokmlipjicigcaaW.PrintWords.Ev.uniq {α : Type} {g : Nat → Option α} {r r' : α} (h : Ev g r) (h' : Ev g r') : r = r' := by
  obtain ⟨K, hK⟩ := h
  obtain ⟨K', hK'⟩ := h'
  have := (hK (max K K') (Nat.le_max_left _ _)).symm.trans (hK' (max K K') (Nat.le_max_right _ _))
  exact Option.some.inj this
theorem _root_.Go.Proofs.YtokmlipjicigcaaW.PrintWords.Ev.bind0 {α β : Type} {g : Option α} {f : Nat → α → Option β} {a : α} {r : β} (h : g = some a) (k : Ev (fun n => f n a) r) : Ev (fun n => g.bind (f n)) r := by
  subst h; exact k
theorem _root_.Go.Proofs.YtokmlipjicigcaaW.PrintWords.Ev.pos {α : Type} {g f : Nat → Option α} {r : α} {c : Prop} [Decidable c] (h : c) (k : Ev g r) : Ev (fun n => if c then g n else f n) r := by
  simp only [if_pos h]; exact k
theorem _root_.Go.Proofs.YtokmlipjicigcaaW.PrintWords.Ev.neg {α : Type} {g f : Nat → Option α} {r : α} {c : Prop} [Decidable c] (h : ¬ c) (k : Ev f r) : Ev (fun n => if c then g n else f n) r := by
  simp only [if_neg h]; exact k

/-! copies -/
theorem toIntS_l0 (l : List Int) (hl : l.length < 9223372036854775807) : ∀ (d i : Nat) (y : List Int), l.length - i = d → i ≤ l.length → y.length = l.length → y.take i = l.take i → Ev (fun k => laws_toIntS.l0 k l y i) l := by
  intro d
  induction d with
  | zero =>
    intro i y hd hi hy ht
    have : i = l.length := by omega
    subst this
    refine Ev.const1 (fun k => ?_)
    simp only [laws_toIntS.l0]
    rw [if_neg (by omega)]
    rw [List.take_of_length_le (by omega), List.take_of_length_le (by omega)] at ht
    rw [ht]
  | succ d ih =>
    intro i y hd hi hy ht
    have hlt : i < l.length := by omega
    refine Ev.step (f := fun k => laws_toIntS.l0 k l (y.set i l[i]) (i + 1 : Nat)) (fun k => ?_) (ih (i + 1) (y.set i l[i]) (by omega) (by omega) (by rw [List.length_set]; exact hy) ?_)
    · simp only [laws_toIntS.l0]
      rw [if_pos (by omega), if_pos (by omega), if_pos (by omega), wrap_nat (by omega), rd_at hlt, Int.toNat_natCast]
    · rw [List.take_succ_eq_append_getElem (by rw [List.length_set]; omega), List.take_succ_eq_append_getElem hlt, List.take_set_of_le (Nat.le_refl _), ht, List.getElem_set_self]
theorem toIntS (l : List Int) (hl : l.length ≤ 35184372088832) : Ev (fun k => laws_toIntS.f k l) l := by
  unfold laws_toIntS.f
  refine Ev.pos (by omega) (Ev.pos (by omega) ?_)
  exact toIntS_l0 l (by omega) l.length 0 _ (by omega) (by omega) (by simp) (by simp)
theorem toIntSS_l0 (l : List (List Int)) (hl : l.length < 9223372036854775807) (hr : ∀ row ∈ l, row.length ≤ 35184372088832) : ∀ (d i : Nat) (y : List (List Int)), l.length - i = d → i ≤ l.length → y.length = l.length → y.take i = l.take i → Ev (fun k => laws_toIntSS.l0 k l y i) l := by
  intro d
  induction d with
  | zero =>
    intro i y hd hi hy ht
    have : i = l.length := by omega
    subst this
    refine Ev.const1 (fun k => ?_)
    simp only [laws_toIntSS.l0]
    rw [if_neg (by omega)]
    rw [List.take_of_length_le (by omega), List.take_of_length_le (by omega)] at ht
    rw [ht]
  | succ d ih =>
    intro i y hd hi hy ht
    have hlt : i < l.length := by omega
    refine Ev.step (f := fun k => (laws_toIntS.f k l[i]).bind fun t => laws_toIntSS.l0 k l (y.set i t) (i + 1 : Nat)) (fun k => ?_) (Ev.bind (toIntS l[i] (hr _ (List.getElem_mem hlt))) (ih (i + 1) (y.set i l[i]) (by omega) (by omega) (by rw [List.length_set]; exact hy) ?_))
    · simp only [laws_toIntSS.l0]
      rw [if_pos (by omega), if_pos (by omega), wrap_nat (by omega), rdL_at hlt, Int.toNat_natCast]
      congr 1
      funext t
      rw [if_pos (by omega)]
    · rw [List.take_succ_eq_append_getElem (by rw [List.length_set]; omega), List.take_succ_eq_append_getElem hlt, List.take_set_of_le (Nat.le_refl _), ht, List.getElem_set_self]
theorem toIntSS (l : List (List Int)) (hl : l.length ≤ 11728124029610) (hr : ∀ row ∈ l, row.length ≤ 35184372088832) : Ev (fun k => laws_toIntSS.f k l) l := by
  unfold laws_toIntSS.f
  refine Ev.pos (by omega) (Ev.pos (by omega) ?_)
  exact toIntSS_l0 l (by omega) hr l.length 0 _ (by omega) (by omega) (by simp) (by simp)
/-- A graph that is small enough for a law to look at it. -/
def small (l : List (List Int)) : Prop := l.length ≤ 1048576 ∧ ∀ row ∈ l, row.length ≤ 1048576
theorem toGraph (l : List (List Int)) (h : small l) : Ev (fun k => laws_toGraph.f k l) l := by
  unfold laws_toGraph.f
  exact Ev.bind (toIntSS l (by have := h.1; omega) (fun row hr => by have := h.2 row hr; omega)) (Ev.now _)

/-! sizes -/
theorem szIntSS_l0 (l : List (List Int)) (hl : okSS l) : ∀ (d i : Nat) (a : Int), l.length - i = d → i ≤ l.length → 0 ≤ a → a ≤ 1048576 → ∃ r, Ev (fun k => laws_szIntSS.l0 k l a i) r ∧ r ≤ 1048576 ∧ (0 ≤ r → ∀ j (hj : j < l.length), i ≤ j → l[j].length ≤ 1048576) := by
  intro d
  induction d with
  | zero =>
    intro i a hd hi h0 h1
    refine ⟨a, Ev.const1 (fun k => ?_), h1, fun _ j hj hij => by omega⟩
    simp only [laws_szIntSS.l0]
    rw [if_neg (by omega)]
  | succ d ih =>
    intro i a hd hi h0 h1
    have hlt : i < l.length := by omega
    have hll := hl.1
    have hrow := (hl.2 _ (List.getElem_mem hlt)).1
    by_cases hneg : a - (l[i].length : Int) < 0
    · refine ⟨-1, Ev.const1 (fun k => ?_), by omega, fun h => by omega⟩
      simp only [laws_szIntSS.l0, laws_szIntS.f]
      rw [if_pos (by omega), if_pos (by omega), rdL_at hlt, if_pos (by rw [wrap_id (by omega)]; exact hneg)]
      rfl
    · obtain ⟨r, h2, h3, h4⟩ := ih (i + 1) (a - (l[i].length : Int)) (by omega) (by omega) (by omega) (by omega)
      refine ⟨r, Ev.step (fun k => ?_) h2, h3, fun h j hj hij => ?_⟩
      · simp only [laws_szIntSS.l0, laws_szIntS.f]
        rw [if_pos (by omega), if_pos (by omega), rdL_at hlt, wrap_id (by omega), if_neg hneg, wrap_nat (by omega)]
        simp only [Option.bind_some]
        rw [if_neg hneg]
      · by_cases e : j = i
        · subst e; omega
        · exact h4 h j hj (by omega)
theorem szGraph (l : List (List Int)) (hl : okSS l) : ∃ r, Ev (fun k => laws_szGraph.f k l 1048576) r ∧ r ≤ 1048576 ∧ (0 ≤ r → small l) := by
  have hll := hl.1
  unfold laws_szGraph.f laws_szIntSS.f
  rw [wrap_id (by omega)]
  by_cases h : (1048576 : Int) - (l.length : Int) < 0
  · exact ⟨-1, Ev.bind (Ev.pos h (Ev.now _)) (Ev.pos (by omega) (Ev.now _)), by omega, fun h => by omega⟩
  · obtain ⟨r, h2, h3, h4⟩ := szIntSS_l0 l hl l.length 0 (1048576 - (l.length : Int)) (by omega) (by omega) (by omega) (by omega)
    by_cases hr : r < 0
    · exact ⟨-1, Ev.bind (Ev.neg h h2) (Ev.pos hr (Ev.now _)), by omega, fun h => by omega⟩
    · refine ⟨r, Ev.bind (Ev.neg h h2) (Ev.neg hr (Ev.now _)), h3, fun h0 => ⟨by omega, fun row hrow => ?_⟩⟩
      obtain ⟨j, hj, rfl⟩ := List.getElem_of_mem hrow
      exact h4 h0 j hj (Nat.zero_le _)

/-! comparisons -/
theorem cons_dec {α : Type} [DecidableEq α] {a b : α} {l m : List α} (e : a = b) : decide (l = m) = decide (a :: l = b :: m) := by
  subst e; exact decide_eq_decide.mpr ⟨fun h => by rw [h], fun h => (List.cons.inj h).2⟩
theorem eqIntS_l0 (x y : List Int) (hl : x.length ≤ 9223372036854775807) (hxy : x.length = y.length) : ∀ (d i : Nat), x.length - i = d → i ≤ x.length → Ev (fun k => laws_eqIntS.l0 k x y i) (decide (x.drop i = y.drop i)) := by
  intro d
  induction d with
  | zero =>
    intro i hd hi
    refine Ev.const1 (fun k => ?_)
    simp only [laws_eqIntS.l0]
    rw [if_neg (by omega), List.drop_of_length_le (by omega), List.drop_of_length_le (by omega)]
    simp
  | succ d ih =>
    intro i hd hi
    have hlt : i < x.length := by omega
    have hlt2 : i < y.length := by omega
    rw [List.drop_eq_getElem_cons hlt, List.drop_eq_getElem_cons hlt2]
    by_cases e : x[i] = y[i]
    · refine Ev.step (f := fun k => laws_eqIntS.l0 k x y (i + 1 : Nat)) (fun k => ?_) ((ih (i + 1) (by omega) (by omega)).val (cons_dec e))
      simp only [laws_eqIntS.l0]
      rw [if_pos (by omega), if_pos (by omega), if_pos (by omega), rd_at hlt, rd_at hlt2, if_pos e, wrap_nat (by omega)]
    · refine Ev.const1 (fun k => ?_)
      simp only [laws_eqIntS.l0]
      rw [if_pos (by omega), if_pos (by omega), if_pos (by omega), rd_at hlt, rd_at hlt2, if_neg e, decide_eq_false (fun h => e (List.cons.inj h).1)]
theorem eqIntS (x y : List Int) (hl : x.length ≤ 9223372036854775807) : Ev (fun k => laws_eqIntS.f k x y) (decide (x = y)) := by
  unfold laws_eqIntS.f
  by_cases h : x.length = y.length
  · refine Ev.pos (by omega) ?_
    exact eqIntS_l0 x y hl h x.length 0 (by omega) (by omega)
  · refine Ev.neg (by omega) ?_
    exact (Ev.now _).val (by have : x ≠ y := fun e => h (by rw [e]); simp [this])
theorem eqIntSS_l0 (x y : List (List Int)) (hl : x.length ≤ 9223372036854775807) (hr : ∀ row ∈ x, row.length ≤ 9223372036854775807) (hxy : x.length = y.length) : ∀ (d i : Nat), x.length - i = d → i ≤ x.length → Ev (fun k => laws_eqIntSS.l0 k x y i) (decide (x.drop i = y.drop i)) := by
  intro d
  induction d with
  | zero =>
    intro i hd hi
    refine Ev.const1 (fun k => ?_)
    simp only [laws_eqIntSS.l0]
    rw [if_neg (by omega), List.drop_of_length_le (by omega), List.drop_of_length_le (by omega)]
    simp
  | succ d ih =>
    intro i hd hi
    have hlt : i < x.length := by omega
    have hlt2 : i < y.length := by omega
    rw [List.drop_eq_getElem_cons hlt, List.drop_eq_getElem_cons hlt2]
    refine Ev.step (f := fun k => (laws_eqIntS.f k x[i] y[i]).bind fun t => if t = true then laws_eqIntSS.l0 k x y (i + 1 : Nat) else some false) (fun k => ?_) ?_
    · simp only [laws_eqIntSS.l0]
      rw [if_pos (by omega), if_pos (by omega), if_pos (by omega), rdL_at hlt, rdL_at hlt2, wrap_nat (by omega)]
    · by_cases e : x[i] = y[i]
      · exact Ev.bind ((eqIntS x[i] y[i] (hr _ (List.getElem_mem hlt))).val (decide_eq_true e)) (Ev.pos rfl ((ih (i + 1) (by omega) (by omega)).val (cons_dec e)))
      · exact Ev.bind ((eqIntS x[i] y[i] (hr _ (List.getElem_mem hlt))).val (decide_eq_false e)) (Ev.neg (by simp) ((Ev.now _).val (decide_eq_false (fun h => e (List.cons.inj h).1)).symm))
theorem eqIntSS (x y : List (List Int)) (hl : x.length ≤ 9223372036854775807) (hr : ∀ row ∈ x, row.length ≤ 9223372036854775807) : Ev (fun k => laws_eqIntSS.f k x y) (decide (x = y)) := by
  unfold laws_eqIntSS.f
  by_cases h : x.length = y.length
  · refine Ev.pos (by omega) ?_
    exact eqIntSS_l0 x y hl hr h x.length 0 (by omega) (by omega)
  · refine Ev.neg (by omega) ?_
    exact (Ev.now _).val (by have : x ≠ y := fun e => h (by rw [e]); simp [this])
theorem eqGraph (x y : List (List Int)) (hl : x.length ≤ 9223372036854775807) (hr : ∀ row ∈ x, row.length ≤ 9223372036854775807) : Ev (fun k => laws_eqGraph.f k x y) (decide (x = y)) := by
  unfold laws_eqGraph.f
  refine Ev.bind (eqIntSS x y hl hr) ?_
  by_cases e : x = y
  · exact Ev.pos (decide_eq_true e) ((Ev.now _).val (decide_eq_true e).symm)
  · exact Ev.neg (by simp [e]) ((Ev.now _).val (decide_eq_false e).symm)
theorem small_eq (l : List (List Int)) (h : small l) : Ev (fun k => laws_eqGraph.f k l l) true := (eqGraph l l (by have := h.1; omega) (fun row hr => by have := h.2 row hr; omega)).val (decide_eq_true rfl)

/-! what a graph is -/
theorem l1In (a lo hi : Int) : spec_l1In.f a lo hi = some (decide (lo ≤ a) && decide (a ≤ hi)) := by
  unfold spec_l1In.f
  by_cases h : a ≥ lo
  · rw [if_pos h]; have : lo ≤ a := h; simp [this]
  · rw [if_neg h]; have : ¬ lo ≤ a := h; simp [this]
theorem implin (a lo hi : Int) : impl_in.f a lo hi = some (decide (lo ≤ a) && decide (a ≤ hi)) := by
  unfold impl_in.f
  by_cases h : lo ≤ a
  · rw [if_pos h]; simp [h]
  · rw [if_neg h]; simp [h]
theorem l1All_l0 (l : List Int) (lo hi : Int) (hl : l.length ≤ 9223372036854775807) : ∀ (d i : Nat), l.length - i = d → i ≤ l.length → Ev (fun k => spec_l1All.l0 k lo hi l l.length i) ((l.drop i).all fun x => decide (lo ≤ x) && decide (x ≤ hi)) := by
  intro d
  induction d with
  | zero =>
    intro i hd hi
    refine Ev.const1 (fun k => ?_)
    simp only [spec_l1All.l0]
    rw [if_neg (by omega), List.drop_of_length_le (by omega)]
    rfl
  | succ d ih =>
    intro i hd hi'
    have hlt : i < l.length := by omega
    rw [List.drop_eq_getElem_cons hlt, List.all_cons]
    by_cases e : (decide (lo ≤ l[i]) && decide (l[i] ≤ hi)) = true
    · refine Ev.step (f := fun k => spec_l1All.l0 k lo hi l l.length (i + 1 : Nat)) (fun k => ?_) ((ih (i + 1) (by omega) (by omega)).val (by rw [e]; simp))
      simp only [spec_l1All.l0, l1In]
      rw [if_pos (by omega), if_pos (by omega), if_pos (by omega), rd_at hlt, wrap_nat (by omega)]
      simp only [Option.bind_some]
      rw [if_pos e]
    · refine Ev.const1 (fun k => ?_)
      simp only [spec_l1All.l0, l1In]
      rw [if_pos (by omega), if_pos (by omega), if_pos (by omega), rd_at hlt]
      simp only [Option.bind_some]
      rw [if_neg e]
      simp only [Bool.not_eq_true] at e
      rw [e]; rfl
theorem l1All (l : List Int) (lo hi : Int) (hl : l.length ≤ 9223372036854775807) : Ev (fun k => spec_l1All.f k l lo hi) (l.all fun x => decide (lo ≤ x) && decide (x ≤ hi)) := by
  unfold spec_l1All.f
  exact l1All_l0 l lo hi hl l.length 0 (by omega) (by omega)
theorem grGood_l0 (l : List (List Int)) (hl : okSS l) : ∀ (d i : Nat), l.length - i = d → i ≤ l.length → Ev (fun k => spec_grGood.l0 k l.length l l.length i) ((l.drop i).all (goodRow l.length)) := by
  intro d
  induction d with
  | zero =>
    intro i hd hi
    refine Ev.const1 (fun k => ?_)
    simp only [spec_grGood.l0]
    rw [if_neg (by omega), List.drop_of_length_le (by omega)]
    rfl
  | succ d ih =>
    intro i hd hi'
    have hlt : i < l.length := by omega
    have hll := hl.1
    have hrow := (hl.2 _ (List.getElem_mem hlt)).1
    rw [List.drop_eq_getElem_cons hlt, List.all_cons]
    by_cases h5 : l[i].length ≤ 5
    · refine Ev.step (f := fun k => (spec_l1All.f k l[i] 0 ((l.length : Int) - 1)).bind fun t => if t = true then spec_grGood.l0 k l.length l l.length (i + 1 : Nat) else some false) (fun k => ?_) ?_
      · simp only [spec_grGood.l0]
        rw [if_pos (by omega), if_pos (by omega), if_pos (by omega), rdL_at hlt, if_neg (by omega), wrap_nat (by omega), wrap_id (by omega)]
      · by_cases e : (l[i].all fun x => decide (0 ≤ x) && decide (x ≤ (l.length : Int) - 1)) = true
        · exact Ev.bind ((l1All _ 0 _ hrow).val e) (Ev.pos rfl ((ih (i + 1) (by omega) (by omega)).val (by unfold goodRow; rw [e]; simp [h5])))
        · exact Ev.bind ((l1All _ 0 _ hrow).val (Bool.eq_false_iff.mpr e)) (Ev.neg (by simp) ((Ev.now _).val (by unfold goodRow; simp only [Bool.not_eq_true] at e; rw [e]; simp)))
    · refine Ev.const1 (fun k => ?_)
      simp only [spec_grGood.l0]
      rw [if_pos (by omega), if_pos (by omega), if_pos (by omega), rdL_at hlt, if_pos (by omega)]
      simp [goodRow, h5]
theorem grGood (l : List (List Int)) (hl : okSS l) : Ev (fun k => spec_grGood.f k l) (goodG l) := by
  unfold spec_grGood.f
  rw [l1In]
  simp only [Option.bind_some]
  by_cases h : 1 ≤ l.length ∧ l.length ≤ 8
  · have h1 : (1 : Int) ≤ l.length := by omega
    have h2 : (l.length : Int) ≤ 8 := by omega
    refine Ev.pos (by simp [h1, h2]) ?_
    exact (grGood_l0 l hl l.length 0 (by omega) (by omega)).val (by simp [goodG, h.1, h.2])
  · refine Ev.neg (by simp; omega) ((Ev.now _).val ?_)
    unfold goodG
    by_cases h1 : 1 ≤ l.length
    · have h2 : ¬ l.length ≤ 8 := by omega
      simp [h1, h2]
    · simp [h1]
theorem ok_small {l : List (List Int)} (h : okSS l) : l.length ≤ 9223372036854775807 ∧ ∀ row ∈ l, row.length ≤ 9223372036854775807 := ⟨h.1, fun row hr => (h.2 row hr).1⟩
end Go.Proofs.Ytokmlipjicigcaa.M
namespace Go.Proofs.Ytokmlipjicigcaa.P
open Go.RowKit Go.Proofs.YtokmlipjicigcaaW.PrintWords Go.Proofs.YtokmlipjicigcaaW.PrintLast Go.Proofs.YtokmlipjicigcaaW.PrintMore
attribute [local go_sem] max2_int min2_int max_two min_two max_three min_three max_four min_four   -- for this text's walks alone
set_option linter.unusedVariables false
set_option linter.unusedSimpArgs false

/-! ### spec_grPlace: function 25 -/
def spec_grPlace.f (k : Nat) (l0_0 : List (List Int)) (a1 : Int) : Option (Bool) := (spec_grGood.f k l0_0).bind fun t185 => (if t185 = true then ((spec_l1In.f a1 0 (wrap64 ((l0_0.length : Int) - 1))).bind fun t186 => (some t186)) else (some false))
theorem spec_grPlace.mono : ∀ a0 a1 k, LeO (spec_grPlace.f k a0 a1) (spec_grPlace.f (k + 1) a0 a1) := by
  intro a0 a1 k
  unfold spec_grPlace.f
  repeat' first
      | (with_reducible exact spec_grGood.mono _ _)
      | (with_reducible exact LeO.refl _)
      | (with_reducible exact LeO.none _)
      | (with_reducible refine LeO.ite ?_ ?_)
      | (with_reducible refine LeO.bind ?_ (fun _ => ?_))
      | exact spec_grGood.mono _ _
      | exact LeO.none _
      | refine LeO.ite ?_ ?_
      | refine LeO.bind ?_ (fun _ => ?_)
set_option maxHeartbeats 8000000 in
set_option maxRecDepth 100000 in
theorem spec_grPlace.calls (k : Nat) (A0_0 : Option Addr) (c0_0 : Nat) (l0_0 : List (List Int)) (a1 : Int) (r : Bool) (w : World) (hr0_0 : Kd.C (Kd.slice 3 (Kd.int .i64)) w A0_0 l0_0.length l0_0) (hc0_0 : l0_0.length ≤ c0_0) (h : spec_grPlace.f k l0_0 a1 = some r) :
    Calls Try.prog 25 #[.agg #[.slice A0_0 l0_0.length c0_0], .int .i64 a1] w fun e w' => e = .returned (.bool r) ∧ Below w.heap.size w w' := by
  have hu28 := Try.underlying28
  have HR0_0 := Aside0.mk hr0_0
  have HC0_0 := Aside0.mk hc0_0
  clear hr0_0 hc0_0
  have HB := Aside0.mk (Below.refl w.heap.size w)
  have H : ((spec_grGood.f k l0_0).bind fun t185 => (if t185 = true then ((spec_l1In.f a1 0 (wrap64 ((l0_0.length : Int) - 1))).bind fun t186 => (some t186)) else (some false))) = some r := h
  clear h
  replace H := Option.bind_eq_some_iff.mp H
  obtain ⟨t185, A30, H⟩ := H
  replace H : (if t185 = true then ((spec_l1In.f a1 0 (wrap64 ((l0_0.length : Int) - 1))).bind fun t186 => (some t186)) else (some false)) = some r := H
  have A3 := Aside0.mk A30
  clear A30
  by_cases c4 : t185 = true
  · subst c4
    have H1 : ((spec_l1In.f a1 0 (wrap64 ((l0_0.length : Int) - 1))).bind fun t186 => (some t186)) = some r := by rw [if_pos rfl] at H; exact H
    clear H
    have H := H1
    clear H1
    replace H := Option.bind_eq_some_iff.mp H
    obtain ⟨t186, A50, H⟩ := H
    replace H : (some t186) = some r := H
    have A5 := Aside0.mk A50
    clear A50
    obtain rfl := Option.some.inj H
    go_enter Try.func25, Try.ntmps25
    go_wp2_with (first | ((with_reducible refine gate_dst (N := 2) rfl ?_); (try (refine gate_guard (by rfl) ?_; dsimp only)); refine box_event ?hg (N := 2) ?hd (cs := #[.slice A0_0 l0_0.length c0_0]) (t := 28) ?hr ?_; (case hd => rfl); (case hg => rfl); (case hr => first | (go_simp; done) | (go_simp; rfl)); intro gb184 hg w6 hbox hb; have n0_ := Aside0.mk (below_step (by repeat (first | (with_reducible first | exact HB.out | apply below_alloc | apply pw_below_drewN | apply below_drew1) | exact HB.out)) hb); have n1_ := Aside0.mk (hbox); have n2_ := Aside0.mk ((by rw [hg]; exact (below_size (by repeat (first | (with_reducible first | exact HB.out | apply below_alloc | apply pw_below_drewN | apply below_drew1) | exact HB.out))) : w.heap.size ≤ gb184)); have n3_ := Aside0.mk ((by rw [hg]; exact (below_size (by repeat (first | (with_reducible first | exact HB.out | apply below_alloc | apply pw_below_drewN | apply below_drew1) | exact HB.out))) : w.heap.size ≤ gb184)); clear HB; have HB := n0_; have BK184 := n1_; have GW184 := n2_; have GE184 := n3_; clear n0_ n1_ n2_ n3_; clear hb hbox hg; have hcz7_0 : w6.cell? ⟨gb184, 0, none⟩ = some (.slice A0_0 l0_0.length c0_0) := (blk_cell BK184.out 0).trans rfl; have hfz7_0 := blk_frozen BK184.out 0) | ((with_reducible refine gate_callee (f := 36) rfl ?_); refine goesL_ (some 6) rfl rfl Try.func36 (by kernel_rfl) rfl #[.agg #[.slice A0_0 l0_0.length c0_0]] rfl (by (try simp only [List.map_toArray, List.map_cons, List.map_nil]); first | done | rfl | (simp only [List.length_drop, List.length_take]; rfl)) ?_; (with_reducible refine (spec_grGood.calls k _ _ l0_0 true _ ?side1 ?side2 A3.out).mono ?_); (case side1 => repeat (first | exact (Kd.C_below HR0_0.out HB.out) | (with_reducible refine Kd.C_alloc ?_ _) | (with_reducible refine Kd.C_drewN ?_ _) | (with_reducible refine Kd.C_drew ?_))); (case side2 => exact HC0_0.out); rintro e w8 ⟨rfl, hb⟩; refine ⟨_, rfl, ?_⟩; have n0_ := Aside0.mk (blk_below (g := gb184) (o := .cells #[.slice A0_0 l0_0.length c0_0] 28 (0, 0)) (by (with_reducible repeat (first | refine blk_drewN ?_ _ | refine blk_drew ?_ | refine blk_alloc ?_ _)); exact BK184.out) hb); have n1_ := Aside0.mk (below_step (by repeat (first | (with_reducible first | exact HB.out | apply below_alloc | apply pw_below_drewN | apply below_drew1 | refine below_set ?_ GE184.out) | exact HB.out)) hb); clear BK184; clear HB; have BK184 := n0_; have HB := n1_; clear n0_ n1_; (try clear hb); (try clear hb2); (try clear hk); (try clear hi); have hcz9_0 : w8.cell? ⟨gb184, 0, none⟩ = some (.slice A0_0 l0_0.length c0_0) := (blk_cell BK184.out 0).trans rfl; have hfz9_0 := blk_frozen BK184.out 0) | (go_at_call 42; (with_reducible refine (spec_l1In.calls a1 0 (wrap64 ((l0_0.length : Int) - 1)) t186 _ A5.out).mono ?_); rintro e w' ⟨rfl, ⟨nd, rfl⟩⟩))
    go_ret
    exact ⟨by first | rfl | (simp [errW_none, errW_some] <;> rfl) | (simp [*, errW_none, errW_some] <;> rfl), by repeat (first | (with_reducible first | exact HB.out | apply below_alloc | apply pw_below_drewN | apply below_drew1 | refine below_set ?_ GE184.out) | exact HB.out)⟩
  · replace c4 := Bool.eq_false_iff.mpr c4
    subst c4
    have H1 : (some false) = some r := by rw [if_neg (show ¬ (false = true) by decide)] at H; exact H
    clear H
    have H := H1
    clear H1
    obtain rfl := Option.some.inj H
    go_enter Try.func25, Try.ntmps25
    go_wp2_with (first | ((with_reducible refine gate_dst (N := 2) rfl ?_); (try (refine gate_guard (by rfl) ?_; dsimp only)); refine box_event ?hg (N := 2) ?hd (cs := #[.slice A0_0 l0_0.length c0_0]) (t := 28) ?hr ?_; (case hd => rfl); (case hg => rfl); (case hr => first | (go_simp; done) | (go_simp; rfl)); intro gb184 hg w10 hbox hb; have n0_ := Aside0.mk (below_step (by repeat (first | (with_reducible first | exact HB.out | apply below_alloc | apply pw_below_drewN | apply below_drew1) | exact HB.out)) hb); have n1_ := Aside0.mk (hbox); have n2_ := Aside0.mk ((by rw [hg]; exact (below_size (by repeat (first | (with_reducible first | exact HB.out | apply below_alloc | apply pw_below_drewN | apply below_drew1) | exact HB.out))) : w.heap.size ≤ gb184)); have n3_ := Aside0.mk ((by rw [hg]; exact (below_size (by repeat (first | (with_reducible first | exact HB.out | apply below_alloc | apply pw_below_drewN | apply below_drew1) | exact HB.out))) : w.heap.size ≤ gb184)); clear HB; have HB := n0_; have BK184 := n1_; have GW184 := n2_; have GE184 := n3_; clear n0_ n1_ n2_ n3_; clear hb hbox hg; have hcz11_0 : w10.cell? ⟨gb184, 0, none⟩ = some (.slice A0_0 l0_0.length c0_0) := (blk_cell BK184.out 0).trans rfl; have hfz11_0 := blk_frozen BK184.out 0) | ((with_reducible refine gate_callee (f := 36) rfl ?_); refine goesL_ (some 6) rfl rfl Try.func36 (by kernel_rfl) rfl #[.agg #[.slice A0_0 l0_0.length c0_0]] rfl (by (try simp only [List.map_toArray, List.map_cons, List.map_nil]); first | done | rfl | (simp only [List.length_drop, List.length_take]; rfl)) ?_; (with_reducible refine (spec_grGood.calls k _ _ l0_0 false _ ?side1 ?side2 A3.out).mono ?_); (case side1 => repeat (first | exact (Kd.C_below HR0_0.out HB.out) | (with_reducible refine Kd.C_alloc ?_ _) | (with_reducible refine Kd.C_drewN ?_ _) | (with_reducible refine Kd.C_drew ?_))); (case side2 => exact HC0_0.out); rintro e w12 ⟨rfl, hb⟩; refine ⟨_, rfl, ?_⟩; have n0_ := Aside0.mk (blk_below (g := gb184) (o := .cells #[.slice A0_0 l0_0.length c0_0] 28 (0, 0)) (by (with_reducible repeat (first | refine blk_drewN ?_ _ | refine blk_drew ?_ | refine blk_alloc ?_ _)); exact BK184.out) hb); have n1_ := Aside0.mk (below_step (by repeat (first | (with_reducible first | exact HB.out | apply below_alloc | apply pw_below_drewN | apply below_drew1 | refine below_set ?_ GE184.out) | exact HB.out)) hb); clear BK184; clear HB; have BK184 := n0_; have HB := n1_; clear n0_ n1_; (try clear hb); (try clear hb2); (try clear hk); (try clear hi)))
    go_ret
    exact ⟨by first | rfl | (simp [errW_none, errW_some] <;> rfl) | (simp [*, errW_none, errW_some] <;> rfl), by repeat (first | (with_reducible first | exact HB.out | apply below_alloc | apply pw_below_drewN | apply below_drew1 | refine below_set ?_ GE184.out) | exact HB.out)⟩


/-! ### impl_has: function 30 -/
set_option maxHeartbeats 8000000 in
set_option maxRecDepth 100000 in
theorem has_1.calls (b : Nat) (A : Option Addr) (n c : Nat) (q : Int) (w : World) (hc : w.cell? ⟨b, 0, none⟩ = some (.slice A n c)) :
    Calls Try.prog 46 #[.int .i64 q, .pointer (some ⟨b, 0, none⟩)] w fun e w' => e = .returned (.bool (!decide (0 ≤ q) || !decide (q ≤ wrap64 ((n : Int) - 1)))) ∧ Below w.heap.size w w' := by
  have hu := Try.underlying28
  have hi : impl_in.f q 0 (wrap64 ((n : Int) - 1)) = some (decide (0 ≤ q) && decide (q ≤ wrap64 ((n : Int) - 1))) := by
    unfold impl_in.f; split
    · simp [*]
    · simp [*]
  have HI := Aside0.mk hi
  clear hi
  go_enter Try.func46, Try.ntmps46
  go_wp2_with (go_at_call 47; refine (impl_in.calls _ _ _ _ _ HI.out).mono ?_; rintro e w' ⟨rfl, ⟨nd, rfl⟩⟩)
  go_ret
  exact ⟨rfl, by repeat (first | exact Below.refl _ _ | apply below_alloc | apply pw_below_drewN | apply below_drew1)⟩
def impl_has.f (l0_0 : List (List Int)) (l1 : List Int) : Option Bool := some (goodG l0_0 && l1.all (fun q => decide (0 ≤ q) && decide (q ≤ (l0_0.length : Int) - 1)))
theorem has_any (n : Int) (l : List Int) : (l.all fun q => decide (0 ≤ q) && decide (q ≤ n - 1)) = !l.any (fun q => !decide (0 ≤ q) || !decide (q ≤ n - 1)) := by
  rw [List.all_eq_not_any_not]; simp only [Bool.not_and]
set_option maxHeartbeats 8000000 in
set_option maxRecDepth 100000 in
theorem impl_has.calls (A0_0 : Option Addr) (c0_0 : Nat) (l0_0 : List (List Int)) (A1 : Option Addr) (c1 : Nat) (l1 : List Int) (r : Bool) (w : World) (hr0_0 : Kd.C (Kd.slice 3 (Kd.int .i64)) w A0_0 l0_0.length l0_0) (hc0_0 : l0_0.length ≤ c0_0) (hr1 : Kd.C (Kd.int .i64) w A1 l1.length l1) (hc1 : l1.length ≤ c1) (h : impl_has.f l0_0 l1 = some r) :
    Calls Try.prog 30 #[.agg #[.slice A0_0 l0_0.length c0_0], .slice A1 l1.length c1] w fun e w' => e = .returned (.bool r) ∧ Below w.heap.size w w' := by
  have hu25 := Try.underlying28
  obtain rfl := Option.some.inj h
  clear h
  have hbig : l1.length ≤ 9223372036854775807 := hr1.2.1
  have HBIG := Aside0.mk hbig
  clear hbig
  have HR0_0 := Aside0.mk hr0_0
  have HC0_0 := Aside0.mk hc0_0
  have HR1 := Aside0.mk hr1
  have HC1 := Aside0.mk hc1
  clear hr0_0 hc0_0 hr1 hc1
  by_cases hg : goodG l0_0 = true
  · have HG := Aside0.mk hg
    have hlen : 1 ≤ l0_0.length ∧ l0_0.length ≤ 8 := by
      simp only [goodG, Bool.and_eq_true, decide_eq_true_eq] at hg; exact ⟨hg.1, hg.2.1⟩
    have HW := Aside0.mk (show wrap64 ((l0_0.length : Int) - 1) = (l0_0.length : Int) - 1 by unfold wrap64; omega)
    clear hg hlen
    have HA : Aside0 (goodG l0_0 && l1.all (fun q => decide (0 ≤ q) && decide (q ≤ (l0_0.length : Int) - 1))) = Aside0 (!l1.any (fun q => !decide (0 ≤ q) || !decide (q ≤ (l0_0.length : Int) - 1))) := by
      rw [HG.out, Bool.true_and, has_any]
    have hres : (goodG l0_0 && l1.all (fun q => decide (0 ≤ q) && decide (q ≤ (l0_0.length : Int) - 1))) = !l1.any (fun q => !decide (0 ≤ q) || !decide (q ≤ (l0_0.length : Int) - 1)) := by
      rw [HG.out, Bool.true_and, has_any]
    clear HA
    have HRES := Aside0.mk hres
    clear hres
    have hgr : impl_isGraph.f l0_0 = some true := by unfold impl_isGraph.f; rw [HG.out]
    have HGR := Aside0.mk hgr
    clear hgr
    go_enter Try.func30, Try.ntmps30
    go_wp2_with (fail)
    refine (impl_isGraph.calls A0_0 c0_0 l0_0 true _ (Kd.C_alloc HR0_0.out _) HC0_0.out HGR.out).mono ?_
    rintro e w1 ⟨rfl, hb1⟩
    have HB1 := Aside0.mk hb1
    clear hb1
    go_wp2_with (fail)
    refine (slices_ContainsFunc.calls (fun q => !decide (0 ≤ q) || !decide (q ≤ (l0_0.length : Int) - 1)) 46 _ (fun args w => rfl) A1 c1 l1 _ (Kd.C_below (Kd.C_alloc HR1.out _) HB1.out) HC1.out HBIG.out ?hp).mono ?_
    case hp =>
      intro V q hV
      have h0 := has_1.calls w.heap.size A0_0 l0_0.length c0_0 q V ((hV.cell (p := ⟨w.heap.size, 0, none⟩) (by have := HB1.out.size; simp at this; simp; omega)).trans ((HB1.out.cell (p := ⟨w.heap.size, 0, none⟩) (by simp)).trans (by simp)))
      rw [HW.out] at h0; exact h0
    rintro e w2 ⟨rfl, hb2⟩
    have HB2 := Aside0.mk hb2
    clear hb2
    go_wp2
    go_ret
    refine ⟨?_, ?_⟩
    · rw [HRES.out]; rfl
    · exact (below_alloc (Below.refl _ _) _).trans ((HB1.out.trans (HB2.out.mono HB1.out.size)).mono (by simp))
  · have hg' : goodG l0_0 = false := Bool.eq_false_iff.mpr hg
    have HG := Aside0.mk hg'
    clear hg hg'
    have hgr : impl_isGraph.f l0_0 = some false := by unfold impl_isGraph.f; rw [HG.out]
    have HGR := Aside0.mk hgr
    clear hgr
    go_enter Try.func30, Try.ntmps30
    go_wp2_with (fail)
    refine (impl_isGraph.calls A0_0 c0_0 l0_0 false _ (Kd.C_alloc HR0_0.out _) HC0_0.out HGR.out).mono ?_
    rintro e w1 ⟨rfl, hb1⟩
    have HB1 := Aside0.mk hb1
    clear hb1
    go_wp2
    go_ret
    refine ⟨?_, ?_⟩
    · rw [HG.out]; rfl
    · exact (below_alloc (Below.refl _ _) _).trans (HB1.out.mono (by simp))


end Go.Proofs.Ytokmlipjicigcaa.P
namespace Go.Proofs.Ytokmlipjicigcaa.M
open Go.RowKit Go.Proofs.Ytokmlipjicigcaa.P Go.Proofs.Ytokmlipjicigcaa.In Go.Proofs.YtokmlipjicigcaaW.PrintWords Go.Proofs.YtokmlipjicigcaaW.PrintLast
set_option linter.unusedVariables false
set_option linter.unusedSimpArgs false
theorem good_iff {l : List (List Int)} (h : goodG l = true) : (1 ≤ l.length ∧ l.length ≤ 8) ∧ ∀ row ∈ l, row.length ≤ 5 ∧ ∀ q ∈ row, 0 ≤ q ∧ q < (l.length : Int) := by
  simp only [goodG, goodRow, Bool.and_eq_true, decide_eq_true_eq, List.all_eq_true] at h
  refine ⟨⟨h.1, h.2.1⟩, fun row hr => ⟨(h.2.2 row hr).1, fun q hq => ?_⟩⟩
  have := (h.2.2 row hr).2 q hq
  omega
/-- A place of a graph. -/
def placeB (l : List (List Int)) (p : Int) : Bool := goodG l && (decide (0 ≤ p) && decide (p ≤ (l.length : Int) - 1))
theorem place_iff {l : List (List Int)} {p : Int} (h : placeB l p = true) : goodG l = true ∧ 0 ≤ p ∧ p < (l.length : Int) := by
  simp only [placeB, Bool.and_eq_true, decide_eq_true_eq] at h
  exact ⟨h.1, h.2.1, by omega⟩
theorem grPlace (l : List (List Int)) (p : Int) (hl : okSS l) : Ev (fun k => spec_grPlace.f k l p) (placeB l p) := by
  unfold spec_grPlace.f
  have hll := hl.1
  refine Ev.bind (grGood l hl) ?_
  by_cases h : goodG l = true
  · refine Ev.pos h ?_
    rw [l1In, wrap_id (by omega)]
    exact Ev.bind0 rfl ((Ev.now _).val (by simp [placeB, h]))
  · exact Ev.neg h ((Ev.now _).val (by simp only [Bool.not_eq_true] at h; simp [placeB, h]))
theorem has1 (l : List (List Int)) (p : Int) : impl_has.f l [p] = some (placeB l p) := by
  unfold impl_has.f placeB; simp
theorem has2 (l : List (List Int)) (p q : Int) : impl_has.f l [p, q] = some (placeB l p && placeB l q) := by
  unfold impl_has.f placeB
  cases goodG l <;> simp

theorem rd_get {l : List Int} {q : Int} (h0 : 0 ≤ q) (h1 : q < (l.length : Int)) : rd l q = l[q.toNat]'(by omega) := by
  unfold rd; rw [List.getD_eq_getElem?_getD, List.getElem?_eq_getElem (by omega)]; rfl
theorem rdL_get {l : List (List Int)} {q : Int} (h0 : 0 ≤ q) (h1 : q < (l.length : Int)) : rd_L1 l q = l[q.toNat]'(by omega) := by
  unfold rd_L1; rw [List.getD_eq_getElem?_getD, List.getElem?_eq_getElem (by omega)]; rfl
theorem rd_set {o : List Int} {q x v : Int} (hq0 : 0 ≤ q) (hq : q < (o.length : Int)) (hx0 : 0 ≤ x) : rd (o.set q.toNat v) x = if x = q then v else rd o x := by
  unfold rd
  rw [List.getD_eq_getElem?_getD, List.getElem?_set, List.getD_eq_getElem?_getD]
  by_cases e : x = q
  · subst e; rw [if_pos rfl, if_pos (by omega), if_pos rfl]; rfl
  · rw [if_neg (by omega), if_neg e]
theorem drop_rd {row : List Int} {i : Nat} (h : i < row.length) : row.drop i = rd row (i : Int) :: row.drop (i + 1) := by
  rw [List.drop_eq_getElem_cons h, rd_at h]
theorem place_of {g : List (List Int)} (hg : goodG g = true) {i : Nat} (hi : i < g.length) : placeB g (i : Int) = true := by
  unfold placeB; rw [hg]; simp; omega
def marks (a : Int) : Nat → List Int
  | 0 => []
  | n + 1 => a :: marks (a + 1) n
theorem marks_len (a : Int) (n : Nat) : (marks a n).length = n := by
  induction n generalizing a with
  | zero => rfl
  | succ n ih => simp [marks, ih]
theorem markIntS_l0 (n : Nat) (hn : n ≤ 4611686018427387904) : ∀ (d i : Nat) (x : List Int) (a : Int), x.length = n → n - i = d → i ≤ n → 0 ≤ a → a + d ≤ 4611686018427387904 → Ev (fun k => laws_markIntS.l0 k x a i) (a + d, x.take i ++ marks a d) := by
  intro d
  induction d with
  | zero =>
    intro i x a hx hd hi h0 h1
    refine Ev.succ ?_
    simp only [laws_markIntS.l0]
    refine Ev.neg (by omega) ((Ev.now _).val ?_)
    rw [List.take_of_length_le (by omega)]; simp [marks]
  | succ d ih =>
    intro i x a hx hd hi h0 h1
    refine Ev.succ ?_
    simp only [laws_markIntS.l0]
    refine Ev.pos (by omega) (Ev.pos (by omega) ?_)
    rw [wrap_id (x := a + 1) (by omega), wrap_nat (by omega), Int.toNat_natCast]
    refine (ih (i + 1) (x.set i a) (a + 1) (by rw [List.length_set]; exact hx) (by omega) (by omega) (by omega) (by omega)).val ?_
    rw [List.take_succ_eq_append_getElem (by rw [List.length_set]; omega), List.take_set_of_le (Nat.le_refl _), List.getElem_set_self]
    simp only [marks, List.append_assoc, List.singleton_append]
    congr 1; omega
theorem markIntS (x : List Int) (a : Int) (hn : x.length ≤ 4611686018427387904) (h0 : 0 ≤ a) (h1 : a + x.length ≤ 4611686018427387904) : Ev (fun k => laws_markIntS.f k x a) (a + x.length, marks a x.length) := by
  have := markIntS_l0 x.length hn x.length 0 x a rfl (by omega) (by omega) h0 h1
  unfold laws_markIntS.f
  simpa using this
theorem heldIntS_l0 (n : Nat) (hn : n ≤ 4611686018427387904) (y : List Int) (hy : y.length = n) : ∀ (d i : Nat) (a : Int), n - i = d → i ≤ n → 0 ≤ a → a + d ≤ 4611686018427387904 → y.drop i = marks a d → Ev (fun k => laws_heldIntS.l0 k y a i) (a + d) := by
  intro d
  induction d with
  | zero =>
    intro i a hd hi h0 h1 he
    refine Ev.succ ?_
    simp only [laws_heldIntS.l0]
    exact Ev.neg (by omega) ((Ev.now _).val (by simp))
  | succ d ih =>
    intro i a hd hi h0 h1 he
    have hlt : i < y.length := by omega
    rw [List.drop_eq_getElem_cons hlt] at he
    simp only [marks, List.cons.injEq] at he
    refine Ev.succ ?_
    simp only [laws_heldIntS.l0]
    refine Ev.pos (by omega) (Ev.pos (by omega) (Ev.pos (by rw [rd_at hlt]; exact he.1) ?_))
    rw [wrap_id (x := a + 1) (by omega), wrap_nat (by omega)]
    exact (ih (i + 1) (a + 1) (by omega) (by omega) (by omega) (by omega) he.2).val (by omega)
theorem heldIntS (a : Int) (n : Nat) (h0 : 0 ≤ a) (h1 : a + n ≤ 4611686018427387904) : Ev (fun k => laws_heldIntS.f k (marks a n) a) (a + n) :=
  heldIntS_l0 n (by omega) _ (marks_len a n) n 0 a (by omega) (by omega) h0 h1 (by simp)
theorem markR (r : List Int) (h : r.length ≤ 1048576) : ∃ q r', Ev (fun k => laws_markIntS.f k r 1) (q, r') ∧ 0 ≤ q ∧ Ev (fun k => laws_heldIntS.f k r' 1) q ∧ True :=
  ⟨_, _, markIntS r 1 (by omega) (by omega) (by omega), by omega, heldIntS 1 r.length (by omega) (by omega), trivial⟩
def markRows (a : Int) : List (List Int) → Int × List (List Int)
  | [] => (a, [])
  | row :: rest => ((markRows (a + row.length) rest).1, marks a row.length :: (markRows (a + row.length) rest).2)
theorem markIntSS_l0 (n : Nat) (hn : n ≤ 1048576) : ∀ (d i : Nat) (x : List (List Int)) (a : Int), x.length = n → (∀ row ∈ x.drop i, row.length ≤ 1048576) → n - i = d → i ≤ n → 0 ≤ a → a + 1048576 * d ≤ 4611686018427387904 → Ev (fun k => laws_markIntSS.l0 k x a i) ((markRows a (x.drop i)).1, x.take i ++ (markRows a (x.drop i)).2) ∧ a ≤ (markRows a (x.drop i)).1 ∧ (markRows a (x.drop i)).1 ≤ a + 1048576 * d := by
  intro d
  induction d with
  | zero =>
    intro i x a hx hr hd hi h0 h1
    rw [List.drop_of_length_le (by omega)]
    refine ⟨?_, by simp [markRows], by simp [markRows]⟩
    refine Ev.succ ?_
    simp only [laws_markIntSS.l0]
    refine Ev.neg (by omega) ((Ev.now _).val ?_)
    rw [List.take_of_length_le (by omega)]; simp [markRows]
  | succ d ih =>
    intro i x a hx hr hd hi h0 h1
    have hlt : i < x.length := by omega
    have hrow := hr x[i] (by rw [List.drop_eq_getElem_cons hlt]; exact List.mem_cons_self)
    have hdrop : (x.set i (marks a x[i].length)).drop (i + 1) = x.drop (i + 1) := List.drop_set_of_lt (by omega)
    obtain ⟨e1, e2, e3⟩ := ih (i + 1) (x.set i (marks a x[i].length)) (a + x[i].length) (by rw [List.length_set]; exact hx) (fun row hm => hr row (by rw [hdrop] at hm; rw [List.drop_eq_getElem_cons hlt]; exact List.mem_cons_of_mem _ hm)) (by omega) (by omega) (by omega) (by omega)
    rw [hdrop] at e1 e2 e3
    rw [List.drop_eq_getElem_cons hlt]
    simp only [markRows]
    refine ⟨?_, by omega, by omega⟩
    refine Ev.succ ?_
    simp only [laws_markIntSS.l0]
    refine Ev.pos (by omega) (Ev.pos (by omega) ?_)
    rw [rdL_at hlt]
    refine Ev.bind (markIntS x[i] a (by omega) h0 (by omega)) ?_
    rw [wrap_nat (by omega), Int.toNat_natCast]
    refine e1.val ?_
    rw [List.take_succ_eq_append_getElem (by rw [List.length_set]; omega), List.take_set_of_le (Nat.le_refl _), List.getElem_set_self]
    simp
theorem markIntSS (x : List (List Int)) (hx : small x) (a : Int) (h0 : 0 ≤ a) (h1 : a ≤ 1099511627776) : Ev (fun k => laws_markIntSS.f k x a) ((markRows a x).1, (markRows a x).2) ∧ a ≤ (markRows a x).1 ∧ (markRows a x).1 ≤ a + 1099511627776 := by
  have hl := hx.1
  obtain ⟨e1, e2, e3⟩ := markIntSS_l0 x.length hx.1 x.length 0 x a rfl (fun row hm => hx.2 row (by simpa using hm)) (by omega) (by omega) h0 (by omega)
  refine ⟨by unfold laws_markIntSS.f; simpa using e1, by simpa using e2, ?_⟩
  have : (markRows a x).1 ≤ a + 1048576 * x.length := by simpa using e3
  omega
theorem markG (x : List (List Int)) (hx : small x) : ∃ m x', Ev (fun k => laws_markGraph.f k x 1) (m, x') ∧ 0 ≤ m ∧ m ≤ 1099511627777 := by
  obtain ⟨e1, e2, e3⟩ := markIntSS x hx 1 (by omega) (by omega)
  exact ⟨_, _, e1, by omega, by omega⟩
theorem heldIntSS_l0 (n : Nat) (hn : n ≤ 1048576) (y : List (List Int)) (hy : y.length = n) : ∀ (d i : Nat) (x : List (List Int)) (a : Int), x.length = d → (∀ row ∈ x, row.length ≤ 1048576) → n - i = d → i ≤ n → 0 ≤ a → a + 1048576 * d ≤ 4611686018427387904 → y.drop i = (markRows a x).2 → Ev (fun k => laws_heldIntSS.l0 k y a i) (markRows a x).1 := by
  intro d
  induction d with
  | zero =>
    intro i x a hx hr hd hi h0 h1 he
    have : x = [] := List.length_eq_zero_iff.1 hx
    subst this
    refine Ev.succ ?_
    simp only [laws_heldIntSS.l0]
    exact Ev.neg (by omega) (Ev.now _)
  | succ d ih =>
    intro i x a hx hr hd hi h0 h1 he
    have hlt : i < y.length := by omega
    cases x with
    | nil => simp at hx
    | cons row rest =>
      rw [List.drop_eq_getElem_cons hlt] at he
      simp only [markRows, List.cons.injEq] at he
      have hrow := hr row List.mem_cons_self
      refine Ev.succ ?_
      simp only [laws_heldIntSS.l0]
      refine Ev.pos (by omega) (Ev.pos (by omega) ?_)
      rw [rdL_at hlt, he.1]
      refine Ev.bind (heldIntS a row.length h0 (by omega)) (Ev.neg (by omega) ?_)
      rw [wrap_nat (by omega)]
      exact ih (i + 1) rest (a + row.length) (by simpa using hx) (fun r hm => hr r (List.mem_cons_of_mem _ hm)) (by omega) (by omega) (by omega) (by omega) he.2
theorem markRows_len (a : Int) (x : List (List Int)) : (markRows a x).2.length = x.length := by
  induction x generalizing a with
  | nil => rfl
  | cons r x ih => simp [markRows, ih]
theorem heldIntSS (x : List (List Int)) (hx : small x) (a : Int) (h0 : 0 ≤ a) (h1 : a ≤ 1099511627776) : Ev (fun k => laws_heldIntSS.f k (markRows a x).2 a) (markRows a x).1 := by
  have hl := hx.1
  exact heldIntSS_l0 x.length hx.1 _ (markRows_len a x) x.length 0 x a rfl hx.2 (by omega) (by omega) h0 (by omega) (by simp)
theorem markRR (x : List (List Int)) (hx : small x) : ∃ q x', Ev (fun k => laws_markIntSS.f k x 1) (q, x') ∧ 0 ≤ q ∧ Ev (fun k => laws_heldIntSS.f k x' 1) q ∧ True := by
  obtain ⟨e1, e2, e3⟩ := markIntSS x hx 1 (by omega) (by omega)
  exact ⟨_, _, e1, by omega, heldIntSS x hx 1 (by omega) (by omega), trivial⟩
theorem markGG (x : List (List Int)) (hx : small x) : ∃ q x', Ev (fun k => laws_markGraph.f k x 1) (q, x') ∧ 0 ≤ q ∧ Ev (fun k => laws_heldGraph.f k x' 1) q ∧ True := by
  obtain ⟨e1, e2, e3⟩ := markIntSS x hx 1 (by omega) (by omega)
  refine ⟨_, _, e1, by omega, ?_, trivial⟩
  unfold laws_heldGraph.f
  exact Ev.bind (heldIntSS x hx 1 (by omega) (by omega)) (Ev.neg (by omega) (Ev.now _))
theorem cmpLess (a b : Int) : cmp_Less_int.f a b = some (decide (a < b)) := by
  unfold cmp_Less_int.f cmp_isNaN_int.f
  simp
theorem swap_adj : ∀ (x : List Int) (j : Nat) (h : j + 1 < x.length), ((x.set (j + 1) x[j]).set j x[j + 1]).Perm x
  | [], j, h => by simp at h
  | [a], 0, h => by simp at h
  | a :: b :: t, 0, h => by simpa using List.Perm.swap a b t
  | a :: t, j + 1, h => by
    have h' : j + 1 < t.length := by simpa using h
    have := swap_adj t j h'
    simpa using this
/-- Sorted up to i. -/
def SortedTo (x : List Int) (i : Nat) : Prop := ∀ a b : Nat, a < b → b < i → rd x (a : Int) ≤ rd x (b : Int)
theorem wrap_pred {j : Nat} (h : j < 9223372036854775807) : wrap64 (((j + 1 : Nat) : Int) - 1) = (j : Int) := by unfold wrap64; omega
def swp (x : List Int) (j : Nat) : List Int := (x.set (j + 1) (rd x (j : Int))).set j (rd x ((j + 1 : Nat) : Int))
theorem swp_len (x : List Int) (j : Nat) : (swp x j).length = x.length := by simp [swp]
theorem swp_perm (x : List Int) (j : Nat) (h : j + 1 < x.length) : (swp x j).Perm x := by
  unfold swp
  rw [rd_at (by omega), rd_at h]
  exact swap_adj x j h
theorem swp_rd (x : List Int) (j : Nat) (h : j + 1 < x.length) (b : Nat) : rd (swp x j) (b : Int) = if b = j then rd x ((j + 1 : Nat) : Int) else if b = j + 1 then rd x (j : Int) else rd x (b : Int) := by
  unfold swp
  have e1 := rd_set (o := x.set (j + 1) (rd x (j : Int))) (q := (j : Int)) (x := (b : Int)) (v := rd x ((j + 1 : Nat) : Int)) (by omega) (by simp; omega) (by omega)
  have e2 := rd_set (o := x) (q := ((j + 1 : Nat) : Int)) (x := (b : Int)) (v := rd x (j : Int)) (by omega) (by omega) (by omega)
  rw [Int.toNat_natCast] at e1 e2
  rw [e1, e2]
  by_cases h1 : b = j
  · simp [h1]
  · by_cases h2 : b = j + 1
    · subst h2; rw [if_neg (by omega), if_pos rfl, if_neg (by omega), if_pos rfl]
    · have h3 : ¬ (b : Int) = (j : Int) := by omega
      have h4 : ¬ (b : Int) = ((j + 1 : Nat) : Int) := by omega
      rw [if_neg h3, if_neg h4, if_neg h1, if_neg h2]
def Sorts (l s : List Int) : Prop := s.Perm l ∧ SortedTo s s.length
theorem ins_l1 {n : Nat} (hn : n ≤ 12) (l : List Int) (i : Nat) (hi : i < n)
    (hnext : ∀ x, x.length = n → x.Perm l → SortedTo x (i + 1) → ∃ s, Ev (fun k => slices_insertionSortOrdered_int.l0 k x 0 n (i + 1 : Nat)) s ∧ Sorts l s) :
    ∀ (j : Nat) (x : List Int), j ≤ i → x.length = n → x.Perm l → (∀ a b : Nat, a < b → b ≤ i → b ≠ j → rd x (a : Int) ≤ rd x (b : Int)) →
    ∃ s, Ev (fun k => slices_insertionSortOrdered_int.l1 k x 0 n i j) s ∧ Sorts l s := by
  intro j
  induction j with
  | zero =>
    intro x hj hl hp hs
    obtain ⟨s, e, g⟩ := hnext x hl hp (fun a b h1 h2 => hs a b h1 (by omega) (by omega))
    refine ⟨s, Ev.succ ?_, g⟩
    simp only [slices_insertionSortOrdered_int.l1]
    refine Ev.neg (by omega) ?_
    rw [wrap_nat (by omega)]; exact e
  | succ j ih =>
    intro x hj hl hp hs
    have hw : wrap64 (((j + 1 : Nat) : Int) - 1) = (j : Int) := wrap_pred (by omega)
    by_cases hlt : rd x ((j + 1 : Nat) : Int) < rd x (j : Int)
    · have hr := swp_rd x j (by omega)
      obtain ⟨s, e, g⟩ := ih (swp x j) (by omega) (by rw [swp_len]; exact hl) ((swp_perm x j (by omega)).trans hp) (by
        intro a b h1 h2 h3
        rw [hr a, hr b, if_neg h3]
        by_cases hb : b = j + 1
        · subst hb
          rw [if_pos rfl]
          by_cases ha : a = j
          · subst ha; rw [if_pos rfl]; omega
          · rw [if_neg ha, if_neg (by omega)]; exact hs a j (by omega) (by omega) (by omega)
        · rw [if_neg hb]
          by_cases ha : a = j
          · subst ha; rw [if_pos rfl]; exact hs (a + 1) b (by omega) h2 hb
          · rw [if_neg ha]
            by_cases ha2 : a = j + 1
            · subst ha2; rw [if_pos rfl]; exact hs j b (by omega) h2 hb
            · rw [if_neg ha2]; exact hs a b h1 h2 hb)
      refine ⟨s, Ev.succ ?_, g⟩
      simp only [slices_insertionSortOrdered_int.l1]
      rw [hw]
      refine Ev.pos (by omega) (Ev.pos (by omega) (Ev.pos (by omega) (Ev.pos (by omega) (Ev.pos (by omega) (Ev.bind0 (cmpLess _ _) (Ev.pos (decide_eq_true hlt) ?_))))))
      rw [Int.toNat_natCast, Int.toNat_natCast]; exact e
    · obtain ⟨s, e, g⟩ := hnext x hl hp (by
        intro a b h1 h2
        by_cases hb : b = j + 1
        · subst hb
          by_cases ha : a = j
          · subst ha; omega
          · have := hs a j (by omega) (by omega) (by omega); omega
        · exact hs a b h1 (by omega) hb)
      refine ⟨s, Ev.succ ?_, g⟩
      simp only [slices_insertionSortOrdered_int.l1]
      rw [hw]
      refine Ev.pos (by omega) (Ev.pos (by omega) (Ev.pos (by omega) (Ev.pos (by omega) (Ev.pos (by omega) (Ev.bind0 (cmpLess _ _) (Ev.neg (by simpa using hlt) ?_))))))
      rw [wrap_nat (by omega)]; exact e
theorem ins_l0 {n : Nat} (hn : n ≤ 12) (l : List Int) : ∀ (d i : Nat) (x : List Int), n - i = d → i ≤ n → x.length = n → x.Perm l → SortedTo x i →
    ∃ s, Ev (fun k => slices_insertionSortOrdered_int.l0 k x 0 n i) s ∧ Sorts l s := by
  intro d
  induction d with
  | zero =>
    intro i x hd hi hl hp hs
    obtain rfl : i = n := by omega
    refine ⟨x, Ev.succ ?_, hp, by rw [hl]; exact hs⟩
    simp only [slices_insertionSortOrdered_int.l0]
    exact Ev.neg (by omega) (Ev.now _)
  | succ d ih =>
    intro i x hd hi hl hp hs
    obtain ⟨s, e, g⟩ := ins_l1 hn l i (by omega) (fun y h1 h2 h3 => ih (i + 1) y (by omega) (by omega) h1 h2 h3) i x (Nat.le_refl i) hl hp (fun a b h1 h2 h3 => hs a b h1 (by omega))
    refine ⟨s, Ev.succ ?_, g⟩
    simp only [slices_insertionSortOrdered_int.l0]
    exact Ev.pos (by omega) e
theorem ins_ev (l : List Int) (h0 : 0 < l.length) (hn : l.length ≤ 12) : ∃ s, Ev (fun k => slices_insertionSortOrdered_int.f k l 0 l.length) s ∧ Sorts l s := by
  unfold slices_insertionSortOrdered_int.f
  have h1 : wrap64 (0 + 1) = ((1 : Nat) : Int) := by unfold wrap64; omega
  rw [h1]
  exact ins_l0 hn l (l.length - 1) 1 l rfl (by omega) rfl (List.Perm.refl _) (fun a b h1 h2 => by omega)
/-! lists of all places -/
def Places (n : Nat) (l : List Int) : Prop := l.length = n ∧ (∀ x ∈ l, 0 ≤ x ∧ x < (n : Int)) ∧ l.Nodup
theorem Places.perm {n : Nat} {l s : List Int} (h : Places n l) (p : s.Perm l) : Places n s := ⟨p.length_eq.trans h.1, fun x hx => h.2.1 x (p.mem_iff.1 hx), p.nodup_iff.2 h.2.2⟩
theorem isRun_iff (s : List Int) : isRun s = true ↔ ∀ j : Nat, j < s.length → (j : Int) = rd s (j : Int) := by
  unfold isRun; simp
theorem run_places {s : List Int} (h : isRun s = true) : Places s.length s := by
  rw [isRun_iff] at h
  refine ⟨rfl, fun x hx => ?_, ?_⟩
  · obtain ⟨j, hj, rfl⟩ := List.mem_iff_getElem.1 hx
    have := h j hj; rw [rd_at hj] at this; omega
  · unfold List.Nodup
    rw [List.pairwise_iff_getElem]
    intro i j hi hj hij
    have h1 := h i hi; have h2 := h j hj
    rw [rd_at hi] at h1; rw [rd_at hj] at h2; omega
theorem places_run {s : List Int} (h : Places s.length s) (hs : SortedTo s s.length) : isRun s = true := by
  have hst : ∀ a b : Nat, a < b → b < s.length → rd s (a : Int) < rd s (b : Int) := by
    intro a b h1 h2
    have h3 := hs a b h1 h2
    have h4 := h.2.2
    unfold List.Nodup at h4
    rw [List.pairwise_iff_getElem] at h4
    have h5 := h4 a b (by omega) h2 h1
    rw [rd_at (by omega), rd_at h2] at h3 ⊢; omega
  have hb : ∀ j : Nat, j < s.length → 0 ≤ rd s (j : Int) ∧ rd s (j : Int) < (s.length : Int) := fun j hj => by
    rw [rd_at hj]; exact h.2.1 _ (List.getElem_mem _)
  have lo : ∀ j : Nat, j < s.length → (j : Int) ≤ rd s (j : Int) := by
    intro j
    induction j with
    | zero => intro hj; have := (hb 0 hj).1; omega
    | succ j ih => intro hj; have := ih (by omega); have := hst j (j + 1) (by omega) hj; omega
  have hi : ∀ k j : Nat, j < s.length → s.length - 1 - j = k → rd s (j : Int) ≤ (j : Int) := by
    intro k
    induction k with
    | zero => intro j hj hk; have := (hb j hj).2; omega
    | succ k ih => intro j hj hk; have := ih (j + 1) (by omega) (by omega); have := hst j (j + 1) (by omega) (by omega); omega
  rw [isRun_iff]
  intro j hj
  have := lo j hj; have := hi _ j hj rfl; omega
theorem sorts_iff {l s : List Int} (h : Sorts l s) : isRun s = true ↔ Places l.length l := by
  have hl := h.1.length_eq
  constructor
  · intro hr
    have := (run_places hr).perm h.1.symm
    rwa [hl] at this
  · intro hp
    refine places_run ?_ h.2
    have := hp.perm h.1
    rwa [← hl] at this
open Classical in
theorem areNames_ev {g : List (List Int)} (h0 : 1 ≤ g.length) (h8 : g.length ≤ 8) (l : List Int) : Ev (fun k => impl_areNames.f k g l) (decide (Places g.length l)) := by
  unfold impl_areNames.f
  by_cases hl : l.length = g.length
  · obtain ⟨s, e, hs⟩ := ins_ev l (by omega) (by omega)
    refine Ev.pos hl (Ev.pos ⟨by omega, by omega⟩ (Ev.bind e ?_))
    have : isRun s = decide (Places g.length l) := by
      rw [Bool.eq_iff_iff, sorts_iff hs, decide_eq_true_iff, hl]
    rw [this]
    exact Ev.now _
  · refine Ev.neg hl ?_
    rw [decide_eq_false (fun h => hl h.1)]
    exact Ev.now _
theorem l1Has_l0n (l : List Int) (x : Int) (hl : l.length ≤ 4611686018427387904) : ∀ (d i : Nat), l.length - i = d → i ≤ l.length → Ev (fun k => spec_l1Has.l0 k x l l.length i) (decide (x ∈ l.drop i)) := by
  intro d
  induction d with
  | zero =>
    intro i hd hi
    have : l.drop i = [] := List.drop_eq_nil_of_le (by omega)
    rw [this]
    refine Ev.succ ?_
    simp only [spec_l1Has.l0]
    exact Ev.neg (by omega) (Ev.now _)
  | succ d ih =>
    intro i hd hi
    have hlt : i < l.length := by omega
    refine Ev.succ ?_
    simp only [spec_l1Has.l0]
    refine Ev.pos (by omega) (Ev.pos (by omega) (Ev.pos (by omega) ?_))
    rw [rd_at hlt]
    rw [List.drop_eq_getElem_cons hlt]
    by_cases he : l[i] = x
    · refine Ev.pos he ?_
      rw [decide_eq_true (by rw [he]; exact List.mem_cons_self)]
      exact Ev.now _
    · refine Ev.neg he ?_
      rw [wrap_nat (by omega)]
      refine (ih (i + 1) (by omega) (by omega)).val ?_
      rw [Bool.eq_iff_iff, decide_eq_true_iff, decide_eq_true_iff, List.mem_cons]
      constructor
      · exact Or.inr
      · rintro (h | h)
        · exact absurd h.symm he
        · exact h
theorem l1Has_n (l : List Int) (x : Int) (hl : l.length ≤ 4611686018427387904) : Ev (fun k => spec_l1Has.f k l x) (decide (x ∈ l)) := by
  unfold spec_l1Has.f
  exact l1Has_l0n l x hl l.length 0 (by omega) (by omega)
open Classical in
theorem names_l0 (l : List Int) (hl : l.length ≤ 8) : ∀ (d i : Nat), l.length - i = d → i ≤ l.length → (l.take i).Nodup → Ev (fun k => spec_grNames.l0 k l l l.length i) (decide l.Nodup) := by
  intro d
  induction d with
  | zero =>
    intro i hd hi hn
    obtain rfl : i = l.length := by omega
    rw [List.take_length] at hn
    rw [decide_eq_true hn]
    refine Ev.succ ?_
    simp only [spec_grNames.l0]
    exact Ev.neg (by omega) (Ev.now _)
  | succ d ih =>
    intro i hd hi hn
    have hlt : i < l.length := by omega
    refine Ev.succ ?_
    simp only [spec_grNames.l0]
    refine Ev.pos (by omega) (Ev.pos (by omega) (Ev.pos (by omega) (Ev.pos (by omega) ?_)))
    rw [Int.toNat_natCast, rd_at hlt]
    refine Ev.bind (l1Has_n _ _ (by simp; omega)) ?_
    have htk : l.take (i + 1) = l.take i ++ [l[i]] := List.take_succ_eq_append_getElem hlt
    by_cases hm : l[i] ∈ l.take i
    · refine Ev.pos (decide_eq_true hm) ?_
      rw [decide_eq_false]
      · exact Ev.now _
      · intro hnd
        have h1 : (l.take (i + 1)).Nodup := List.Nodup.sublist (List.take_sublist _ _) hnd
        rw [htk] at h1
        have := (List.nodup_append.1 h1).2.2 _ hm _ (List.mem_singleton.2 rfl)
        exact this rfl
    · refine Ev.neg (by simpa using hm) ?_
      rw [wrap_nat (by omega)]
      refine ih (i + 1) (by omega) (by omega) ?_
      rw [htk, List.nodup_append]
      refine ⟨hn, List.nodup_cons.2 ⟨by simp, List.nodup_nil⟩, ?_⟩
      intro a ha b hb
      rw [List.mem_singleton] at hb
      subst hb
      exact fun h => hm (h ▸ ha)
open Classical in
theorem grNames_ev {n : Nat} (h0 : 1 ≤ n) (h8 : n ≤ 8) (l : List Int) (hb : l.length ≤ 9223372036854775807) : Ev (fun k => spec_grNames.f k l (n : Int)) (decide (Places n l)) := by
  unfold spec_grNames.f
  by_cases hl : l.length = n
  · refine Ev.pos (by omega) (Ev.bind (l1All l 0 _ hb) ?_)
    have hw : wrap64 ((n : Int) - 1) = (n : Int) - 1 := by unfold wrap64; omega
    rw [hw]
    by_cases ha : (l.all fun x => decide (0 ≤ x) && decide (x ≤ (n : Int) - 1)) = true
    · rw [ha]
      refine Ev.succ ?_
      simp only [spec_grNames.j0]
      refine Ev.neg (by simp) ((names_l0 l (by omega) l.length 0 (by omega) (by omega) (by simp)).val ?_)
      rw [Bool.eq_iff_iff, decide_eq_true_iff, decide_eq_true_iff]
      refine ⟨fun h => ⟨hl, fun x hx => ?_, h⟩, fun h => h.2.2⟩
      have := (List.all_eq_true.1 ha) x hx
      simp only [Bool.and_eq_true, decide_eq_true_eq] at this
      omega
    · rw [Bool.eq_false_iff.mpr ha]
      refine Ev.succ ?_
      simp only [spec_grNames.j0]
      refine Ev.pos (by simp) ?_
      rw [decide_eq_false]
      · exact Ev.now _
      · intro h
        apply ha
        rw [List.all_eq_true]
        intro x hx
        have := h.2.1 x hx
        simp only [Bool.and_eq_true, decide_eq_true_eq]
        omega
  · refine Ev.neg (by omega) ?_
    rw [decide_eq_false (fun h => hl h.1)]
    refine Ev.succ ?_
    simp only [spec_grNames.j0]
    exact Ev.pos (by simp) (Ev.now _)
end Go.Proofs.Ytokmlipjicigcaa.M
namespace Go.Proofs.Ytokmlipjicigcaa.Pure
open Go.RowKit Go.Proofs.Ytokmlipjicigcaa.P Go.Proofs.Ytokmlipjicigcaa.In Go.Proofs.Ytokmlipjicigcaa.M Go.Proofs.YtokmlipjicigcaaW.PrintWords Go.Proofs.YtokmlipjicigcaaW.PrintLast
set_option linter.unusedVariables false
set_option linter.unusedSimpArgs false
/-- What is built so far: as many rows as places, of places, none longer than what has been put. -/
structure Built (n c : Nat) (o : List (List Int)) : Prop where
  len : o.length = n
  rows : ∀ row ∈ o, row.length ≤ c
def RAlike (g : List (List Int)) (nm : List Int) (o : List (List Int)) (p : Nat) : Prop :=
  ∃ r : List (List Int), Ev (fun k => impl_RenamePlaces.l0 k nm g g.length p o) (r, true) ∧ Ev (fun k => spec_grRename.l0 k nm g g.length p o) r ∧ small r
theorem Built.put {n c : Nat} {o : List (List Int)} (h : Built n c o) {q p : Int} (h0 : 0 ≤ q) (h1 : q < (n : Int)) : (rd_L1 o q).length ≤ c ∧ Built n (c + 1) (o.set q.toNat (rd_L1 o q ++ [p])) := by
  have hl := h.len
  have hrow := h.rows (rd_L1 o q) (by rw [rdL_get h0 (by omega)]; exact List.getElem_mem _)
  refine ⟨hrow, by simp; exact hl, fun row hr => ?_⟩
  rcases List.mem_or_eq_of_mem_set hr with h2 | h2
  · have := h.rows row h2; omega
  · subst h2; simp; omega
theorem ren_l1 {g : List (List Int)} (hg : goodG g = true) {nm : List Int} (hnm : Places g.length nm) {p : Nat} (hp : p < g.length) (row : List Int) (hr : ∀ q ∈ row, 0 ≤ q ∧ q < (g.length : Int)) (h5 : row.length ≤ 5) (c0 : Nat) (hc0 : c0 ≤ 100)
    (hnext : ∀ o, Built g.length (c0 + row.length) o → RAlike g nm o (p + 1)) :
    ∀ (d i : Nat) (o : List (List Int)), row.length - i = d → i ≤ row.length → Built g.length (c0 + i) o →
    ∃ r : List (List Int), Ev (fun k => impl_RenamePlaces.l1 k nm p g g.length p row row.length i o) (r, true) ∧ Ev (fun k => spec_grRename.l1 k nm p g g.length p row row.length i o) r ∧ small r := by
  have h8 := (good_iff hg).1.2
  have hnl := hnm.1
  intro d
  induction d with
  | zero =>
    intro i o hd hi hb
    have : i = row.length := by omega
    subst this
    obtain ⟨r, r1, r2, r3⟩ := hnext o hb
    refine ⟨r, ?_, ?_, r3⟩
    · refine Ev.succ ?_
      simp only [impl_RenamePlaces.l1]
      refine Ev.neg (by omega) ?_
      rw [wrap_nat (by omega)]; exact r1
    · refine Ev.succ ?_
      simp only [spec_grRename.l1]
      refine Ev.neg (by omega) ?_
      rw [wrap_nat (by omega)]; exact r2
  | succ d ih =>
    intro i o hd hi hb
    have hlt : i < row.length := by omega
    have hq := hr (rd row i) (by rw [rd_at hlt]; exact List.getElem_mem _)
    have hnp := hnm.2.1 (rd nm p) (by rw [rd_at (by omega)]; exact List.getElem_mem _)
    have hol := hb.len
    obtain ⟨hle, hb2⟩ := hb.put hnp.1 hnp.2 (p := rd nm (rd row i))
    obtain ⟨r, r1, r2, r3⟩ := ih (i + 1) _ (by omega) (by omega) hb2
    refine ⟨r, ?_, ?_, r3⟩
    · refine Ev.succ ?_
      simp only [impl_RenamePlaces.l1]
      refine Ev.pos (by omega) (Ev.pos (by omega) (Ev.pos (by omega) (Ev.pos (by omega) (Ev.pos (by omega) (Ev.pos hnp.1 (Ev.pos (by omega) (Ev.pos hq.1 (Ev.pos (by omega) (Ev.pos (by omega) ?_)))))))))
      rw [wrap_nat (by omega)]; exact r1
    · refine Ev.succ ?_
      simp only [spec_grRename.l1]
      refine Ev.pos (by omega) (Ev.pos (by omega) (Ev.pos (by omega) (Ev.pos (by omega) (Ev.pos (by omega) (Ev.pos hnp.1 (Ev.pos (by omega) (Ev.pos hq.1 (Ev.pos (by omega) (Ev.pos (by omega) ?_)))))))))
      rw [wrap_nat (by omega)]; exact r2
theorem ren_l0 {g : List (List Int)} (hg : goodG g = true) {nm : List Int} (hnm : Places g.length nm) : ∀ (d p : Nat) (o : List (List Int)), g.length - p = d → p ≤ g.length → Built g.length (5 * p) o → RAlike g nm o p := by
  have h8 := (good_iff hg).1.2
  intro d
  induction d with
  | zero =>
    intro p o hd hp hb
    refine ⟨o, ?_, ?_, ⟨by have := hb.len; omega, fun row hr => by have := hb.rows row hr; omega⟩⟩
    · refine Ev.succ ?_
      simp only [impl_RenamePlaces.l0]
      exact Ev.neg (by omega) (Ev.now _)
    · refine Ev.succ ?_
      simp only [spec_grRename.l0]
      exact Ev.neg (by omega) (Ev.now _)
  | succ d ih =>
    intro p o hd hp hb
    have hrow := (good_iff hg).2 (rd_L1 g p) (by rw [rdL_at (by omega)]; exact List.getElem_mem _)
    obtain ⟨r, r1, r2, r3⟩ := ren_l1 hg hnm (p := p) (by omega) (rd_L1 g p) hrow.2 hrow.1 (5 * p) (by omega)
      (fun o' hb' => ih (p + 1) o' (by omega) (by omega) ⟨hb'.len, fun row hr => by have := hb'.rows row hr; omega⟩)
      (rd_L1 g p).length 0 o (by omega) (by omega) hb
    refine ⟨r, ?_, ?_, r3⟩
    · refine Ev.succ ?_
      simp only [impl_RenamePlaces.l0]
      exact Ev.pos (by omega) (Ev.pos (by omega) (Ev.pos (by omega) r1))
    · refine Ev.succ ?_
      simp only [spec_grRename.l0]
      exact Ev.pos (by omega) (Ev.pos (by omega) (Ev.pos (by omega) r2))
open Classical in
theorem ren_both (g : List (List Int)) (hl : okSS g) (nm : List Int) (hb : nm.length ≤ 1048576) :
    ∃ (v : List (List Int)) (b : Bool), Ev (fun k => spec_RenamePlaces.f k g nm) (v, b) ∧ Ev (fun k => impl_RenamePlaces.f k g nm) (v, b) ∧ small v := by
  have out : ∀ k : Nat, impl_RenamePlaces.j0 (k + 1) nm true g = some ([], false) := fun k => by simp only [impl_RenamePlaces.j0]; rw [if_pos trivial]
  by_cases hg : goodG g = true
  · have h8 := (good_iff hg).1
    have hS := grNames_ev h8.1 h8.2 nm (by omega)
    have hI := areNames_ev h8.1 h8.2 nm
    by_cases hn : Places g.length nm
    · obtain ⟨r, r1, r2, r3⟩ := ren_l0 hg hn g.length 0 (List.replicate g.length []) (by omega) (by omega) ⟨by simp, fun row hr => by rw [(List.mem_replicate.1 hr).2]; simp⟩
      refine ⟨r, true, ?_, ?_, r3⟩
      · unfold spec_RenamePlaces.f
        refine Ev.bind (grGood g hl) (Ev.pos hg (Ev.bind hS (Ev.pos (decide_eq_true hn) (Ev.bind (a := r) ?_ (Ev.now _)))))
        unfold spec_grRename.f
        refine Ev.pos (by omega) (Ev.pos (by omega) ?_)
        rw [Int.toNat_natCast]; exact r2
      · unfold impl_RenamePlaces.f
        refine Ev.bind0 (show impl_isGraph.f g = some (goodG g) from rfl) (Ev.pos hg (Ev.bind hI ?_))
        refine Ev.succ ?_
        simp only [impl_RenamePlaces.j0]
        refine Ev.neg (by simp [hn]) (Ev.pos (by omega) (Ev.pos (by omega) ?_))
        rw [Int.toNat_natCast]; exact r1
    · refine ⟨[], false, ?_, ?_, ⟨by simp, by simp⟩⟩
      · unfold spec_RenamePlaces.f
        exact Ev.bind (grGood g hl) (Ev.pos hg (Ev.bind hS (Ev.neg (by simp [hn]) (Ev.now _))))
      · unfold impl_RenamePlaces.f
        refine Ev.bind0 (show impl_isGraph.f g = some (goodG g) from rfl) (Ev.pos hg (Ev.bind hI ?_))
        rw [decide_eq_false hn]
        exact Ev.const1 out
  · refine ⟨[], false, ?_, ?_, ⟨by simp, by simp⟩⟩
    · unfold spec_RenamePlaces.f
      exact Ev.bind (grGood g hl) (Ev.neg hg (Ev.now _))
    · unfold impl_RenamePlaces.f
      exact Ev.bind0 (show impl_isGraph.f g = some (goodG g) from rfl) (Ev.neg hg (Ev.const1 out))
theorem FnExactRenamePlaces (l : List (List Int)) (hl : okSS l) (nm : List Int) (hnm : okIs nm) : laws_FnExactRenamePlaces.f l nm = some true := by
  unfold laws_FnExactRenamePlaces.f
  rw [if_pos]
  unfold laws_FnExactRenamePlaces.Good
  intro hb
  obtain ⟨r, hr, _, hs⟩ := szGraph l hl
  refine ⟨r, hr, fun h => ?_⟩
  have sm := hs h
  obtain ⟨v, b, hS, hI, hv⟩ := ren_both l hl nm (by omega)
  obtain ⟨m, l', hm, hm0, hm1⟩ := markG l sm
  refine ⟨toGraph l sm, toIntS nm (by omega), v, b, hS, hI, small_eq v hv, small_eq l sm, (eqIntS nm nm (by omega)).val (decide_eq_true rfl), m, l', hm, hm0, ?_⟩
  exact ⟨m + nm.length, marks m nm.length, markIntS nm m (by omega) hm0 (by omega), by omega, markGG v hv⟩
end Go.Proofs.Ytokmlipjicigcaa.Pure
namespace Go.Proofs.Ytokmlipjicigcaa.fnExactRenamePlaces
open Go.ChangeShapes Go.WideShapes Go.ChangeAt Go.RowKit
open Go.ChangeMaps (open_string shut_string)
open Go.Proofs.Ytokmlipjicigcaa.In Go.Proofs.Ytokmlipjicigcaa.P
set_option linter.unusedVariables false
theorem own : ownKnob Try.prog.godebug = none := by kernel_rfl
theorem laidOut : laidOutB Try.prog = true := by kernel_rfl
set_option maxRecDepth 100000 in
theorem lifted (os : Os) (started : os.Started) (H : Type) (enc : TypeId × Value → H) :
    ReturnsInHanded {} Try.checked os 5 .any (Rows.fnExactRenamePlacesSpec.pre6 enc Try.prog Try.f5 Rows.fnExactRenamePlacesRow.domain false) (Rows.fnExactRenamePlacesSpec.post enc Try.prog Try.f5 false true false false) := by
  refine returnsInHanded_of_change_sized (C := Try.checked) own started (by kernel_rfl) Try.func5
    (ChangeSpec.witness6 (enc := enc) (C := Try.checked) false ⟨#[], #[.agg #[.slice none 0 0], .slice none 0 0], []⟩ 8 (by kernel_rfl) (by kernel_rfl) (by kernel_rfl) (by kernel_rfl)) ?_
  intro W base args ds gs before hval0 hW hcnd hsz0 _
  have hsz : (DataW.weightsEach Try.prog (Try.f5.params.toList ++ Rows.fnExactRenamePlacesSpec.plain.varTypes Try.prog) (ds ++ gs)).all (· ≤ reachBytes) = true := hsz0
  have hval : ∀ (j : Nat) t v, Try.f5.params[j]? = some t → args[j]? = some v → Value.okWide Try.prog W .any base t v := hval0
  have hW' := hW
  obtain ⟨p, q, hA0, hV, rfl, hfz, hnd⟩ := hW
  have hA : DataW.TrodAll enc Try.prog W 0 (fun _ => true) true Try.f5.params.toList args.toList ds p := hA0
  rw [Try.params5] at hA hval hsz
  obtain ⟨v0, vs0, d0, ds0, p0, q0, hargs, rfl, rfl, h0, r0⟩ := trodAll_cons hA
  obtain ⟨v1, vs1, d1, ds1, p1, q1, rfl, rfl, rfl, h1, r1⟩ := trodAll_cons r0
  obtain ⟨rfl, rfl, rfl⟩ := trodAll_nil r1
  obtain rfl : args = #[v0, v1] := by cases args; simp_all
  obtain ⟨rfl, rfl⟩ := trodVars_none hV
  have k0 := h0
  have lt0 : ∀ x ∈ p0, x.block < W.heap.size := by obtain ⟨m, hm⟩ := k0; exact DataW.trod_lt m _ _ _ hm
  obtain ⟨A0, l0, cap0, rfl, hl0, hc0, hw0⟩ := in_graph (q := 3) Try.underlying24 (by kernel_rfl) (by kernel_rfl) rfl Try.underlying22 Try.underlying35 Try.underlying3 (by kernel_rfl) (by kernel_rfl) (hval 0 24 v0 rfl rfl) h0
  have k1 := h1
  have lt1 : ∀ x ∈ p1, x.block < W.heap.size := by obtain ⟨m, hm⟩ := k1; exact DataW.trod_lt m _ _ _ hm
  obtain ⟨A1, l1, cap1, rfl, hl1, hc1, hw1⟩ := in_slice (q := 3) Try.underlying35 Try.underlying3 (by kernel_rfl) (hval 1 35 v1 rfl rfl) h1
  clear hA0 hval0 hsz0 hsz
  have h := Pure.FnExactRenamePlaces l0 (okSS_wf hc0 hw0) l1 (okIs_wf hw1)
  refine (laws_FnExactRenamePlaces.calls _ _ l0 _ _ l1 true W hc0 hl0 hc1 hl1 h).mono fun e W' ⟨he, bel0⟩ => ?_
  have bel : Below W.heap.size W W' := bel0
  subst he
  exact ⟨_, rfl, _, _, _, [], _, [], hW', trodAll_mk1 (shut_bool Try.underlying4 _), (trodAll_cons_mk (Below.trod laidOut (by kernel_rfl) (of_decide_eq_true (by kernel_rfl)) k0 bel lt0) (trodAll_cons_mk (Below.trod laidOut (by kernel_rfl) (of_decide_eq_true (by kernel_rfl)) k1 bel lt1) trodAll_mk0)), rfl, bel.frame _, fun h => by cases h⟩
theorem over : Rows.fnExactRenamePlacesRow.holds Try.pinned (OpenSpec.ofChange Rows.fnExactRenamePlacesSpec) :=
  OpenClaim.holds_of_wide 5 Try.f5 rfl rfl rfl rfl rfl rfl rfl ⟨rfl, rfl, rfl, rfl, rfl⟩ rfl rfl rfl rfl rfl (by kernel_rfl) Try.func5 (by kernel_rfl)
    (of_decide_eq_true (by kernel_rfl)) (by unfold Func.isWrapper; first | (rw [if_pos (by decide +kernel)]; kernel_rfl) | (rw [if_neg (by decide +kernel)]; exact ⟨rfl, rfl⟩))
    (fun os started H enc _ => lifted os started H enc)
theorem proved : Rows.FnExactRenamePlacesSaid := over
end Go.Proofs.Ytokmlipjicigcaa.fnExactRenamePlaces
namespace Go.Proofs.Ytokmlipjicigcaa
/-- The law, under a short name, for the claim. -/
theorem fnExactRenamePlaces_holds : Rows.FnExactRenamePlacesSaid := fnExactRenamePlaces.proved
#print axioms fnExactRenamePlaces_holds
end Go.Proofs.Ytokmlipjicigcaa
