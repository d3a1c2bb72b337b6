/- The law FnExactCountUnicycles holds for every input: the program returns what the reference returns (or what the law says), for all arguments. -/
import Derived.Test.YthbigmlpgoobiaaMBase
import Derived.Test.YthbigmlpgoobiaaMGraph
import Derived.Test.YthbigmlpgoobiaaRIn
import Derived.Test.YthbigmlpgoobiaaPimpllaplace
import Derived.Test.YthbigmlpgoobiaaPspectrLaplace
import Derived.Test.YthbigmlpgoobiaaPslicesDeleteintint
import Derived.Test.YthbigmlpgoobiaaPspecl1Own
import Derived.Test.YthbigmlpgoobiaaPspectrDet
import Derived.Test.YthbigmlpgoobiaaPimpldeterminant
import Derived.Test.YthbigmlpgoobiaaPfakeswap
import Derived.Test.YthbigmlpgoobiaaPslicesCloneintint
import Derived.Test.YthbigmlpgoobiaaPlawsFnExactCountUnicycles
import Derived.Test.YthbigmlpgoobiaaPimplCountUnicycles
import Derived.Test.YthbigmlpgoobiaaPspecCountUnicycles
import Derived.Test.YthbigmlpgoobiaaRows
import Derived.WalkKit
import Derived.ProofKit
import Derived.OpenShut
import Derived.ShutString
import Derived.ChangeOld
import Derived.Below
import Derived.SizedLaws
import Derived.Deep.Matrix
import Derived.Lib.SmallJoins
namespace Go.Proofs.Ythbigmlpgoobiaa.M

set_option linter.unusedVariables false
set_option linter.unusedSimpArgs false
namespace DetKit

/-- The j-th index where k is left out. -/
def skip (k j : Nat) : Nat := if j < k then j else j + 1
/-- f 0 + .. + f (n - 1). -/
def sm : Nat → (Nat → Int) → Int
  | 0, _ => 0
  | n + 1, f => sm n f + f n
def sg (k : Nat) : Int := if k % 2 = 0 then 1 else -1
def D : Nat → (Nat → Nat → Int) → Int
  | 0, _ => 1
  | n + 1, A => sm (n + 1) (fun k => sg k * A 0 k * D n (fun i j => A (i + 1) (skip k j)))

theorem sm_congr {n : Nat} {f g : Nat → Int} (h : ∀ i, i < n → f i = g i) : sm n f = sm n g := by
  induction n with
  | zero => rfl
  | succ n ih => simp only [sm]; rw [ih (fun i hi => h i (by omega)), h n (by omega)]
theorem sm_zero {n : Nat} {f : Nat → Int} (h : ∀ i, i < n → f i = 0) : sm n f = 0 := by
  induction n with
  | zero => rfl
  | succ n ih => simp only [sm]; rw [ih (fun i hi => h i (by omega)), h n (by omega)]; rfl
theorem sm_add (n : Nat) (f g : Nat → Int) : sm n (fun i => f i + g i) = sm n f + sm n g := by
  induction n with
  | zero => rfl
  | succ n ih => simp only [sm]; rw [ih]; omega
theorem sm_mul (n : Nat) (c : Int) (f : Nat → Int) : sm n (fun i => c * f i) = c * sm n f := by
  induction n with
  | zero => simp [sm]
  | succ n ih => simp only [sm]; rw [ih, Int.mul_add]
theorem sm_neg (n : Nat) (f : Nat → Int) : sm n (fun i => - f i) = - sm n f := by
  induction n with
  | zero => simp [sm]
  | succ n ih => simp only [sm]; rw [ih]; omega
theorem sm_head (n : Nat) (f : Nat → Int) : sm (n + 1) f = f 0 + sm n (fun i => f (i + 1)) := by
  induction n with
  | zero => simp [sm]
  | succ n ih => rw [show sm (n + 1 + 1) f = sm (n + 1) f + f (n + 1) from rfl, ih]; simp only [sm]; omega
theorem sm_swap (m n : Nat) (f : Nat → Nat → Int) : sm m (fun i => sm n (fun j => f i j)) = sm n (fun j => sm m (fun i => f i j)) := by
  induction m with
  | zero => simp only [sm]; exact (sm_zero (fun _ _ => rfl)).symm
  | succ m ih => simp only [sm]; rw [ih, ← sm_add]
theorem sm_one {n r : Nat} {f : Nat → Int} (hr : r < n) (h : ∀ i, i < n → i ≠ r → f i = 0) : sm n f = f r := by
  induction n with
  | zero => omega
  | succ n ih =>
    simp only [sm]
    by_cases e : r = n
    · subst e; rw [sm_zero (fun i hi => h i (by omega) (by omega))]; omega
    · rw [ih (by omega) (fun i hi hn => h i (by omega) hn), h n (by omega) (by omega)]; omega
theorem sm_two {n r : Nat} {f : Nat → Int} (hr : r + 1 < n) (h : ∀ i, i < n → i ≠ r → i ≠ r + 1 → f i = 0) : sm n f = f r + f (r + 1) := by
  induction n with
  | zero => omega
  | succ n ih =>
    simp only [sm]
    by_cases e : r + 1 = n
    · subst e; rw [sm_one (r := r) (by omega) (fun i hi hn => h i (by omega) hn (by omega))]
    · rw [ih (by omega) (fun i hi hn hm => h i (by omega) hn hm), h n (by omega) (by omega) (by omega)]; omega

theorem sg_succ (k : Nat) : sg (k + 1) = - sg k := by unfold sg; split <;> split <;> omega
theorem sg_sq (k : Nat) : sg k * sg k = 1 := by unfold sg; split <;> rfl
theorem skip_ne (k j : Nat) : skip k j ≠ k := by unfold skip; split <;> omega
theorem skip_lt {k j n : Nat} (h : j < n) : skip k j < n + 1 := by unfold skip; split <;> omega
theorem skip_zero (j : Nat) : skip 0 j = j + 1 := by simp [skip]
theorem skip_succ (k j : Nat) : skip (k + 1) (j + 1) = skip k j + 1 := by unfold skip; split <;> split <;> omega

theorem D_congr {n : Nat} {A B : Nat → Nat → Int} (h : ∀ i, i < n → ∀ j, j < n → A i j = B i j) : D n A = D n B := by
  induction n generalizing A B with
  | zero => rfl
  | succ n ih =>
    simp only [D]
    refine sm_congr (fun k hk => ?_)
    rw [h 0 (by omega) k hk, ih (fun i hi j hj => h (i + 1) (by omega) _ (skip_lt hj))]

/-- By the first column. -/
theorem D_col (n : Nat) (A : Nat → Nat → Int) : D (n + 1) A = sm (n + 1) (fun i => sg i * A i 0 * D n (fun a b => A (skip i a) (b + 1))) := by
  induction n generalizing A with
  | zero => simp [D, sm]
  | succ n ih =>
    rw [show D (n + 1 + 1) A = sm (n + 1 + 1) (fun k => sg k * A 0 k * D (n + 1) (fun i j => A (i + 1) (skip k j))) from rfl]
    rw [sm_head (n + 1) (fun k => sg k * A 0 k * D (n + 1) (fun i j => A (i + 1) (skip k j))), sm_head (n + 1) (fun i => sg i * A i 0 * D (n + 1) (fun a b => A (skip i a) (b + 1)))]
    have e0 : D (n + 1) (fun i j => A (i + 1) (skip 0 j)) = D (n + 1) (fun a b => A (skip 0 a) (b + 1)) := D_congr (fun a _ b _ => by rw [skip_zero, skip_zero])
    rw [e0]
    congr 1
    have e1 : ∀ k, sg (k + 1) * A 0 (k + 1) * D (n + 1) (fun i j => A (i + 1) (skip (k + 1) j)) = sm (n + 1) (fun i => - (sg k * sg i * A 0 (k + 1) * A (i + 1) 0 * D n (fun a b => A (skip i a + 1) (skip k b + 1)))) := by
      intro k
      rw [ih, ← sm_mul]
      refine sm_congr (fun i _ => ?_)
      have : D n (fun a b => A (skip i a + 1) (skip (k + 1) (b + 1))) = D n (fun a b => A (skip i a + 1) (skip k b + 1)) := D_congr (fun a _ b _ => by rw [skip_succ])
      rw [this, sg_succ, show skip (k + 1) 0 = 0 from by simp [skip]]
      simp only [Int.neg_mul, Int.mul_neg, Int.mul_assoc, Int.mul_comm, Int.mul_left_comm]
    have e2 : ∀ i, sg (i + 1) * A (i + 1) 0 * D (n + 1) (fun a b => A (skip (i + 1) a) (b + 1)) = sm (n + 1) (fun k => - (sg k * sg i * A 0 (k + 1) * A (i + 1) 0 * D n (fun a b => A (skip i a + 1) (skip k b + 1)))) := by
      intro i
      rw [show D (n + 1) (fun a b => A (skip (i + 1) a) (b + 1)) = sm (n + 1) (fun k => sg k * A (skip (i + 1) 0) (k + 1) * D n (fun a b => A (skip (i + 1) (a + 1)) (skip k b + 1))) from rfl, ← sm_mul]
      refine sm_congr (fun k _ => ?_)
      have : D n (fun a b => A (skip (i + 1) (a + 1)) (skip k b + 1)) = D n (fun a b => A (skip i a + 1) (skip k b + 1)) := D_congr (fun a _ b _ => by rw [skip_succ])
      rw [this, sg_succ, show skip (i + 1) 0 = 0 from by simp [skip]]
      simp only [Int.neg_mul, Int.mul_neg, Int.mul_assoc, Int.mul_comm, Int.mul_left_comm]
    rw [sm_congr (fun k _ => e1 k), sm_congr (fun i _ => e2 i), sm_swap]
theorem D_transpose (n : Nat) (A : Nat → Nat → Int) : D n (fun i j => A j i) = D n A := by
  induction n generalizing A with
  | zero => rfl
  | succ n ih =>
    rw [D_col n A]
    rw [show D (n + 1) (fun i j => A j i) = sm (n + 1) (fun k => sg k * A k 0 * D n (fun i j => A (skip k j) (i + 1))) from rfl]
    refine sm_congr (fun k _ => ?_)
    rw [ih (fun i j => A (skip k i) (j + 1))]

def setRow (A : Nat → Nat → Int) (r : Nat) (u : Nat → Int) : Nat → Nat → Int := fun i j => if i = r then u j else A i j
def setCol (A : Nat → Nat → Int) (c : Nat) (u : Nat → Int) : Nat → Nat → Int := fun i j => if j = c then u i else A i j

theorem D_row_lin (n r : Nat) (hr : r < n) (A : Nat → Nat → Int) (a b : Int) (u v : Nat → Int) :
    D n (setRow A r (fun j => a * u j + b * v j)) = a * D n (setRow A r u) + b * D n (setRow A r v) := by
  induction n generalizing A r u v with
  | zero => omega
  | succ n ih =>
    simp only [D]
    rw [← sm_mul, ← sm_mul, ← sm_add]
    refine sm_congr (fun k hk => ?_)
    cases r with
    | zero =>
      have e : ∀ w : Nat → Int, D n (fun i j => setRow A 0 w (i + 1) (skip k j)) = D n (fun i j => A (i + 1) (skip k j)) := fun w => D_congr (fun i _ j _ => by simp [setRow])
      rw [e, e, e]
      simp only [setRow, if_pos]
      generalize sg k = s
      generalize D n _ = d
      simp only [Int.mul_add, Int.mul_comm, Int.mul_left_comm]
    | succ r =>
      have e : ∀ w : Nat → Int, D n (fun i j => setRow A (r + 1) w (i + 1) (skip k j)) = D n (setRow (fun i j => A (i + 1) (skip k j)) r (fun j => w (skip k j))) := fun w => D_congr (fun i _ j _ => by simp [setRow])
      rw [e, e, e, ih r (by omega)]
      simp only [setRow]
      rw [if_neg (by omega), if_neg (by omega), if_neg (by omega)]
      generalize sg k = s
      generalize D n _ = d
      generalize D n _ = d'
      simp only [Int.mul_add, Int.add_mul, Int.mul_assoc, Int.mul_comm, Int.mul_left_comm]
theorem D_row_zero (n r : Nat) (hr : r < n) (A : Nat → Nat → Int) (h : ∀ j, j < n → A r j = 0) : D n A = 0 := by
  have e := D_row_lin n r hr A 0 0 (fun _ => 0) (fun _ => 0)
  rw [Int.zero_mul, Int.zero_mul] at e
  have e2 : D n (setRow A r (fun j => 0 * 0 + 0 * 0)) = D n A := D_congr (fun i hi j hj => by
    simp only [setRow]; split
    · subst i; rw [h j hj]; rfl
    · rfl)
  rw [← e2]; exact e
theorem D_row_sum (n r : Nat) (hr : r < n) (A : Nat → Nat → Int) (m : Nat) (c : Nat → Int) (F : Nat → Nat → Int) :
    D n (setRow A r (fun j => sm m (fun t => c t * F t j))) = sm m (fun t => c t * D n (setRow A r (F t))) := by
  induction m with
  | zero => simp only [sm]; exact D_row_zero n r hr _ (fun j _ => by simp [setRow])
  | succ m ih =>
    simp only [sm]
    have := D_row_lin n r hr A 1 (c m) (fun j => sm m (fun t => c t * F t j)) (F m)
    simp only [Int.one_mul] at this
    rw [this, ih]
theorem setRow_self (A : Nat → Nat → Int) (r : Nat) : setRow A r (A r) = A := by
  funext i j; simp only [setRow]; split
  · subst i; rfl
  · rfl
/-- Rows r, r + 1 are equal. -/
theorem D_adj (n r : Nat) (hr : r + 1 < n) (A : Nat → Nat → Int) (h : ∀ j, j < n → A r j = A (r + 1) j) : D n A = 0 := by
  induction n generalizing r A with
  | zero => omega
  | succ n ih =>
    rw [D_col]
    rw [sm_two (r := r) hr]
    · rw [sg_succ, ← h 0 (by omega)]
      have : D n (fun a b => A (skip r a) (b + 1)) = D n (fun a b => A (skip (r + 1) a) (b + 1)) := D_congr (fun a _ b hb => by
        unfold skip
        by_cases e : a = r
        · subst e; rw [if_neg (by omega), if_pos (by omega), h (b + 1) (by omega)]
        · by_cases l : a < r
          · rw [if_pos l, if_pos (by omega)]
          · rw [if_neg l, if_neg (by omega)])
      rw [this, Int.neg_mul, Int.neg_mul]; omega
    · intro i hi h1 h2
      have : D n (fun a b => A (skip i a) (b + 1)) = 0 := by
        by_cases l : i < r
        · refine ih (r - 1) (by omega) _ (fun j hj => ?_)
          show A (skip i (r - 1)) (j + 1) = A (skip i (r - 1 + 1)) (j + 1)
          rw [show skip i (r - 1) = r from by unfold skip; split <;> omega, show skip i (r - 1 + 1) = r + 1 from by unfold skip; split <;> omega]
          exact h _ (by omega)
        · refine ih r (by omega) _ (fun j hj => ?_)
          show A (skip i r) (j + 1) = A (skip i (r + 1)) (j + 1)
          rw [show skip i r = r from by unfold skip; split <;> omega, show skip i (r + 1) = r + 1 from by unfold skip; split <;> omega]
          exact h _ (by omega)
      rw [this, Int.mul_zero]
/-- Two rows, told by their places. -/
def set2 (A : Nat → Nat → Int) (r s : Nat) (u v : Nat → Int) : Nat → Nat → Int := setRow (setRow A r u) s v
theorem D_adj_swap (n r : Nat) (hr : r + 1 < n) (A : Nat → Nat → Int) (u v : Nat → Int) : D n (set2 A r (r + 1) u v) = - D n (set2 A r (r + 1) v u) := by
  have z : ∀ w, D n (set2 A r (r + 1) w w) = 0 := fun w => D_adj n r hr _ (fun j _ => by simp [set2, setRow])
  have c : ∀ w x, set2 A r (r + 1) w x = setRow (setRow A (r + 1) x) r w := fun w x => by
    funext i j; simp only [set2, setRow]
    by_cases e : i = r
    · subst e; rw [if_neg (by omega), if_pos rfl, if_pos rfl]
    · simp [e]
  have l1 : D n (set2 A r (r + 1) (fun j => 1 * u j + 1 * v j) (fun j => 1 * u j + 1 * v j)) = 1 * D n (set2 A r (r + 1) (fun j => 1 * u j + 1 * v j) u) + 1 * D n (set2 A r (r + 1) (fun j => 1 * u j + 1 * v j) v) := D_row_lin n (r + 1) hr _ 1 1 u v
  have l2 : ∀ x, D n (set2 A r (r + 1) (fun j => 1 * u j + 1 * v j) x) = 1 * D n (set2 A r (r + 1) u x) + 1 * D n (set2 A r (r + 1) v x) := fun x => by
    rw [c, c, c]; exact D_row_lin n r (by omega) _ 1 1 u v
  rw [z, l2, l2, z, z] at l1
  omega
theorem D_rows_eq (n : Nat) (A : Nat → Nat → Int) (i d : Nat) (hd : i + 1 + d < n) (h : ∀ c, c < n → A i c = A (i + 1 + d) c) : D n A = 0 := by
  induction d generalizing A with
  | zero => exact D_adj n i hd A h
  | succ d ih =>
    have e : A = set2 A (i + 1 + d) (i + 1 + d + 1) (A (i + 1 + d)) (A (i + 1 + d + 1)) := by
      funext a b; simp only [set2, setRow]
      split
      · subst a; rfl
      · split
        · subst a; rfl
        · rfl
    rw [e, D_adj_swap n (i + 1 + d) (by omega), ih _ (by omega)]
    · rfl
    · intro c hc
      simp only [set2, setRow]
      rw [if_neg (by omega), if_neg (by omega), if_neg (by omega), if_pos trivial, h c hc]; rfl
theorem D_rows_eq' (n : Nat) (A : Nat → Nat → Int) (i j : Nat) (hi : i < n) (hj : j < n) (hij : i ≠ j) (h : ∀ c, c < n → A i c = A j c) : D n A = 0 := by
  rcases Nat.lt_or_gt_of_ne hij with l | l
  · exact D_rows_eq n A i (j - i - 1) (by omega) (by rw [show i + 1 + (j - i - 1) = j by omega]; exact h)
  · exact D_rows_eq n A j (i - j - 1) (by omega) (by rw [show j + 1 + (i - j - 1) = i by omega]; exact fun c hc => (h c hc).symm)
def swapRows (A : Nat → Nat → Int) (i j : Nat) : Nat → Nat → Int := fun a b => if a = i then A j b else if a = j then A i b else A a b
theorem D_swap (n : Nat) (A : Nat → Nat → Int) (i j : Nat) (hi : i < n) (hj : j < n) (hij : i ≠ j) : D n (swapRows A i j) = - D n A := by
  have z : ∀ w, D n (set2 A i j w w) = 0 := fun w => D_rows_eq' n _ i j hi hj hij (fun c _ => by simp [set2, setRow])
  have c : ∀ w x, set2 A i j w x = setRow (setRow A j x) i w := fun w x => by
    funext a b; simp only [set2, setRow]
    by_cases e : a = i
    · subst e; rw [if_neg hij, if_pos rfl, if_pos rfl]
    · simp [e]
  have l1 : D n (set2 A i j (fun b => 1 * A i b + 1 * A j b) (fun b => 1 * A i b + 1 * A j b)) = 1 * D n (set2 A i j (fun b => 1 * A i b + 1 * A j b) (A i)) + 1 * D n (set2 A i j (fun b => 1 * A i b + 1 * A j b) (A j)) := D_row_lin n j hj _ 1 1 (A i) (A j)
  have l2 : ∀ x, D n (set2 A i j (fun b => 1 * A i b + 1 * A j b) x) = 1 * D n (set2 A i j (A i) x) + 1 * D n (set2 A i j (A j) x) := fun x => by
    rw [c, c, c]; exact D_row_lin n i hi _ 1 1 (A i) (A j)
  rw [z, l2, l2, z, z] at l1
  have e1 : set2 A i j (A i) (A j) = A := by
    funext a b; simp only [set2, setRow]; split
    · subst a; rfl
    · split
      · subst a; rfl
      · rfl
  have e2 : set2 A i j (A j) (A i) = swapRows A i j := by
    funext a b; simp only [set2, setRow, swapRows]
    by_cases e : a = i
    · subst e; rw [if_neg hij, if_pos rfl, if_pos rfl]
    · simp [e]
  rw [e1, e2] at l1
  omega
/-! columns, by the transposed matrix -/
theorem D_col_lin (n c : Nat) (hc : c < n) (A : Nat → Nat → Int) (a b : Int) (u v : Nat → Int) :
    D n (setCol A c (fun i => a * u i + b * v i)) = a * D n (setCol A c u) + b * D n (setCol A c v) := by
  have e : ∀ w, D n (setCol A c w) = D n (setRow (fun i j => A j i) c w) := fun w => by
    rw [← D_transpose]; rfl
  rw [e, e, e]; exact D_row_lin n c hc _ a b u v
theorem D_col_sum (n c : Nat) (hc : c < n) (A : Nat → Nat → Int) (m : Nat) (d : Nat → Int) (F : Nat → Nat → Int) :
    D n (setCol A c (fun i => sm m (fun t => d t * F t i))) = sm m (fun t => d t * D n (setCol A c (F t))) := by
  have e : ∀ w, D n (setCol A c w) = D n (setRow (fun i j => A j i) c w) := fun w => by
    rw [← D_transpose]; rfl
  rw [e, D_row_sum n c hc]
  exact sm_congr (fun t _ => by rw [e])
theorem D_cols_eq (n : Nat) (A : Nat → Nat → Int) (i j : Nat) (hi : i < n) (hj : j < n) (hij : i ≠ j) (h : ∀ r, r < n → A r i = A r j) : D n A = 0 := by
  rw [← D_transpose]; exact D_rows_eq' n _ i j hi hj hij h
theorem D_one (n : Nat) : D n (fun i j => if i = j then 1 else 0) = 1 := by
  induction n with
  | zero => rfl
  | succ n ih =>
    simp only [D]
    rw [sm_one (r := 0) (by omega) (fun k _ hk => by rw [if_neg (by omega)]; simp)]
    rw [D_congr (B := fun i j => if i = j then 1 else 0) (fun i _ j _ => by rw [skip_zero]; simp), ih]; rfl
/-- Above the last column's end stand zeros. -/
theorem D_block1 (k : Nat) (M : Nat → Nat → Int) (h : ∀ a, a < k → M a k = 0) : D (k + 1) M = D k M * M k k := by
  induction k generalizing M with
  | zero => simp [D, sm, sg]
  | succ k ih =>
    rw [show D (k + 1 + 1) M = sm (k + 1 + 1) (fun c => sg c * M 0 c * D (k + 1) (fun i j => M (i + 1) (skip c j))) from rfl]
    rw [show sm (k + 1 + 1) (fun c => sg c * M 0 c * D (k + 1) (fun i j => M (i + 1) (skip c j))) = sm (k + 1) (fun c => sg c * M 0 c * D (k + 1) (fun i j => M (i + 1) (skip c j))) + sg (k + 1) * M 0 (k + 1) * D (k + 1) (fun i j => M (i + 1) (skip (k + 1) j)) from rfl]
    rw [h 0 (by omega), Int.mul_zero, Int.zero_mul, Int.add_zero]
    rw [show D (k + 1) M = sm (k + 1) (fun c => sg c * M 0 c * D k (fun i j => M (i + 1) (skip c j))) from rfl, Int.mul_comm, ← sm_mul]
    refine sm_congr (fun c hc => ?_)
    have hs : ∀ b, c ≤ b → skip c b = b + 1 := fun b hb => by unfold skip; split <;> omega
    rw [ih _ (fun a ha => by rw [hs k (by omega)]; exact h (a + 1) (by omega)), hs k (by omega)]
    simp only [Int.mul_assoc, Int.mul_comm, Int.mul_left_comm]
/-- Above the last two columns' ends stand zeros. -/
theorem D_block2 (k : Nat) (M : Nat → Nat → Int) (h : ∀ a, a < k → M a k = 0 ∧ M a (k + 1) = 0) :
    D (k + 2) M = D k M * (M k k * M (k + 1) (k + 1) - M k (k + 1) * M (k + 1) k) := by
  induction k generalizing M with
  | zero => simp [D, sm, sg, skip, Int.sub_eq_add_neg, Int.neg_mul]
  | succ k ih =>
    rw [show D (k + 1 + 2) M = sm (k + 1) (fun c => sg c * M 0 c * D (k + 2) (fun i j => M (i + 1) (skip c j))) + sg (k + 1) * M 0 (k + 1) * D (k + 2) (fun i j => M (i + 1) (skip (k + 1) j)) + sg (k + 2) * M 0 (k + 2) * D (k + 2) (fun i j => M (i + 1) (skip (k + 2) j)) from rfl]
    rw [(h 0 (by omega)).1, (h 0 (by omega)).2]
    simp only [Int.mul_zero, Int.zero_mul, Int.add_zero]
    rw [show D (k + 1) M = sm (k + 1) (fun c => sg c * M 0 c * D k (fun i j => M (i + 1) (skip c j))) from rfl, Int.mul_comm (sm _ _), ← sm_mul]
    refine sm_congr (fun c hc => ?_)
    have hs : ∀ b, c ≤ b → skip c b = b + 1 := fun b hb => by unfold skip; split <;> omega
    rw [ih _ (fun a ha => by rw [hs k (by omega), hs (k + 1) (by omega)]; exact h (a + 1) (by omega)), hs k (by omega), hs (k + 1) (by omega)]
    simp only [Int.mul_assoc, Int.mul_comm, Int.mul_left_comm]
theorem sm_unit (n : Nat) (v : Nat → Int) (j : Nat) (hj : j < n) : sm n (fun t => v t * (if t = j then 1 else 0)) = v j := by
  rw [sm_one hj (fun i _ hn => by rw [if_neg hn, Int.mul_zero])]; simp

/-! ### Elimination without fractions -/
/-- The minor of the first k rows and row i, the first k columns and column j. -/
def B (A : Nat → Nat → Int) (k i j : Nat) : Int := D (k + 1) (fun a b => A (if a < k then a else i) (if b < k then b else j))
theorem B_diag (A : Nat → Nat → Int) (k : Nat) : B A k k k = D (k + 1) A := D_congr (fun a ha b hb => by
  rw [show (if a < k then a else k) = a from by split <;> omega, show (if b < k then b else k) = b from by split <;> omega])
theorem B_low (A : Nat → Nat → Int) (k i j : Nat) (hi : i < k) : B A k i j = 0 :=
  D_rows_eq' (k + 1) _ i k (by omega) (by omega) (by omega) (fun c _ => by simp [hi])
/-- A column, by the first k ones and what is left of it. -/
theorem B_solve (A : Nat → Nat → Int) (k j : Nat) : ∃ C : Nat → Int, ∀ i, D k A * A i j = sm k (fun c => C c * A i c) + B A k i j := by
  refine ⟨fun c => - D (k + 1) (setRow (fun a b => A a (if b < k then b else j)) k (fun b => if c = b then 1 else 0)), fun i => ?_⟩
  have e : B A k i j = D (k + 1) (setRow (fun a b => A a (if b < k then b else j)) k (fun b => sm (k + 1) (fun t => A i (if t < k then t else j) * (if t = b then 1 else 0)))) := D_congr (fun a ha b hb => by
    simp only [setRow]
    by_cases l : a = k
    · subst l; rw [if_pos rfl, sm_unit _ _ _ hb, if_neg (by omega)]
    · rw [if_neg l, if_pos (by omega)])
  rw [e, D_row_sum (k + 1) k (by omega)]
  have last : D (k + 1) (setRow (fun a b => A a (if b < k then b else j)) k (fun b => if k = b then 1 else 0)) = D k A := by
    rw [← D_transpose, D_block1]
    · have : D k (fun a b => setRow (fun a b => A a (if b < k then b else j)) k (fun b => if k = b then 1 else 0) b a) = D k A := by
        rw [D_transpose]
        exact D_congr (fun a ha b hb => by simp only [setRow]; rw [if_neg (by omega), if_pos hb])
      rw [this]; simp [setRow]
    · intro a ha; simp only [setRow]; rw [if_pos trivial, if_neg (by omega)]
  simp only [sm]
  rw [last]
  have : sm k (fun t => A i (if t < k then t else j) * D (k + 1) (setRow (fun a b => A a (if b < k then b else j)) k (fun b => if t = b then 1 else 0))) = - sm k (fun c => - D (k + 1) (setRow (fun a b => A a (if b < k then b else j)) k (fun b => if c = b then 1 else 0)) * A i c) := by
    rw [← sm_neg]
    refine sm_congr (fun t ht => ?_)
    rw [if_pos ht, Int.neg_mul, Int.neg_neg, Int.mul_comm]
  rw [this, if_neg (Nat.lt_irrefl k), Int.mul_comm (A i j)]; omega
/-- One round of the elimination. -/
theorem B_step (A : Nat → Nat → Int) (k i j : Nat) (hp : D k A ≠ 0) :
    D k A * B A (k + 1) i j = B A k k k * B A k i j - B A k i k * B A k k j := by
  obtain ⟨C1, h1⟩ := B_solve A k k
  obtain ⟨C2, h2⟩ := B_solve A k j
  -- the rows and columns of the great minor
  let ro : Nat → Nat := fun a => if a < k + 1 then a else i
  let W : Nat → Nat → Int := fun a b => A (ro a) (if b < k + 1 then b else j)
  have hW : B A (k + 1) i j = D (k + 2) W := rfl
  let X : Nat → Int := fun a => B A k (ro a) k
  let Y : Nat → Int := fun a => B A k (ro a) j
  have s1 : D k A * D (k + 2) W = D (k + 2) (setCol W k X) := by
    have e0 : D (k + 2) (setCol W k (fun a => D k A * A (ro a) k + 0 * 0)) = D k A * D (k + 2) W := by
      rw [D_col_lin (k + 2) k (by omega) W (D k A) 0 (fun a => A (ro a) k) (fun _ => 0), Int.zero_mul, Int.add_zero]
      congr 1
      exact D_congr (fun a _ b _ => by
        simp only [setCol]; split
        · subst b; show A (ro a) k = A (ro a) (if k < k + 1 then k else j); rw [if_pos (by omega)]
        · rfl)
    have e1 : D (k + 2) (setCol W k (fun a => D k A * A (ro a) k + 0 * 0)) = D (k + 2) (setCol W k (fun a => 1 * sm k (fun c => C1 c * A (ro a) c) + 1 * X a)) := D_congr (fun a _ b _ => by
      simp only [setCol]; split
      · rw [h1 (ro a)]; show _ = 1 * _ + 1 * B A k (ro a) k; omega
      · rfl)
    rw [← e0, e1, D_col_lin (k + 2) k (by omega), D_col_sum (k + 2) k (by omega)]
    rw [sm_zero (fun c hc => by
      rw [D_cols_eq (k + 2) _ c k (by omega) (by omega) (by omega) (fun r _ => by
        simp only [setCol]; rw [if_neg (by omega), if_pos trivial]; show A (ro r) (if c < k + 1 then c else j) = _; rw [if_pos (by omega)]), Int.mul_zero])]
    omega
  have s2 : D k A * D (k + 2) (setCol W k X) = D (k + 2) (setCol (setCol W k X) (k + 1) Y) := by
    have e0 : D (k + 2) (setCol (setCol W k X) (k + 1) (fun a => D k A * A (ro a) j + 0 * 0)) = D k A * D (k + 2) (setCol W k X) := by
      rw [D_col_lin (k + 2) (k + 1) (by omega) (setCol W k X) (D k A) 0 (fun a => A (ro a) j) (fun _ => 0), Int.zero_mul, Int.add_zero]
      congr 1
      exact D_congr (fun a _ b _ => by
        simp only [setCol]; split
        · subst b; rw [if_neg (by omega)]; show A (ro a) j = A (ro a) (if k + 1 < k + 1 then k + 1 else j); rw [if_neg (by omega)]
        · rfl)
    have e1 : D (k + 2) (setCol (setCol W k X) (k + 1) (fun a => D k A * A (ro a) j + 0 * 0)) = D (k + 2) (setCol (setCol W k X) (k + 1) (fun a => 1 * sm k (fun c => C2 c * A (ro a) c) + 1 * Y a)) := D_congr (fun a _ b _ => by
      simp only [setCol]; split
      · rw [h2 (ro a)]; show _ = 1 * _ + 1 * B A k (ro a) j; omega
      · rfl)
    rw [← e0, e1, D_col_lin (k + 2) (k + 1) (by omega), D_col_sum (k + 2) (k + 1) (by omega)]
    rw [sm_zero (fun c hc => by
      rw [D_cols_eq (k + 2) _ c (k + 1) (by omega) (by omega) (by omega) (fun r _ => by
        simp only [setCol]; rw [if_neg (by omega), if_neg (by omega), if_pos trivial]; show A (ro r) (if c < k + 1 then c else j) = _; rw [if_pos (by omega)]), Int.mul_zero])]
    omega
  have s3 : D (k + 2) (setCol (setCol W k X) (k + 1) Y) = D k A * (X k * Y (k + 1) - Y k * X (k + 1)) := by
    rw [D_block2]
    · have : D k (setCol (setCol W k X) (k + 1) Y) = D k A := D_congr (fun a ha b hb => by
        simp only [setCol]; rw [if_neg (by omega), if_neg (by omega)]; show A (if a < k + 1 then a else i) (if b < k + 1 then b else j) = _; rw [if_pos (by omega), if_pos (by omega)])
      rw [this]

      simp [setCol]
    · intro a ha
      have hr : ro a = a := by show (if a < k + 1 then a else i) = a; rw [if_pos (by omega)]
      have h1 : ¬ k = k + 1 := by omega
      simp only [setCol, if_neg h1, if_true]
      constructor
      · show B A k (ro a) k = 0; rw [hr]; exact B_low A k a k ha
      · show B A k (ro a) j = 0; rw [hr]; exact B_low A k a j ha
  have hk : ro k = k := by show (if k < k + 1 then k else i) = k; rw [if_pos (by omega)]
  have hk1 : ro (k + 1) = i := by show (if k + 1 < k + 1 then k + 1 else i) = i; rw [if_neg (by omega)]
  have hX0 : X k = B A k k k := by show B A k (ro k) k = _; rw [hk]
  have hX1 : X (k + 1) = B A k i k := by show B A k (ro (k + 1)) k = _; rw [hk1]
  have hY0 : Y k = B A k k j := by show B A k (ro k) j = _; rw [hk]
  have hY1 : Y (k + 1) = B A k i j := by show B A k (ro (k + 1)) j = _; rw [hk1]
  rw [hX0, hX1, hY0, hY1] at s3
  rw [hW]
  have all : D k A * (D k A * D (k + 2) W) = D k A * (B A k k k * B A k i j - B A k k j * B A k i k) := by rw [s1, s2, s3]
  have := Int.eq_of_mul_eq_mul_left hp all
  rw [this, Int.mul_comm (B A k k j)]
/-- No pivot: the determinant is 0. -/
theorem B_none (A : Nat → Nat → Int) (n k : Nat) (hk : k < n) (hp : D k A ≠ 0) (h : ∀ i, k ≤ i → i < n → B A k i k = 0) : D n A = 0 := by
  obtain ⟨C1, h1⟩ := B_solve A k k
  have e0 : D n (setCol A k (fun a => D k A * A a k + 0 * 0)) = D k A * D n A := by
    rw [D_col_lin n k hk A (D k A) 0 (fun a => A a k) (fun _ => 0), Int.zero_mul, Int.add_zero]
    congr 1
    exact D_congr (fun a _ b _ => by
      simp only [setCol]; split
      · subst b; rfl
      · rfl)
  have e1 : D n (setCol A k (fun a => D k A * A a k + 0 * 0)) = D n (setCol A k (fun a => sm k (fun c => C1 c * A a c))) := D_congr (fun a ha b _ => by
    simp only [setCol]; split
    · have : B A k a k = 0 := by
        by_cases l : a < k
        · exact B_low A k a k l
        · exact h a (by omega) ha
      rw [h1 a, this]; omega
    · rfl)
  have : D k A * D n A = 0 := by
    rw [← e0, e1, D_col_sum n k hk]
    exact sm_zero (fun c hc => by
      rw [D_cols_eq n _ c k (by omega) (by omega) (by omega) (fun r _ => by
        simp only [setCol]; rw [if_neg (by omega), if_pos trivial]), Int.mul_zero])
  rcases Int.mul_eq_zero.mp this with h | h
  · exact absurd h hp
  · exact h
/-- How great a determinant of numbers from -10 to 10 is at most. -/
def bd : Nat → Int
  | 0 => 1
  | n + 1 => (n + 1) * (10 * bd n)
theorem bd_pos (n : Nat) : 1 ≤ bd n := by
  induction n with
  | zero => decide
  | succ n ih =>
    simp only [bd]
    have h1 : (1 : Int) ≤ (n : Int) + 1 := by omega
    have h2 : (1 : Int) ≤ 10 * bd n := by omega
    have := Int.mul_le_mul h1 h2 (by omega) (by omega)
    omega
theorem sm_bound (n : Nat) (f : Nat → Int) (b : Int) (h : ∀ i, i < n → -b ≤ f i ∧ f i ≤ b) : -(n * b) ≤ sm n f ∧ sm n f ≤ n * b := by
  induction n with
  | zero => simp [sm]
  | succ n ih =>
    have h1 := ih (fun i hi => h i (by omega))
    have h2 := h n (by omega)
    simp only [sm]
    rw [show ((n + 1 : Nat) : Int) * b = n * b + b from by rw [Int.natCast_add, Int.add_mul]; simp]
    omega
theorem mul_bound {x y a b : Int} (ha : -a ≤ x ∧ x ≤ a) (hb : -b ≤ y ∧ y ≤ b) : -(a * b) ≤ x * y ∧ x * y ≤ a * b := by
  have h : x.natAbs * y.natAbs ≤ a.natAbs * b.natAbs := Nat.mul_le_mul (by omega) (by omega)
  rw [← Int.natAbs_mul, ← Int.natAbs_mul] at h
  have : 0 ≤ a * b := Int.mul_nonneg (by omega) (by omega)
  omega
theorem term_bound {s x d b : Int} (hs : s = 1 ∨ s = -1) (hx : -10 ≤ x ∧ x ≤ 10) (hd : -b ≤ d ∧ d ≤ b) : -(10 * b) ≤ s * x * d ∧ s * x * d ≤ 10 * b := by
  refine mul_bound (a := 10) ?_ hd
  rcases hs with rfl | rfl <;> omega
theorem sg_or (k : Nat) : sg k = 1 ∨ sg k = -1 := by unfold sg; split <;> simp
theorem D_bound (n : Nat) (A : Nat → Nat → Int) (h : ∀ i j, i < n → j < n → -10 ≤ A i j ∧ A i j ≤ 10) : -(bd n) ≤ D n A ∧ D n A ≤ bd n := by
  induction n generalizing A with
  | zero => simp [D, bd]
  | succ n ih =>
    simp only [D, bd]
    have := sm_bound (n + 1) (fun k => sg k * A 0 k * D n (fun i j => A (i + 1) (skip k j))) (10 * bd n) (fun k hk =>
      term_bound (sg_or k) (h 0 k (by omega) hk) (ih _ (fun i j hi hj => h _ _ (by omega) (skip_lt hj))))
    simpa using this
end DetKit
end Go.Proofs.Ythbigmlpgoobiaa.M
namespace Go.Proofs.Ythbigmlpgoobiaa.M
open Go.RowKit Go.Proofs.Ythbigmlpgoobiaa.P Go.Proofs.Ythbigmlpgoobiaa.In Go.Proofs.YthbigmlpgoobiaaW.PrintWords Go.Proofs.YthbigmlpgoobiaaW.PrintLast
set_option linter.unusedVariables false
set_option linter.unusedSimpArgs false
open DetKit
def mat (m : List (List Int)) : Nat → Nat → Int := fun i j => rd (rd_L1 m (i : Int)) (j : Int)
/-- As many rows as columns, n; numbers from -10 to 10. -/
structure Sq (n : Nat) (m : List (List Int)) : Prop where
  len : m.length = n
  rows : ∀ row ∈ m, row.length = n ∧ ∀ x ∈ row, -10 ≤ x ∧ x ≤ 10
theorem Sq.row {n : Nat} {m : List (List Int)} (h : Sq n m) {i : Nat} (hi : i < n) : (rd_L1 m (i : Int)).length = n := by
  have hl := h.len
  exact (h.rows (rd_L1 m (i : Int)) (by rw [rdL_at (by omega)]; exact List.getElem_mem _)).1
theorem Sq.bnd {n : Nat} {m : List (List Int)} (h : Sq n m) (i j : Nat) (hi : i < n) (hj : j < n) : -10 ≤ mat m i j ∧ mat m i j ≤ 10 := by
  have hl := h.len
  have hr := h.rows (rd_L1 m (i : Int)) (by rw [rdL_at (by omega)]; exact List.getElem_mem _)
  exact hr.2 _ (by unfold mat; rw [rd_at (by omega)]; exact List.getElem_mem _)
theorem bd_le6 {n : Nat} (h : n ≤ 6) : bd n ≤ 720000000 := by
  have : n = 0 ∨ n = 1 ∨ n = 2 ∨ n = 3 ∨ n = 4 ∨ n = 5 ∨ n = 6 := by omega
  rcases this with rfl | rfl | rfl | rfl | rfl | rfl | rfl <;> decide
theorem bd_le7 {n : Nat} (h : n ≤ 7) : bd n ≤ 50400000000 := by
  have : n = 0 ∨ n = 1 ∨ n = 2 ∨ n = 3 ∨ n = 4 ∨ n = 5 ∨ n = 6 ∨ n = 7 := by omega
  rcases this with rfl | rfl | rfl | rfl | rfl | rfl | rfl | rfl <;> decide
end Go.Proofs.Ythbigmlpgoobiaa.M
namespace Go.Proofs.Ythbigmlpgoobiaa.M
open Go.RowKit Go.Proofs.Ythbigmlpgoobiaa.P Go.Proofs.Ythbigmlpgoobiaa.In Go.Proofs.YthbigmlpgoobiaaW.PrintWords Go.Proofs.YthbigmlpgoobiaaW.PrintLast
set_option linter.unusedVariables false
set_option linter.unusedSimpArgs false
open DetKit
def decr : List Int → List Int → List Int
  | [], c => c
  | q :: row, c => decr row (c.set q.toNat (rd c q - 1))
theorem decr_len : ∀ (row c : List Int), (decr row c).length = c.length := by
  intro row
  induction row with
  | nil => intro c; rfl
  | cons q row ih => intro c; simp only [decr]; rw [ih]; simp
def lapRow (g : List (List Int)) (p : Nat) : List Int := decr (rd_L1 g (p : Int)) ((List.replicate g.length (0 : Int)).set p ((rd_L1 g (p : Int)).length : Int))
def lapFrom (g : List (List Int)) (sink : Nat) : Nat → Nat → List (List Int) → List (List Int)
  | 0, _, acc => acc
  | d + 1, i, acc => if i = sink then lapFrom g sink d (i + 1) acc else lapFrom g sink d (i + 1) (acc ++ [(lapRow g i).eraseIdx sink])
def lap (g : List (List Int)) (sink : Nat) : List (List Int) := lapFrom g sink g.length 0 []
def lowB (i : Nat) (c : List Int) : Prop := ∀ x ∈ c, -(i : Int) ≤ x ∧ x ≤ 5
theorem low_step {i : Nat} {c : List Int} (h : lowB i c) {q : Int} (h0 : 0 ≤ q) (h1 : q < (c.length : Int)) : -(i : Int) ≤ rd c q ∧ rd c q ≤ 5 ∧ lowB (i + 1) (c.set q.toNat (rd c q - 1)) := by
  have hq := h (rd c q) (by rw [rd_get h0 h1]; exact List.getElem_mem _)
  refine ⟨hq.1, hq.2, fun x hx => ?_⟩
  rcases List.mem_or_eq_of_mem_set hx with h2 | h2
  · have := h x h2; omega
  · subst h2; omega
theorem decr_low : ∀ (row c : List Int) (i : Nat), lowB i c → (∀ q ∈ row, 0 ≤ q ∧ q < (c.length : Int)) → lowB (i + row.length) (decr row c) := by
  intro row
  induction row with
  | nil => intro c i h _; exact h
  | cons q row ih =>
    intro c i h hr
    have hq := hr q (by simp)
    have := ih _ (i + 1) (low_step h hq.1 hq.2).2.2 (fun x hx => by have := hr x (by simp [hx]); simpa using this)
    simp only [decr]
    rw [show i + (q :: row).length = i + 1 + row.length by simp; omega]
    exact this
theorem low_start {n p len : Nat} (h : len ≤ 5) : lowB 0 ((List.replicate n (0 : Int)).set p (len : Int)) := by
  intro x hx
  rcases List.mem_or_eq_of_mem_set hx with h2 | h2
  · have := List.eq_of_mem_replicate h2; omega
  · omega
theorem lapRow_len (g : List (List Int)) (p : Nat) : (lapRow g p).length = g.length := by unfold lapRow; rw [decr_len]; simp
theorem lapRow_low {g : List (List Int)} (hg : goodG g = true) {p : Nat} (hp : p < g.length) : lowB 5 (lapRow g p) := by
  have hrow := (good_iff hg).2 (rd_L1 g (p : Int)) (by rw [rdL_at hp]; exact List.getElem_mem _)
  have := decr_low (rd_L1 g (p : Int)) ((List.replicate g.length (0 : Int)).set p ((rd_L1 g (p : Int)).length : Int)) 0 (low_start hrow.1) (fun q hq => by simpa using hrow.2 q hq)
  intro x hx
  have h2 := this x hx
  omega
theorem lapFrom_sq {g : List (List Int)} (hg : goodG g = true) {sink : Nat} (hs : sink < g.length) : ∀ (d i : Nat) (acc : List (List Int)), g.length - i = d → i ≤ g.length → (∀ row ∈ acc, row.length = g.length - 1 ∧ ∀ x ∈ row, -10 ≤ x ∧ x ≤ 10) → acc.length = (if sink < i then i - 1 else i) → (lapFrom g sink d i acc).length = g.length - 1 ∧ ∀ row ∈ lapFrom g sink d i acc, row.length = g.length - 1 ∧ ∀ x ∈ row, -10 ≤ x ∧ x ≤ 10 := by
  intro d
  induction d with
  | zero =>
    intro i acc hd hi ha hl
    rw [if_pos (by omega)] at hl
    exact ⟨by simp only [lapFrom]; omega, ha⟩
  | succ d ih =>
    intro i acc hd hi ha hl
    simp only [lapFrom]
    by_cases h : i = sink
    · rw [if_pos h]
      refine ih (i + 1) acc (by omega) (by omega) ha ?_
      rw [if_neg (by omega)] at hl
      rw [if_pos (by omega)]; omega
    · rw [if_neg h]
      refine ih (i + 1) _ (by omega) (by omega) (fun row hr => ?_) ?_
      · rcases List.mem_append.1 hr with h2 | h2
        · exact ha row h2
        · simp at h2; subst h2
          have hlr := lapRow_len g i
          refine ⟨by rw [List.length_eraseIdx_of_lt (by omega)]; omega, fun x hx => ?_⟩
          have := lapRow_low hg (p := i) (by omega) x (List.mem_of_mem_eraseIdx hx)
          omega
      · simp only [List.length_append, List.length_singleton, hl]
        by_cases h3 : sink < i
        · rw [if_pos h3, if_pos (by omega)]; omega
        · rw [if_neg h3, if_neg (by omega)]
theorem lap_sq {g : List (List Int)} (hg : goodG g = true) {sink : Nat} (hs : sink < g.length) : Sq (g.length - 1) (lap g sink) := by
  obtain ⟨a, b⟩ := lapFrom_sq hg hs g.length 0 [] (by omega) (by omega) (by simp) (by simp)
  exact ⟨a, b⟩
section
variable {g : List (List Int)} {r : List (List Int)}
theorem lapI_l1 (hg : goodG g = true) (sink p : Nat) (hs : sink < g.length) (hp : p < g.length) (acc : List (List Int)) (hacc : acc.length ≤ 8) (row : List Int) (h5 : row.length ≤ 5) (hr : ∀ q ∈ row, 0 ≤ q ∧ q < (g.length : Int)) :
    ∀ (d i : Nat) (c : List Int), row.length - i = d → i ≤ row.length → c.length = g.length → lowB i c → Ev (fun k => impl_laplace.l0 k sink (acc ++ [(decr (row.drop i) c).eraseIdx sink]) g g.length ((p + 1 : Nat) : Int) g) r → Ev (fun k => impl_laplace.l1 k sink acc c g g.length p row row.length i g) r := by
  have h8 := (good_iff hg).1.2
  intro d
  induction d with
  | zero =>
    intro i c hd hi hc hl h
    rw [List.drop_of_length_le (by omega)] at h
    refine Ev.succ ?_
    simp only [impl_laplace.l1]
    refine Ev.neg (by omega) (Ev.bind0 (a := c.eraseIdx sink) ?_ (Ev.pos (by omega) ?_))
    · unfold slices_Delete_int_int.f
      rw [wrap_nat (by omega), if_pos (by omega), if_pos (by omega), if_pos (by omega), Int.toNat_natCast]
    · rw [wrap_nat (n := p) (by omega)]
      exact h
  | succ d ih =>
    intro i c hd hi hc hl h
    have hlt : i < row.length := by omega
    have hq := hr (rd row i) (by rw [rd_at hlt]; exact List.getElem_mem _)
    obtain ⟨s1, s2, s3⟩ := low_step hl hq.1 (by rw [hc]; exact hq.2)
    rw [drop_rd hlt] at h
    simp only [decr] at h
    refine Ev.succ ?_
    simp only [impl_laplace.l1]
    refine Ev.pos (by omega) (Ev.pos (by omega) (Ev.pos (by omega) (Ev.pos hq.1 (Ev.pos (by omega) ?_))))
    rw [wrap_id (x := rd c (rd row i) - 1) (by omega), wrap_nat (n := i) (by omega)]
    exact ih (i + 1) _ (by omega) (by omega) (by simp; exact hc) s3 h
theorem lapI_l0 (hg : goodG g = true) (sink : Nat) (hs : sink < g.length) : ∀ (d i : Nat) (acc : List (List Int)), g.length - i = d → i ≤ g.length → acc.length ≤ i → Ev (fun k => impl_laplace.l0 k sink acc g g.length i g) (lapFrom g sink d i acc) := by
  have h8 := (good_iff hg).1.2
  intro d
  induction d with
  | zero =>
    intro i acc hd hi ha
    refine Ev.succ ?_
    simp only [impl_laplace.l0, lapFrom]
    exact Ev.neg (by omega) (Ev.now _)
  | succ d ih =>
    intro i acc hd hi ha
    have hrow := (good_iff hg).2 (rd_L1 g (i : Int)) (by rw [rdL_at (by omega)]; exact List.getElem_mem _)
    refine Ev.succ ?_
    simp only [impl_laplace.l0, lapFrom]
    refine Ev.pos (by omega) (Ev.pos (by omega) (Ev.pos (by omega) ?_))
    by_cases h : i = sink
    · rw [if_pos h]
      refine Ev.pos (by omega) ?_
      rw [wrap_nat (by omega)]
      exact ih (i + 1) acc (by omega) (by omega) (by omega)
    · rw [if_neg h]
      refine Ev.neg (by omega) (Ev.pos (by omega) (Ev.pos (by omega) (Ev.bind0 rfl (Ev.pos (by simp; omega) ?_))))
      rw [Int.toNat_natCast, Int.toNat_natCast]
      refine lapI_l1 hg sink i hs (by omega) acc (by omega) (rd_L1 g (i : Int)) hrow.1 hrow.2 _ 0 _ rfl (by omega) (by simp) (low_start hrow.1) ?_
      exact ih (i + 1) _ (by omega) (by omega) (by simp; omega)
theorem laplace_ev (hg : goodG g = true) {sink : Int} (h0 : 0 ≤ sink) (h1 : sink < (g.length : Int)) : Ev (fun k => impl_laplace.f k g sink) (lap g sink.toNat) := by
  unfold impl_laplace.f lap
  have := lapI_l0 hg sink.toNat (by omega) g.length 0 [] (by omega) (by omega) (by simp)
  rw [Int.toNat_of_nonneg h0] at this
  exact this
theorem own_l (l : List Int) (h : l.length ≤ 1048576) : spec_l1Own.f l = some l := by
  unfold spec_l1Own.f
  show (if ([] : List Int).length + l.length < 17592186044416 then some ([] ++ l) else none) = some l
  rw [if_pos (by simp; omega)]; rfl
theorem lapS_l1 (hg : goodG g = true) (sink p : Nat) (hs : sink < g.length) (hp : p < g.length) (acc : List (List Int)) (hacc : acc.length ≤ 8) (row : List Int) (h5 : row.length ≤ 5) (hr : ∀ q ∈ row, 0 ≤ q ∧ q < (g.length : Int)) :
    ∀ (d i : Nat) (c : List Int), row.length - i = d → i ≤ row.length → c.length = g.length → lowB i c → Ev (fun k => spec_trLaplace.l0 k sink (acc ++ [(decr (row.drop i) c).eraseIdx sink]) g g.length ((p + 1 : Nat) : Int) g) r → Ev (fun k => spec_trLaplace.l1 k sink acc c g g.length p row row.length i g) r := by
  have h8 := (good_iff hg).1.2
  intro d
  induction d with
  | zero =>
    intro i c hd hi hc hl h
    rw [List.drop_of_length_le (by omega)] at h
    simp only [decr] at h
    rw [List.eraseIdx_eq_take_drop_succ] at h
    refine Ev.succ ?_
    simp only [spec_trLaplace.l1]
    rw [wrap_nat (n := sink) (by omega), Int.toNat_natCast, Int.toNat_natCast]
    refine Ev.neg (by omega) (Ev.pos (by omega) (Ev.pos (by omega) (Ev.bind0 (own_l _ (by simp; omega)) (Ev.pos (by omega) (Ev.pos (by omega) (Ev.bind0 rfl (Ev.pos (by simp; omega) (Ev.pos (by omega) ?_))))))))
    rw [wrap_nat (n := p) (by omega)]
    exact h
  | succ d ih =>
    intro i c hd hi hc hl h
    have hlt : i < row.length := by omega
    have hq := hr (rd row i) (by rw [rd_at hlt]; exact List.getElem_mem _)
    obtain ⟨s1, s2, s3⟩ := low_step hl hq.1 (by rw [hc]; exact hq.2)
    rw [drop_rd hlt] at h
    simp only [decr] at h
    refine Ev.succ ?_
    simp only [spec_trLaplace.l1]
    refine Ev.pos (by omega) (Ev.pos (by omega) (Ev.pos (by omega) (Ev.pos hq.1 (Ev.pos (by omega) ?_))))
    rw [wrap_id (x := rd c (rd row i) - 1) (by omega), wrap_nat (n := i) (by omega)]
    exact ih (i + 1) _ (by omega) (by omega) (by simp; exact hc) s3 h
theorem lapS_l0 (hg : goodG g = true) (sink : Nat) (hs : sink < g.length) : ∀ (d i : Nat) (acc : List (List Int)), g.length - i = d → i ≤ g.length → acc.length ≤ i → Ev (fun k => spec_trLaplace.l0 k sink acc g g.length i g) (lapFrom g sink d i acc) := by
  have h8 := (good_iff hg).1.2
  intro d
  induction d with
  | zero =>
    intro i acc hd hi ha
    refine Ev.succ ?_
    simp only [spec_trLaplace.l0, lapFrom]
    exact Ev.neg (by omega) (Ev.now _)
  | succ d ih =>
    intro i acc hd hi ha
    have hrow := (good_iff hg).2 (rd_L1 g (i : Int)) (by rw [rdL_at (by omega)]; exact List.getElem_mem _)
    refine Ev.succ ?_
    simp only [spec_trLaplace.l0, lapFrom]
    refine Ev.pos (by omega) (Ev.pos (by omega) (Ev.pos (by omega) ?_))
    by_cases h : i = sink
    · rw [if_pos h]
      refine Ev.pos (by omega) ?_
      rw [wrap_nat (by omega)]
      exact ih (i + 1) acc (by omega) (by omega) (by omega)
    · rw [if_neg h]
      refine Ev.neg (by omega) (Ev.pos (by omega) (Ev.pos (by omega) (Ev.bind0 rfl (Ev.pos (by simp; omega) ?_))))
      rw [Int.toNat_natCast, Int.toNat_natCast]
      refine lapS_l1 hg sink i hs (by omega) acc (by omega) (rd_L1 g (i : Int)) hrow.1 hrow.2 _ 0 _ rfl (by omega) (by simp) (low_start hrow.1) ?_
      exact ih (i + 1) _ (by omega) (by omega) (by simp; omega)
theorem trLaplace_ev (hg : goodG g = true) {sink : Int} (h0 : 0 ≤ sink) (h1 : sink < (g.length : Int)) : Ev (fun k => spec_trLaplace.f k g sink) (lap g sink.toNat) := by
  unfold spec_trLaplace.f lap
  have := lapS_l0 hg sink.toNat (by omega) g.length 0 [] (by omega) (by omega) (by simp)
  rw [Int.toNat_of_nonneg h0] at this
  exact this
end
end Go.Proofs.Ythbigmlpgoobiaa.M
namespace Go.Proofs.Ythbigmlpgoobiaa.M
open Go.RowKit Go.Proofs.Ythbigmlpgoobiaa.P Go.Proofs.Ythbigmlpgoobiaa.In Go.Proofs.YthbigmlpgoobiaaW.PrintWords Go.Proofs.YthbigmlpgoobiaaW.PrintLast
set_option linter.unusedVariables false
set_option linter.unusedSimpArgs false
open DetKit
def cutc (c : Nat) (row : List Int) : List Int := row.take c ++ row.drop (c + 1)
theorem cutc_len {c : Nat} {row : List Int} (h : c < row.length) : (cutc c row).length = row.length - 1 := by unfold cutc; simp; omega
theorem rd_cutc {c j : Nat} {row : List Int} (hc : c < row.length) (hj : j + 1 < row.length) : rd (cutc c row) (j : Int) = rd row ((skip c j : Nat) : Int) := by
  rw [rd_at (by rw [cutc_len hc]; omega), rd_at (by unfold skip; split <;> omega)]
  unfold cutc skip
  by_cases h : j < c
  · rw [List.getElem_append_left (by simp; omega)]; simp [h]
  · rw [List.getElem_append_right (by simp; omega)]
    simp only [List.getElem_drop, List.length_take, if_neg h]
    congr 1; omega
def minr (m : List (List Int)) (c : Nat) : List (List Int) := (m.drop 1).map (cutc c)
theorem minr_sq {n c : Nat} {m : List (List Int)} (h : Sq (n + 1) m) (hc : c < n + 1) : Sq n (minr m c) := by
  have hl := h.len
  refine ⟨by unfold minr; simp; omega, fun row hr => ?_⟩
  obtain ⟨r, hr1, rfl⟩ := List.mem_map.1 hr
  have h2 := h.rows r (List.mem_of_mem_drop hr1)
  refine ⟨by rw [cutc_len (by omega)]; omega, fun x hx => ?_⟩
  unfold cutc at hx
  rcases List.mem_append.1 hx with h3 | h3
  · exact h2.2 x (List.mem_of_mem_take h3)
  · exact h2.2 x (List.mem_of_mem_drop h3)
theorem minr_mat {n c : Nat} {m : List (List Int)} (h : Sq (n + 1) m) (hc : c < n + 1) (i j : Nat) (hi : i < n) (hj : j < n) : mat (minr m c) i j = mat m (i + 1) (skip c j) := by
  have hl := h.len
  have hm : (minr m c).length = n := (minr_sq h hc).len
  have e : rd_L1 (minr m c) (i : Int) = cutc c (rd_L1 m ((i + 1 : Nat) : Int)) := by
    rw [rdL_at (by omega), rdL_at (by omega)]
    unfold minr
    simp only [List.getElem_map, List.getElem_drop]
    congr 2; omega
  have hr := h.row (i := i + 1) (by omega)
  unfold mat
  rw [e, rd_cutc (by omega) (by omega)]
def dterm (n : Nat) (m : List (List Int)) (c : Nat) : Int := sg c * mat m 0 c * D n (fun i j => mat m (i + 1) (skip c j))
theorem dterm_bound {n : Nat} (hn : n ≤ 6) {m : List (List Int)} (h : Sq (n + 1) m) {c : Nat} (hc : c < n + 1) : -7200000000 ≤ dterm n m c ∧ dterm n m c ≤ 7200000000 := by
  have hb := D_bound n (fun i j => mat m (i + 1) (skip c j)) (fun i j hi hj => h.bnd _ _ (by omega) (skip_lt hj))
  have h6 := bd_le6 hn
  have := term_bound (b := 720000000) (sg_or c) (h.bnd 0 c (by omega) hc) (d := D n (fun i j => mat m (i + 1) (skip c j))) (by omega)
  unfold dterm; omega
theorem own_s (l : List Int) (h : l.length ≤ 1048576) : spec_l1Own.f l = some l := by
  unfold spec_l1Own.f
  show (if ([] : List Int).length + l.length < 17592186044416 then some ([] ++ l) else none) = some l
  rw [if_pos (by simp; omega)]; rfl
theorem trDet_l1 (x0 : List (List Int)) (x3 x4 x6 : Int) (c : Nat) (row0 t : List (List Int)) (x15 : List Int) (x16 x17 : Int) (r : Int) (ht : t.length ≤ 8) (hc : c ≤ 7) (hrow : ∀ row ∈ t, c < row.length ∧ row.length ≤ 8) :
    ∀ (d i : Nat) (acc : List (List Int)), t.length - i = d → i ≤ t.length → acc.length = i → Ev (fun k => (spec_trDet.f k (acc ++ (t.drop i).map (cutc c))).bind fun t684 => spec_trDet.l0 k x0 (wrap64 (x3 + (wrap64 ((wrap64 (x4 * x6)) * t684)))) (wrap64 (-x4)) x15 x16 (wrap64 (x17 + 1))) r →
    Ev (fun k => spec_trDet.l1 k x0 x3 x4 c x6 acc x15 x16 x17 t t.length i) r := by
  intro d
  induction d with
  | zero =>
    intro i acc hd hi ha h
    refine Ev.succ ?_
    simp only [spec_trDet.l1]
    refine Ev.neg (by omega) ?_
    rw [List.drop_of_length_le (by omega)] at h
    simpa using h
  | succ d ih =>
    intro i acc hd hi ha h
    have hlt : i < t.length := by omega
    have e := rdL_at hlt
    have hr := hrow (rd_L1 t i) (by rw [e]; exact List.getElem_mem _)
    refine Ev.succ ?_
    simp only [spec_trDet.l1]
    rw [wrap_nat (n := c) (by omega), Int.toNat_natCast, Int.toNat_natCast]
    refine Ev.pos (by omega) (Ev.pos (by omega) (Ev.pos (by omega) (Ev.pos (by omega) (Ev.pos (by omega) (Ev.bind0 (own_s _ (by simp; omega)) (Ev.pos (by omega) (Ev.pos (by omega) (Ev.pos (by simp; omega) (Ev.pos (by omega) ?_)))))))))
    rw [wrap_nat (n := i) (by omega)]
    refine ih (i + 1) _ (by omega) (by omega) (by simp; omega) ?_
    rw [List.drop_eq_getElem_cons hlt, List.map_cons, ← e] at h
    rw [List.append_assoc]
    exact h
theorem trDet_ev : ∀ (n : Nat) (m : List (List Int)), n ≤ 7 → Sq n m → Ev (fun k => spec_trDet.f k m) (D n (mat m)) := by
  intro n
  induction n with
  | zero =>
    intro m hn h
    have hl := h.len
    refine Ev.succ ?_
    simp only [spec_trDet.f]
    exact Ev.pos (by omega) (Ev.now _)
  | succ n ih =>
    intro m hn h
    have hl := h.len
    have hr0 : (rd_L1 m (0 : Int)).length = n + 1 := h.row (i := 0) (by omega)
    refine Ev.succ ?_
    simp only [spec_trDet.f]
    refine Ev.neg (by omega) (Ev.pos (by omega) ?_)
    rw [hr0]
    have key : ∀ (d c : Nat), n + 1 - c = d → c ≤ n + 1 → Ev (fun k => spec_trDet.l0 k m (sm c (dterm n m)) (sg c) (rd_L1 m (0 : Int)) ((n + 1 : Nat) : Int) c) (D (n + 1) (mat m)) := by
      intro d
      induction d with
      | zero =>
        intro c hd hc
        have : c = n + 1 := by omega
        subst this
        refine Ev.succ ?_
        simp only [spec_trDet.l0]
        exact Ev.neg (by omega) ((Ev.now _).val rfl)
      | succ d ihd =>
        intro c hd hc
        have hcl : c < n + 1 := by omega
        have hx : rd (rd_L1 m (0 : Int)) (c : Int) = mat m 0 c := rfl
        have hb := dterm_bound (by omega) h hcl
        have hsb := sm_bound c (dterm n m) 7200000000 (fun i hi => dterm_bound (by omega) h (by omega))
        have hs : wrap64 (- sg c) = sg (c + 1) := by
          rw [sg_succ]; exact wrap_id (by rcases sg_or c with e | e <;> rw [e] <;> omega)
        have hnext := ihd (c + 1) (by omega) (by omega)
        refine Ev.succ ?_
        simp only [spec_trDet.l0]
        rw [hx, hs, wrap_nat (n := c) (by omega)]
        refine Ev.pos (by omega) (Ev.pos (by omega) (Ev.pos (by omega) ?_))
        by_cases hz : mat m 0 c = 0
        · refine Ev.pos hz ?_
          have : sm (c + 1) (dterm n m) = sm c (dterm n m) := by
            simp only [sm, dterm, hz]; simp
          rw [this] at hnext
          exact hnext
        · refine Ev.neg hz (Ev.pos (by omega) (Ev.bind0 rfl ?_))
          have hrow : ∀ row ∈ m.drop 1, c < row.length ∧ row.length ≤ 8 := fun row hr => by
            have := (h.rows row (List.mem_of_mem_drop hr)).1; omega
          refine trDet_l1 m _ _ _ c m (m.drop 1) _ _ _ _ (by simp; omega) (by omega) hrow _ 0 [] rfl (by omega) rfl ?_
          have hmin := ih (minr m c) (by omega) (minr_sq h hcl)
          have hD : D n (mat (minr m c)) = D n (fun i j => mat m (i + 1) (skip c j)) := D_congr (fun i hi j hj => minr_mat h hcl i j hi hj)
          rw [hD] at hmin
          refine Ev.bind (a := D n (fun i j => mat m (i + 1) (skip c j))) (by simpa [minr] using hmin) ?_
          have hx10 := h.bnd 0 c (by omega) hcl
          have hsx : -10 ≤ sg c * mat m 0 c ∧ sg c * mat m 0 c ≤ 10 := by
            rcases sg_or c with e | e <;> rw [e] <;> omega
          have hdt : wrap64 (wrap64 (sg c * mat m 0 c) * D n (fun i j => mat m (i + 1) (skip c j))) = dterm n m c := by
            rw [wrap_id (x := sg c * mat m 0 c) (by omega)]
            show wrap64 (dterm n m c) = _
            exact wrap_id (by omega)
          rw [hdt, wrap_id (x := sm c (dterm n m) + dterm n m c) (by omega), hs, wrap_nat (n := c) (by omega)]
          exact hnext
    exact key (n + 1) 0 (by omega) (by omega)
end Go.Proofs.Ythbigmlpgoobiaa.M
namespace Go.Proofs.Ythbigmlpgoobiaa.M
open Go.RowKit Go.Proofs.Ythbigmlpgoobiaa.P Go.Proofs.Ythbigmlpgoobiaa.In Go.Proofs.YthbigmlpgoobiaaW.PrintWords Go.Proofs.YthbigmlpgoobiaaW.PrintLast
set_option linter.unusedVariables false
set_option linter.unusedSimpArgs false
open DetKit
structure Rect (n : Nat) (a : List (List Int)) : Prop where
  len : a.length = n
  rows : ∀ row ∈ a, row.length = n
theorem Rect.row {n : Nat} {a : List (List Int)} (h : Rect n a) {i : Nat} (hi : i < n) : (rd_L1 a (i : Int)).length = n := by
  have hl := h.len
  exact h.rows (rd_L1 a (i : Int)) (by rw [rdL_at (by omega)]; exact List.getElem_mem _)
theorem rdL_set {a : List (List Int)} {i j : Nat} (hi : i < a.length) (row : List Int) : rd_L1 (a.set i row) (j : Int) = if j = i then row else rd_L1 a (j : Int) := by
  unfold rd_L1
  rw [Int.toNat_natCast]
  by_cases h : j = i
  · subst h; rw [if_pos rfl]; simp [List.getD, hi]
  · rw [if_neg h]; simp only [List.getD, List.getElem?_set_ne (fun e => h e.symm)]
theorem rdn_set {l : List Int} {i j : Nat} (hi : i < l.length) (v : Int) : rd (l.set i v) (j : Int) = if j = i then v else rd l (j : Int) := by
  unfold rd
  rw [Int.toNat_natCast]
  by_cases h : j = i
  · subst h; rw [if_pos rfl]; simp [List.getD, hi]
  · rw [if_neg h]; simp only [List.getD, List.getElem?_set_ne (fun e => h e.symm)]
theorem mat_set {n : Nat} {a : List (List Int)} (h : Rect n a) {i j : Nat} (hi : i < n) (hj : j < n) (v : Int) (p q : Nat) : mat (a.set i ((rd_L1 a (i : Int)).set j v)) p q = if p = i ∧ q = j then v else mat a p q := by
  have hl := h.len
  have hr := h.row hi
  unfold mat
  rw [rdL_set (by omega)]
  by_cases hp : p = i
  · rw [if_pos hp, rdn_set (by omega)]
    by_cases hq : q = j
    · rw [if_pos hq, if_pos ⟨hp, hq⟩]
    · rw [if_neg hq, if_neg (fun e => hq e.2), hp]
  · rw [if_neg hp, if_neg (fun e => hp e.1)]
theorem rect_set {n : Nat} {a : List (List Int)} (h : Rect n a) {i : Nat} {row : List Int} (hr : row.length = n) : Rect n (a.set i row) :=
  ⟨by simp; exact h.len, fun x hx => by
    rcases List.mem_or_eq_of_mem_set hx with h2 | h2
    · exact h.rows x h2
    · rw [h2]; exact hr⟩
theorem getD_rd (a : List (List Int)) (i : Nat) : a.getD i [] = rd_L1 a (i : Int) := by unfold rd_L1; rw [Int.toNat_natCast]
theorem rdL_swp {a : List (List Int)} {p q : Nat} (hp : p < a.length) (hq : q < a.length) (i : Nat) : rd_L1 (swp a [] p q) (i : Int) = if i = q then rd_L1 a (p : Int) else if i = p then rd_L1 a (q : Int) else rd_L1 a (i : Int) := by
  unfold swp
  rw [rdL_set (by simp; exact hq), rdL_set hp, getD_rd, getD_rd]
theorem rect_swp {n : Nat} {a : List (List Int)} (h : Rect n a) {p q : Nat} (hp : p < n) (hq : q < n) : Rect n (swp a [] p q) := by
  unfold swp
  rw [getD_rd, getD_rd]
  exact rect_set (rect_set h (h.row hq)) (h.row hp)
/-- Behind the elements up to (i, j), in the rows and columns behind kk: what stands there is of the next round. -/
def Upd (n kk : Nat) (A : Nat → Nat → Int) (a0 a : List (List Int)) (i j : Nat) : Prop :=
  ∀ p q, p < n → q < n → mat a p q = if kk < p ∧ kk < q ∧ (p < i ∨ (p = i ∧ q < j)) then B A (kk + 1) p q else mat a0 p q
theorem B_bound {n : Nat} {A : Nat → Nat → Int} (hA : ∀ i j, i < n → j < n → -10 ≤ A i j ∧ A i j ≤ 10) {k i j : Nat} (hk : k ≤ n) (hi : i < n) (hj : j < n) : -(bd (k + 1)) ≤ B A k i j ∧ B A k i j ≤ bd (k + 1) := by
  unfold B
  exact D_bound (k + 1) _ (fun a b ha hb => hA _ _ (by split <;> omega) (by split <;> omega))
section
variable {n kk : Nat} {A : Nat → Nat → Int} {a0 : List (List Int)} {s r : Int}
theorem bar_l4 (hn : n ≤ 7) (hA : ∀ i j, i < n → j < n → -10 ≤ A i j ∧ A i j ≤ 10) (hp : D kk A ≠ 0) (ha0 : ∀ i j, kk ≤ i → kk ≤ j → i < n → j < n → mat a0 i j = B A kk i j) {i : Nat} (hi : kk < i) (hin : i < n)
    (hnext : ∀ a, Rect n a → Upd n kk A a0 a (i + 1) (kk + 1) → Ev (fun k => impl_determinant.l3 k n s (D kk A) a kk ((i + 1 : Nat) : Int) n kk) r) :
    ∀ (d j : Nat) (a : List (List Int)), n - j = d → j ≤ n → kk < j → Rect n a → Upd n kk A a0 a i j → Ev (fun k => impl_determinant.l4 k n s (D kk A) a kk i j n kk) r := by
  intro d
  induction d with
  | zero =>
    intro j a hd hj hkj ha hu
    refine Ev.succ ?_
    simp only [impl_determinant.l4]
    refine Ev.neg (by omega) ?_
    rw [wrap_nat (by omega)]
    refine hnext a ha (fun p q hp hq => ?_)
    rw [hu p q hp hq]
    by_cases c : kk < p ∧ kk < q ∧ (p < i ∨ (p = i ∧ q < j))
    · rw [if_pos c, if_pos ⟨c.1, c.2.1, by omega⟩]
    · rw [if_neg c, if_neg (fun c2 => c ⟨c2.1, c2.2.1, by omega⟩)]
  | succ d ih =>
    intro j a hd hj hkj ha hu
    have hl := ha.len
    have hri := ha.row hin
    have hrk := ha.row (i := kk) (by omega)
    have hX : mat a i j = B A kk i j := by rw [hu i j hin (by omega), if_neg (by omega)]; exact ha0 i j (by omega) (by omega) hin (by omega)
    have hY : mat a kk kk = B A kk kk kk := by rw [hu kk kk (by omega) (by omega), if_neg (by omega)]; exact ha0 kk kk (by omega) (by omega) (by omega) (by omega)
    have hZ : mat a i kk = B A kk i kk := by rw [hu i kk hin (by omega), if_neg (by omega)]; exact ha0 i kk (by omega) (by omega) hin (by omega)
    have hW : mat a kk j = B A kk kk j := by rw [hu kk j (by omega) (by omega), if_neg (by omega)]; exact ha0 kk j (by omega) (by omega) (by omega) (by omega)
    have b6 := bd_le6 (n := kk + 1) (by omega)
    have b7 := bd_le7 (n := kk + 1 + 1) (by omega)
    have bX := B_bound hA (k := kk) (i := i) (j := j) (by omega) hin (by omega)
    have bY := B_bound hA (k := kk) (i := kk) (j := kk) (by omega) (by omega) (by omega)
    have bZ := B_bound hA (k := kk) (i := i) (j := kk) (by omega) hin (by omega)
    have bW := B_bound hA (k := kk) (i := kk) (j := j) (by omega) (by omega) (by omega)
    have bN := B_bound hA (k := kk + 1) (i := i) (j := j) (by omega) hin (by omega)
    have m1 := mul_bound (x := B A kk i j) (y := B A kk kk kk) (a := 720000000) (b := 720000000) (by omega) (by omega)
    have m2 := mul_bound (x := B A kk i kk) (y := B A kk kk j) (a := 720000000) (b := 720000000) (by omega) (by omega)
    have st := B_step A kk i j hp
    rw [Int.mul_comm (B A kk kk kk)] at st
    have hval : wrap64 (Int.tdiv (wrap64 (wrap64 (rd (rd_L1 a (i : Int)) (j : Int) * rd (rd_L1 a (kk : Int)) (kk : Int)) - wrap64 (rd (rd_L1 a (i : Int)) (kk : Int) * rd (rd_L1 a (kk : Int)) (j : Int)))) (D kk A)) = B A (kk + 1) i j := by
      show wrap64 (Int.tdiv (wrap64 (wrap64 (mat a i j * mat a kk kk) - wrap64 (mat a i kk * mat a kk j))) (D kk A)) = _
      rw [hX, hY, hZ, hW, wrap_id (x := B A kk i j * B A kk kk kk) (by omega), wrap_id (x := B A kk i kk * B A kk kk j) (by omega), wrap_id (x := B A kk i j * B A kk kk kk - B A kk i kk * B A kk kk j) (by omega), ← st, Int.mul_tdiv_cancel_left _ hp]
      exact wrap_id (by omega)
    refine Ev.succ ?_
    simp only [impl_determinant.l4]
    refine Ev.pos (by omega) (Ev.pos (by omega) (Ev.pos (by omega) (Ev.pos (by omega) (Ev.pos (by omega) (Ev.pos (by omega) (Ev.pos (by omega) (Ev.pos (by omega) (Ev.pos (by omega) (Ev.pos (by omega) (Ev.neg hp ?_))))))))))
    rw [hval, wrap_nat (by omega), Int.toNat_natCast, Int.toNat_natCast]
    refine ih (j + 1) _ (by omega) (by omega) (by omega) (rect_set ha (by simp; exact hri)) (fun p q hpn hqn => ?_)
    rw [mat_set ha hin (by omega)]
    by_cases c : p = i ∧ q = j
    · rw [if_pos c, if_pos (by omega), c.1, c.2]
    · rw [if_neg c, hu p q hpn hqn]
      by_cases c2 : kk < p ∧ kk < q ∧ (p < i ∨ (p = i ∧ q < j))
      · rw [if_pos c2, if_pos (by omega)]
      · rw [if_neg c2, if_neg (by omega)]
theorem bar_l3 (hn : n ≤ 7) (hkn : kk < n) (hA : ∀ i j, i < n → j < n → -10 ≤ A i j ∧ A i j ≤ 10) (hp : D kk A ≠ 0) (ha0 : ∀ i j, kk ≤ i → kk ≤ j → i < n → j < n → mat a0 i j = B A kk i j)
    (hnext : ∀ a, Rect n a → Upd n kk A a0 a n (kk + 1) → Ev (fun k => impl_determinant.l1 k n s (mat a0 kk kk) a n ((kk + 1 : Nat) : Int)) r) :
    ∀ (d i : Nat) (a : List (List Int)), n - i = d → i ≤ n → kk < i → Rect n a → Upd n kk A a0 a i (kk + 1) → Ev (fun k => impl_determinant.l3 k n s (D kk A) a kk i n kk) r := by
  intro d
  induction d with
  | zero =>
    intro i a hd hi hki ha hu
    have : i = n := by omega
    subst this
    have hl := ha.len
    have hrk := ha.row hkn
    have hY : rd (rd_L1 a (kk : Int)) (kk : Int) = mat a0 kk kk := by
      show mat a kk kk = _
      rw [hu kk kk hkn hkn, if_neg (by omega)]
    refine Ev.succ ?_
    simp only [impl_determinant.l3]
    refine Ev.neg (by omega) (Ev.pos (by omega) (Ev.pos (by omega) (Ev.pos (by omega) ?_)))
    rw [hY, wrap_nat (by omega)]
    exact hnext a ha hu
  | succ d ih =>
    intro i a hd hi hki ha hu
    refine Ev.succ ?_
    simp only [impl_determinant.l3]
    refine Ev.pos (by omega) ?_
    rw [wrap_nat (by omega)]
    exact bar_l4 hn hA hp ha0 hki (by omega) (fun a' ha' hu' => ih (i + 1) a' (by omega) (by omega) (by omega) ha' hu') (n - (kk + 1)) (kk + 1) a rfl (by omega) (by omega) ha hu
end
theorem B_swap {A : Nat → Nat → Int} {k p i j : Nat} (hp : k ≤ p) (hi : k ≤ i) : B (swapRows A p k) k i j = B A k (if i = p then k else if i = k then p else i) j := by
  unfold B
  refine D_congr (fun a ha b hb => ?_)
  by_cases hak : a < k
  · rw [if_pos hak, if_pos hak]; unfold swapRows; rw [if_neg (by omega), if_neg (by omega)]
  · rw [if_neg hak, if_neg hak]; unfold swapRows
    by_cases h1 : i = p
    · rw [if_pos h1, if_pos h1]
    · rw [if_neg h1, if_neg h1]
      by_cases h2 : i = k
      · rw [if_pos h2, if_pos h2]
      · rw [if_neg h2, if_neg h2]
theorem D_swap_low {A : Nat → Nat → Int} {k p : Nat} (hp : k ≤ p) : D k (swapRows A p k) = D k A :=
  D_congr (fun i hi j hj => by unfold swapRows; rw [if_neg (by omega), if_neg (by omega)])
theorem bar_l1 {n : Nat} (hn : n ≤ 7) (R : Int) : ∀ (d kk : Nat) (a : List (List Int)) (A : Nat → Nat → Int) (s : Int), n - kk = d → kk ≤ n → Rect n a → (∀ i j, i < n → j < n → -10 ≤ A i j ∧ A i j ≤ 10) → (s = 1 ∨ s = -1) → s * D n A = R → D kk A ≠ 0 → (∀ i j, kk ≤ i → kk ≤ j → i < n → j < n → mat a i j = B A kk i j) → Ev (fun k => impl_determinant.l1 k n s (D kk A) a n kk) R := by
  intro d
  induction d with
  | zero =>
    intro kk a A s hd hk ha hA hs hR hp hm
    have : kk = n := by omega
    subst this
    have hb := D_bound kk A (fun i j hi hj => hA i j hi hj)
    have b7 := bd_le7 hn
    refine Ev.succ ?_
    simp only [impl_determinant.l1]
    refine Ev.neg (by omega) ((Ev.now _).val ?_)
    rw [← hR]
    exact wrap_id (by rcases hs with rfl | rfl <;> omega)
  | succ d ih =>
    intro kk a A s hd hk ha hA hs hR hp hm
    have hkn : kk < n := by omega
    have hl := ha.len
    have round : ∀ (a1 : List (List Int)) (A1 : Nat → Nat → Int) (s1 : Int), Rect n a1 → (∀ i j, i < n → j < n → -10 ≤ A1 i j ∧ A1 i j ≤ 10) → (s1 = 1 ∨ s1 = -1) → s1 * D n A1 = R → D kk A1 = D kk A → (∀ i j, kk ≤ i → kk ≤ j → i < n → j < n → mat a1 i j = B A1 kk i j) → mat a1 kk kk ≠ 0 → Ev (fun k => impl_determinant.j4 k n s1 (D kk A) a1 kk n kk) R := by
      intro a1 A1 s1 h1 h2 h3 h4 h5 h6 h7
      have hd1 : D (kk + 1) A1 = mat a1 kk kk := by rw [h6 kk kk (by omega) (by omega) hkn hkn, B_diag]
      refine Ev.succ ?_
      simp only [impl_determinant.j4]
      rw [wrap_nat (by omega), ← h5]
      refine bar_l3 hn hkn h2 (by rw [h5]; exact hp) h6 (fun a' ha' hu' => ?_) (n - (kk + 1)) (kk + 1) a1 rfl (by omega) (by omega) h1 (fun p q _ _ => by rw [if_neg (by omega)])
      rw [← hd1]
      refine ih (kk + 1) a' A1 s1 (by omega) (by omega) ha' h2 h3 h4 (by rw [hd1]; exact h7) (fun i j hi hj hin hjn => ?_)
      rw [hu' i j hin hjn, if_pos ⟨by omega, by omega, .inl hin⟩]
    have pv : ∀ (e p : Nat), n - p = e → p ≤ n → kk ≤ p → (∀ q, kk ≤ q → q < p → B A kk q kk = 0) → Ev (fun k => impl_determinant.l2 k n s (D kk A) a kk p n kk) R := by
      intro e
      induction e with
      | zero =>
        intro p he hpn hkp hz
        have h0 : D n A = 0 := B_none A n kk hkn hp (fun i hi hin => hz i hi (by omega))
        refine Ev.succ ?_
        simp only [impl_determinant.l2]
        refine Ev.neg (by omega) (Ev.succ ?_)
        simp only [impl_determinant.j3]
        refine Ev.pos (by omega) ((Ev.now _).val ?_)
        rw [← hR, h0, Int.mul_zero]
      | succ e ihe =>
        intro p he hpn hkp hz
        have hrp := ha.row (i := p) (by omega)
        have hx : rd (rd_L1 a (p : Int)) (kk : Int) = B A kk p kk := hm p kk hkp (by omega) (by omega) hkn
        refine Ev.succ ?_
        simp only [impl_determinant.l2]
        refine Ev.pos (by omega) (Ev.pos (by omega) (Ev.pos (by omega) (Ev.pos (by omega) (Ev.pos (by omega) ?_))))
        rw [hx]
        by_cases h0 : B A kk p kk = 0
        · refine Ev.pos h0 ?_
          rw [wrap_nat (by omega)]
          refine ihe (p + 1) (by omega) (by omega) (by omega) (fun q h1 h2 => ?_)
          by_cases hq : q = p
          · rw [hq]; exact h0
          · exact hz q h1 (by omega)
        · refine Ev.neg h0 (Ev.succ ?_)
          simp only [impl_determinant.j3]
          refine Ev.neg (by omega) ?_
          by_cases hpk : p = kk
          · subst hpk
            refine Ev.pos rfl ?_
            exact round a A s ha hA hs hR rfl hm (by rw [hm p p (by omega) (by omega) hkn hkn]; exact h0)
          · refine Ev.neg (by omega) (Ev.bind0 (a := swp a [] p kk) ?_ ?_)
            · unfold fake_swap.f
              rw [if_pos (by omega), if_pos (by omega), if_pos (by omega), if_pos (by omega), Int.toNat_natCast, Int.toNat_natCast]
            · have hs1 : wrap64 (-s) = -s := wrap_id (by rcases hs with rfl | rfl <;> omega)
              rw [hs1]
              have hmm : ∀ i j, kk ≤ i → kk ≤ j → i < n → j < n → mat (swp a [] p kk) i j = B (swapRows A p kk) kk i j := fun i j hi hj hin hjn => by
                rw [B_swap hkp hi]
                unfold mat
                rw [rdL_swp (by omega) (by omega)]
                by_cases h1 : i = kk
                · rw [if_pos h1, if_neg (by omega), if_pos h1]; exact hm p j hkp hj (by omega) hjn
                · rw [if_neg h1]
                  by_cases h2 : i = p
                  · rw [if_pos h2, if_pos h2]; exact hm kk j (by omega) hj hkn hjn
                  · rw [if_neg h2, if_neg h2, if_neg h1]; exact hm i j hi hj hin hjn
              refine round (swp a [] p kk) (swapRows A p kk) (-s) (rect_swp ha (by omega) hkn) (fun i j hi hj => ?_) (by omega) ?_ (D_swap_low hkp) hmm ?_
              · unfold swapRows
                split
                · exact hA _ _ hkn hj
                · split
                  · exact hA _ _ (by omega) hj
                  · exact hA _ _ hi hj
              · rw [D_swap n A p kk (by omega) hkn hpk, Int.neg_mul_neg]; exact hR
              · rw [hmm kk kk (by omega) (by omega) hkn hkn, B_swap hkp (by omega), if_neg (by omega), if_pos rfl]
                exact h0
    refine Ev.succ ?_
    simp only [impl_determinant.l1]
    exact Ev.pos (by omega) (pv (n - kk) kk rfl (by omega) (by omega) (fun q h1 h2 => by omega))
theorem bar_l0 {n : Nat} (hn : n ≤ 7) (m : List (List Int)) (h : Sq n m) : ∀ (d i : Nat), n - i = d → i ≤ n → Ev (fun k => impl_determinant.l0 k n 1 1 (m.take i) m n i) (D n (mat m)) := by
  have hl := h.len
  intro d
  induction d with
  | zero =>
    intro i hd hi
    refine Ev.succ ?_
    simp only [impl_determinant.l0]
    refine Ev.neg (by omega) ?_
    rw [List.take_of_length_le (by omega)]
    have := bar_l1 hn (D n (mat m)) n 0 m (mat m) 1 (by omega) (by omega) ⟨hl, fun row hr => (h.rows row hr).1⟩ (fun i j hi hj => h.bnd i j hi hj) (.inl rfl) (by omega) (by show (1 : Int) ≠ 0; decide) (fun i j _ _ _ _ => by
      unfold B
      show _ = sm 1 _
      simp [sm, sg, D])
    exact this
  | succ d ih =>
    intro i hd hi
    have hlt : i < m.length := by omega
    have hrow := h.row (i := i) (by omega)
    refine Ev.succ ?_
    simp only [impl_determinant.l0]
    refine Ev.pos (by omega) (Ev.pos (by omega) (Ev.pos (by omega) (Ev.bind0 (a := rd_L1 m (i : Int)) (by unfold slices_Clone_int_int.f; first | rfl | rw [if_pos (by omega)]) (Ev.pos (by simp; omega) ?_))))
    rw [wrap_nat (by omega)]
    have e : m.take i ++ [rd_L1 m (i : Int)] = m.take (i + 1) := by rw [rdL_at hlt, List.take_succ_eq_append_getElem hlt]
    rw [e]
    exact ih (i + 1) (by omega) (by omega)
theorem determinant_ev {n : Nat} (hn : n ≤ 7) (m : List (List Int)) (h : Sq n m) : Ev (fun k => impl_determinant.f k m) (D n (mat m)) := by
  have hl := h.len
  unfold impl_determinant.f
  rw [hl]
  exact bar_l0 hn m h n 0 (by omega) (by omega)
end Go.Proofs.Ythbigmlpgoobiaa.M
namespace Go.Proofs.Ythbigmlpgoobiaa.Pure
open Go.RowKit Go.Proofs.Ythbigmlpgoobiaa.P Go.Proofs.Ythbigmlpgoobiaa.In Go.Proofs.Ythbigmlpgoobiaa.M Go.Proofs.YthbigmlpgoobiaaW.PrintWords Go.Proofs.YthbigmlpgoobiaaW.PrintLast
set_option linter.unusedVariables false
set_option linter.unusedSimpArgs false
open DetKit
def uterm (g : List (List Int)) (i : Nat) : Int := D (g.length - 1) (mat (lap g i)) * ((rd_L1 g (i : Int)).length : Int)
theorem uterm_bound {g : List (List Int)} (hg : goodG g = true) {i : Nat} (hi : i < g.length) : -(50400000000 * 5) ≤ uterm g i ∧ uterm g i ≤ 50400000000 * 5 := by
  have h8 := (good_iff hg).1.2
  have hsq := lap_sq hg hi
  have hb := D_bound (g.length - 1) (mat (lap g i)) (fun a b ha hb => hsq.bnd a b ha hb)
  have b7 := bd_le7 (n := g.length - 1) (by omega)
  have hrow := ((good_iff hg).2 (rd_L1 g (i : Int)) (by rw [rdL_at hi]; exact List.getElem_mem _)).1
  exact mul_bound (a := 50400000000) (b := 5) (by omega) (by omega)
theorem uI_l0 {g : List (List Int)} (hg : goodG g = true) : ∀ (d i : Nat), g.length - i = d → i ≤ g.length → Ev (fun k => impl_CountUnicycles.l0 k (sm i (uterm g)) g.length i g) (sm g.length (uterm g), true) := by
  have h8 := (good_iff hg).1.2
  intro d
  induction d with
  | zero =>
    intro i hd hi
    have : i = g.length := by omega
    subst this
    refine Ev.succ ?_
    simp only [impl_CountUnicycles.l0]
    exact Ev.neg (by omega) (Ev.now _)
  | succ d ih =>
    intro i hd hi
    have hil : i < g.length := by omega
    have hsq := lap_sq hg hil
    have hb := uterm_bound hg hil
    have hsb := sm_bound i (uterm g) (50400000000 * 5) (fun j hj => uterm_bound hg (by omega))
    have hu : Ev (fun k => impl_countUnicycles.f k g (i : Int)) (uterm g i) := by
      unfold impl_countUnicycles.f
      have e := laplace_ev hg (sink := (i : Int)) (by omega) (by omega)
      rw [Int.toNat_natCast] at e
      refine Ev.bind e (Ev.bind (determinant_ev (by omega) _ hsq) (Ev.pos (by omega) (Ev.pos (by omega) ((Ev.now _).val ?_))))
      exact wrap_id (by unfold uterm at hb; omega)
    refine Ev.succ ?_
    simp only [impl_CountUnicycles.l0]
    refine Ev.pos (by omega) (Ev.bind hu ?_)
    rw [wrap_id (x := sm i (uterm g) + uterm g i) (by omega), wrap_nat (by omega)]
    exact ih (i + 1) (by omega) (by omega)
theorem uS_l0 {g : List (List Int)} (hg : goodG g = true) : ∀ (d i : Nat), g.length - i = d → i ≤ g.length → Ev (fun k => spec_CountUnicycles.l0 k (sm i (uterm g)) g g.length i g) (sm g.length (uterm g), true) := by
  have h8 := (good_iff hg).1.2
  intro d
  induction d with
  | zero =>
    intro i hd hi
    have : i = g.length := by omega
    subst this
    refine Ev.succ ?_
    simp only [spec_CountUnicycles.l0]
    exact Ev.neg (by omega) (Ev.now _)
  | succ d ih =>
    intro i hd hi
    have hil : i < g.length := by omega
    have hsq := lap_sq hg hil
    have hb := uterm_bound hg hil
    have hsb := sm_bound i (uterm g) (50400000000 * 5) (fun j hj => uterm_bound hg (by omega))
    have hnext := ih (i + 1) (by omega) (by omega)
    refine Ev.succ ?_
    simp only [spec_CountUnicycles.l0]
    refine Ev.pos (by omega) (Ev.pos (by omega) (Ev.pos (by omega) ?_))
    rw [wrap_nat (by omega)]
    by_cases hz : ((rd_L1 g (i : Int)).length : Int) > 0
    · have e := trLaplace_ev hg (sink := (i : Int)) (by omega) (by omega)
      rw [Int.toNat_natCast] at e
      refine Ev.pos hz (Ev.bind e (Ev.bind (trDet_ev _ _ (by omega) hsq) ?_))
      rw [show D (g.length - 1) (mat (lap g i)) * ((rd_L1 g (i : Int)).length : Int) = uterm g i from rfl, wrap_id (x := uterm g i) (by omega), wrap_id (x := sm i (uterm g) + uterm g i) (by omega)]
      exact hnext
    · refine Ev.neg hz ?_
      have h0 : ((rd_L1 g (i : Int)).length : Int) = 0 := by omega
      have : sm (i + 1) (uterm g) = sm i (uterm g) := by
        simp only [sm, uterm, h0, Int.mul_zero, Int.add_zero]
      rw [this] at hnext
      exact hnext
theorem FnExactCountUnicycles (l : List (List Int)) (hl : okSS l) : ∃ k, laws_FnExactCountUnicycles.f k l = some true := by
  refine Ev.rounds (g := fun k => laws_FnExactCountUnicycles.f k l) ?_
  unfold laws_FnExactCountUnicycles.f
  obtain ⟨r, hr, hr1, hs⟩ := szGraph l hl
  refine Ev.bind hr ?_
  by_cases h : r < 0
  · exact Ev.pos h (Ev.now _)
  · have sm' := hs (by omega)
    obtain ⟨v, hS, hI⟩ : ∃ v : Int × Bool, Ev (fun k => spec_CountUnicycles.f k l) v ∧ Ev (fun k => impl_CountUnicycles.f k l) v := by
      by_cases hg : goodG l = true
      · refine ⟨(sm l.length (uterm l), true), ?_, ?_⟩
        · unfold spec_CountUnicycles.f
          exact Ev.bind (grGood l hl) (Ev.pos hg (uS_l0 hg l.length 0 (by omega) (by omega)))
        · unfold impl_CountUnicycles.f
          exact Ev.bind0 (show impl_isGraph.f l = some (goodG l) from rfl) (Ev.pos hg (uI_l0 hg l.length 0 (by omega) (by omega)))
      · refine ⟨(0, false), ?_, ?_⟩
        · unfold spec_CountUnicycles.f
          exact Ev.bind (grGood l hl) (Ev.neg hg (Ev.now _))
        · unfold impl_CountUnicycles.f
          exact Ev.bind0 (show impl_isGraph.f l = some (goodG l) from rfl) (Ev.neg hg (Ev.now _))
    refine Ev.neg h (Ev.bind (toGraph l sm') (Ev.bind hS (Ev.bind (toGraph l sm') (Ev.bind hI (Ev.pos rfl ?_)))))
    refine Ev.succ ?_
    simp only [laws_FnExactCountUnicycles.j0]
    exact Ev.neg (by simp) (Ev.bind (toGraph l sm') (Ev.bind (small_eq l sm') (Ev.pos rfl (Ev.now _))))
end Go.Proofs.Ythbigmlpgoobiaa.Pure
namespace Go.Proofs.Ythbigmlpgoobiaa.fnExactCountUnicycles
open Go.ChangeShapes Go.WideShapes Go.ChangeAt Go.RowKit
open Go.ChangeMaps (open_string shut_string)
open Go.Proofs.Ythbigmlpgoobiaa.In Go.Proofs.Ythbigmlpgoobiaa.P
set_option linter.unusedVariables false
theorem own : ownKnob Try.prog.godebug = none := by kernel_rfl
theorem laidOut : laidOutB Try.prog = true := by kernel_rfl
set_option maxRecDepth 100000 in
theorem lifted (os : Os) (started : os.Started) (H : Type) (enc : TypeId × Value → H) :
    ReturnsInHanded {} Try.checked os 6 .any (Rows.fnExactCountUnicyclesSpec.pre6 enc Try.prog Try.f6 Rows.fnExactCountUnicyclesRow.domain false) (Rows.fnExactCountUnicyclesSpec.post enc Try.prog Try.f6 false true false false) := by
  refine returnsInHanded_of_change_sized (C := Try.checked) own started (by kernel_rfl) Try.func6
    (ChangeSpec.witness6 (enc := enc) (C := Try.checked) false ⟨#[], #[.agg #[.slice none 0 0]], []⟩ 8 (by kernel_rfl) (by kernel_rfl) (by kernel_rfl) (by kernel_rfl)) ?_
  intro W base args ds gs before hval0 hW hcnd hsz0 _
  have hsz : (DataW.weightsEach Try.prog (Try.f6.params.toList ++ Rows.fnExactCountUnicyclesSpec.plain.varTypes Try.prog) (ds ++ gs)).all (· ≤ reachBytes) = true := hsz0
  have hval : ∀ (j : Nat) t v, Try.f6.params[j]? = some t → args[j]? = some v → Value.okWide Try.prog W .any base t v := hval0
  have hW' := hW
  obtain ⟨p, q, hA0, hV, rfl, hfz, hnd⟩ := hW
  have hA : DataW.TrodAll enc Try.prog W 0 (fun _ => true) true Try.f6.params.toList args.toList ds p := hA0
  rw [Try.params6] at hA hval hsz
  obtain ⟨v0, vs0, d0, ds0, p0, q0, hargs, rfl, rfl, h0, r0⟩ := trodAll_cons hA
  obtain ⟨rfl, rfl, rfl⟩ := trodAll_nil r0
  obtain rfl : args = #[v0] := by cases args; simp_all
  obtain ⟨rfl, rfl⟩ := trodVars_none hV
  have k0 := h0
  have lt0 : ∀ x ∈ p0, x.block < W.heap.size := by obtain ⟨m, hm⟩ := k0; exact DataW.trod_lt m _ _ _ hm
  obtain ⟨A0, l0, cap0, rfl, hl0, hc0, hw0⟩ := in_graph (q := 3) Try.underlying30 (by kernel_rfl) (by kernel_rfl) rfl Try.underlying22 Try.underlying43 Try.underlying3 (by kernel_rfl) (by kernel_rfl) (hval 0 30 v0 rfl rfl) h0
  clear hA0 hval0 hsz0 hsz
  obtain ⟨k, h⟩ := Pure.FnExactCountUnicycles l0 (okSS_wf hc0 hw0)
  refine (laws_FnExactCountUnicycles.calls k _ _ l0 true W hc0 hl0 h).mono fun e W' ⟨he, bel0⟩ => ?_
  have bel : Below W.heap.size W W' := bel0
  subst he
  exact ⟨_, rfl, _, _, _, [], _, [], hW', trodAll_mk1 (shut_bool Try.underlying4 _), (trodAll_cons_mk (Below.trod laidOut (by kernel_rfl) (of_decide_eq_true (by kernel_rfl)) k0 bel lt0) trodAll_mk0), rfl, bel.frame _, fun h => by cases h⟩
theorem over : Rows.fnExactCountUnicyclesRow.holds Try.pinned (OpenSpec.ofChange Rows.fnExactCountUnicyclesSpec) :=
  OpenClaim.holds_of_wide 6 Try.f6 rfl rfl rfl rfl rfl rfl rfl ⟨rfl, rfl, rfl, rfl, rfl⟩ rfl rfl rfl rfl rfl (by kernel_rfl) Try.func6 (by kernel_rfl)
    (of_decide_eq_true (by kernel_rfl)) (by unfold Func.isWrapper; first | (rw [if_pos (by decide +kernel)]; kernel_rfl) | (rw [if_neg (by decide +kernel)]; exact ⟨rfl, rfl⟩))
    (fun os started H enc _ => lifted os started H enc)
theorem proved : Rows.FnExactCountUnicyclesSaid := over
end Go.Proofs.Ythbigmlpgoobiaa.fnExactCountUnicycles
namespace Go.Proofs.Ythbigmlpgoobiaa
/-- The law, under a short name, for the claim. -/
theorem fnExactCountUnicycles_holds : Rows.FnExactCountUnicyclesSaid := fnExactCountUnicycles.proved
#print axioms fnExactCountUnicycles_holds
end Go.Proofs.Ythbigmlpgoobiaa
