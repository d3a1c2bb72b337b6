/- Plain mathematics: the determinant of a matrix of whole numbers by its first row, its laws, and the identity by which an elimination without fractions goes. -/
namespace Go.Proofs.Ythbigmlpgoobiaa.M

set_option linter.unusedVariables false
set_option linter.unusedSimpArgs false
namespace DetKit

/-- The j-th index where k is left out. -/
def skip (k j : Nat) : Nat := if j < k then j else j + 1
/-- f 0 + .. + f (n - 1). -/
def sm : Nat → (Nat → Int) → Int
  | 0, _ => 0
  | n + 1, f => sm n f + f n
def sg (k : Nat) : Int := if k % 2 = 0 then 1 else -1
def D : Nat → (Nat → Nat → Int) → Int
  | 0, _ => 1
  | n + 1, A => sm (n + 1) (fun k => sg k * A 0 k * D n (fun i j => A (i + 1) (skip k j)))

theorem sm_congr {n : Nat} {f g : Nat → Int} (h : ∀ i, i < n → f i = g i) : sm n f = sm n g := by
  induction n with
  | zero => rfl
  | succ n ih => simp only [sm]; rw [ih (fun i hi => h i (by omega)), h n (by omega)]
theorem sm_zero {n : Nat} {f : Nat → Int} (h : ∀ i, i < n → f i = 0) : sm n f = 0 := by
  induction n with
  | zero => rfl
  | succ n ih => simp only [sm]; rw [ih (fun i hi => h i (by omega)), h n (by omega)]; rfl
theorem sm_add (n : Nat) (f g : Nat → Int) : sm n (fun i => f i + g i) = sm n f + sm n g := by
  induction n with
  | zero => rfl
  | succ n ih => simp only [sm]; rw [ih]; omega
theorem sm_mul (n : Nat) (c : Int) (f : Nat → Int) : sm n (fun i => c * f i) = c * sm n f := by
  induction n with
  | zero => simp [sm]
  | succ n ih => simp only [sm]; rw [ih, Int.mul_add]
theorem sm_neg (n : Nat) (f : Nat → Int) : sm n (fun i => - f i) = - sm n f := by
  induction n with
  | zero => simp [sm]
  | succ n ih => simp only [sm]; rw [ih]; omega
theorem sm_head (n : Nat) (f : Nat → Int) : sm (n + 1) f = f 0 + sm n (fun i => f (i + 1)) := by
  induction n with
  | zero => simp [sm]
  | succ n ih => rw [show sm (n + 1 + 1) f = sm (n + 1) f + f (n + 1) from rfl, ih]; simp only [sm]; omega
theorem sm_swap (m n : Nat) (f : Nat → Nat → Int) : sm m (fun i => sm n (fun j => f i j)) = sm n (fun j => sm m (fun i => f i j)) := by
  induction m with
  | zero => simp only [sm]; exact (sm_zero (fun _ _ => rfl)).symm
  | succ m ih => simp only [sm]; rw [ih, ← sm_add]
theorem sm_one {n r : Nat} {f : Nat → Int} (hr : r < n) (h : ∀ i, i < n → i ≠ r → f i = 0) : sm n f = f r := by
  induction n with
  | zero => omega
  | succ n ih =>
    simp only [sm]
    by_cases e : r = n
    · subst e; rw [sm_zero (fun i hi => h i (by omega) (by omega))]; omega
    · rw [ih (by omega) (fun i hi hn => h i (by omega) hn), h n (by omega) (by omega)]; omega
theorem sm_two {n r : Nat} {f : Nat → Int} (hr : r + 1 < n) (h : ∀ i, i < n → i ≠ r → i ≠ r + 1 → f i = 0) : sm n f = f r + f (r + 1) := by
  induction n with
  | zero => omega
  | succ n ih =>
    simp only [sm]
    by_cases e : r + 1 = n
    · subst e; rw [sm_one (r := r) (by omega) (fun i hi hn => h i (by omega) hn (by omega))]
    · rw [ih (by omega) (fun i hi hn hm => h i (by omega) hn hm), h n (by omega) (by omega) (by omega)]; omega

theorem sg_succ (k : Nat) : sg (k + 1) = - sg k := by unfold sg; split <;> split <;> omega
theorem sg_sq (k : Nat) : sg k * sg k = 1 := by unfold sg; split <;> rfl
theorem skip_ne (k j : Nat) : skip k j ≠ k := by unfold skip; split <;> omega
theorem skip_lt {k j n : Nat} (h : j < n) : skip k j < n + 1 := by unfold skip; split <;> omega
theorem skip_zero (j : Nat) : skip 0 j = j + 1 := by simp [skip]
theorem skip_succ (k j : Nat) : skip (k + 1) (j + 1) = skip k j + 1 := by unfold skip; split <;> split <;> omega

theorem D_congr {n : Nat} {A B : Nat → Nat → Int} (h : ∀ i, i < n → ∀ j, j < n → A i j = B i j) : D n A = D n B := by
  induction n generalizing A B with
  | zero => rfl
  | succ n ih =>
    simp only [D]
    refine sm_congr (fun k hk => ?_)
    rw [h 0 (by omega) k hk, ih (fun i hi j hj => h (i + 1) (by omega) _ (skip_lt hj))]

/-- By the first column. -/
theorem D_col (n : Nat) (A : Nat → Nat → Int) : D (n + 1) A = sm (n + 1) (fun i => sg i * A i 0 * D n (fun a b => A (skip i a) (b + 1))) := by
  induction n generalizing A with
  | zero => simp [D, sm]
  | succ n ih =>
    rw [show D (n + 1 + 1) A = sm (n + 1 + 1) (fun k => sg k * A 0 k * D (n + 1) (fun i j => A (i + 1) (skip k j))) from rfl]
    rw [sm_head (n + 1) (fun k => sg k * A 0 k * D (n + 1) (fun i j => A (i + 1) (skip k j))), sm_head (n + 1) (fun i => sg i * A i 0 * D (n + 1) (fun a b => A (skip i a) (b + 1)))]
    have e0 : D (n + 1) (fun i j => A (i + 1) (skip 0 j)) = D (n + 1) (fun a b => A (skip 0 a) (b + 1)) := D_congr (fun a _ b _ => by rw [skip_zero, skip_zero])
    rw [e0]
    congr 1
    have e1 : ∀ k, sg (k + 1) * A 0 (k + 1) * D (n + 1) (fun i j => A (i + 1) (skip (k + 1) j)) = sm (n + 1) (fun i => - (sg k * sg i * A 0 (k + 1) * A (i + 1) 0 * D n (fun a b => A (skip i a + 1) (skip k b + 1)))) := by
      intro k
      rw [ih, ← sm_mul]
      refine sm_congr (fun i _ => ?_)
      have : D n (fun a b => A (skip i a + 1) (skip (k + 1) (b + 1))) = D n (fun a b => A (skip i a + 1) (skip k b + 1)) := D_congr (fun a _ b _ => by rw [skip_succ])
      rw [this, sg_succ, show skip (k + 1) 0 = 0 from by simp [skip]]
      simp only [Int.neg_mul, Int.mul_neg, Int.mul_assoc, Int.mul_comm, Int.mul_left_comm]
    have e2 : ∀ i, sg (i + 1) * A (i + 1) 0 * D (n + 1) (fun a b => A (skip (i + 1) a) (b + 1)) = sm (n + 1) (fun k => - (sg k * sg i * A 0 (k + 1) * A (i + 1) 0 * D n (fun a b => A (skip i a + 1) (skip k b + 1)))) := by
      intro i
      rw [show D (n + 1) (fun a b => A (skip (i + 1) a) (b + 1)) = sm (n + 1) (fun k => sg k * A (skip (i + 1) 0) (k + 1) * D n (fun a b => A (skip (i + 1) (a + 1)) (skip k b + 1))) from rfl, ← sm_mul]
      refine sm_congr (fun k _ => ?_)
      have : D n (fun a b => A (skip (i + 1) (a + 1)) (skip k b + 1)) = D n (fun a b => A (skip i a + 1) (skip k b + 1)) := D_congr (fun a _ b _ => by rw [skip_succ])
      rw [this, sg_succ, show skip (i + 1) 0 = 0 from by simp [skip]]
      simp only [Int.neg_mul, Int.mul_neg, Int.mul_assoc, Int.mul_comm, Int.mul_left_comm]
    rw [sm_congr (fun k _ => e1 k), sm_congr (fun i _ => e2 i), sm_swap]
theorem D_transpose (n : Nat) (A : Nat → Nat → Int) : D n (fun i j => A j i) = D n A := by
  induction n generalizing A with
  | zero => rfl
  | succ n ih =>
    rw [D_col n A]
    rw [show D (n + 1) (fun i j => A j i) = sm (n + 1) (fun k => sg k * A k 0 * D n (fun i j => A (skip k j) (i + 1))) from rfl]
    refine sm_congr (fun k _ => ?_)
    rw [ih (fun i j => A (skip k i) (j + 1))]

def setRow (A : Nat → Nat → Int) (r : Nat) (u : Nat → Int) : Nat → Nat → Int := fun i j => if i = r then u j else A i j
def setCol (A : Nat → Nat → Int) (c : Nat) (u : Nat → Int) : Nat → Nat → Int := fun i j => if j = c then u i else A i j

theorem D_row_lin (n r : Nat) (hr : r < n) (A : Nat → Nat → Int) (a b : Int) (u v : Nat → Int) :
    D n (setRow A r (fun j => a * u j + b * v j)) = a * D n (setRow A r u) + b * D n (setRow A r v) := by
  induction n generalizing A r u v with
  | zero => omega
  | succ n ih =>
    simp only [D]
    rw [← sm_mul, ← sm_mul, ← sm_add]
    refine sm_congr (fun k hk => ?_)
    cases r with
    | zero =>
      have e : ∀ w : Nat → Int, D n (fun i j => setRow A 0 w (i + 1) (skip k j)) = D n (fun i j => A (i + 1) (skip k j)) := fun w => D_congr (fun i _ j _ => by simp [setRow])
      rw [e, e, e]
      simp only [setRow, if_pos]
      generalize sg k = s
      generalize D n _ = d
      simp only [Int.mul_add, Int.mul_comm, Int.mul_left_comm]
    | succ r =>
      have e : ∀ w : Nat → Int, D n (fun i j => setRow A (r + 1) w (i + 1) (skip k j)) = D n (setRow (fun i j => A (i + 1) (skip k j)) r (fun j => w (skip k j))) := fun w => D_congr (fun i _ j _ => by simp [setRow])
      rw [e, e, e, ih r (by omega)]
      simp only [setRow]
      rw [if_neg (by omega), if_neg (by omega), if_neg (by omega)]
      generalize sg k = s
      generalize D n _ = d
      generalize D n _ = d'
      simp only [Int.mul_add, Int.add_mul, Int.mul_assoc, Int.mul_comm, Int.mul_left_comm]
theorem D_row_zero (n r : Nat) (hr : r < n) (A : Nat → Nat → Int) (h : ∀ j, j < n → A r j = 0) : D n A = 0 := by
  have e := D_row_lin n r hr A 0 0 (fun _ => 0) (fun _ => 0)
  rw [Int.zero_mul, Int.zero_mul] at e
  have e2 : D n (setRow A r (fun j => 0 * 0 + 0 * 0)) = D n A := D_congr (fun i hi j hj => by
    simp only [setRow]; split
    · subst i; rw [h j hj]; rfl
    · rfl)
  rw [← e2]; exact e
theorem D_row_sum (n r : Nat) (hr : r < n) (A : Nat → Nat → Int) (m : Nat) (c : Nat → Int) (F : Nat → Nat → Int) :
    D n (setRow A r (fun j => sm m (fun t => c t * F t j))) = sm m (fun t => c t * D n (setRow A r (F t))) := by
  induction m with
  | zero => simp only [sm]; exact D_row_zero n r hr _ (fun j _ => by simp [setRow])
  | succ m ih =>
    simp only [sm]
    have := D_row_lin n r hr A 1 (c m) (fun j => sm m (fun t => c t * F t j)) (F m)
    simp only [Int.one_mul] at this
    rw [this, ih]
theorem setRow_self (A : Nat → Nat → Int) (r : Nat) : setRow A r (A r) = A := by
  funext i j; simp only [setRow]; split
  · subst i; rfl
  · rfl
/-- Rows r, r + 1 are equal. -/
theorem D_adj (n r : Nat) (hr : r + 1 < n) (A : Nat → Nat → Int) (h : ∀ j, j < n → A r j = A (r + 1) j) : D n A = 0 := by
  induction n generalizing r A with
  | zero => omega
  | succ n ih =>
    rw [D_col]
    rw [sm_two (r := r) hr]
    · rw [sg_succ, ← h 0 (by omega)]
      have : D n (fun a b => A (skip r a) (b + 1)) = D n (fun a b => A (skip (r + 1) a) (b + 1)) := D_congr (fun a _ b hb => by
        unfold skip
        by_cases e : a = r
        · subst e; rw [if_neg (by omega), if_pos (by omega), h (b + 1) (by omega)]
        · by_cases l : a < r
          · rw [if_pos l, if_pos (by omega)]
          · rw [if_neg l, if_neg (by omega)])
      rw [this, Int.neg_mul, Int.neg_mul]; omega
    · intro i hi h1 h2
      have : D n (fun a b => A (skip i a) (b + 1)) = 0 := by
        by_cases l : i < r
        · refine ih (r - 1) (by omega) _ (fun j hj => ?_)
          show A (skip i (r - 1)) (j + 1) = A (skip i (r - 1 + 1)) (j + 1)
          rw [show skip i (r - 1) = r from by unfold skip; split <;> omega, show skip i (r - 1 + 1) = r + 1 from by unfold skip; split <;> omega]
          exact h _ (by omega)
        · refine ih r (by omega) _ (fun j hj => ?_)
          show A (skip i r) (j + 1) = A (skip i (r + 1)) (j + 1)
          rw [show skip i r = r from by unfold skip; split <;> omega, show skip i (r + 1) = r + 1 from by unfold skip; split <;> omega]
          exact h _ (by omega)
      rw [this, Int.mul_zero]
/-- Two rows, told by their places. -/
def set2 (A : Nat → Nat → Int) (r s : Nat) (u v : Nat → Int) : Nat → Nat → Int := setRow (setRow A r u) s v
theorem D_adj_swap (n r : Nat) (hr : r + 1 < n) (A : Nat → Nat → Int) (u v : Nat → Int) : D n (set2 A r (r + 1) u v) = - D n (set2 A r (r + 1) v u) := by
  have z : ∀ w, D n (set2 A r (r + 1) w w) = 0 := fun w => D_adj n r hr _ (fun j _ => by simp [set2, setRow])
  have c : ∀ w x, set2 A r (r + 1) w x = setRow (setRow A (r + 1) x) r w := fun w x => by
    funext i j; simp only [set2, setRow]
    by_cases e : i = r
    · subst e; rw [if_neg (by omega), if_pos rfl, if_pos rfl]
    · simp [e]
  have l1 : D n (set2 A r (r + 1) (fun j => 1 * u j + 1 * v j) (fun j => 1 * u j + 1 * v j)) = 1 * D n (set2 A r (r + 1) (fun j => 1 * u j + 1 * v j) u) + 1 * D n (set2 A r (r + 1) (fun j => 1 * u j + 1 * v j) v) := D_row_lin n (r + 1) hr _ 1 1 u v
  have l2 : ∀ x, D n (set2 A r (r + 1) (fun j => 1 * u j + 1 * v j) x) = 1 * D n (set2 A r (r + 1) u x) + 1 * D n (set2 A r (r + 1) v x) := fun x => by
    rw [c, c, c]; exact D_row_lin n r (by omega) _ 1 1 u v
  rw [z, l2, l2, z, z] at l1
  omega
theorem D_rows_eq (n : Nat) (A : Nat → Nat → Int) (i d : Nat) (hd : i + 1 + d < n) (h : ∀ c, c < n → A i c = A (i + 1 + d) c) : D n A = 0 := by
  induction d generalizing A with
  | zero => exact D_adj n i hd A h
  | succ d ih =>
    have e : A = set2 A (i + 1 + d) (i + 1 + d + 1) (A (i + 1 + d)) (A (i + 1 + d + 1)) := by
      funext a b; simp only [set2, setRow]
      split
      · subst a; rfl
      · split
        · subst a; rfl
        · rfl
    rw [e, D_adj_swap n (i + 1 + d) (by omega), ih _ (by omega)]
    · rfl
    · intro c hc
      simp only [set2, setRow]
      rw [if_neg (by omega), if_neg (by omega), if_neg (by omega), if_pos trivial, h c hc]; rfl
theorem D_rows_eq' (n : Nat) (A : Nat → Nat → Int) (i j : Nat) (hi : i < n) (hj : j < n) (hij : i ≠ j) (h : ∀ c, c < n → A i c = A j c) : D n A = 0 := by
  rcases Nat.lt_or_gt_of_ne hij with l | l
  · exact D_rows_eq n A i (j - i - 1) (by omega) (by rw [show i + 1 + (j - i - 1) = j by omega]; exact h)
  · exact D_rows_eq n A j (i - j - 1) (by omega) (by rw [show j + 1 + (i - j - 1) = i by omega]; exact fun c hc => (h c hc).symm)
def swapRows (A : Nat → Nat → Int) (i j : Nat) : Nat → Nat → Int := fun a b => if a = i then A j b else if a = j then A i b else A a b
theorem D_swap (n : Nat) (A : Nat → Nat → Int) (i j : Nat) (hi : i < n) (hj : j < n) (hij : i ≠ j) : D n (swapRows A i j) = - D n A := by
  have z : ∀ w, D n (set2 A i j w w) = 0 := fun w => D_rows_eq' n _ i j hi hj hij (fun c _ => by simp [set2, setRow])
  have c : ∀ w x, set2 A i j w x = setRow (setRow A j x) i w := fun w x => by
    funext a b; simp only [set2, setRow]
    by_cases e : a = i
    · subst e; rw [if_neg hij, if_pos rfl, if_pos rfl]
    · simp [e]
  have l1 : D n (set2 A i j (fun b => 1 * A i b + 1 * A j b) (fun b => 1 * A i b + 1 * A j b)) = 1 * D n (set2 A i j (fun b => 1 * A i b + 1 * A j b) (A i)) + 1 * D n (set2 A i j (fun b => 1 * A i b + 1 * A j b) (A j)) := D_row_lin n j hj _ 1 1 (A i) (A j)
  have l2 : ∀ x, D n (set2 A i j (fun b => 1 * A i b + 1 * A j b) x) = 1 * D n (set2 A i j (A i) x) + 1 * D n (set2 A i j (A j) x) := fun x => by
    rw [c, c, c]; exact D_row_lin n i hi _ 1 1 (A i) (A j)
  rw [z, l2, l2, z, z] at l1
  have e1 : set2 A i j (A i) (A j) = A := by
    funext a b; simp only [set2, setRow]; split
    · subst a; rfl
    · split
      · subst a; rfl
      · rfl
  have e2 : set2 A i j (A j) (A i) = swapRows A i j := by
    funext a b; simp only [set2, setRow, swapRows]
    by_cases e : a = i
    · subst e; rw [if_neg hij, if_pos rfl, if_pos rfl]
    · simp [e]
  rw [e1, e2] at l1
  omega
/-! columns, by the transposed matrix -/
theorem D_col_lin (n c : Nat) (hc : c < n) (A : Nat → Nat → Int) (a b : Int) (u v : Nat → Int) :
    D n (setCol A c (fun i => a * u i + b * v i)) = a * D n (setCol A c u) + b * D n (setCol A c v) := by
  have e : ∀ w, D n (setCol A c w) = D n (setRow (fun i j => A j i) c w) := fun w => by
    rw [← D_transpose]; rfl
  rw [e, e, e]; exact D_row_lin n c hc _ a b u v
theorem D_col_sum (n c : Nat) (hc : c < n) (A : Nat → Nat → Int) (m : Nat) (d : Nat → Int) (F : Nat → Nat → Int) :
    D n (setCol A c (fun i => sm m (fun t => d t * F t i))) = sm m (fun t => d t * D n (setCol A c (F t))) := by
  have e : ∀ w, D n (setCol A c w) = D n (setRow (fun i j => A j i) c w) := fun w => by
    rw [← D_transpose]; rfl
  rw [e, D_row_sum n c hc]
  exact sm_congr (fun t _ => by rw [e])
theorem D_cols_eq (n : Nat) (A : Nat → Nat → Int) (i j : Nat) (hi : i < n) (hj : j < n) (hij : i ≠ j) (h : ∀ r, r < n → A r i = A r j) : D n A = 0 := by
  rw [← D_transpose]; exact D_rows_eq' n _ i j hi hj hij h
theorem D_one (n : Nat) : D n (fun i j => if i = j then 1 else 0) = 1 := by
  induction n with
  | zero => rfl
  | succ n ih =>
    simp only [D]
    rw [sm_one (r := 0) (by omega) (fun k _ hk => by rw [if_neg (by omega)]; simp)]
    rw [D_congr (B := fun i j => if i = j then 1 else 0) (fun i _ j _ => by rw [skip_zero]; simp), ih]; rfl
/-- Above the last column's end stand zeros. -/
theorem D_block1 (k : Nat) (M : Nat → Nat → Int) (h : ∀ a, a < k → M a k = 0) : D (k + 1) M = D k M * M k k := by
  induction k generalizing M with
  | zero => simp [D, sm, sg]
  | succ k ih =>
    rw [show D (k + 1 + 1) M = sm (k + 1 + 1) (fun c => sg c * M 0 c * D (k + 1) (fun i j => M (i + 1) (skip c j))) from rfl]
    rw [show sm (k + 1 + 1) (fun c => sg c * M 0 c * D (k + 1) (fun i j => M (i + 1) (skip c j))) = sm (k + 1) (fun c => sg c * M 0 c * D (k + 1) (fun i j => M (i + 1) (skip c j))) + sg (k + 1) * M 0 (k + 1) * D (k + 1) (fun i j => M (i + 1) (skip (k + 1) j)) from rfl]
    rw [h 0 (by omega), Int.mul_zero, Int.zero_mul, Int.add_zero]
    rw [show D (k + 1) M = sm (k + 1) (fun c => sg c * M 0 c * D k (fun i j => M (i + 1) (skip c j))) from rfl, Int.mul_comm, ← sm_mul]
    refine sm_congr (fun c hc => ?_)
    have hs : ∀ b, c ≤ b → skip c b = b + 1 := fun b hb => by unfold skip; split <;> omega
    rw [ih _ (fun a ha => by rw [hs k (by omega)]; exact h (a + 1) (by omega)), hs k (by omega)]
    simp only [Int.mul_assoc, Int.mul_comm, Int.mul_left_comm]
/-- Above the last two columns' ends stand zeros. -/
theorem D_block2 (k : Nat) (M : Nat → Nat → Int) (h : ∀ a, a < k → M a k = 0 ∧ M a (k + 1) = 0) :
    D (k + 2) M = D k M * (M k k * M (k + 1) (k + 1) - M k (k + 1) * M (k + 1) k) := by
  induction k generalizing M with
  | zero => simp [D, sm, sg, skip, Int.sub_eq_add_neg, Int.neg_mul]
  | succ k ih =>
    rw [show D (k + 1 + 2) M = sm (k + 1) (fun c => sg c * M 0 c * D (k + 2) (fun i j => M (i + 1) (skip c j))) + sg (k + 1) * M 0 (k + 1) * D (k + 2) (fun i j => M (i + 1) (skip (k + 1) j)) + sg (k + 2) * M 0 (k + 2) * D (k + 2) (fun i j => M (i + 1) (skip (k + 2) j)) from rfl]
    rw [(h 0 (by omega)).1, (h 0 (by omega)).2]
    simp only [Int.mul_zero, Int.zero_mul, Int.add_zero]
    rw [show D (k + 1) M = sm (k + 1) (fun c => sg c * M 0 c * D k (fun i j => M (i + 1) (skip c j))) from rfl, Int.mul_comm (sm _ _), ← sm_mul]
    refine sm_congr (fun c hc => ?_)
    have hs : ∀ b, c ≤ b → skip c b = b + 1 := fun b hb => by unfold skip; split <;> omega
    rw [ih _ (fun a ha => by rw [hs k (by omega), hs (k + 1) (by omega)]; exact h (a + 1) (by omega)), hs k (by omega), hs (k + 1) (by omega)]
    simp only [Int.mul_assoc, Int.mul_comm, Int.mul_left_comm]
theorem sm_unit (n : Nat) (v : Nat → Int) (j : Nat) (hj : j < n) : sm n (fun t => v t * (if t = j then 1 else 0)) = v j := by
  rw [sm_one hj (fun i _ hn => by rw [if_neg hn, Int.mul_zero])]; simp

/-! ### Elimination without fractions -/
/-- The minor of the first k rows and row i, the first k columns and column j. -/
def B (A : Nat → Nat → Int) (k i j : Nat) : Int := D (k + 1) (fun a b => A (if a < k then a else i) (if b < k then b else j))
theorem B_diag (A : Nat → Nat → Int) (k : Nat) : B A k k k = D (k + 1) A := D_congr (fun a ha b hb => by
  rw [show (if a < k then a else k) = a from by split <;> omega, show (if b < k then b else k) = b from by split <;> omega])
theorem B_low (A : Nat → Nat → Int) (k i j : Nat) (hi : i < k) : B A k i j = 0 :=
  D_rows_eq' (k + 1) _ i k (by omega) (by omega) (by omega) (fun c _ => by simp [hi])
/-- A column, by the first k ones and what is left of it. -/
theorem B_solve (A : Nat → Nat → Int) (k j : Nat) : ∃ C : Nat → Int, ∀ i, D k A * A i j = sm k (fun c => C c * A i c) + B A k i j := by
  refine ⟨fun c => - D (k + 1) (setRow (fun a b => A a (if b < k then b else j)) k (fun b => if c = b then 1 else 0)), fun i => ?_⟩
  have e : B A k i j = D (k + 1) (setRow (fun a b => A a (if b < k then b else j)) k (fun b => sm (k + 1) (fun t => A i (if t < k then t else j) * (if t = b then 1 else 0)))) := D_congr (fun a ha b hb => by
    simp only [setRow]
    by_cases l : a = k
    · subst l; rw [if_pos rfl, sm_unit _ _ _ hb, if_neg (by omega)]
    · rw [if_neg l, if_pos (by omega)])
  rw [e, D_row_sum (k + 1) k (by omega)]
  have last : D (k + 1) (setRow (fun a b => A a (if b < k then b else j)) k (fun b => if k = b then 1 else 0)) = D k A := by
    rw [← D_transpose, D_block1]
    · have : D k (fun a b => setRow (fun a b => A a (if b < k then b else j)) k (fun b => if k = b then 1 else 0) b a) = D k A := by
        rw [D_transpose]
        exact D_congr (fun a ha b hb => by simp only [setRow]; rw [if_neg (by omega), if_pos hb])
      rw [this]; simp [setRow]
    · intro a ha; simp only [setRow]; rw [if_pos trivial, if_neg (by omega)]
  simp only [sm]
  rw [last]
  have : sm k (fun t => A i (if t < k then t else j) * D (k + 1) (setRow (fun a b => A a (if b < k then b else j)) k (fun b => if t = b then 1 else 0))) = - sm k (fun c => - D (k + 1) (setRow (fun a b => A a (if b < k then b else j)) k (fun b => if c = b then 1 else 0)) * A i c) := by
    rw [← sm_neg]
    refine sm_congr (fun t ht => ?_)
    rw [if_pos ht, Int.neg_mul, Int.neg_neg, Int.mul_comm]
  rw [this, if_neg (Nat.lt_irrefl k), Int.mul_comm (A i j)]; omega
/-- One round of the elimination. -/
theorem B_step (A : Nat → Nat → Int) (k i j : Nat) (hp : D k A ≠ 0) :
    D k A * B A (k + 1) i j = B A k k k * B A k i j - B A k i k * B A k k j := by
  obtain ⟨C1, h1⟩ := B_solve A k k
  obtain ⟨C2, h2⟩ := B_solve A k j
  -- the rows and columns of the great minor
  let ro : Nat → Nat := fun a => if a < k + 1 then a else i
  let W : Nat → Nat → Int := fun a b => A (ro a) (if b < k + 1 then b else j)
  have hW : B A (k + 1) i j = D (k + 2) W := rfl
  let X : Nat → Int := fun a => B A k (ro a) k
  let Y : Nat → Int := fun a => B A k (ro a) j
  have s1 : D k A * D (k + 2) W = D (k + 2) (setCol W k X) := by
    have e0 : D (k + 2) (setCol W k (fun a => D k A * A (ro a) k + 0 * 0)) = D k A * D (k + 2) W := by
      rw [D_col_lin (k + 2) k (by omega) W (D k A) 0 (fun a => A (ro a) k) (fun _ => 0), Int.zero_mul, Int.add_zero]
      congr 1
      exact D_congr (fun a _ b _ => by
        simp only [setCol]; split
        · subst b; show A (ro a) k = A (ro a) (if k < k + 1 then k else j); rw [if_pos (by omega)]
        · rfl)
    have e1 : D (k + 2) (setCol W k (fun a => D k A * A (ro a) k + 0 * 0)) = D (k + 2) (setCol W k (fun a => 1 * sm k (fun c => C1 c * A (ro a) c) + 1 * X a)) := D_congr (fun a _ b _ => by
      simp only [setCol]; split
      · rw [h1 (ro a)]; show _ = 1 * _ + 1 * B A k (ro a) k; omega
      · rfl)
    rw [← e0, e1, D_col_lin (k + 2) k (by omega), D_col_sum (k + 2) k (by omega)]
    rw [sm_zero (fun c hc => by
      rw [D_cols_eq (k + 2) _ c k (by omega) (by omega) (by omega) (fun r _ => by
        simp only [setCol]; rw [if_neg (by omega), if_pos trivial]; show A (ro r) (if c < k + 1 then c else j) = _; rw [if_pos (by omega)]), Int.mul_zero])]
    omega
  have s2 : D k A * D (k + 2) (setCol W k X) = D (k + 2) (setCol (setCol W k X) (k + 1) Y) := by
    have e0 : D (k + 2) (setCol (setCol W k X) (k + 1) (fun a => D k A * A (ro a) j + 0 * 0)) = D k A * D (k + 2) (setCol W k X) := by
      rw [D_col_lin (k + 2) (k + 1) (by omega) (setCol W k X) (D k A) 0 (fun a => A (ro a) j) (fun _ => 0), Int.zero_mul, Int.add_zero]
      congr 1
      exact D_congr (fun a _ b _ => by
        simp only [setCol]; split
        · subst b; rw [if_neg (by omega)]; show A (ro a) j = A (ro a) (if k + 1 < k + 1 then k + 1 else j); rw [if_neg (by omega)]
        · rfl)
    have e1 : D (k + 2) (setCol (setCol W k X) (k + 1) (fun a => D k A * A (ro a) j + 0 * 0)) = D (k + 2) (setCol (setCol W k X) (k + 1) (fun a => 1 * sm k (fun c => C2 c * A (ro a) c) + 1 * Y a)) := D_congr (fun a _ b _ => by
      simp only [setCol]; split
      · rw [h2 (ro a)]; show _ = 1 * _ + 1 * B A k (ro a) j; omega
      · rfl)
    rw [← e0, e1, D_col_lin (k + 2) (k + 1) (by omega), D_col_sum (k + 2) (k + 1) (by omega)]
    rw [sm_zero (fun c hc => by
      rw [D_cols_eq (k + 2) _ c (k + 1) (by omega) (by omega) (by omega) (fun r _ => by
        simp only [setCol]; rw [if_neg (by omega), if_neg (by omega), if_pos trivial]; show A (ro r) (if c < k + 1 then c else j) = _; rw [if_pos (by omega)]), Int.mul_zero])]
    omega
  have s3 : D (k + 2) (setCol (setCol W k X) (k + 1) Y) = D k A * (X k * Y (k + 1) - Y k * X (k + 1)) := by
    rw [D_block2]
    · have : D k (setCol (setCol W k X) (k + 1) Y) = D k A := D_congr (fun a ha b hb => by
        simp only [setCol]; rw [if_neg (by omega), if_neg (by omega)]; show A (if a < k + 1 then a else i) (if b < k + 1 then b else j) = _; rw [if_pos (by omega), if_pos (by omega)])
      rw [this]

      simp [setCol]
    · intro a ha
      have hr : ro a = a := by show (if a < k + 1 then a else i) = a; rw [if_pos (by omega)]
      have h1 : ¬ k = k + 1 := by omega
      simp only [setCol, if_neg h1, if_true]
      constructor
      · show B A k (ro a) k = 0; rw [hr]; exact B_low A k a k ha
      · show B A k (ro a) j = 0; rw [hr]; exact B_low A k a j ha
  have hk : ro k = k := by show (if k < k + 1 then k else i) = k; rw [if_pos (by omega)]
  have hk1 : ro (k + 1) = i := by show (if k + 1 < k + 1 then k + 1 else i) = i; rw [if_neg (by omega)]
  have hX0 : X k = B A k k k := by show B A k (ro k) k = _; rw [hk]
  have hX1 : X (k + 1) = B A k i k := by show B A k (ro (k + 1)) k = _; rw [hk1]
  have hY0 : Y k = B A k k j := by show B A k (ro k) j = _; rw [hk]
  have hY1 : Y (k + 1) = B A k i j := by show B A k (ro (k + 1)) j = _; rw [hk1]
  rw [hX0, hX1, hY0, hY1] at s3
  rw [hW]
  have all : D k A * (D k A * D (k + 2) W) = D k A * (B A k k k * B A k i j - B A k k j * B A k i k) := by rw [s1, s2, s3]
  have := Int.eq_of_mul_eq_mul_left hp all
  rw [this, Int.mul_comm (B A k k j)]
/-- No pivot: the determinant is 0. -/
theorem B_none (A : Nat → Nat → Int) (n k : Nat) (hk : k < n) (hp : D k A ≠ 0) (h : ∀ i, k ≤ i → i < n → B A k i k = 0) : D n A = 0 := by
  obtain ⟨C1, h1⟩ := B_solve A k k
  have e0 : D n (setCol A k (fun a => D k A * A a k + 0 * 0)) = D k A * D n A := by
    rw [D_col_lin n k hk A (D k A) 0 (fun a => A a k) (fun _ => 0), Int.zero_mul, Int.add_zero]
    congr 1
    exact D_congr (fun a _ b _ => by
      simp only [setCol]; split
      · subst b; rfl
      · rfl)
  have e1 : D n (setCol A k (fun a => D k A * A a k + 0 * 0)) = D n (setCol A k (fun a => sm k (fun c => C1 c * A a c))) := D_congr (fun a ha b _ => by
    simp only [setCol]; split
    · have : B A k a k = 0 := by
        by_cases l : a < k
        · exact B_low A k a k l
        · exact h a (by omega) ha
      rw [h1 a, this]; omega
    · rfl)
  have : D k A * D n A = 0 := by
    rw [← e0, e1, D_col_sum n k hk]
    exact sm_zero (fun c hc => by
      rw [D_cols_eq n _ c k (by omega) (by omega) (by omega) (fun r _ => by
        simp only [setCol]; rw [if_neg (by omega), if_pos trivial]), Int.mul_zero])
  rcases Int.mul_eq_zero.mp this with h | h
  · exact absurd h hp
  · exact h
/-- How great a determinant of numbers from -10 to 10 is at most. -/
def bd : Nat → Int
  | 0 => 1
  | n + 1 => (n + 1) * (10 * bd n)
theorem bd_pos (n : Nat) : 1 ≤ bd n := by
  induction n with
  | zero => decide
  | succ n ih =>
    simp only [bd]
    have h1 : (1 : Int) ≤ (n : Int) + 1 := by omega
    have h2 : (1 : Int) ≤ 10 * bd n := by omega
    have := Int.mul_le_mul h1 h2 (by omega) (by omega)
    omega
theorem sm_bound (n : Nat) (f : Nat → Int) (b : Int) (h : ∀ i, i < n → -b ≤ f i ∧ f i ≤ b) : -(n * b) ≤ sm n f ∧ sm n f ≤ n * b := by
  induction n with
  | zero => simp [sm]
  | succ n ih =>
    have h1 := ih (fun i hi => h i (by omega))
    have h2 := h n (by omega)
    simp only [sm]
    rw [show ((n + 1 : Nat) : Int) * b = n * b + b from by rw [Int.natCast_add, Int.add_mul]; simp]
    omega
theorem mul_bound {x y a b : Int} (ha : -a ≤ x ∧ x ≤ a) (hb : -b ≤ y ∧ y ≤ b) : -(a * b) ≤ x * y ∧ x * y ≤ a * b := by
  have h : x.natAbs * y.natAbs ≤ a.natAbs * b.natAbs := Nat.mul_le_mul (by omega) (by omega)
  rw [← Int.natAbs_mul, ← Int.natAbs_mul] at h
  have : 0 ≤ a * b := Int.mul_nonneg (by omega) (by omega)
  omega
theorem term_bound {s x d b : Int} (hs : s = 1 ∨ s = -1) (hx : -10 ≤ x ∧ x ≤ 10) (hd : -b ≤ d ∧ d ≤ b) : -(10 * b) ≤ s * x * d ∧ s * x * d ≤ 10 * b := by
  refine mul_bound (a := 10) ?_ hd
  rcases hs with rfl | rfl <;> omega
theorem sg_or (k : Nat) : sg k = 1 ∨ sg k = -1 := by unfold sg; split <;> simp
theorem D_bound (n : Nat) (A : Nat → Nat → Int) (h : ∀ i j, i < n → j < n → -10 ≤ A i j ∧ A i j ≤ 10) : -(bd n) ≤ D n A ∧ D n A ≤ bd n := by
  induction n generalizing A with
  | zero => simp [D, bd]
  | succ n ih =>
    simp only [D, bd]
    have := sm_bound (n + 1) (fun k => sg k * A 0 k * D n (fun i j => A (i + 1) (skip k j))) (10 * bd n) (fun k hk =>
      term_bound (sg_or k) (h 0 k (by omega) hk) (ih _ (fun i j hi hj => h _ _ (by omega) (skip_lt hj))))
    simpa using this
end DetKit
end Go.Proofs.Ythbigmlpgoobiaa.M
