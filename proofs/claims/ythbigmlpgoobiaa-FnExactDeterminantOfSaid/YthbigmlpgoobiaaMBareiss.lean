/- The program's determinant (an elimination without fractions) is the determinant. -/
import Derived.Test.YthbigmlpgoobiaaMBase
import Derived.Test.YthbigmlpgoobiaaMGraph
import Derived.Test.YthbigmlpgoobiaaMDet
import Derived.Test.YthbigmlpgoobiaaMMat
import Derived.Test.YthbigmlpgoobiaaPimpldeterminant
import Derived.Test.YthbigmlpgoobiaaPfakeswap
import Derived.Test.YthbigmlpgoobiaaPslicesCloneintint
import Derived.Test.YthbigmlpgoobiaaRIn
namespace Go.Proofs.Ythbigmlpgoobiaa.M
open Go.RowKit Go.Proofs.Ythbigmlpgoobiaa.P Go.Proofs.Ythbigmlpgoobiaa.In Go.Proofs.YthbigmlpgoobiaaW.PrintWords Go.Proofs.YthbigmlpgoobiaaW.PrintLast
set_option linter.unusedVariables false
set_option linter.unusedSimpArgs false
open DetKit
structure Rect (n : Nat) (a : List (List Int)) : Prop where
  len : a.length = n
  rows : ∀ row ∈ a, row.length = n
theorem Rect.row {n : Nat} {a : List (List Int)} (h : Rect n a) {i : Nat} (hi : i < n) : (rd_L1 a (i : Int)).length = n := by
  have hl := h.len
  exact h.rows (rd_L1 a (i : Int)) (by rw [rdL_at (by omega)]; exact List.getElem_mem _)
theorem rdL_set {a : List (List Int)} {i j : Nat} (hi : i < a.length) (row : List Int) : rd_L1 (a.set i row) (j : Int) = if j = i then row else rd_L1 a (j : Int) := by
  unfold rd_L1
  rw [Int.toNat_natCast]
  by_cases h : j = i
  · subst h; rw [if_pos rfl]; simp [List.getD, hi]
  · rw [if_neg h]; simp only [List.getD, List.getElem?_set_ne (fun e => h e.symm)]
theorem rdn_set {l : List Int} {i j : Nat} (hi : i < l.length) (v : Int) : rd (l.set i v) (j : Int) = if j = i then v else rd l (j : Int) := by
  unfold rd
  rw [Int.toNat_natCast]
  by_cases h : j = i
  · subst h; rw [if_pos rfl]; simp [List.getD, hi]
  · rw [if_neg h]; simp only [List.getD, List.getElem?_set_ne (fun e => h e.symm)]
theorem mat_set {n : Nat} {a : List (List Int)} (h : Rect n a) {i j : Nat} (hi : i < n) (hj : j < n) (v : Int) (p q : Nat) : mat (a.set i ((rd_L1 a (i : Int)).set j v)) p q = if p = i ∧ q = j then v else mat a p q := by
  have hl := h.len
  have hr := h.row hi
  unfold mat
  rw [rdL_set (by omega)]
  by_cases hp : p = i
  · rw [if_pos hp, rdn_set (by omega)]
    by_cases hq : q = j
    · rw [if_pos hq, if_pos ⟨hp, hq⟩]
    · rw [if_neg hq, if_neg (fun e => hq e.2), hp]
  · rw [if_neg hp, if_neg (fun e => hp e.1)]
theorem rect_set {n : Nat} {a : List (List Int)} (h : Rect n a) {i : Nat} {row : List Int} (hr : row.length = n) : Rect n (a.set i row) :=
  ⟨by simp; exact h.len, fun x hx => by
    rcases List.mem_or_eq_of_mem_set hx with h2 | h2
    · exact h.rows x h2
    · rw [h2]; exact hr⟩
theorem getD_rd (a : List (List Int)) (i : Nat) : a.getD i [] = rd_L1 a (i : Int) := by unfold rd_L1; rw [Int.toNat_natCast]
theorem rdL_swp {a : List (List Int)} {p q : Nat} (hp : p < a.length) (hq : q < a.length) (i : Nat) : rd_L1 (swp a [] p q) (i : Int) = if i = q then rd_L1 a (p : Int) else if i = p then rd_L1 a (q : Int) else rd_L1 a (i : Int) := by
  unfold swp
  rw [rdL_set (by simp; exact hq), rdL_set hp, getD_rd, getD_rd]
theorem rect_swp {n : Nat} {a : List (List Int)} (h : Rect n a) {p q : Nat} (hp : p < n) (hq : q < n) : Rect n (swp a [] p q) := by
  unfold swp
  rw [getD_rd, getD_rd]
  exact rect_set (rect_set h (h.row hq)) (h.row hp)
/-- Behind the elements up to (i, j), in the rows and columns behind kk: what stands there is of the next round. -/
def Upd (n kk : Nat) (A : Nat → Nat → Int) (a0 a : List (List Int)) (i j : Nat) : Prop :=
  ∀ p q, p < n → q < n → mat a p q = if kk < p ∧ kk < q ∧ (p < i ∨ (p = i ∧ q < j)) then B A (kk + 1) p q else mat a0 p q
theorem B_bound {n : Nat} {A : Nat → Nat → Int} (hA : ∀ i j, i < n → j < n → -10 ≤ A i j ∧ A i j ≤ 10) {k i j : Nat} (hk : k ≤ n) (hi : i < n) (hj : j < n) : -(bd (k + 1)) ≤ B A k i j ∧ B A k i j ≤ bd (k + 1) := by
  unfold B
  exact D_bound (k + 1) _ (fun a b ha hb => hA _ _ (by split <;> omega) (by split <;> omega))
section
variable {n kk : Nat} {A : Nat → Nat → Int} {a0 : List (List Int)} {s r : Int}
theorem bar_l4 (hn : n ≤ 7) (hA : ∀ i j, i < n → j < n → -10 ≤ A i j ∧ A i j ≤ 10) (hp : D kk A ≠ 0) (ha0 : ∀ i j, kk ≤ i → kk ≤ j → i < n → j < n → mat a0 i j = B A kk i j) {i : Nat} (hi : kk < i) (hin : i < n)
    (hnext : ∀ a, Rect n a → Upd n kk A a0 a (i + 1) (kk + 1) → Ev (fun k => impl_determinant.l3 k n s (D kk A) a kk ((i + 1 : Nat) : Int) n kk) r) :
    ∀ (d j : Nat) (a : List (List Int)), n - j = d → j ≤ n → kk < j → Rect n a → Upd n kk A a0 a i j → Ev (fun k => impl_determinant.l4 k n s (D kk A) a kk i j n kk) r := by
  intro d
  induction d with
  | zero =>
    intro j a hd hj hkj ha hu
    refine Ev.succ ?_
    simp only [impl_determinant.l4]
    refine Ev.neg (by omega) ?_
    rw [wrap_nat (by omega)]
    refine hnext a ha (fun p q hp hq => ?_)
    rw [hu p q hp hq]
    by_cases c : kk < p ∧ kk < q ∧ (p < i ∨ (p = i ∧ q < j))
    · rw [if_pos c, if_pos ⟨c.1, c.2.1, by omega⟩]
    · rw [if_neg c, if_neg (fun c2 => c ⟨c2.1, c2.2.1, by omega⟩)]
  | succ d ih =>
    intro j a hd hj hkj ha hu
    have hl := ha.len
    have hri := ha.row hin
    have hrk := ha.row (i := kk) (by omega)
    have hX : mat a i j = B A kk i j := by rw [hu i j hin (by omega), if_neg (by omega)]; exact ha0 i j (by omega) (by omega) hin (by omega)
    have hY : mat a kk kk = B A kk kk kk := by rw [hu kk kk (by omega) (by omega), if_neg (by omega)]; exact ha0 kk kk (by omega) (by omega) (by omega) (by omega)
    have hZ : mat a i kk = B A kk i kk := by rw [hu i kk hin (by omega), if_neg (by omega)]; exact ha0 i kk (by omega) (by omega) hin (by omega)
    have hW : mat a kk j = B A kk kk j := by rw [hu kk j (by omega) (by omega), if_neg (by omega)]; exact ha0 kk j (by omega) (by omega) (by omega) (by omega)
    have b6 := bd_le6 (n := kk + 1) (by omega)
    have b7 := bd_le7 (n := kk + 1 + 1) (by omega)
    have bX := B_bound hA (k := kk) (i := i) (j := j) (by omega) hin (by omega)
    have bY := B_bound hA (k := kk) (i := kk) (j := kk) (by omega) (by omega) (by omega)
    have bZ := B_bound hA (k := kk) (i := i) (j := kk) (by omega) hin (by omega)
    have bW := B_bound hA (k := kk) (i := kk) (j := j) (by omega) (by omega) (by omega)
    have bN := B_bound hA (k := kk + 1) (i := i) (j := j) (by omega) hin (by omega)
    have m1 := mul_bound (x := B A kk i j) (y := B A kk kk kk) (a := 720000000) (b := 720000000) (by omega) (by omega)
    have m2 := mul_bound (x := B A kk i kk) (y := B A kk kk j) (a := 720000000) (b := 720000000) (by omega) (by omega)
    have st := B_step A kk i j hp
    rw [Int.mul_comm (B A kk kk kk)] at st
    have hval : wrap64 (Int.tdiv (wrap64 (wrap64 (rd (rd_L1 a (i : Int)) (j : Int) * rd (rd_L1 a (kk : Int)) (kk : Int)) - wrap64 (rd (rd_L1 a (i : Int)) (kk : Int) * rd (rd_L1 a (kk : Int)) (j : Int)))) (D kk A)) = B A (kk + 1) i j := by
      show wrap64 (Int.tdiv (wrap64 (wrap64 (mat a i j * mat a kk kk) - wrap64 (mat a i kk * mat a kk j))) (D kk A)) = _
      rw [hX, hY, hZ, hW, wrap_id (x := B A kk i j * B A kk kk kk) (by omega), wrap_id (x := B A kk i kk * B A kk kk j) (by omega), wrap_id (x := B A kk i j * B A kk kk kk - B A kk i kk * B A kk kk j) (by omega), ← st, Int.mul_tdiv_cancel_left _ hp]
      exact wrap_id (by omega)
    refine Ev.succ ?_
    simp only [impl_determinant.l4]
    refine Ev.pos (by omega) (Ev.pos (by omega) (Ev.pos (by omega) (Ev.pos (by omega) (Ev.pos (by omega) (Ev.pos (by omega) (Ev.pos (by omega) (Ev.pos (by omega) (Ev.pos (by omega) (Ev.pos (by omega) (Ev.neg hp ?_))))))))))
    rw [hval, wrap_nat (by omega), Int.toNat_natCast, Int.toNat_natCast]
    refine ih (j + 1) _ (by omega) (by omega) (by omega) (rect_set ha (by simp; exact hri)) (fun p q hpn hqn => ?_)
    rw [mat_set ha hin (by omega)]
    by_cases c : p = i ∧ q = j
    · rw [if_pos c, if_pos (by omega), c.1, c.2]
    · rw [if_neg c, hu p q hpn hqn]
      by_cases c2 : kk < p ∧ kk < q ∧ (p < i ∨ (p = i ∧ q < j))
      · rw [if_pos c2, if_pos (by omega)]
      · rw [if_neg c2, if_neg (by omega)]
theorem bar_l3 (hn : n ≤ 7) (hkn : kk < n) (hA : ∀ i j, i < n → j < n → -10 ≤ A i j ∧ A i j ≤ 10) (hp : D kk A ≠ 0) (ha0 : ∀ i j, kk ≤ i → kk ≤ j → i < n → j < n → mat a0 i j = B A kk i j)
    (hnext : ∀ a, Rect n a → Upd n kk A a0 a n (kk + 1) → Ev (fun k => impl_determinant.l1 k n s (mat a0 kk kk) a n ((kk + 1 : Nat) : Int)) r) :
    ∀ (d i : Nat) (a : List (List Int)), n - i = d → i ≤ n → kk < i → Rect n a → Upd n kk A a0 a i (kk + 1) → Ev (fun k => impl_determinant.l3 k n s (D kk A) a kk i n kk) r := by
  intro d
  induction d with
  | zero =>
    intro i a hd hi hki ha hu
    have : i = n := by omega
    subst this
    have hl := ha.len
    have hrk := ha.row hkn
    have hY : rd (rd_L1 a (kk : Int)) (kk : Int) = mat a0 kk kk := by
      show mat a kk kk = _
      rw [hu kk kk hkn hkn, if_neg (by omega)]
    refine Ev.succ ?_
    simp only [impl_determinant.l3]
    refine Ev.neg (by omega) (Ev.pos (by omega) (Ev.pos (by omega) (Ev.pos (by omega) ?_)))
    rw [hY, wrap_nat (by omega)]
    exact hnext a ha hu
  | succ d ih =>
    intro i a hd hi hki ha hu
    refine Ev.succ ?_
    simp only [impl_determinant.l3]
    refine Ev.pos (by omega) ?_
    rw [wrap_nat (by omega)]
    exact bar_l4 hn hA hp ha0 hki (by omega) (fun a' ha' hu' => ih (i + 1) a' (by omega) (by omega) (by omega) ha' hu') (n - (kk + 1)) (kk + 1) a rfl (by omega) (by omega) ha hu
end
theorem B_swap {A : Nat → Nat → Int} {k p i j : Nat} (hp : k ≤ p) (hi : k ≤ i) : B (swapRows A p k) k i j = B A k (if i = p then k else if i = k then p else i) j := by
  unfold B
  refine D_congr (fun a ha b hb => ?_)
  by_cases hak : a < k
  · rw [if_pos hak, if_pos hak]; unfold swapRows; rw [if_neg (by omega), if_neg (by omega)]
  · rw [if_neg hak, if_neg hak]; unfold swapRows
    by_cases h1 : i = p
    · rw [if_pos h1, if_pos h1]
    · rw [if_neg h1, if_neg h1]
      by_cases h2 : i = k
      · rw [if_pos h2, if_pos h2]
      · rw [if_neg h2, if_neg h2]
theorem D_swap_low {A : Nat → Nat → Int} {k p : Nat} (hp : k ≤ p) : D k (swapRows A p k) = D k A :=
  D_congr (fun i hi j hj => by unfold swapRows; rw [if_neg (by omega), if_neg (by omega)])
theorem bar_l1 {n : Nat} (hn : n ≤ 7) (R : Int) : ∀ (d kk : Nat) (a : List (List Int)) (A : Nat → Nat → Int) (s : Int), n - kk = d → kk ≤ n → Rect n a → (∀ i j, i < n → j < n → -10 ≤ A i j ∧ A i j ≤ 10) → (s = 1 ∨ s = -1) → s * D n A = R → D kk A ≠ 0 → (∀ i j, kk ≤ i → kk ≤ j → i < n → j < n → mat a i j = B A kk i j) → Ev (fun k => impl_determinant.l1 k n s (D kk A) a n kk) R := by
  intro d
  induction d with
  | zero =>
    intro kk a A s hd hk ha hA hs hR hp hm
    have : kk = n := by omega
    subst this
    have hb := D_bound kk A (fun i j hi hj => hA i j hi hj)
    have b7 := bd_le7 hn
    refine Ev.succ ?_
    simp only [impl_determinant.l1]
    refine Ev.neg (by omega) ((Ev.now _).val ?_)
    rw [← hR]
    exact wrap_id (by rcases hs with rfl | rfl <;> omega)
  | succ d ih =>
    intro kk a A s hd hk ha hA hs hR hp hm
    have hkn : kk < n := by omega
    have hl := ha.len
    have round : ∀ (a1 : List (List Int)) (A1 : Nat → Nat → Int) (s1 : Int), Rect n a1 → (∀ i j, i < n → j < n → -10 ≤ A1 i j ∧ A1 i j ≤ 10) → (s1 = 1 ∨ s1 = -1) → s1 * D n A1 = R → D kk A1 = D kk A → (∀ i j, kk ≤ i → kk ≤ j → i < n → j < n → mat a1 i j = B A1 kk i j) → mat a1 kk kk ≠ 0 → Ev (fun k => impl_determinant.j4 k n s1 (D kk A) a1 kk n kk) R := by
      intro a1 A1 s1 h1 h2 h3 h4 h5 h6 h7
      have hd1 : D (kk + 1) A1 = mat a1 kk kk := by rw [h6 kk kk (by omega) (by omega) hkn hkn, B_diag]
      refine Ev.succ ?_
      simp only [impl_determinant.j4]
      rw [wrap_nat (by omega), ← h5]
      refine bar_l3 hn hkn h2 (by rw [h5]; exact hp) h6 (fun a' ha' hu' => ?_) (n - (kk + 1)) (kk + 1) a1 rfl (by omega) (by omega) h1 (fun p q _ _ => by rw [if_neg (by omega)])
      rw [← hd1]
      refine ih (kk + 1) a' A1 s1 (by omega) (by omega) ha' h2 h3 h4 (by rw [hd1]; exact h7) (fun i j hi hj hin hjn => ?_)
      rw [hu' i j hin hjn, if_pos ⟨by omega, by omega, .inl hin⟩]
    have pv : ∀ (e p : Nat), n - p = e → p ≤ n → kk ≤ p → (∀ q, kk ≤ q → q < p → B A kk q kk = 0) → Ev (fun k => impl_determinant.l2 k n s (D kk A) a kk p n kk) R := by
      intro e
      induction e with
      | zero =>
        intro p he hpn hkp hz
        have h0 : D n A = 0 := B_none A n kk hkn hp (fun i hi hin => hz i hi (by omega))
        refine Ev.succ ?_
        simp only [impl_determinant.l2]
        refine Ev.neg (by omega) (Ev.succ ?_)
        simp only [impl_determinant.j3]
        refine Ev.pos (by omega) ((Ev.now _).val ?_)
        rw [← hR, h0, Int.mul_zero]
      | succ e ihe =>
        intro p he hpn hkp hz
        have hrp := ha.row (i := p) (by omega)
        have hx : rd (rd_L1 a (p : Int)) (kk : Int) = B A kk p kk := hm p kk hkp (by omega) (by omega) hkn
        refine Ev.succ ?_
        simp only [impl_determinant.l2]
        refine Ev.pos (by omega) (Ev.pos (by omega) (Ev.pos (by omega) (Ev.pos (by omega) (Ev.pos (by omega) ?_))))
        rw [hx]
        by_cases h0 : B A kk p kk = 0
        · refine Ev.pos h0 ?_
          rw [wrap_nat (by omega)]
          refine ihe (p + 1) (by omega) (by omega) (by omega) (fun q h1 h2 => ?_)
          by_cases hq : q = p
          · rw [hq]; exact h0
          · exact hz q h1 (by omega)
        · refine Ev.neg h0 (Ev.succ ?_)
          simp only [impl_determinant.j3]
          refine Ev.neg (by omega) ?_
          by_cases hpk : p = kk
          · subst hpk
            refine Ev.pos rfl ?_
            exact round a A s ha hA hs hR rfl hm (by rw [hm p p (by omega) (by omega) hkn hkn]; exact h0)
          · refine Ev.neg (by omega) (Ev.bind0 (a := swp a [] p kk) ?_ ?_)
            · unfold fake_swap.f
              rw [if_pos (by omega), if_pos (by omega), if_pos (by omega), if_pos (by omega), Int.toNat_natCast, Int.toNat_natCast]
            · have hs1 : wrap64 (-s) = -s := wrap_id (by rcases hs with rfl | rfl <;> omega)
              rw [hs1]
              have hmm : ∀ i j, kk ≤ i → kk ≤ j → i < n → j < n → mat (swp a [] p kk) i j = B (swapRows A p kk) kk i j := fun i j hi hj hin hjn => by
                rw [B_swap hkp hi]
                unfold mat
                rw [rdL_swp (by omega) (by omega)]
                by_cases h1 : i = kk
                · rw [if_pos h1, if_neg (by omega), if_pos h1]; exact hm p j hkp hj (by omega) hjn
                · rw [if_neg h1]
                  by_cases h2 : i = p
                  · rw [if_pos h2, if_pos h2]; exact hm kk j (by omega) hj hkn hjn
                  · rw [if_neg h2, if_neg h2, if_neg h1]; exact hm i j hi hj hin hjn
              refine round (swp a [] p kk) (swapRows A p kk) (-s) (rect_swp ha (by omega) hkn) (fun i j hi hj => ?_) (by omega) ?_ (D_swap_low hkp) hmm ?_
              · unfold swapRows
                split
                · exact hA _ _ hkn hj
                · split
                  · exact hA _ _ (by omega) hj
                  · exact hA _ _ hi hj
              · rw [D_swap n A p kk (by omega) hkn hpk, Int.neg_mul_neg]; exact hR
              · rw [hmm kk kk (by omega) (by omega) hkn hkn, B_swap hkp (by omega), if_neg (by omega), if_pos rfl]
                exact h0
    refine Ev.succ ?_
    simp only [impl_determinant.l1]
    exact Ev.pos (by omega) (pv (n - kk) kk rfl (by omega) (by omega) (fun q h1 h2 => by omega))
theorem bar_l0 {n : Nat} (hn : n ≤ 7) (m : List (List Int)) (h : Sq n m) : ∀ (d i : Nat), n - i = d → i ≤ n → Ev (fun k => impl_determinant.l0 k n 1 1 (m.take i) m n i) (D n (mat m)) := by
  have hl := h.len
  intro d
  induction d with
  | zero =>
    intro i hd hi
    refine Ev.succ ?_
    simp only [impl_determinant.l0]
    refine Ev.neg (by omega) ?_
    rw [List.take_of_length_le (by omega)]
    have := bar_l1 hn (D n (mat m)) n 0 m (mat m) 1 (by omega) (by omega) ⟨hl, fun row hr => (h.rows row hr).1⟩ (fun i j hi hj => h.bnd i j hi hj) (.inl rfl) (by omega) (by show (1 : Int) ≠ 0; decide) (fun i j _ _ _ _ => by
      unfold B
      show _ = sm 1 _
      simp [sm, sg, D])
    exact this
  | succ d ih =>
    intro i hd hi
    have hlt : i < m.length := by omega
    have hrow := h.row (i := i) (by omega)
    refine Ev.succ ?_
    simp only [impl_determinant.l0]
    refine Ev.pos (by omega) (Ev.pos (by omega) (Ev.pos (by omega) (Ev.bind0 (a := rd_L1 m (i : Int)) (by unfold slices_Clone_int_int.f; first | rfl | rw [if_pos (by omega)]) (Ev.pos (by simp; omega) ?_))))
    rw [wrap_nat (by omega)]
    have e : m.take i ++ [rd_L1 m (i : Int)] = m.take (i + 1) := by rw [rdL_at hlt, List.take_succ_eq_append_getElem hlt]
    rw [e]
    exact ih (i + 1) (by omega) (by omega)
theorem determinant_ev {n : Nat} (hn : n ≤ 7) (m : List (List Int)) (h : Sq n m) : Ev (fun k => impl_determinant.f k m) (D n (mat m)) := by
  have hl := h.len
  unfold impl_determinant.f
  rw [hl]
  exact bar_l0 hn m h n 0 (by omega) (by omega)
end Go.Proofs.Ythbigmlpgoobiaa.M
