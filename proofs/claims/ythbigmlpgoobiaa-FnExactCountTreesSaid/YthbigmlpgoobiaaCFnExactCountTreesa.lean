/- The law FnExactCountTrees holds for every input: the program returns what the reference returns (or what the law says), for all arguments. -/
import Derived.Test.YthbigmlpgoobiaaMBase
import Derived.Test.YthbigmlpgoobiaaMGraph
import Derived.Test.YthbigmlpgoobiaaMDet
import Derived.Test.YthbigmlpgoobiaaRIn
import Derived.Test.YthbigmlpgoobiaaPimpllaplace
import Derived.Test.YthbigmlpgoobiaaPspectrLaplace
import Derived.Test.YthbigmlpgoobiaaPslicesDeleteintint
import Derived.Test.YthbigmlpgoobiaaPspecl1Own
import Derived.Test.YthbigmlpgoobiaaPspectrDet
import Derived.Test.YthbigmlpgoobiaaPimpldeterminant
import Derived.Test.YthbigmlpgoobiaaPfakeswap
import Derived.Test.YthbigmlpgoobiaaPslicesCloneintint
import Derived.Test.YthbigmlpgoobiaaPlawsFnExactCountTrees
import Derived.Test.YthbigmlpgoobiaaPimplCountTrees
import Derived.Test.YthbigmlpgoobiaaPspecCountTrees
import Derived.Test.YthbigmlpgoobiaaRows
import Derived.WalkKit
import Derived.ProofKit
import Derived.OpenShut
import Derived.ShutString
import Derived.ChangeOld
import Derived.Below
import Derived.SizedLaws
import Derived.Deep.Matrix
import Derived.Lib.SmallJoins
namespace Go.Proofs.Ythbigmlpgoobiaa.M
open Go.RowKit Go.Proofs.Ythbigmlpgoobiaa.P Go.Proofs.Ythbigmlpgoobiaa.In Go.Proofs.YthbigmlpgoobiaaW.PrintWords Go.Proofs.YthbigmlpgoobiaaW.PrintLast
set_option linter.unusedVariables false
set_option linter.unusedSimpArgs false
open DetKit
def mat (m : List (List Int)) : Nat → Nat → Int := fun i j => rd (rd_L1 m (i : Int)) (j : Int)
/-- As many rows as columns, n; numbers from -10 to 10. -/
structure Sq (n : Nat) (m : List (List Int)) : Prop where
  len : m.length = n
  rows : ∀ row ∈ m, row.length = n ∧ ∀ x ∈ row, -10 ≤ x ∧ x ≤ 10
theorem Sq.row {n : Nat} {m : List (List Int)} (h : Sq n m) {i : Nat} (hi : i < n) : (rd_L1 m (i : Int)).length = n := by
  have hl := h.len
  exact (h.rows (rd_L1 m (i : Int)) (by rw [rdL_at (by omega)]; exact List.getElem_mem _)).1
theorem Sq.bnd {n : Nat} {m : List (List Int)} (h : Sq n m) (i j : Nat) (hi : i < n) (hj : j < n) : -10 ≤ mat m i j ∧ mat m i j ≤ 10 := by
  have hl := h.len
  have hr := h.rows (rd_L1 m (i : Int)) (by rw [rdL_at (by omega)]; exact List.getElem_mem _)
  exact hr.2 _ (by unfold mat; rw [rd_at (by omega)]; exact List.getElem_mem _)
theorem bd_le6 {n : Nat} (h : n ≤ 6) : bd n ≤ 720000000 := by
  have : n = 0 ∨ n = 1 ∨ n = 2 ∨ n = 3 ∨ n = 4 ∨ n = 5 ∨ n = 6 := by omega
  rcases this with rfl | rfl | rfl | rfl | rfl | rfl | rfl <;> decide
theorem bd_le7 {n : Nat} (h : n ≤ 7) : bd n ≤ 50400000000 := by
  have : n = 0 ∨ n = 1 ∨ n = 2 ∨ n = 3 ∨ n = 4 ∨ n = 5 ∨ n = 6 ∨ n = 7 := by omega
  rcases this with rfl | rfl | rfl | rfl | rfl | rfl | rfl | rfl <;> decide
end Go.Proofs.Ythbigmlpgoobiaa.M
namespace Go.Proofs.Ythbigmlpgoobiaa.M
open Go.RowKit Go.Proofs.Ythbigmlpgoobiaa.P Go.Proofs.Ythbigmlpgoobiaa.In Go.Proofs.YthbigmlpgoobiaaW.PrintWords Go.Proofs.YthbigmlpgoobiaaW.PrintLast
set_option linter.unusedVariables false
set_option linter.unusedSimpArgs false
open DetKit
def decr : List Int → List Int → List Int
  | [], c => c
  | q :: row, c => decr row (c.set q.toNat (rd c q - 1))
theorem decr_len : ∀ (row c : List Int), (decr row c).length = c.length := by
  intro row
  induction row with
  | nil => intro c; rfl
  | cons q row ih => intro c; simp only [decr]; rw [ih]; simp
def lapRow (g : List (List Int)) (p : Nat) : List Int := decr (rd_L1 g (p : Int)) ((List.replicate g.length (0 : Int)).set p ((rd_L1 g (p : Int)).length : Int))
def lapFrom (g : List (List Int)) (sink : Nat) : Nat → Nat → List (List Int) → List (List Int)
  | 0, _, acc => acc
  | d + 1, i, acc => if i = sink then lapFrom g sink d (i + 1) acc else lapFrom g sink d (i + 1) (acc ++ [(lapRow g i).eraseIdx sink])
def lap (g : List (List Int)) (sink : Nat) : List (List Int) := lapFrom g sink g.length 0 []
def lowB (i : Nat) (c : List Int) : Prop := ∀ x ∈ c, -(i : Int) ≤ x ∧ x ≤ 5
theorem low_step {i : Nat} {c : List Int} (h : lowB i c) {q : Int} (h0 : 0 ≤ q) (h1 : q < (c.length : Int)) : -(i : Int) ≤ rd c q ∧ rd c q ≤ 5 ∧ lowB (i + 1) (c.set q.toNat (rd c q - 1)) := by
  have hq := h (rd c q) (by rw [rd_get h0 h1]; exact List.getElem_mem _)
  refine ⟨hq.1, hq.2, fun x hx => ?_⟩
  rcases List.mem_or_eq_of_mem_set hx with h2 | h2
  · have := h x h2; omega
  · subst h2; omega
theorem decr_low : ∀ (row c : List Int) (i : Nat), lowB i c → (∀ q ∈ row, 0 ≤ q ∧ q < (c.length : Int)) → lowB (i + row.length) (decr row c) := by
  intro row
  induction row with
  | nil => intro c i h _; exact h
  | cons q row ih =>
    intro c i h hr
    have hq := hr q (by simp)
    have := ih _ (i + 1) (low_step h hq.1 hq.2).2.2 (fun x hx => by have := hr x (by simp [hx]); simpa using this)
    simp only [decr]
    rw [show i + (q :: row).length = i + 1 + row.length by simp; omega]
    exact this
theorem low_start {n p len : Nat} (h : len ≤ 5) : lowB 0 ((List.replicate n (0 : Int)).set p (len : Int)) := by
  intro x hx
  rcases List.mem_or_eq_of_mem_set hx with h2 | h2
  · have := List.eq_of_mem_replicate h2; omega
  · omega
theorem lapRow_len (g : List (List Int)) (p : Nat) : (lapRow g p).length = g.length := by unfold lapRow; rw [decr_len]; simp
theorem lapRow_low {g : List (List Int)} (hg : goodG g = true) {p : Nat} (hp : p < g.length) : lowB 5 (lapRow g p) := by
  have hrow := (good_iff hg).2 (rd_L1 g (p : Int)) (by rw [rdL_at hp]; exact List.getElem_mem _)
  have := decr_low (rd_L1 g (p : Int)) ((List.replicate g.length (0 : Int)).set p ((rd_L1 g (p : Int)).length : Int)) 0 (low_start hrow.1) (fun q hq => by simpa using hrow.2 q hq)
  intro x hx
  have h2 := this x hx
  omega
theorem lapFrom_sq {g : List (List Int)} (hg : goodG g = true) {sink : Nat} (hs : sink < g.length) : ∀ (d i : Nat) (acc : List (List Int)), g.length - i = d → i ≤ g.length → (∀ row ∈ acc, row.length = g.length - 1 ∧ ∀ x ∈ row, -10 ≤ x ∧ x ≤ 10) → acc.length = (if sink < i then i - 1 else i) → (lapFrom g sink d i acc).length = g.length - 1 ∧ ∀ row ∈ lapFrom g sink d i acc, row.length = g.length - 1 ∧ ∀ x ∈ row, -10 ≤ x ∧ x ≤ 10 := by
  intro d
  induction d with
  | zero =>
    intro i acc hd hi ha hl
    rw [if_pos (by omega)] at hl
    exact ⟨by simp only [lapFrom]; omega, ha⟩
  | succ d ih =>
    intro i acc hd hi ha hl
    simp only [lapFrom]
    by_cases h : i = sink
    · rw [if_pos h]
      refine ih (i + 1) acc (by omega) (by omega) ha ?_
      rw [if_neg (by omega)] at hl
      rw [if_pos (by omega)]; omega
    · rw [if_neg h]
      refine ih (i + 1) _ (by omega) (by omega) (fun row hr => ?_) ?_
      · rcases List.mem_append.1 hr with h2 | h2
        · exact ha row h2
        · simp at h2; subst h2
          have hlr := lapRow_len g i
          refine ⟨by rw [List.length_eraseIdx_of_lt (by omega)]; omega, fun x hx => ?_⟩
          have := lapRow_low hg (p := i) (by omega) x (List.mem_of_mem_eraseIdx hx)
          omega
      · simp only [List.length_append, List.length_singleton, hl]
        by_cases h3 : sink < i
        · rw [if_pos h3, if_pos (by omega)]; omega
        · rw [if_neg h3, if_neg (by omega)]
theorem lap_sq {g : List (List Int)} (hg : goodG g = true) {sink : Nat} (hs : sink < g.length) : Sq (g.length - 1) (lap g sink) := by
  obtain ⟨a, b⟩ := lapFrom_sq hg hs g.length 0 [] (by omega) (by omega) (by simp) (by simp)
  exact ⟨a, b⟩
section
variable {g : List (List Int)} {r : List (List Int)}
theorem lapI_l1 (hg : goodG g = true) (sink p : Nat) (hs : sink < g.length) (hp : p < g.length) (acc : List (List Int)) (hacc : acc.length ≤ 8) (row : List Int) (h5 : row.length ≤ 5) (hr : ∀ q ∈ row, 0 ≤ q ∧ q < (g.length : Int)) :
    ∀ (d i : Nat) (c : List Int), row.length - i = d → i ≤ row.length → c.length = g.length → lowB i c → Ev (fun k => impl_laplace.l0 k sink (acc ++ [(decr (row.drop i) c).eraseIdx sink]) g g.length ((p + 1 : Nat) : Int) g) r → Ev (fun k => impl_laplace.l1 k sink acc c g g.length p row row.length i g) r := by
  have h8 := (good_iff hg).1.2
  intro d
  induction d with
  | zero =>
    intro i c hd hi hc hl h
    rw [List.drop_of_length_le (by omega)] at h
    refine Ev.succ ?_
    simp only [impl_laplace.l1]
    refine Ev.neg (by omega) (Ev.bind0 (a := c.eraseIdx sink) ?_ (Ev.pos (by omega) ?_))
    · unfold slices_Delete_int_int.f
      rw [wrap_nat (by omega), if_pos (by omega), if_pos (by omega), if_pos (by omega), Int.toNat_natCast]
    · rw [wrap_nat (n := p) (by omega)]
      exact h
  | succ d ih =>
    intro i c hd hi hc hl h
    have hlt : i < row.length := by omega
    have hq := hr (rd row i) (by rw [rd_at hlt]; exact List.getElem_mem _)
    obtain ⟨s1, s2, s3⟩ := low_step hl hq.1 (by rw [hc]; exact hq.2)
    rw [drop_rd hlt] at h
    simp only [decr] at h
    refine Ev.succ ?_
    simp only [impl_laplace.l1]
    refine Ev.pos (by omega) (Ev.pos (by omega) (Ev.pos (by omega) (Ev.pos hq.1 (Ev.pos (by omega) ?_))))
    rw [wrap_id (x := rd c (rd row i) - 1) (by omega), wrap_nat (n := i) (by omega)]
    exact ih (i + 1) _ (by omega) (by omega) (by simp; exact hc) s3 h
theorem lapI_l0 (hg : goodG g = true) (sink : Nat) (hs : sink < g.length) : ∀ (d i : Nat) (acc : List (List Int)), g.length - i = d → i ≤ g.length → acc.length ≤ i → Ev (fun k => impl_laplace.l0 k sink acc g g.length i g) (lapFrom g sink d i acc) := by
  have h8 := (good_iff hg).1.2
  intro d
  induction d with
  | zero =>
    intro i acc hd hi ha
    refine Ev.succ ?_
    simp only [impl_laplace.l0, lapFrom]
    exact Ev.neg (by omega) (Ev.now _)
  | succ d ih =>
    intro i acc hd hi ha
    have hrow := (good_iff hg).2 (rd_L1 g (i : Int)) (by rw [rdL_at (by omega)]; exact List.getElem_mem _)
    refine Ev.succ ?_
    simp only [impl_laplace.l0, lapFrom]
    refine Ev.pos (by omega) (Ev.pos (by omega) (Ev.pos (by omega) ?_))
    by_cases h : i = sink
    · rw [if_pos h]
      refine Ev.pos (by omega) ?_
      rw [wrap_nat (by omega)]
      exact ih (i + 1) acc (by omega) (by omega) (by omega)
    · rw [if_neg h]
      refine Ev.neg (by omega) (Ev.pos (by omega) (Ev.pos (by omega) (Ev.bind0 rfl (Ev.pos (by simp; omega) ?_))))
      rw [Int.toNat_natCast, Int.toNat_natCast]
      refine lapI_l1 hg sink i hs (by omega) acc (by omega) (rd_L1 g (i : Int)) hrow.1 hrow.2 _ 0 _ rfl (by omega) (by simp) (low_start hrow.1) ?_
      exact ih (i + 1) _ (by omega) (by omega) (by simp; omega)
theorem laplace_ev (hg : goodG g = true) {sink : Int} (h0 : 0 ≤ sink) (h1 : sink < (g.length : Int)) : Ev (fun k => impl_laplace.f k g sink) (lap g sink.toNat) := by
  unfold impl_laplace.f lap
  have := lapI_l0 hg sink.toNat (by omega) g.length 0 [] (by omega) (by omega) (by simp)
  rw [Int.toNat_of_nonneg h0] at this
  exact this
theorem own_l (l : List Int) (h : l.length ≤ 1048576) : spec_l1Own.f l = some l := by
  unfold spec_l1Own.f
  show (if ([] : List Int).length + l.length < 17592186044416 then some ([] ++ l) else none) = some l
  rw [if_pos (by simp; omega)]; rfl
theorem lapS_l1 (hg : goodG g = true) (sink p : Nat) (hs : sink < g.length) (hp : p < g.length) (acc : List (List Int)) (hacc : acc.length ≤ 8) (row : List Int) (h5 : row.length ≤ 5) (hr : ∀ q ∈ row, 0 ≤ q ∧ q < (g.length : Int)) :
    ∀ (d i : Nat) (c : List Int), row.length - i = d → i ≤ row.length → c.length = g.length → lowB i c → Ev (fun k => spec_trLaplace.l0 k sink (acc ++ [(decr (row.drop i) c).eraseIdx sink]) g g.length ((p + 1 : Nat) : Int) g) r → Ev (fun k => spec_trLaplace.l1 k sink acc c g g.length p row row.length i g) r := by
  have h8 := (good_iff hg).1.2
  intro d
  induction d with
  | zero =>
    intro i c hd hi hc hl h
    rw [List.drop_of_length_le (by omega)] at h
    simp only [decr] at h
    rw [List.eraseIdx_eq_take_drop_succ] at h
    refine Ev.succ ?_
    simp only [spec_trLaplace.l1]
    rw [wrap_nat (n := sink) (by omega), Int.toNat_natCast, Int.toNat_natCast]
    refine Ev.neg (by omega) (Ev.pos (by omega) (Ev.pos (by omega) (Ev.bind0 (own_l _ (by simp; omega)) (Ev.pos (by omega) (Ev.pos (by omega) (Ev.bind0 rfl (Ev.pos (by simp; omega) (Ev.pos (by omega) ?_))))))))
    rw [wrap_nat (n := p) (by omega)]
    exact h
  | succ d ih =>
    intro i c hd hi hc hl h
    have hlt : i < row.length := by omega
    have hq := hr (rd row i) (by rw [rd_at hlt]; exact List.getElem_mem _)
    obtain ⟨s1, s2, s3⟩ := low_step hl hq.1 (by rw [hc]; exact hq.2)
    rw [drop_rd hlt] at h
    simp only [decr] at h
    refine Ev.succ ?_
    simp only [spec_trLaplace.l1]
    refine Ev.pos (by omega) (Ev.pos (by omega) (Ev.pos (by omega) (Ev.pos hq.1 (Ev.pos (by omega) ?_))))
    rw [wrap_id (x := rd c (rd row i) - 1) (by omega), wrap_nat (n := i) (by omega)]
    exact ih (i + 1) _ (by omega) (by omega) (by simp; exact hc) s3 h
theorem lapS_l0 (hg : goodG g = true) (sink : Nat) (hs : sink < g.length) : ∀ (d i : Nat) (acc : List (List Int)), g.length - i = d → i ≤ g.length → acc.length ≤ i → Ev (fun k => spec_trLaplace.l0 k sink acc g g.length i g) (lapFrom g sink d i acc) := by
  have h8 := (good_iff hg).1.2
  intro d
  induction d with
  | zero =>
    intro i acc hd hi ha
    refine Ev.succ ?_
    simp only [spec_trLaplace.l0, lapFrom]
    exact Ev.neg (by omega) (Ev.now _)
  | succ d ih =>
    intro i acc hd hi ha
    have hrow := (good_iff hg).2 (rd_L1 g (i : Int)) (by rw [rdL_at (by omega)]; exact List.getElem_mem _)
    refine Ev.succ ?_
    simp only [spec_trLaplace.l0, lapFrom]
    refine Ev.pos (by omega) (Ev.pos (by omega) (Ev.pos (by omega) ?_))
    by_cases h : i = sink
    · rw [if_pos h]
      refine Ev.pos (by omega) ?_
      rw [wrap_nat (by omega)]
      exact ih (i + 1) acc (by omega) (by omega) (by omega)
    · rw [if_neg h]
      refine Ev.neg (by omega) (Ev.pos (by omega) (Ev.pos (by omega) (Ev.bind0 rfl (Ev.pos (by simp; omega) ?_))))
      rw [Int.toNat_natCast, Int.toNat_natCast]
      refine lapS_l1 hg sink i hs (by omega) acc (by omega) (rd_L1 g (i : Int)) hrow.1 hrow.2 _ 0 _ rfl (by omega) (by simp) (low_start hrow.1) ?_
      exact ih (i + 1) _ (by omega) (by omega) (by simp; omega)
theorem trLaplace_ev (hg : goodG g = true) {sink : Int} (h0 : 0 ≤ sink) (h1 : sink < (g.length : Int)) : Ev (fun k => spec_trLaplace.f k g sink) (lap g sink.toNat) := by
  unfold spec_trLaplace.f lap
  have := lapS_l0 hg sink.toNat (by omega) g.length 0 [] (by omega) (by omega) (by simp)
  rw [Int.toNat_of_nonneg h0] at this
  exact this
end
end Go.Proofs.Ythbigmlpgoobiaa.M
namespace Go.Proofs.Ythbigmlpgoobiaa.M
open Go.RowKit Go.Proofs.Ythbigmlpgoobiaa.P Go.Proofs.Ythbigmlpgoobiaa.In Go.Proofs.YthbigmlpgoobiaaW.PrintWords Go.Proofs.YthbigmlpgoobiaaW.PrintLast
set_option linter.unusedVariables false
set_option linter.unusedSimpArgs false
open DetKit
def cutc (c : Nat) (row : List Int) : List Int := row.take c ++ row.drop (c + 1)
theorem cutc_len {c : Nat} {row : List Int} (h : c < row.length) : (cutc c row).length = row.length - 1 := by unfold cutc; simp; omega
theorem rd_cutc {c j : Nat} {row : List Int} (hc : c < row.length) (hj : j + 1 < row.length) : rd (cutc c row) (j : Int) = rd row ((skip c j : Nat) : Int) := by
  rw [rd_at (by rw [cutc_len hc]; omega), rd_at (by unfold skip; split <;> omega)]
  unfold cutc skip
  by_cases h : j < c
  · rw [List.getElem_append_left (by simp; omega)]; simp [h]
  · rw [List.getElem_append_right (by simp; omega)]
    simp only [List.getElem_drop, List.length_take, if_neg h]
    congr 1; omega
def minr (m : List (List Int)) (c : Nat) : List (List Int) := (m.drop 1).map (cutc c)
theorem minr_sq {n c : Nat} {m : List (List Int)} (h : Sq (n + 1) m) (hc : c < n + 1) : Sq n (minr m c) := by
  have hl := h.len
  refine ⟨by unfold minr; simp; omega, fun row hr => ?_⟩
  obtain ⟨r, hr1, rfl⟩ := List.mem_map.1 hr
  have h2 := h.rows r (List.mem_of_mem_drop hr1)
  refine ⟨by rw [cutc_len (by omega)]; omega, fun x hx => ?_⟩
  unfold cutc at hx
  rcases List.mem_append.1 hx with h3 | h3
  · exact h2.2 x (List.mem_of_mem_take h3)
  · exact h2.2 x (List.mem_of_mem_drop h3)
theorem minr_mat {n c : Nat} {m : List (List Int)} (h : Sq (n + 1) m) (hc : c < n + 1) (i j : Nat) (hi : i < n) (hj : j < n) : mat (minr m c) i j = mat m (i + 1) (skip c j) := by
  have hl := h.len
  have hm : (minr m c).length = n := (minr_sq h hc).len
  have e : rd_L1 (minr m c) (i : Int) = cutc c (rd_L1 m ((i + 1 : Nat) : Int)) := by
    rw [rdL_at (by omega), rdL_at (by omega)]
    unfold minr
    simp only [List.getElem_map, List.getElem_drop]
    congr 2; omega
  have hr := h.row (i := i + 1) (by omega)
  unfold mat
  rw [e, rd_cutc (by omega) (by omega)]
def dterm (n : Nat) (m : List (List Int)) (c : Nat) : Int := sg c * mat m 0 c * D n (fun i j => mat m (i + 1) (skip c j))
theorem dterm_bound {n : Nat} (hn : n ≤ 6) {m : List (List Int)} (h : Sq (n + 1) m) {c : Nat} (hc : c < n + 1) : -7200000000 ≤ dterm n m c ∧ dterm n m c ≤ 7200000000 := by
  have hb := D_bound n (fun i j => mat m (i + 1) (skip c j)) (fun i j hi hj => h.bnd _ _ (by omega) (skip_lt hj))
  have h6 := bd_le6 hn
  have := term_bound (b := 720000000) (sg_or c) (h.bnd 0 c (by omega) hc) (d := D n (fun i j => mat m (i + 1) (skip c j))) (by omega)
  unfold dterm; omega
theorem own_s (l : List Int) (h : l.length ≤ 1048576) : spec_l1Own.f l = some l := by
  unfold spec_l1Own.f
  show (if ([] : List Int).length + l.length < 17592186044416 then some ([] ++ l) else none) = some l
  rw [if_pos (by simp; omega)]; rfl
theorem trDet_l1 (x0 : List (List Int)) (x3 x4 x6 : Int) (c : Nat) (row0 t : List (List Int)) (x15 : List Int) (x16 x17 : Int) (r : Int) (ht : t.length ≤ 8) (hc : c ≤ 7) (hrow : ∀ row ∈ t, c < row.length ∧ row.length ≤ 8) :
    ∀ (d i : Nat) (acc : List (List Int)), t.length - i = d → i ≤ t.length → acc.length = i → Ev (fun k => (spec_trDet.f k (acc ++ (t.drop i).map (cutc c))).bind fun t684 => spec_trDet.l0 k x0 (wrap64 (x3 + (wrap64 ((wrap64 (x4 * x6)) * t684)))) (wrap64 (-x4)) x15 x16 (wrap64 (x17 + 1))) r →
    Ev (fun k => spec_trDet.l1 k x0 x3 x4 c x6 acc x15 x16 x17 t t.length i) r := by
  intro d
  induction d with
  | zero =>
    intro i acc hd hi ha h
    refine Ev.succ ?_
    simp only [spec_trDet.l1]
    refine Ev.neg (by omega) ?_
    rw [List.drop_of_length_le (by omega)] at h
    simpa using h
  | succ d ih =>
    intro i acc hd hi ha h
    have hlt : i < t.length := by omega
    have e := rdL_at hlt
    have hr := hrow (rd_L1 t i) (by rw [e]; exact List.getElem_mem _)
    refine Ev.succ ?_
    simp only [spec_trDet.l1]
    rw [wrap_nat (n := c) (by omega), Int.toNat_natCast, Int.toNat_natCast]
    refine Ev.pos (by omega) (Ev.pos (by omega) (Ev.pos (by omega) (Ev.pos (by omega) (Ev.pos (by omega) (Ev.bind0 (own_s _ (by simp; omega)) (Ev.pos (by omega) (Ev.pos (by omega) (Ev.pos (by simp; omega) (Ev.pos (by omega) ?_)))))))))
    rw [wrap_nat (n := i) (by omega)]
    refine ih (i + 1) _ (by omega) (by omega) (by simp; omega) ?_
    rw [List.drop_eq_getElem_cons hlt, List.map_cons, ← e] at h
    rw [List.append_assoc]
    exact h
theorem trDet_ev : ∀ (n : Nat) (m : List (List Int)), n ≤ 7 → Sq n m → Ev (fun k => spec_trDet.f k m) (D n (mat m)) := by
  intro n
  induction n with
  | zero =>
    intro m hn h
    have hl := h.len
    refine Ev.succ ?_
    simp only [spec_trDet.f]
    exact Ev.pos (by omega) (Ev.now _)
  | succ n ih =>
    intro m hn h
    have hl := h.len
    have hr0 : (rd_L1 m (0 : Int)).length = n + 1 := h.row (i := 0) (by omega)
    refine Ev.succ ?_
    simp only [spec_trDet.f]
    refine Ev.neg (by omega) (Ev.pos (by omega) ?_)
    rw [hr0]
    have key : ∀ (d c : Nat), n + 1 - c = d → c ≤ n + 1 → Ev (fun k => spec_trDet.l0 k m (sm c (dterm n m)) (sg c) (rd_L1 m (0 : Int)) ((n + 1 : Nat) : Int) c) (D (n + 1) (mat m)) := by
      intro d
      induction d with
      | zero =>
        intro c hd hc
        have : c = n + 1 := by omega
        subst this
        refine Ev.succ ?_
        simp only [spec_trDet.l0]
        exact Ev.neg (by omega) ((Ev.now _).val rfl)
      | succ d ihd =>
        intro c hd hc
        have hcl : c < n + 1 := by omega
        have hx : rd (rd_L1 m (0 : Int)) (c : Int) = mat m 0 c := rfl
        have hb := dterm_bound (by omega) h hcl
        have hsb := sm_bound c (dterm n m) 7200000000 (fun i hi => dterm_bound (by omega) h (by omega))
        have hs : wrap64 (- sg c) = sg (c + 1) := by
          rw [sg_succ]; exact wrap_id (by rcases sg_or c with e | e <;> rw [e] <;> omega)
        have hnext := ihd (c + 1) (by omega) (by omega)
        refine Ev.succ ?_
        simp only [spec_trDet.l0]
        rw [hx, hs, wrap_nat (n := c) (by omega)]
        refine Ev.pos (by omega) (Ev.pos (by omega) (Ev.pos (by omega) ?_))
        by_cases hz : mat m 0 c = 0
        · refine Ev.pos hz ?_
          have : sm (c + 1) (dterm n m) = sm c (dterm n m) := by
            simp only [sm, dterm, hz]; simp
          rw [this] at hnext
          exact hnext
        · refine Ev.neg hz (Ev.pos (by omega) (Ev.bind0 rfl ?_))
          have hrow : ∀ row ∈ m.drop 1, c < row.length ∧ row.length ≤ 8 := fun row hr => by
            have := (h.rows row (List.mem_of_mem_drop hr)).1; omega
          refine trDet_l1 m _ _ _ c m (m.drop 1) _ _ _ _ (by simp; omega) (by omega) hrow _ 0 [] rfl (by omega) rfl ?_
          have hmin := ih (minr m c) (by omega) (minr_sq h hcl)
          have hD : D n (mat (minr m c)) = D n (fun i j => mat m (i + 1) (skip c j)) := D_congr (fun i hi j hj => minr_mat h hcl i j hi hj)
          rw [hD] at hmin
          refine Ev.bind (a := D n (fun i j => mat m (i + 1) (skip c j))) (by simpa [minr] using hmin) ?_
          have hx10 := h.bnd 0 c (by omega) hcl
          have hsx : -10 ≤ sg c * mat m 0 c ∧ sg c * mat m 0 c ≤ 10 := by
            rcases sg_or c with e | e <;> rw [e] <;> omega
          have hdt : wrap64 (wrap64 (sg c * mat m 0 c) * D n (fun i j => mat m (i + 1) (skip c j))) = dterm n m c := by
            rw [wrap_id (x := sg c * mat m 0 c) (by omega)]
            show wrap64 (dterm n m c) = _
            exact wrap_id (by omega)
          rw [hdt, wrap_id (x := sm c (dterm n m) + dterm n m c) (by omega), hs, wrap_nat (n := c) (by omega)]
          exact hnext
    exact key (n + 1) 0 (by omega) (by omega)
end Go.Proofs.Ythbigmlpgoobiaa.M
namespace Go.Proofs.Ythbigmlpgoobiaa.M
open Go.RowKit Go.Proofs.Ythbigmlpgoobiaa.P Go.Proofs.Ythbigmlpgoobiaa.In Go.Proofs.YthbigmlpgoobiaaW.PrintWords Go.Proofs.YthbigmlpgoobiaaW.PrintLast
set_option linter.unusedVariables false
set_option linter.unusedSimpArgs false
open DetKit
structure Rect (n : Nat) (a : List (List Int)) : Prop where
  len : a.length = n
  rows : ∀ row ∈ a, row.length = n
theorem Rect.row {n : Nat} {a : List (List Int)} (h : Rect n a) {i : Nat} (hi : i < n) : (rd_L1 a (i : Int)).length = n := by
  have hl := h.len
  exact h.rows (rd_L1 a (i : Int)) (by rw [rdL_at (by omega)]; exact List.getElem_mem _)
theorem rdL_set {a : List (List Int)} {i j : Nat} (hi : i < a.length) (row : List Int) : rd_L1 (a.set i row) (j : Int) = if j = i then row else rd_L1 a (j : Int) := by
  unfold rd_L1
  rw [Int.toNat_natCast]
  by_cases h : j = i
  · subst h; rw [if_pos rfl]; simp [List.getD, hi]
  · rw [if_neg h]; simp only [List.getD, List.getElem?_set_ne (fun e => h e.symm)]
theorem rdn_set {l : List Int} {i j : Nat} (hi : i < l.length) (v : Int) : rd (l.set i v) (j : Int) = if j = i then v else rd l (j : Int) := by
  unfold rd
  rw [Int.toNat_natCast]
  by_cases h : j = i
  · subst h; rw [if_pos rfl]; simp [List.getD, hi]
  · rw [if_neg h]; simp only [List.getD, List.getElem?_set_ne (fun e => h e.symm)]
theorem mat_set {n : Nat} {a : List (List Int)} (h : Rect n a) {i j : Nat} (hi : i < n) (hj : j < n) (v : Int) (p q : Nat) : mat (a.set i ((rd_L1 a (i : Int)).set j v)) p q = if p = i ∧ q = j then v else mat a p q := by
  have hl := h.len
  have hr := h.row hi
  unfold mat
  rw [rdL_set (by omega)]
  by_cases hp : p = i
  · rw [if_pos hp, rdn_set (by omega)]
    by_cases hq : q = j
    · rw [if_pos hq, if_pos ⟨hp, hq⟩]
    · rw [if_neg hq, if_neg (fun e => hq e.2), hp]
  · rw [if_neg hp, if_neg (fun e => hp e.1)]
theorem rect_set {n : Nat} {a : List (List Int)} (h : Rect n a) {i : Nat} {row : List Int} (hr : row.length = n) : Rect n (a.set i row) :=
  ⟨by simp; exact h.len, fun x hx => by
    rcases List.mem_or_eq_of_mem_set hx with h2 | h2
    · exact h.rows x h2
    · rw [h2]; exact hr⟩
theorem getD_rd (a : List (List Int)) (i : Nat) : a.getD i [] = rd_L1 a (i : Int) := by unfold rd_L1; rw [Int.toNat_natCast]
theorem rdL_swp {a : List (List Int)} {p q : Nat} (hp : p < a.length) (hq : q < a.length) (i : Nat) : rd_L1 (swp a [] p q) (i : Int) = if i = q then rd_L1 a (p : Int) else if i = p then rd_L1 a (q : Int) else rd_L1 a (i : Int) := by
  unfold swp
  rw [rdL_set (by simp; exact hq), rdL_set hp, getD_rd, getD_rd]
theorem rect_swp {n : Nat} {a : List (List Int)} (h : Rect n a) {p q : Nat} (hp : p < n) (hq : q < n) : Rect n (swp a [] p q) := by
  unfold swp
  rw [getD_rd, getD_rd]
  exact rect_set (rect_set h (h.row hq)) (h.row hp)
/-- Behind the elements up to (i, j), in the rows and columns behind kk: what stands there is of the next round. -/
def Upd (n kk : Nat) (A : Nat → Nat → Int) (a0 a : List (List Int)) (i j : Nat) : Prop :=
  ∀ p q, p < n → q < n → mat a p q = if kk < p ∧ kk < q ∧ (p < i ∨ (p = i ∧ q < j)) then B A (kk + 1) p q else mat a0 p q
theorem B_bound {n : Nat} {A : Nat → Nat → Int} (hA : ∀ i j, i < n → j < n → -10 ≤ A i j ∧ A i j ≤ 10) {k i j : Nat} (hk : k ≤ n) (hi : i < n) (hj : j < n) : -(bd (k + 1)) ≤ B A k i j ∧ B A k i j ≤ bd (k + 1) := by
  unfold B
  exact D_bound (k + 1) _ (fun a b ha hb => hA _ _ (by split <;> omega) (by split <;> omega))
section
variable {n kk : Nat} {A : Nat → Nat → Int} {a0 : List (List Int)} {s r : Int}
theorem bar_l4 (hn : n ≤ 7) (hA : ∀ i j, i < n → j < n → -10 ≤ A i j ∧ A i j ≤ 10) (hp : D kk A ≠ 0) (ha0 : ∀ i j, kk ≤ i → kk ≤ j → i < n → j < n → mat a0 i j = B A kk i j) {i : Nat} (hi : kk < i) (hin : i < n)
    (hnext : ∀ a, Rect n a → Upd n kk A a0 a (i + 1) (kk + 1) → Ev (fun k => impl_determinant.l3 k n s (D kk A) a kk ((i + 1 : Nat) : Int) n kk) r) :
    ∀ (d j : Nat) (a : List (List Int)), n - j = d → j ≤ n → kk < j → Rect n a → Upd n kk A a0 a i j → Ev (fun k => impl_determinant.l4 k n s (D kk A) a kk i j n kk) r := by
  intro d
  induction d with
  | zero =>
    intro j a hd hj hkj ha hu
    refine Ev.succ ?_
    simp only [impl_determinant.l4]
    refine Ev.neg (by omega) ?_
    rw [wrap_nat (by omega)]
    refine hnext a ha (fun p q hp hq => ?_)
    rw [hu p q hp hq]
    by_cases c : kk < p ∧ kk < q ∧ (p < i ∨ (p = i ∧ q < j))
    · rw [if_pos c, if_pos ⟨c.1, c.2.1, by omega⟩]
    · rw [if_neg c, if_neg (fun c2 => c ⟨c2.1, c2.2.1, by omega⟩)]
  | succ d ih =>
    intro j a hd hj hkj ha hu
    have hl := ha.len
    have hri := ha.row hin
    have hrk := ha.row (i := kk) (by omega)
    have hX : mat a i j = B A kk i j := by rw [hu i j hin (by omega), if_neg (by omega)]; exact ha0 i j (by omega) (by omega) hin (by omega)
    have hY : mat a kk kk = B A kk kk kk := by rw [hu kk kk (by omega) (by omega), if_neg (by omega)]; exact ha0 kk kk (by omega) (by omega) (by omega) (by omega)
    have hZ : mat a i kk = B A kk i kk := by rw [hu i kk hin (by omega), if_neg (by omega)]; exact ha0 i kk (by omega) (by omega) hin (by omega)
    have hW : mat a kk j = B A kk kk j := by rw [hu kk j (by omega) (by omega), if_neg (by omega)]; exact ha0 kk j (by omega) (by omega) (by omega) (by omega)
    have b6 := bd_le6 (n := kk + 1) (by omega)
    have b7 := bd_le7 (n := kk + 1 + 1) (by omega)
    have bX := B_bound hA (k := kk) (i := i) (j := j) (by omega) hin (by omega)
    have bY := B_bound hA (k := kk) (i := kk) (j := kk) (by omega) (by omega) (by omega)
    have bZ := B_bound hA (k := kk) (i := i) (j := kk) (by omega) hin (by omega)
    have bW := B_bound hA (k := kk) (i := kk) (j := j) (by omega) (by omega) (by omega)
    have bN := B_bound hA (k := kk + 1) (i := i) (j := j) (by omega) hin (by omega)
    have m1 := mul_bound (x := B A kk i j) (y := B A kk kk kk) (a := 720000000) (b := 720000000) (by omega) (by omega)
    have m2 := mul_bound (x := B A kk i kk) (y := B A kk kk j) (a := 720000000) (b := 720000000) (by omega) (by omega)
    have st := B_step A kk i j hp
    rw [Int.mul_comm (B A kk kk kk)] at st
    have hval : wrap64 (Int.tdiv (wrap64 (wrap64 (rd (rd_L1 a (i : Int)) (j : Int) * rd (rd_L1 a (kk : Int)) (kk : Int)) - wrap64 (rd (rd_L1 a (i : Int)) (kk : Int) * rd (rd_L1 a (kk : Int)) (j : Int)))) (D kk A)) = B A (kk + 1) i j := by
      show wrap64 (Int.tdiv (wrap64 (wrap64 (mat a i j * mat a kk kk) - wrap64 (mat a i kk * mat a kk j))) (D kk A)) = _
      rw [hX, hY, hZ, hW, wrap_id (x := B A kk i j * B A kk kk kk) (by omega), wrap_id (x := B A kk i kk * B A kk kk j) (by omega), wrap_id (x := B A kk i j * B A kk kk kk - B A kk i kk * B A kk kk j) (by omega), ← st, Int.mul_tdiv_cancel_left _ hp]
      exact wrap_id (by omega)
    refine Ev.succ ?_
    simp only [impl_determinant.l4]
    refine Ev.pos (by omega) (Ev.pos (by omega) (Ev.pos (by omega) (Ev.pos (by omega) (Ev.pos (by omega) (Ev.pos (by omega) (Ev.pos (by omega) (Ev.pos (by omega) (Ev.pos (by omega) (Ev.pos (by omega) (Ev.neg hp ?_))))))))))
    rw [hval, wrap_nat (by omega), Int.toNat_natCast, Int.toNat_natCast]
    refine ih (j + 1) _ (by omega) (by omega) (by omega) (rect_set ha (by simp; exact hri)) (fun p q hpn hqn => ?_)
    rw [mat_set ha hin (by omega)]
    by_cases c : p = i ∧ q = j
    · rw [if_pos c, if_pos (by omega), c.1, c.2]
    · rw [if_neg c, hu p q hpn hqn]
      by_cases c2 : kk < p ∧ kk < q ∧ (p < i ∨ (p = i ∧ q < j))
      · rw [if_pos c2, if_pos (by omega)]
      · rw [if_neg c2, if_neg (by omega)]
theorem bar_l3 (hn : n ≤ 7) (hkn : kk < n) (hA : ∀ i j, i < n → j < n → -10 ≤ A i j ∧ A i j ≤ 10) (hp : D kk A ≠ 0) (ha0 : ∀ i j, kk ≤ i → kk ≤ j → i < n → j < n → mat a0 i j = B A kk i j)
    (hnext : ∀ a, Rect n a → Upd n kk A a0 a n (kk + 1) → Ev (fun k => impl_determinant.l1 k n s (mat a0 kk kk) a n ((kk + 1 : Nat) : Int)) r) :
    ∀ (d i : Nat) (a : List (List Int)), n - i = d → i ≤ n → kk < i → Rect n a → Upd n kk A a0 a i (kk + 1) → Ev (fun k => impl_determinant.l3 k n s (D kk A) a kk i n kk) r := by
  intro d
  induction d with
  | zero =>
    intro i a hd hi hki ha hu
    have : i = n := by omega
    subst this
    have hl := ha.len
    have hrk := ha.row hkn
    have hY : rd (rd_L1 a (kk : Int)) (kk : Int) = mat a0 kk kk := by
      show mat a kk kk = _
      rw [hu kk kk hkn hkn, if_neg (by omega)]
    refine Ev.succ ?_
    simp only [impl_determinant.l3]
    refine Ev.neg (by omega) (Ev.pos (by omega) (Ev.pos (by omega) (Ev.pos (by omega) ?_)))
    rw [hY, wrap_nat (by omega)]
    exact hnext a ha hu
  | succ d ih =>
    intro i a hd hi hki ha hu
    refine Ev.succ ?_
    simp only [impl_determinant.l3]
    refine Ev.pos (by omega) ?_
    rw [wrap_nat (by omega)]
    exact bar_l4 hn hA hp ha0 hki (by omega) (fun a' ha' hu' => ih (i + 1) a' (by omega) (by omega) (by omega) ha' hu') (n - (kk + 1)) (kk + 1) a rfl (by omega) (by omega) ha hu
end
theorem B_swap {A : Nat → Nat → Int} {k p i j : Nat} (hp : k ≤ p) (hi : k ≤ i) : B (swapRows A p k) k i j = B A k (if i = p then k else if i = k then p else i) j := by
  unfold B
  refine D_congr (fun a ha b hb => ?_)
  by_cases hak : a < k
  · rw [if_pos hak, if_pos hak]; unfold swapRows; rw [if_neg (by omega), if_neg (by omega)]
  · rw [if_neg hak, if_neg hak]; unfold swapRows
    by_cases h1 : i = p
    · rw [if_pos h1, if_pos h1]
    · rw [if_neg h1, if_neg h1]
      by_cases h2 : i = k
      · rw [if_pos h2, if_pos h2]
      · rw [if_neg h2, if_neg h2]
theorem D_swap_low {A : Nat → Nat → Int} {k p : Nat} (hp : k ≤ p) : D k (swapRows A p k) = D k A :=
  D_congr (fun i hi j hj => by unfold swapRows; rw [if_neg (by omega), if_neg (by omega)])
theorem bar_l1 {n : Nat} (hn : n ≤ 7) (R : Int) : ∀ (d kk : Nat) (a : List (List Int)) (A : Nat → Nat → Int) (s : Int), n - kk = d → kk ≤ n → Rect n a → (∀ i j, i < n → j < n → -10 ≤ A i j ∧ A i j ≤ 10) → (s = 1 ∨ s = -1) → s * D n A = R → D kk A ≠ 0 → (∀ i j, kk ≤ i → kk ≤ j → i < n → j < n → mat a i j = B A kk i j) → Ev (fun k => impl_determinant.l1 k n s (D kk A) a n kk) R := by
  intro d
  induction d with
  | zero =>
    intro kk a A s hd hk ha hA hs hR hp hm
    have : kk = n := by omega
    subst this
    have hb := D_bound kk A (fun i j hi hj => hA i j hi hj)
    have b7 := bd_le7 hn
    refine Ev.succ ?_
    simp only [impl_determinant.l1]
    refine Ev.neg (by omega) ((Ev.now _).val ?_)
    rw [← hR]
    exact wrap_id (by rcases hs with rfl | rfl <;> omega)
  | succ d ih =>
    intro kk a A s hd hk ha hA hs hR hp hm
    have hkn : kk < n := by omega
    have hl := ha.len
    have round : ∀ (a1 : List (List Int)) (A1 : Nat → Nat → Int) (s1 : Int), Rect n a1 → (∀ i j, i < n → j < n → -10 ≤ A1 i j ∧ A1 i j ≤ 10) → (s1 = 1 ∨ s1 = -1) → s1 * D n A1 = R → D kk A1 = D kk A → (∀ i j, kk ≤ i → kk ≤ j → i < n → j < n → mat a1 i j = B A1 kk i j) → mat a1 kk kk ≠ 0 → Ev (fun k => impl_determinant.j4 k n s1 (D kk A) a1 kk n kk) R := by
      intro a1 A1 s1 h1 h2 h3 h4 h5 h6 h7
      have hd1 : D (kk + 1) A1 = mat a1 kk kk := by rw [h6 kk kk (by omega) (by omega) hkn hkn, B_diag]
      refine Ev.succ ?_
      simp only [impl_determinant.j4]
      rw [wrap_nat (by omega), ← h5]
      refine bar_l3 hn hkn h2 (by rw [h5]; exact hp) h6 (fun a' ha' hu' => ?_) (n - (kk + 1)) (kk + 1) a1 rfl (by omega) (by omega) h1 (fun p q _ _ => by rw [if_neg (by omega)])
      rw [← hd1]
      refine ih (kk + 1) a' A1 s1 (by omega) (by omega) ha' h2 h3 h4 (by rw [hd1]; exact h7) (fun i j hi hj hin hjn => ?_)
      rw [hu' i j hin hjn, if_pos ⟨by omega, by omega, .inl hin⟩]
    have pv : ∀ (e p : Nat), n - p = e → p ≤ n → kk ≤ p → (∀ q, kk ≤ q → q < p → B A kk q kk = 0) → Ev (fun k => impl_determinant.l2 k n s (D kk A) a kk p n kk) R := by
      intro e
      induction e with
      | zero =>
        intro p he hpn hkp hz
        have h0 : D n A = 0 := B_none A n kk hkn hp (fun i hi hin => hz i hi (by omega))
        refine Ev.succ ?_
        simp only [impl_determinant.l2]
        refine Ev.neg (by omega) (Ev.succ ?_)
        simp only [impl_determinant.j3]
        refine Ev.pos (by omega) ((Ev.now _).val ?_)
        rw [← hR, h0, Int.mul_zero]
      | succ e ihe =>
        intro p he hpn hkp hz
        have hrp := ha.row (i := p) (by omega)
        have hx : rd (rd_L1 a (p : Int)) (kk : Int) = B A kk p kk := hm p kk hkp (by omega) (by omega) hkn
        refine Ev.succ ?_
        simp only [impl_determinant.l2]
        refine Ev.pos (by omega) (Ev.pos (by omega) (Ev.pos (by omega) (Ev.pos (by omega) (Ev.pos (by omega) ?_))))
        rw [hx]
        by_cases h0 : B A kk p kk = 0
        · refine Ev.pos h0 ?_
          rw [wrap_nat (by omega)]
          refine ihe (p + 1) (by omega) (by omega) (by omega) (fun q h1 h2 => ?_)
          by_cases hq : q = p
          · rw [hq]; exact h0
          · exact hz q h1 (by omega)
        · refine Ev.neg h0 (Ev.succ ?_)
          simp only [impl_determinant.j3]
          refine Ev.neg (by omega) ?_
          by_cases hpk : p = kk
          · subst hpk
            refine Ev.pos rfl ?_
            exact round a A s ha hA hs hR rfl hm (by rw [hm p p (by omega) (by omega) hkn hkn]; exact h0)
          · refine Ev.neg (by omega) (Ev.bind0 (a := swp a [] p kk) ?_ ?_)
            · unfold fake_swap.f
              rw [if_pos (by omega), if_pos (by omega), if_pos (by omega), if_pos (by omega), Int.toNat_natCast, Int.toNat_natCast]
            · have hs1 : wrap64 (-s) = -s := wrap_id (by rcases hs with rfl | rfl <;> omega)
              rw [hs1]
              have hmm : ∀ i j, kk ≤ i → kk ≤ j → i < n → j < n → mat (swp a [] p kk) i j = B (swapRows A p kk) kk i j := fun i j hi hj hin hjn => by
                rw [B_swap hkp hi]
                unfold mat
                rw [rdL_swp (by omega) (by omega)]
                by_cases h1 : i = kk
                · rw [if_pos h1, if_neg (by omega), if_pos h1]; exact hm p j hkp hj (by omega) hjn
                · rw [if_neg h1]
                  by_cases h2 : i = p
                  · rw [if_pos h2, if_pos h2]; exact hm kk j (by omega) hj hkn hjn
                  · rw [if_neg h2, if_neg h2, if_neg h1]; exact hm i j hi hj hin hjn
              refine round (swp a [] p kk) (swapRows A p kk) (-s) (rect_swp ha (by omega) hkn) (fun i j hi hj => ?_) (by omega) ?_ (D_swap_low hkp) hmm ?_
              · unfold swapRows
                split
                · exact hA _ _ hkn hj
                · split
                  · exact hA _ _ (by omega) hj
                  · exact hA _ _ hi hj
              · rw [D_swap n A p kk (by omega) hkn hpk, Int.neg_mul_neg]; exact hR
              · rw [hmm kk kk (by omega) (by omega) hkn hkn, B_swap hkp (by omega), if_neg (by omega), if_pos rfl]
                exact h0
    refine Ev.succ ?_
    simp only [impl_determinant.l1]
    exact Ev.pos (by omega) (pv (n - kk) kk rfl (by omega) (by omega) (fun q h1 h2 => by omega))
theorem bar_l0 {n : Nat} (hn : n ≤ 7) (m : List (List Int)) (h : Sq n m) : ∀ (d i : Nat), n - i = d → i ≤ n → Ev (fun k => impl_determinant.l0 k n 1 1 (m.take i) m n i) (D n (mat m)) := by
  have hl := h.len
  intro d
  induction d with
  | zero =>
    intro i hd hi
    refine Ev.succ ?_
    simp only [impl_determinant.l0]
    refine Ev.neg (by omega) ?_
    rw [List.take_of_length_le (by omega)]
    have := bar_l1 hn (D n (mat m)) n 0 m (mat m) 1 (by omega) (by omega) ⟨hl, fun row hr => (h.rows row hr).1⟩ (fun i j hi hj => h.bnd i j hi hj) (.inl rfl) (by omega) (by show (1 : Int) ≠ 0; decide) (fun i j _ _ _ _ => by
      unfold B
      show _ = sm 1 _
      simp [sm, sg, D])
    exact this
  | succ d ih =>
    intro i hd hi
    have hlt : i < m.length := by omega
    have hrow := h.row (i := i) (by omega)
    refine Ev.succ ?_
    simp only [impl_determinant.l0]
    refine Ev.pos (by omega) (Ev.pos (by omega) (Ev.pos (by omega) (Ev.bind0 (a := rd_L1 m (i : Int)) (by unfold slices_Clone_int_int.f; first | rfl | rw [if_pos (by omega)]) (Ev.pos (by simp; omega) ?_))))
    rw [wrap_nat (by omega)]
    have e : m.take i ++ [rd_L1 m (i : Int)] = m.take (i + 1) := by rw [rdL_at hlt, List.take_succ_eq_append_getElem hlt]
    rw [e]
    exact ih (i + 1) (by omega) (by omega)
theorem determinant_ev {n : Nat} (hn : n ≤ 7) (m : List (List Int)) (h : Sq n m) : Ev (fun k => impl_determinant.f k m) (D n (mat m)) := by
  have hl := h.len
  unfold impl_determinant.f
  rw [hl]
  exact bar_l0 hn m h n 0 (by omega) (by omega)
end Go.Proofs.Ythbigmlpgoobiaa.M
namespace Go.Proofs.Ythbigmlpgoobiaa.Pure
open Go.RowKit Go.Proofs.Ythbigmlpgoobiaa.P Go.Proofs.Ythbigmlpgoobiaa.In Go.Proofs.Ythbigmlpgoobiaa.M Go.Proofs.YthbigmlpgoobiaaW.PrintWords Go.Proofs.YthbigmlpgoobiaaW.PrintLast
set_option linter.unusedVariables false
set_option linter.unusedSimpArgs false
open DetKit
theorem FnExactCountTrees (l : List (List Int)) (hl : okSS l) (p : Int) (hp : okI p) : ∃ k, laws_FnExactCountTrees.f k l p = some true := by
  refine Ev.rounds (g := fun k => laws_FnExactCountTrees.f k l p) ?_
  unfold laws_FnExactCountTrees.f
  obtain ⟨r, hr, hr1, hs⟩ := szGraph l hl
  refine Ev.bind hr ?_
  by_cases h : r < 0
  · exact Ev.pos h (Ev.now _)
  · have sm := hs (by omega)
    obtain ⟨v, hS, hI⟩ : ∃ v : Int × Bool, Ev (fun k => spec_CountTrees.f k l p) v ∧ Ev (fun k => impl_CountTrees.f k l p) v := by
      by_cases hg : placeB l p = true
      · obtain ⟨hgood, h0, h1⟩ := place_iff hg
        have h8 := (good_iff hgood).1.2
        have hsq := lap_sq hgood (sink := p.toNat) (by omega)
        refine ⟨(D (l.length - 1) (mat (lap l p.toNat)), true), ?_, ?_⟩
        · unfold spec_CountTrees.f
          exact Ev.bind (grPlace l p hl) (Ev.pos hg (Ev.bind (trLaplace_ev hgood h0 h1) (Ev.bind (trDet_ev _ _ (by omega) hsq) (Ev.now _))))
        · unfold impl_CountTrees.f
          exact Ev.bind0 (has1 l p) (Ev.pos hg (Ev.bind (laplace_ev hgood h0 h1) (Ev.bind (determinant_ev (by omega) _ hsq) (Ev.now _))))
      · refine ⟨(0, false), ?_, ?_⟩
        · unfold spec_CountTrees.f
          exact Ev.bind (grPlace l p hl) (Ev.neg hg (Ev.now _))
        · unfold impl_CountTrees.f
          exact Ev.bind0 (has1 l p) (Ev.neg hg (Ev.now _))
    refine Ev.neg h (Ev.bind (toGraph l sm) (Ev.bind hS (Ev.bind (toGraph l sm) (Ev.bind hI (Ev.pos rfl ?_)))))
    refine Ev.succ ?_
    simp only [laws_FnExactCountTrees.j0]
    exact Ev.neg (by simp) (Ev.bind (toGraph l sm) (Ev.bind (small_eq l sm) (Ev.pos rfl (Ev.now _))))
end Go.Proofs.Ythbigmlpgoobiaa.Pure
namespace Go.Proofs.Ythbigmlpgoobiaa.fnExactCountTrees
open Go.ChangeShapes Go.WideShapes Go.ChangeAt Go.RowKit
open Go.ChangeMaps (open_string shut_string)
open Go.Proofs.Ythbigmlpgoobiaa.In Go.Proofs.Ythbigmlpgoobiaa.P
set_option linter.unusedVariables false
theorem own : ownKnob Try.prog.godebug = none := by kernel_rfl
theorem laidOut : laidOutB Try.prog = true := by kernel_rfl
set_option maxRecDepth 100000 in
theorem lifted (os : Os) (started : os.Started) (H : Type) (enc : TypeId × Value → H) :
    ReturnsInHanded {} Try.checked os 5 .any (Rows.fnExactCountTreesSpec.pre6 enc Try.prog Try.f5 Rows.fnExactCountTreesRow.domain false) (Rows.fnExactCountTreesSpec.post enc Try.prog Try.f5 false true false false) := by
  refine returnsInHanded_of_change_sized (C := Try.checked) own started (by kernel_rfl) Try.func5
    (ChangeSpec.witness6 (enc := enc) (C := Try.checked) false ⟨#[], #[.agg #[.slice none 0 0], .int .i64 0], []⟩ 8 (by kernel_rfl) (by kernel_rfl) (by kernel_rfl) (by kernel_rfl)) ?_
  intro W base args ds gs before hval0 hW hcnd hsz0 _
  have hsz : (DataW.weightsEach Try.prog (Try.f5.params.toList ++ Rows.fnExactCountTreesSpec.plain.varTypes Try.prog) (ds ++ gs)).all (· ≤ reachBytes) = true := hsz0
  have hval : ∀ (j : Nat) t v, Try.f5.params[j]? = some t → args[j]? = some v → Value.okWide Try.prog W .any base t v := hval0
  have hW' := hW
  obtain ⟨p, q, hA0, hV, rfl, hfz, hnd⟩ := hW
  have hA : DataW.TrodAll enc Try.prog W 0 (fun _ => true) true Try.f5.params.toList args.toList ds p := hA0
  rw [Try.params5] at hA hval hsz
  obtain ⟨v0, vs0, d0, ds0, p0, q0, hargs, rfl, rfl, h0, r0⟩ := trodAll_cons hA
  obtain ⟨v1, vs1, d1, ds1, p1, q1, rfl, rfl, rfl, h1, r1⟩ := trodAll_cons r0
  obtain ⟨rfl, rfl, rfl⟩ := trodAll_nil r1
  obtain rfl : args = #[v0, v1] := by cases args; simp_all
  obtain ⟨rfl, rfl⟩ := trodVars_none hV
  have k0 := h0
  have lt0 : ∀ x ∈ p0, x.block < W.heap.size := by obtain ⟨m, hm⟩ := k0; exact DataW.trod_lt m _ _ _ hm
  obtain ⟨A0, l0, cap0, rfl, hl0, hc0, hw0⟩ := in_graph (q := 3) Try.underlying30 (by kernel_rfl) (by kernel_rfl) rfl Try.underlying22 Try.underlying43 Try.underlying3 (by kernel_rfl) (by kernel_rfl) (hval 0 30 v0 rfl rfl) h0
  obtain ⟨a1, rfl, rfl, rfl, w1⟩ := open_int Try.underlying3 (hval 1 3 v1 rfl rfl) h1
  clear hA0 hval0 hsz0 hsz
  obtain ⟨k, h⟩ := Pure.FnExactCountTrees l0 (okSS_wf hc0 hw0) a1 (okI_wf w1)
  refine (laws_FnExactCountTrees.calls k _ _ l0 a1 true W hc0 hl0 h).mono fun e W' ⟨he, bel0⟩ => ?_
  have bel : Below W.heap.size W W' := bel0
  subst he
  exact ⟨_, rfl, _, _, _, [], _, [], hW', trodAll_mk1 (shut_bool Try.underlying4 _), (trodAll_cons_mk (Below.trod laidOut (by kernel_rfl) (of_decide_eq_true (by kernel_rfl)) k0 bel lt0) (trodAll_cons_mk (shut_int Try.underlying3 w1) trodAll_mk0)), rfl, bel.frame _, fun h => by cases h⟩
theorem over : Rows.fnExactCountTreesRow.holds Try.pinned (OpenSpec.ofChange Rows.fnExactCountTreesSpec) :=
  OpenClaim.holds_of_wide 5 Try.f5 rfl rfl rfl rfl rfl rfl rfl ⟨rfl, rfl, rfl, rfl, rfl⟩ rfl rfl rfl rfl rfl (by kernel_rfl) Try.func5 (by kernel_rfl)
    (of_decide_eq_true (by kernel_rfl)) (by unfold Func.isWrapper; first | (rw [if_pos (by decide +kernel)]; kernel_rfl) | (rw [if_neg (by decide +kernel)]; exact ⟨rfl, rfl⟩))
    (fun os started H enc _ => lifted os started H enc)
theorem proved : Rows.FnExactCountTreesSaid := over
end Go.Proofs.Ythbigmlpgoobiaa.fnExactCountTrees
namespace Go.Proofs.Ythbigmlpgoobiaa
/-- The law, under a short name, for the claim. -/
theorem fnExactCountTrees_holds : Rows.FnExactCountTreesSaid := fnExactCountTrees.proved
#print axioms fnExactCountTrees_holds
end Go.Proofs.Ythbigmlpgoobiaa
