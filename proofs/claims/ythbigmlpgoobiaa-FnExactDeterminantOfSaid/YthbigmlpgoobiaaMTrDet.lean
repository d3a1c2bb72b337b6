/- The reference's determinant is the determinant. -/
import Derived.Test.YthbigmlpgoobiaaMBase
import Derived.Test.YthbigmlpgoobiaaMGraph
import Derived.Test.YthbigmlpgoobiaaMDet
import Derived.Test.YthbigmlpgoobiaaMMat
import Derived.Test.YthbigmlpgoobiaaPspectrDet
import Derived.Test.YthbigmlpgoobiaaPspecl1Own
import Derived.Test.YthbigmlpgoobiaaRIn
namespace Go.Proofs.Ythbigmlpgoobiaa.M
open Go.RowKit Go.Proofs.Ythbigmlpgoobiaa.P Go.Proofs.Ythbigmlpgoobiaa.In Go.Proofs.YthbigmlpgoobiaaW.PrintWords Go.Proofs.YthbigmlpgoobiaaW.PrintLast
set_option linter.unusedVariables false
set_option linter.unusedSimpArgs false
open DetKit
def cutc (c : Nat) (row : List Int) : List Int := row.take c ++ row.drop (c + 1)
theorem cutc_len {c : Nat} {row : List Int} (h : c < row.length) : (cutc c row).length = row.length - 1 := by unfold cutc; simp; omega
theorem rd_cutc {c j : Nat} {row : List Int} (hc : c < row.length) (hj : j + 1 < row.length) : rd (cutc c row) (j : Int) = rd row ((skip c j : Nat) : Int) := by
  rw [rd_at (by rw [cutc_len hc]; omega), rd_at (by unfold skip; split <;> omega)]
  unfold cutc skip
  by_cases h : j < c
  · rw [List.getElem_append_left (by simp; omega)]; simp [h]
  · rw [List.getElem_append_right (by simp; omega)]
    simp only [List.getElem_drop, List.length_take, if_neg h]
    congr 1; omega
def minr (m : List (List Int)) (c : Nat) : List (List Int) := (m.drop 1).map (cutc c)
theorem minr_sq {n c : Nat} {m : List (List Int)} (h : Sq (n + 1) m) (hc : c < n + 1) : Sq n (minr m c) := by
  have hl := h.len
  refine ⟨by unfold minr; simp; omega, fun row hr => ?_⟩
  obtain ⟨r, hr1, rfl⟩ := List.mem_map.1 hr
  have h2 := h.rows r (List.mem_of_mem_drop hr1)
  refine ⟨by rw [cutc_len (by omega)]; omega, fun x hx => ?_⟩
  unfold cutc at hx
  rcases List.mem_append.1 hx with h3 | h3
  · exact h2.2 x (List.mem_of_mem_take h3)
  · exact h2.2 x (List.mem_of_mem_drop h3)
theorem minr_mat {n c : Nat} {m : List (List Int)} (h : Sq (n + 1) m) (hc : c < n + 1) (i j : Nat) (hi : i < n) (hj : j < n) : mat (minr m c) i j = mat m (i + 1) (skip c j) := by
  have hl := h.len
  have hm : (minr m c).length = n := (minr_sq h hc).len
  have e : rd_L1 (minr m c) (i : Int) = cutc c (rd_L1 m ((i + 1 : Nat) : Int)) := by
    rw [rdL_at (by omega), rdL_at (by omega)]
    unfold minr
    simp only [List.getElem_map, List.getElem_drop]
    congr 2; omega
  have hr := h.row (i := i + 1) (by omega)
  unfold mat
  rw [e, rd_cutc (by omega) (by omega)]
def dterm (n : Nat) (m : List (List Int)) (c : Nat) : Int := sg c * mat m 0 c * D n (fun i j => mat m (i + 1) (skip c j))
theorem dterm_bound {n : Nat} (hn : n ≤ 6) {m : List (List Int)} (h : Sq (n + 1) m) {c : Nat} (hc : c < n + 1) : -7200000000 ≤ dterm n m c ∧ dterm n m c ≤ 7200000000 := by
  have hb := D_bound n (fun i j => mat m (i + 1) (skip c j)) (fun i j hi hj => h.bnd _ _ (by omega) (skip_lt hj))
  have h6 := bd_le6 hn
  have := term_bound (b := 720000000) (sg_or c) (h.bnd 0 c (by omega) hc) (d := D n (fun i j => mat m (i + 1) (skip c j))) (by omega)
  unfold dterm; omega
theorem own_s (l : List Int) (h : l.length ≤ 1048576) : spec_l1Own.f l = some l := by
  unfold spec_l1Own.f
  show (if ([] : List Int).length + l.length < 17592186044416 then some ([] ++ l) else none) = some l
  rw [if_pos (by simp; omega)]; rfl
theorem trDet_l1 (x0 : List (List Int)) (x3 x4 x6 : Int) (c : Nat) (row0 t : List (List Int)) (x15 : List Int) (x16 x17 : Int) (r : Int) (ht : t.length ≤ 8) (hc : c ≤ 7) (hrow : ∀ row ∈ t, c < row.length ∧ row.length ≤ 8) :
    ∀ (d i : Nat) (acc : List (List Int)), t.length - i = d → i ≤ t.length → acc.length = i → Ev (fun k => (spec_trDet.f k (acc ++ (t.drop i).map (cutc c))).bind fun t684 => spec_trDet.l0 k x0 (wrap64 (x3 + (wrap64 ((wrap64 (x4 * x6)) * t684)))) (wrap64 (-x4)) x15 x16 (wrap64 (x17 + 1))) r →
    Ev (fun k => spec_trDet.l1 k x0 x3 x4 c x6 acc x15 x16 x17 t t.length i) r := by
  intro d
  induction d with
  | zero =>
    intro i acc hd hi ha h
    refine Ev.succ ?_
    simp only [spec_trDet.l1]
    refine Ev.neg (by omega) ?_
    rw [List.drop_of_length_le (by omega)] at h
    simpa using h
  | succ d ih =>
    intro i acc hd hi ha h
    have hlt : i < t.length := by omega
    have e := rdL_at hlt
    have hr := hrow (rd_L1 t i) (by rw [e]; exact List.getElem_mem _)
    refine Ev.succ ?_
    simp only [spec_trDet.l1]
    rw [wrap_nat (n := c) (by omega), Int.toNat_natCast, Int.toNat_natCast]
    refine Ev.pos (by omega) (Ev.pos (by omega) (Ev.pos (by omega) (Ev.pos (by omega) (Ev.pos (by omega) (Ev.bind0 (own_s _ (by simp; omega)) (Ev.pos (by omega) (Ev.pos (by omega) (Ev.pos (by simp; omega) (Ev.pos (by omega) ?_)))))))))
    rw [wrap_nat (n := i) (by omega)]
    refine ih (i + 1) _ (by omega) (by omega) (by simp; omega) ?_
    rw [List.drop_eq_getElem_cons hlt, List.map_cons, ← e] at h
    rw [List.append_assoc]
    exact h
theorem trDet_ev : ∀ (n : Nat) (m : List (List Int)), n ≤ 7 → Sq n m → Ev (fun k => spec_trDet.f k m) (D n (mat m)) := by
  intro n
  induction n with
  | zero =>
    intro m hn h
    have hl := h.len
    refine Ev.succ ?_
    simp only [spec_trDet.f]
    exact Ev.pos (by omega) (Ev.now _)
  | succ n ih =>
    intro m hn h
    have hl := h.len
    have hr0 : (rd_L1 m (0 : Int)).length = n + 1 := h.row (i := 0) (by omega)
    refine Ev.succ ?_
    simp only [spec_trDet.f]
    refine Ev.neg (by omega) (Ev.pos (by omega) ?_)
    rw [hr0]
    have key : ∀ (d c : Nat), n + 1 - c = d → c ≤ n + 1 → Ev (fun k => spec_trDet.l0 k m (sm c (dterm n m)) (sg c) (rd_L1 m (0 : Int)) ((n + 1 : Nat) : Int) c) (D (n + 1) (mat m)) := by
      intro d
      induction d with
      | zero =>
        intro c hd hc
        have : c = n + 1 := by omega
        subst this
        refine Ev.succ ?_
        simp only [spec_trDet.l0]
        exact Ev.neg (by omega) ((Ev.now _).val rfl)
      | succ d ihd =>
        intro c hd hc
        have hcl : c < n + 1 := by omega
        have hx : rd (rd_L1 m (0 : Int)) (c : Int) = mat m 0 c := rfl
        have hb := dterm_bound (by omega) h hcl
        have hsb := sm_bound c (dterm n m) 7200000000 (fun i hi => dterm_bound (by omega) h (by omega))
        have hs : wrap64 (- sg c) = sg (c + 1) := by
          rw [sg_succ]; exact wrap_id (by rcases sg_or c with e | e <;> rw [e] <;> omega)
        have hnext := ihd (c + 1) (by omega) (by omega)
        refine Ev.succ ?_
        simp only [spec_trDet.l0]
        rw [hx, hs, wrap_nat (n := c) (by omega)]
        refine Ev.pos (by omega) (Ev.pos (by omega) (Ev.pos (by omega) ?_))
        by_cases hz : mat m 0 c = 0
        · refine Ev.pos hz ?_
          have : sm (c + 1) (dterm n m) = sm c (dterm n m) := by
            simp only [sm, dterm, hz]; simp
          rw [this] at hnext
          exact hnext
        · refine Ev.neg hz (Ev.pos (by omega) (Ev.bind0 rfl ?_))
          have hrow : ∀ row ∈ m.drop 1, c < row.length ∧ row.length ≤ 8 := fun row hr => by
            have := (h.rows row (List.mem_of_mem_drop hr)).1; omega
          refine trDet_l1 m _ _ _ c m (m.drop 1) _ _ _ _ (by simp; omega) (by omega) hrow _ 0 [] rfl (by omega) rfl ?_
          have hmin := ih (minr m c) (by omega) (minr_sq h hcl)
          have hD : D n (mat (minr m c)) = D n (fun i j => mat m (i + 1) (skip c j)) := D_congr (fun i hi j hj => minr_mat h hcl i j hi hj)
          rw [hD] at hmin
          refine Ev.bind (a := D n (fun i j => mat m (i + 1) (skip c j))) (by simpa [minr] using hmin) ?_
          have hx10 := h.bnd 0 c (by omega) hcl
          have hsx : -10 ≤ sg c * mat m 0 c ∧ sg c * mat m 0 c ≤ 10 := by
            rcases sg_or c with e | e <;> rw [e] <;> omega
          have hdt : wrap64 (wrap64 (sg c * mat m 0 c) * D n (fun i j => mat m (i + 1) (skip c j))) = dterm n m c := by
            rw [wrap_id (x := sg c * mat m 0 c) (by omega)]
            show wrap64 (dterm n m c) = _
            exact wrap_id (by omega)
          rw [hdt, wrap_id (x := sm c (dterm n m) + dterm n m c) (by omega), hs, wrap_nat (n := c) (by omega)]
          exact hnext
    exact key (n + 1) 0 (by omega) (by omega)
end Go.Proofs.Ythbigmlpgoobiaa.M
