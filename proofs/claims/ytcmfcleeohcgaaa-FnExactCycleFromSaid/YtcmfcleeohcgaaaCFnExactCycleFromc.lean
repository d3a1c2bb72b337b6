/- The law FnExactCycleFrom holds for every input: the program returns what the reference returns (or what the law says), for all arguments. -/
import Derived.Test.YtcmfcleeohcgaaaCFnExactCycleFromb
import Derived.Test.YtcmfcleeohcgaaaCFnExactCycleFroma
import Derived.Test.YtcmfcleeohcgaaaPlawsmarkIntS
import Derived.Test.YtcmfcleeohcgaaaPlawsheldIntS
import Derived.Test.YtcmfcleeohcgaaaPlawsmarkIntSS
import Derived.Test.YtcmfcleeohcgaaaPlawsmarkGraph
import Derived.Test.YtcmfcleeohcgaaaPlawsmarkWalk
import Derived.Test.YtcmfcleeohcgaaaPimplCycleFrom
import Derived.Test.YtcmfcleeohcgaaaRows
import Derived.WalkKit
import Derived.ProofKit
import Derived.OpenShut
import Derived.ShutString
import Derived.ChangeOld
import Derived.Below
import Derived.SizedLaws
import Derived.Deep.Matrix
import Derived.Lib.SmallJoins
namespace Go.Proofs.Ytcmfcleeohcgaaa.M
open Go.RowKit Go.Proofs.Ytcmfcleeohcgaaa.P Go.Proofs.Ytcmfcleeohcgaaa.In Go.Proofs.YtcmfcleeohcgaaaW.PrintWords Go.Proofs.YtcmfcleeohcgaaaW.PrintLast
set_option linter.unusedVariables false
set_option linter.unusedSimpArgs false
theorem trCycle_dead {g : List (List Int)} {rot : List Int} (h : Rot g rot) {p : Int} (h0 : 0 ≤ p) (h1 : p < (g.length : Int)) {j : Nat} (hj : j < g.length) (hneg : nx g rot (it (nx g rot) j p) < 0) (ha : ∀ m, m < j → 0 ≤ nx g rot (it (nx g rot) m p)) : ∀ (d i : Nat), j - i = d → i ≤ j → Ev (fun k => spec_trCycle.l0 k rot (it (nx g rot) i p) i g) ([], false) := by
  have h8 := (good_iff h.good).1.2
  intro d
  induction d with
  | zero =>
    intro i hd hi
    have hij : i = j := by omega
    have hp := h.it_ok h0 h1 i (fun m hm => ha m (by omega))
    refine Ev.succ ?_
    simp only [spec_trCycle.l0]
    subst hij
    exact Ev.pos (by omega) (Ev.bind0 (trNext_eq h.rb h.len hp.1 hp.2) (Ev.pos hneg (Ev.now _)))
  | succ d ih =>
    intro i hd hi
    have hp := h.it_ok h0 h1 i (fun m hm => ha m (by omega))
    have hpos := ha i (by omega)
    refine Ev.succ ?_
    simp only [spec_trCycle.l0]
    refine Ev.pos (by omega) (Ev.bind0 (trNext_eq h.rb h.len hp.1 hp.2) (Ev.neg (by omega) ?_))
    rw [wrap_nat (by omega), ← it_succ (nx g rot) i p]
    exact ih (i + 1) (by omega) (by omega)
theorem trCycle_l1 {g : List (List Int)} {rot : List Int} (h : Rot g rot) {c : Int} (h0 : 0 ≤ c) (h1 : c < (g.length : Int)) (ha : ∀ j, 0 ≤ nx g rot (it (nx g rot) j c)) {per : Nat} (hper : per ≤ g.length) (hb : it (nx g rot) per c = c) (hf : ∀ i, 0 < i → i < per → it (nx g rot) i c ≠ c) : ∀ (d i : Nat), per - i = d → 0 < i → i ≤ per → Ev (fun k => spec_trCycle.l1 k rot c (orb (nx g rot) c i) (it (nx g rot) i c) g) (orb (nx g rot) c per, true) := by
  have h8 := (good_iff h.good).1.2
  intro d
  induction d with
  | zero =>
    intro i hd hi hi2
    have : i = per := by omega
    subst this
    refine Ev.succ ?_
    simp only [spec_trCycle.l1]
    exact Ev.pos hb (Ev.now _)
  | succ d ih =>
    intro i hd hi hi2
    have hp := h.it_ok h0 h1 i (fun m _ => ha m)
    refine Ev.succ ?_
    simp only [spec_trCycle.l1]
    refine Ev.neg (hf i hi (by omega)) (Ev.pos (by rw [orb_len]; omega) (Ev.bind0 (trNext_eq h.rb h.len hp.1 hp.2) ?_))
    have := ih (i + 1) (by omega) (by omega) (by omega)
    rw [it_succ, orb_succ] at this
    exact this
theorem trCycle_live {g : List (List Int)} {rot : List Int} (h : Rot g rot) {p : Int} (h0 : 0 ≤ p) (h1 : p < (g.length : Int)) {s per : Nat} (hr : Rho (nx g rot) g.length p s per) (ha : ∀ j, 0 ≤ nx g rot (it (nx g rot) j p)) : ∀ (d i : Nat), g.length - i = d → i ≤ g.length → Ev (fun k => spec_trCycle.l0 k rot (it (nx g rot) i p) i g) (orb (nx g rot) (it (nx g rot) g.length p) per, true) := by
  have h8 := (good_iff h.good).1.2
  intro d
  induction d with
  | zero =>
    intro i hd hi
    have : i = g.length := by omega
    subst this
    have hp := h.it_ok h0 h1 g.length (fun m _ => ha m)
    refine Ev.succ ?_
    simp only [spec_trCycle.l0]
    refine Ev.neg (by omega) (Ev.bind0 (trNext_eq h.rb h.len hp.1 hp.2) ?_)
    have hle := hr.le
    have hpos := hr.pos
    obtain ⟨t1, t2, t3⟩ := hr.turn (g.length - s)
    rw [show s + (g.length - s) = g.length by omega] at t1 t2 t3
    have := trCycle_l1 h hp.1 hp.2 (fun j => by rw [← it_add]; exact ha _) (by omega) t2 t3 (per - 1) 1 (by omega) (by omega) (by omega)
    exact this
  | succ d ih =>
    intro i hd hi
    have hp := h.it_ok h0 h1 i (fun m _ => ha m)
    have hpos := ha i
    refine Ev.succ ?_
    simp only [spec_trCycle.l0]
    refine Ev.pos (by omega) (Ev.bind0 (trNext_eq h.rb h.len hp.1 hp.2) (Ev.neg (by omega) ?_))
    rw [wrap_nat (by omega), ← it_succ (nx g rot) i p]
    exact ih (i + 1) (by omega) (by omega)
/-- From a place on, the two come to the same circle, or both to an end. -/
theorem cycle_both {g : List (List Int)} {rot : List Int} (h : Rot g rot) {p : Int} (h0 : 0 ≤ p) (h1 : p < (g.length : Int)) :
    ∃ (L M : List Int) (b : Bool), Ev (fun k => impl_Graph_cycleFrom.f k g rot p) (L, b) ∧ Ev (fun k => spec_trCycle.f k g rot p) (M, b) ∧ (∀ x, x ∈ L ↔ x ∈ M) ∧ L.length ≤ g.length ∧ M.length ≤ g.length := by
  rcases cycleFrom_ev h h0 h1 with ⟨j, j1, j2, j3, j4⟩ | ⟨s, per, hr, ha, e⟩
  · exact ⟨[], [], false, j4, trCycle_dead h h0 h1 j1 j2 j3 j 0 (by omega) (by omega), fun _ => Iff.rfl, by simp, by simp⟩
  · have hle := hr.le
    refine ⟨_, _, true, e, trCycle_live h h0 h1 hr ha g.length 0 (by omega) (by omega), fun x => ?_, by rw [orb_len]; omega, by rw [orb_len]; omega⟩
    have := (hr.turn (g.length - s)).1 x
    rw [show s + (g.length - s) = g.length by omega] at this
    exact this.symm
theorem uni_l0 {g : List (List Int)} {rot : List Int} (h : Rot g rot) (a : Int) : ∀ (d i : Nat), g.length - i = d → i ≤ g.length → ∃ r : Bool, Ev (fun k => impl_Graph_isUnicycle.l0 k g.length i g rot a) r ∧ Ev (fun k => spec_trUni.l0 k g.length i g rot a) r ∧ (r = true → ∀ p : Nat, i ≤ p → p < g.length → ∃ M, Ev (fun k => spec_trCycle.f k g rot (p : Int)) (M, true) ∧ a ∈ M) := by
  have h8 := (good_iff h.good).1.2
  intro d
  induction d with
  | zero =>
    intro i hd hi
    refine ⟨true, ?_, ?_, fun _ p h2 h3 => by omega⟩
    · refine Ev.succ ?_
      simp only [impl_Graph_isUnicycle.l0]
      exact Ev.neg (by omega) (Ev.now _)
    · refine Ev.succ ?_
      simp only [spec_trUni.l0]
      exact Ev.neg (by omega) (Ev.now _)
  | succ d ih =>
    intro i hd hi
    obtain ⟨L, M, b, e1, e2, e3, e4, e5⟩ := cycle_both h (p := (i : Int)) (by omega) (by omega)
    obtain ⟨r, r1, r2, r3⟩ := ih (i + 1) (by omega) (by omega)
    by_cases hb : b = true
    · subst hb
      by_cases hm : a ∈ L
      · have hm2 := (e3 a).1 hm
        refine ⟨r, ?_, ?_, fun hr p h2 h3 => ?_⟩
        · refine Ev.succ ?_
          simp only [impl_Graph_isUnicycle.l0]
          refine Ev.pos (by omega) (Ev.bind e1 (Ev.pos rfl (Ev.bind (contains_ev L a (by omega)) (Ev.pos (by simpa using hm) ?_))))
          rw [wrap_nat (by omega)]; exact r1
        · refine Ev.succ ?_
          simp only [spec_trUni.l0]
          refine Ev.pos (by omega) (Ev.bind e2 (Ev.pos rfl (Ev.bind (l1Has_ev M a (by omega)) (Ev.pos (by simpa using hm2) ?_))))
          rw [wrap_nat (by omega)]; exact r2
        · by_cases hp : p = i
          · subst hp; exact ⟨M, e2, hm2⟩
          · exact r3 hr p (by omega) h3
      · have hm2 : a ∉ M := fun hh => hm ((e3 a).2 hh)
        refine ⟨false, ?_, ?_, fun hr => by cases hr⟩
        · refine Ev.succ ?_
          simp only [impl_Graph_isUnicycle.l0]
          exact Ev.pos (by omega) (Ev.bind e1 (Ev.pos rfl (Ev.bind (contains_ev L a (by omega)) (Ev.neg (by simpa using hm) (Ev.now _)))))
        · refine Ev.succ ?_
          simp only [spec_trUni.l0]
          exact Ev.pos (by omega) (Ev.bind e2 (Ev.pos rfl (Ev.bind (l1Has_ev M a (by omega)) (Ev.neg (by simpa using hm2) (Ev.now _)))))
    · refine ⟨false, ?_, ?_, fun hr => by cases hr⟩
      · refine Ev.succ ?_
        simp only [impl_Graph_isUnicycle.l0]
        exact Ev.pos (by omega) (Ev.bind e1 (Ev.neg hb (Ev.now _)))
      · refine Ev.succ ?_
        simp only [spec_trUni.l0]
        exact Ev.pos (by omega) (Ev.bind e2 (Ev.neg hb (Ev.now _)))
theorem uni_ev {g : List (List Int)} {rot : List Int} (h : Rot g rot) {a : Int} (h0 : 0 ≤ a) (h1 : a < (g.length : Int)) : ∃ r : Bool, Ev (fun k => impl_Graph_isUnicycle.f k g rot a) r ∧ Ev (fun k => spec_trUni.f k g rot a) r ∧ (r = true → ∃ M, Ev (fun k => spec_trCycle.f k g rot a) (M, true) ∧ a ∈ M) := by
  obtain ⟨r, r1, r2, r3⟩ := uni_l0 h a g.length 0 (by omega) (by omega)
  have h8 := (good_iff h.good).1.2
  obtain ⟨L, M, b, e1, e2, e3, e4, e5⟩ := cycle_both h h0 h1
  have own : r = true → b = true ∧ a ∈ M := by
    intro hr
    obtain ⟨M', hM', ha⟩ := r3 hr a.toNat (by omega) (by omega)
    rw [show ((a.toNat : Nat) : Int) = a by omega] at hM'
    have := Ev.uniq hM' e2
    injection this with t1 t2
    subst t1; exact ⟨t2.symm, ha⟩
  refine ⟨r, r1, ?_, fun hr => ⟨M, by rw [← (own hr).1]; exact e2, (own hr).2⟩⟩
  unfold spec_trUni.f
  refine Ev.bind e2 ?_
  by_cases hb : b = true
  · refine Ev.pos hb (Ev.bind (l1Has_ev M a (by omega)) ?_)
    by_cases hm : a ∈ M
    · refine Ev.succ ?_
      simp only [spec_trUni.j0]
      exact Ev.neg (by simpa using hm) r2
    · refine Ev.succ ?_
      simp only [spec_trUni.j0]
      refine Ev.pos (by simpa using hm) ((Ev.now _).val ?_)
      cases r with
      | false => rfl
      | true => exact absurd (own rfl).2 hm
  · refine Ev.neg hb ?_
    refine Ev.succ ?_
    simp only [spec_trUni.j0]
    refine Ev.pos (by simp) ((Ev.now _).val ?_)
    cases r with
    | false => rfl
    | true => exact absurd (own rfl).1 hb
end Go.Proofs.Ytcmfcleeohcgaaa.M
namespace Go.Proofs.Ytcmfcleeohcgaaa.M
open Go.RowKit Go.Proofs.Ytcmfcleeohcgaaa.P Go.Proofs.Ytcmfcleeohcgaaa.In Go.Proofs.YtcmfcleeohcgaaaW.PrintWords Go.Proofs.YtcmfcleeohcgaaaW.PrintLast
set_option linter.unusedVariables false
set_option linter.unusedSimpArgs false
theorem trCycle2_l0 {g : List (List Int)} {rot : List Int} (h : Rot g rot) {c : Int} (h0 : 0 ≤ c) (h1 : c < (g.length : Int)) (ha : ∀ j, 0 ≤ nx g rot (it (nx g rot) j c)) {per : Nat} (hper : per ≤ g.length) (hb : it (nx g rot) per c = c) (hf : ∀ i, 0 < i → i < per → it (nx g rot) i c ≠ c) : ∀ (d i : Nat), per - i = d → 0 < i → i ≤ per → Ev (fun k => spec_trCycle2.l0 k rot c (orb (nx g rot) c i) (it (nx g rot) i c) g) (orb (nx g rot) c per) := by
  have h8 := (good_iff h.good).1.2
  intro d
  induction d with
  | zero =>
    intro i hd hi hi2
    have : i = per := by omega
    subst this
    refine Ev.succ ?_
    simp only [spec_trCycle2.l0]
    exact Ev.pos hb (Ev.now _)
  | succ d ih =>
    intro i hd hi hi2
    have hp := h.it_ok h0 h1 i (fun m _ => ha m)
    refine Ev.succ ?_
    simp only [spec_trCycle2.l0]
    refine Ev.neg (hf i hi (by omega)) (Ev.pos (by rw [orb_len]; omega) (Ev.bind0 (trNext_eq h.rb h.len hp.1 hp.2) ?_))
    have := ih (i + 1) (by omega) (by omega) (by omega)
    rw [it_succ, orb_succ] at this
    exact this
theorem trCycle2_ev {g : List (List Int)} {rot : List Int} (h : Rot g rot) {c : Int} (h0 : 0 ≤ c) (h1 : c < (g.length : Int)) (ha : ∀ j, 0 ≤ nx g rot (it (nx g rot) j c)) {per : Nat} (h00 : 0 < per) (hper : per ≤ g.length) (hb : it (nx g rot) per c = c) (hf : ∀ i, 0 < i → i < per → it (nx g rot) i c ≠ c) : Ev (fun k => spec_trCycle2.f k g rot c) (orb (nx g rot) c per) := by
  unfold spec_trCycle2.f
  exact Ev.bind0 (trNext_eq h.rb h.len h0 h1) (trCycle2_l0 h h0 h1 ha hper hb hf (per - 1) 1 (by omega) (by omega) (by omega))
theorem trCycleFrom_l0 {g : List (List Int)} {rot : List Int} (h : Rot g rot) {p : Int} (h0 : 0 ≤ p) (h1 : p < (g.length : Int)) {s per : Nat} (hr : Rho (nx g rot) g.length p s per) (ha : ∀ j, 0 ≤ nx g rot (it (nx g rot) j p)) : ∀ (d i : Nat), s - i = d → i ≤ s → Ev (fun k => spec_trCycleFrom.l0 k (orb (nx g rot) (it (nx g rot) g.length p) per) (it (nx g rot) i p) g rot p) (orb (nx g rot) (it (nx g rot) s p) per, true) := by
  have h8 := (good_iff h.good).1.2
  have hle := hr.le
  have hpos := hr.pos
  have hmem : ∀ x, x ∈ orb (nx g rot) (it (nx g rot) g.length p) per ↔ x ∈ orb (nx g rot) (it (nx g rot) s p) per := fun x => by
    have := (hr.turn (g.length - s)).1 x
    rw [show s + (g.length - s) = g.length by omega] at this
    exact this
  intro d
  induction d with
  | zero =>
    intro i hd hi
    have : i = s := by omega
    subst this
    have hp := h.it_ok h0 h1 i (fun m _ => ha m)
    obtain ⟨_, t2, t3⟩ := hr.turn 0
    rw [Nat.add_zero] at t2 t3
    refine Ev.succ ?_
    simp only [spec_trCycleFrom.l0]
    refine Ev.bind (l1Has_ev _ _ (by rw [orb_len]; omega)) (Ev.pos (decide_eq_true ((hmem _).2 (orb_mem.2 ⟨0, hpos, rfl⟩))) (Ev.bind (trCycle2_ev h hp.1 hp.2 (fun j => by rw [← it_add]; exact ha _) hpos (by omega) t2 t3) (Ev.now _)))
  | succ d ih =>
    intro i hd hi
    have hp := h.it_ok h0 h1 i (fun m _ => ha m)
    have hno : it (nx g rot) i p ∉ orb (nx g rot) (it (nx g rot) g.length p) per := fun hm => hr.out (by omega) ((hmem _).1 hm)
    refine Ev.succ ?_
    simp only [spec_trCycleFrom.l0]
    refine Ev.bind (l1Has_ev _ _ (by rw [orb_len]; omega)) (Ev.neg (by simpa using hno) (Ev.bind0 (trNext_eq h.rb h.len hp.1 hp.2) ?_))
    rw [← it_succ (nx g rot) i p]
    exact ih (i + 1) (by omega) (by omega)
theorem cycF_both {g : List (List Int)} {rot : List Int} (h : Rot g rot) {p : Int} (h0 : 0 ≤ p) (h1 : p < (g.length : Int)) :
    ∃ (L : List Int) (b : Bool), Ev (fun k => impl_Graph_cycleFrom.f k g rot p) (L, b) ∧ Ev (fun k => spec_trCycleFrom.f k g rot p) (L, b) ∧ L.length ≤ g.length := by
  rcases cycleFrom_ev h h0 h1 with ⟨j, j1, j2, j3, j4⟩ | ⟨s, per, hr, ha, e⟩
  · refine ⟨[], false, j4, ?_, by simp⟩
    unfold spec_trCycleFrom.f
    have := trCycle_dead h h0 h1 j1 j2 j3 j 0 (by omega) (by omega)
    exact Ev.bind this (Ev.neg (by simp) (Ev.now _))
  · have hle := hr.le
    refine ⟨_, true, e, ?_, by rw [orb_len]; omega⟩
    unfold spec_trCycleFrom.f
    have := trCycle_live h h0 h1 hr ha g.length 0 (by omega) (by omega)
    exact Ev.bind this (Ev.pos rfl (trCycleFrom_l0 h h0 h1 hr ha s 0 (by omega) (by omega)))
end Go.Proofs.Ytcmfcleeohcgaaa.M
namespace Go.Proofs.Ytcmfcleeohcgaaa.M
open Go.RowKit Go.Proofs.Ytcmfcleeohcgaaa.P Go.Proofs.Ytcmfcleeohcgaaa.In Go.Proofs.YtcmfcleeohcgaaaW.PrintWords Go.Proofs.YtcmfcleeohcgaaaW.PrintLast
set_option linter.unusedVariables false
set_option linter.unusedSimpArgs false
def marks (a : Int) : Nat → List Int
  | 0 => []
  | n + 1 => a :: marks (a + 1) n
theorem marks_len (a : Int) (n : Nat) : (marks a n).length = n := by
  induction n generalizing a with
  | zero => rfl
  | succ n ih => simp [marks, ih]
theorem markIntS_l0 (n : Nat) (hn : n ≤ 4611686018427387904) : ∀ (d i : Nat) (x : List Int) (a : Int), x.length = n → n - i = d → i ≤ n → 0 ≤ a → a + d ≤ 4611686018427387904 → Ev (fun k => laws_markIntS.l0 k x a i) (a + d, x.take i ++ marks a d) := by
  intro d
  induction d with
  | zero =>
    intro i x a hx hd hi h0 h1
    refine Ev.succ ?_
    simp only [laws_markIntS.l0]
    refine Ev.neg (by omega) ((Ev.now _).val ?_)
    rw [List.take_of_length_le (by omega)]; simp [marks]
  | succ d ih =>
    intro i x a hx hd hi h0 h1
    refine Ev.succ ?_
    simp only [laws_markIntS.l0]
    refine Ev.pos (by omega) (Ev.pos (by omega) ?_)
    rw [wrap_id (x := a + 1) (by omega), wrap_nat (by omega), Int.toNat_natCast]
    refine (ih (i + 1) (x.set i a) (a + 1) (by rw [List.length_set]; exact hx) (by omega) (by omega) (by omega) (by omega)).val ?_
    rw [List.take_succ_eq_append_getElem (by rw [List.length_set]; omega), List.take_set_of_le (Nat.le_refl _), List.getElem_set_self]
    simp only [marks, List.append_assoc, List.singleton_append]
    congr 1; omega
theorem markIntS (x : List Int) (a : Int) (hn : x.length ≤ 4611686018427387904) (h0 : 0 ≤ a) (h1 : a + x.length ≤ 4611686018427387904) : Ev (fun k => laws_markIntS.f k x a) (a + x.length, marks a x.length) := by
  have := markIntS_l0 x.length hn x.length 0 x a rfl (by omega) (by omega) h0 h1
  unfold laws_markIntS.f
  simpa using this
theorem heldIntS_l0 (n : Nat) (hn : n ≤ 4611686018427387904) (y : List Int) (hy : y.length = n) : ∀ (d i : Nat) (a : Int), n - i = d → i ≤ n → 0 ≤ a → a + d ≤ 4611686018427387904 → y.drop i = marks a d → Ev (fun k => laws_heldIntS.l0 k y a i) (a + d) := by
  intro d
  induction d with
  | zero =>
    intro i a hd hi h0 h1 he
    refine Ev.succ ?_
    simp only [laws_heldIntS.l0]
    exact Ev.neg (by omega) ((Ev.now _).val (by simp))
  | succ d ih =>
    intro i a hd hi h0 h1 he
    have hlt : i < y.length := by omega
    rw [List.drop_eq_getElem_cons hlt] at he
    simp only [marks, List.cons.injEq] at he
    refine Ev.succ ?_
    simp only [laws_heldIntS.l0]
    refine Ev.pos (by omega) (Ev.pos (by omega) (Ev.pos (by rw [rd_at hlt]; exact he.1) ?_))
    rw [wrap_id (x := a + 1) (by omega), wrap_nat (by omega)]
    exact (ih (i + 1) (a + 1) (by omega) (by omega) (by omega) (by omega) he.2).val (by omega)
theorem heldIntS (a : Int) (n : Nat) (h0 : 0 ≤ a) (h1 : a + n ≤ 4611686018427387904) : Ev (fun k => laws_heldIntS.f k (marks a n) a) (a + n) :=
  heldIntS_l0 n (by omega) _ (marks_len a n) n 0 a (by omega) (by omega) h0 h1 (by simp)
theorem markR (r : List Int) (h : r.length ≤ 1048576) : ∃ q r', Ev (fun k => laws_markIntS.f k r 1) (q, r') ∧ 0 ≤ q ∧ Ev (fun k => laws_heldIntS.f k r' 1) q ∧ True :=
  ⟨_, _, markIntS r 1 (by omega) (by omega) (by omega), by omega, heldIntS 1 r.length (by omega) (by omega), trivial⟩
end Go.Proofs.Ytcmfcleeohcgaaa.M
namespace Go.Proofs.Ytcmfcleeohcgaaa.M
open Go.RowKit Go.Proofs.Ytcmfcleeohcgaaa.P Go.Proofs.Ytcmfcleeohcgaaa.In Go.Proofs.YtcmfcleeohcgaaaW.PrintWords Go.Proofs.YtcmfcleeohcgaaaW.PrintLast
set_option linter.unusedVariables false
set_option linter.unusedSimpArgs false
def markRows (a : Int) : List (List Int) → Int × List (List Int)
  | [] => (a, [])
  | row :: rest => ((markRows (a + row.length) rest).1, marks a row.length :: (markRows (a + row.length) rest).2)
theorem markIntSS_l0 (n : Nat) (hn : n ≤ 1048576) : ∀ (d i : Nat) (x : List (List Int)) (a : Int), x.length = n → (∀ row ∈ x.drop i, row.length ≤ 1048576) → n - i = d → i ≤ n → 0 ≤ a → a + 1048576 * d ≤ 4611686018427387904 → Ev (fun k => laws_markIntSS.l0 k x a i) ((markRows a (x.drop i)).1, x.take i ++ (markRows a (x.drop i)).2) ∧ a ≤ (markRows a (x.drop i)).1 ∧ (markRows a (x.drop i)).1 ≤ a + 1048576 * d := by
  intro d
  induction d with
  | zero =>
    intro i x a hx hr hd hi h0 h1
    rw [List.drop_of_length_le (by omega)]
    refine ⟨?_, by simp [markRows], by simp [markRows]⟩
    refine Ev.succ ?_
    simp only [laws_markIntSS.l0]
    refine Ev.neg (by omega) ((Ev.now _).val ?_)
    rw [List.take_of_length_le (by omega)]; simp [markRows]
  | succ d ih =>
    intro i x a hx hr hd hi h0 h1
    have hlt : i < x.length := by omega
    have hrow := hr x[i] (by rw [List.drop_eq_getElem_cons hlt]; exact List.mem_cons_self)
    have hdrop : (x.set i (marks a x[i].length)).drop (i + 1) = x.drop (i + 1) := List.drop_set_of_lt (by omega)
    obtain ⟨e1, e2, e3⟩ := ih (i + 1) (x.set i (marks a x[i].length)) (a + x[i].length) (by rw [List.length_set]; exact hx) (fun row hm => hr row (by rw [hdrop] at hm; rw [List.drop_eq_getElem_cons hlt]; exact List.mem_cons_of_mem _ hm)) (by omega) (by omega) (by omega) (by omega)
    rw [hdrop] at e1 e2 e3
    rw [List.drop_eq_getElem_cons hlt]
    simp only [markRows]
    refine ⟨?_, by omega, by omega⟩
    refine Ev.succ ?_
    simp only [laws_markIntSS.l0]
    refine Ev.pos (by omega) (Ev.pos (by omega) ?_)
    rw [rdL_at hlt]
    refine Ev.bind (markIntS x[i] a (by omega) h0 (by omega)) ?_
    rw [wrap_nat (by omega), Int.toNat_natCast]
    refine e1.val ?_
    rw [List.take_succ_eq_append_getElem (by rw [List.length_set]; omega), List.take_set_of_le (Nat.le_refl _), List.getElem_set_self]
    simp
theorem markIntSS (x : List (List Int)) (hx : small x) (a : Int) (h0 : 0 ≤ a) (h1 : a ≤ 1099511627776) : Ev (fun k => laws_markIntSS.f k x a) ((markRows a x).1, (markRows a x).2) ∧ a ≤ (markRows a x).1 ∧ (markRows a x).1 ≤ a + 1099511627776 := by
  have hl := hx.1
  obtain ⟨e1, e2, e3⟩ := markIntSS_l0 x.length hx.1 x.length 0 x a rfl (fun row hm => hx.2 row (by simpa using hm)) (by omega) (by omega) h0 (by omega)
  refine ⟨by unfold laws_markIntSS.f; simpa using e1, by simpa using e2, ?_⟩
  have : (markRows a x).1 ≤ a + 1048576 * x.length := by simpa using e3
  omega
theorem markG (x : List (List Int)) (hx : small x) : ∃ m x', Ev (fun k => laws_markGraph.f k x 1) (m, x') ∧ 0 ≤ m ∧ m ≤ 1099511627777 := by
  obtain ⟨e1, e2, e3⟩ := markIntSS x hx 1 (by omega) (by omega)
  exact ⟨_, _, e1, by omega, by omega⟩
end Go.Proofs.Ytcmfcleeohcgaaa.M
namespace Go.Proofs.Ytcmfcleeohcgaaa.Pure
open Go.RowKit Go.Proofs.Ytcmfcleeohcgaaa.P Go.Proofs.Ytcmfcleeohcgaaa.In Go.Proofs.Ytcmfcleeohcgaaa.M Go.Proofs.YtcmfcleeohcgaaaW.PrintWords Go.Proofs.YtcmfcleeohcgaaaW.PrintLast
set_option linter.unusedVariables false
set_option linter.unusedSimpArgs false
theorem FnExactCycleFrom (l : List (List Int)) (hl : okSS l) (ro : List Int) (x : Int) (hro : okIs ro) (hx : okI x) : laws_FnExactCycleFrom.f l ro x = some true := by
  unfold laws_FnExactCycleFrom.f
  rw [if_pos]
  unfold laws_FnExactCycleFrom.Good
  obtain ⟨r, hr, hr1, hs⟩ := szGraph l hl
  refine ⟨r, hr, fun h => ?_⟩
  have sm := hs h
  obtain ⟨r2, h2, _, hs2⟩ := szWalk ro x hro r h hr1
  refine ⟨r2, h2, fun h' => ?_⟩
  have sm2 := hs2 h'
  obtain ⟨v, b, hS, hI, hv⟩ : ∃ (v : List Int) (b : Bool), Ev (fun k => spec_CycleFrom.f k l ro x) (v, b) ∧ Ev (fun k => impl_CycleFrom.f k l ro x) (v, b) ∧ v.length ≤ 1048576 := by
    by_cases hg : walkB l ro x = true
    · obtain ⟨hrot, h0, h1⟩ := Rot.of_walk hg
      have h8 := (good_iff hrot.good).1.2
      have hrl := hrot.len
      obtain ⟨L, b, e1, e2, e3⟩ := cycF_both hrot h0 h1
      refine ⟨L, b, ?_, ?_, by omega⟩
      · unfold spec_CycleFrom.f
        exact Ev.bind (waGood l hl ro x) (Ev.pos hg (Ev.bind e2 (Ev.now _)))
      · unfold impl_CycleFrom.f
        exact Ev.bind (isWalk l ro x) (Ev.pos hg (Ev.bind e1 (Ev.now _)))
    · refine ⟨[], false, ?_, ?_, by simp⟩
      · unfold spec_CycleFrom.f
        exact Ev.bind (waGood l hl ro x) (Ev.neg hg (Ev.now _))
      · unfold impl_CycleFrom.f
        exact Ev.bind (isWalk l ro x) (Ev.neg hg (Ev.now _))
  obtain ⟨m, l', hm, hm0, hm1⟩ := markG l sm
  have hmw : Ev (fun k => laws_markWalk.f k ro x m) (m + ro.length, marks m ro.length) := by
    unfold laws_markWalk.f
    exact Ev.bind (markIntS ro m (by omega) hm0 (by omega)) (Ev.now _)
  exact ⟨toGraph l sm, toWalk ro x sm2, v, b, hS, hI, (eqIntS v v (by omega)).val (decide_eq_true rfl), small_eq l sm, eqWalk ro x sm2, m, l', hm, hm0, _, _, hmw, by omega, markR v hv⟩
end Go.Proofs.Ytcmfcleeohcgaaa.Pure
namespace Go.Proofs.Ytcmfcleeohcgaaa.fnExactCycleFrom
open Go.ChangeShapes Go.WideShapes Go.ChangeAt Go.RowKit
open Go.ChangeMaps (open_string shut_string)
open Go.Proofs.Ytcmfcleeohcgaaa.In Go.Proofs.Ytcmfcleeohcgaaa.P
set_option linter.unusedVariables false
theorem own : ownKnob Try.prog.godebug = none := by kernel_rfl
theorem laidOut : laidOutB Try.prog = true := by kernel_rfl
set_option maxRecDepth 100000 in
theorem lifted (os : Os) (started : os.Started) (H : Type) (enc : TypeId × Value → H) :
    ReturnsInHanded {} Try.checked os 5 .any (Rows.fnExactCycleFromSpec.pre6 enc Try.prog Try.f5 Rows.fnExactCycleFromRow.domain false) (Rows.fnExactCycleFromSpec.post enc Try.prog Try.f5 false true false false) := by
  refine returnsInHanded_of_change_sized (C := Try.checked) own started (by kernel_rfl) Try.func5
    (ChangeSpec.witness6 (enc := enc) (C := Try.checked) false ⟨#[], #[.agg #[.slice none 0 0], .agg #[.slice none 0 0, .int .i64 0]], []⟩ 8 (by kernel_rfl) (by kernel_rfl) (by kernel_rfl) (by kernel_rfl)) ?_
  intro W base args ds gs before hval0 hW hcnd hsz0 _
  have hsz : (DataW.weightsEach Try.prog (Try.f5.params.toList ++ Rows.fnExactCycleFromSpec.plain.varTypes Try.prog) (ds ++ gs)).all (· ≤ reachBytes) = true := hsz0
  have hval : ∀ (j : Nat) t v, Try.f5.params[j]? = some t → args[j]? = some v → Value.okWide Try.prog W .any base t v := hval0
  have hW' := hW
  obtain ⟨p, q, hA0, hV, rfl, hfz, hnd⟩ := hW
  have hA : DataW.TrodAll enc Try.prog W 0 (fun _ => true) true Try.f5.params.toList args.toList ds p := hA0
  rw [Try.params5] at hA hval hsz
  obtain ⟨v0, vs0, d0, ds0, p0, q0, hargs, rfl, rfl, h0, r0⟩ := trodAll_cons hA
  obtain ⟨v1, vs1, d1, ds1, p1, q1, rfl, rfl, rfl, h1, r1⟩ := trodAll_cons r0
  obtain ⟨rfl, rfl, rfl⟩ := trodAll_nil r1
  obtain rfl : args = #[v0, v1] := by cases args; simp_all
  obtain ⟨rfl, rfl⟩ := trodVars_none hV
  have k0 := h0
  have lt0 : ∀ x ∈ p0, x.block < W.heap.size := by obtain ⟨m, hm⟩ := k0; exact DataW.trod_lt m _ _ _ hm
  obtain ⟨A0, l0, cap0, rfl, hl0, hc0, hw0⟩ := in_graph (q := 3) Try.underlying30 (by kernel_rfl) (by kernel_rfl) rfl Try.underlying22 Try.underlying31 Try.underlying3 (by kernel_rfl) (by kernel_rfl) (hval 0 30 v0 rfl rfl) h0
  have k1 := h1
  have lt1 : ∀ x ∈ p1, x.block < W.heap.size := by obtain ⟨m, hm⟩ := k1; exact DataW.trod_lt m _ _ _ hm
  obtain ⟨A1, l1, cap1, x1, rfl, hl1, hc1, hw1, hx1⟩ := in_walk (q := 3) Try.underlying44 (by kernel_rfl) (by kernel_rfl) rfl rfl Try.underlying31 Try.underlying3 Try.underlying3 (by kernel_rfl) (hval 1 44 v1 rfl rfl) h1
  clear hA0 hval0 hsz0 hsz
  have h := Pure.FnExactCycleFrom l0 (okSS_wf hc0 hw0) l1 x1 (okIs_wf hw1) (okI_wf hx1)
  refine (laws_FnExactCycleFrom.calls _ _ l0 _ _ l1 x1 true W hc0 hl0 hc1 hl1 h).mono fun e W' ⟨he, bel0⟩ => ?_
  have bel : Below W.heap.size W W' := bel0
  subst he
  exact ⟨_, rfl, _, _, _, [], _, [], hW', trodAll_mk1 (shut_bool Try.underlying4 _), (trodAll_cons_mk (Below.trod laidOut (by kernel_rfl) (of_decide_eq_true (by kernel_rfl)) k0 bel lt0) (trodAll_cons_mk (Below.trod laidOut (by kernel_rfl) (of_decide_eq_true (by kernel_rfl)) k1 bel lt1) trodAll_mk0)), rfl, bel.frame _, fun h => by cases h⟩
theorem over : Rows.fnExactCycleFromRow.holds Try.pinned (OpenSpec.ofChange Rows.fnExactCycleFromSpec) :=
  OpenClaim.holds_of_wide 5 Try.f5 rfl rfl rfl rfl rfl rfl rfl ⟨rfl, rfl, rfl, rfl, rfl⟩ rfl rfl rfl rfl rfl (by kernel_rfl) Try.func5 (by kernel_rfl)
    (of_decide_eq_true (by kernel_rfl)) (by unfold Func.isWrapper; first | (rw [if_pos (by decide +kernel)]; kernel_rfl) | (rw [if_neg (by decide +kernel)]; exact ⟨rfl, rfl⟩))
    (fun os started H enc _ => lifted os started H enc)
theorem proved : Rows.FnExactCycleFromSaid := over
end Go.Proofs.Ytcmfcleeohcgaaa.fnExactCycleFrom
namespace Go.Proofs.Ytcmfcleeohcgaaa
/-- The law, under a short name, for the claim. -/
theorem fnExactCycleFrom_holds : Rows.FnExactCycleFromSaid := fnExactCycleFrom.proved
#print axioms fnExactCycleFrom_holds
end Go.Proofs.Ytcmfcleeohcgaaa
