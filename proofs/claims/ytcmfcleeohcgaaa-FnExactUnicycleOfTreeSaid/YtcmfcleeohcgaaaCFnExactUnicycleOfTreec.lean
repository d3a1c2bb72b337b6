/- The law FnExactUnicycleOfTree holds for every input: the program returns what the reference returns (or what the law says), for all arguments. -/
import Derived.Test.YtcmfcleeohcgaaaP0
import Derived.Test.YtcmfcleeohcgaaaCFnExactUnicycleOfTreeb
import Derived.Test.YtcmfcleeohcgaaaPimplGraphnext
import Derived.Test.YtcmfcleeohcgaaaCFnExactUnicycleOfTreea
import Derived.Test.YtcmfcleeohcgaaaPimplGraphtreeWays
import Derived.Test.YtcmfcleeohcgaaaPimplGraphisTree
import Derived.Test.YtcmfcleeohcgaaaPimplareSinkRotors
import Derived.Test.YtcmfcleeohcgaaaPimplareRotors
import Derived.Test.YtcmfcleeohcgaaaPlawsmarkIntS
import Derived.Test.YtcmfcleeohcgaaaPlawsheldIntS
import Derived.Test.YtcmfcleeohcgaaaPlawsmarkIntSS
import Derived.Test.YtcmfcleeohcgaaaPlawsmarkGraph
import Derived.Test.YtcmfcleeohcgaaaPlawsmarkWalk
import Derived.Test.YtcmfcleeohcgaaaPlawsheldWalk
import Derived.Test.YtcmfcleeohcgaaaRows
import Derived.WalkKit
import Derived.ProofKit
import Derived.OpenShut
import Derived.ShutString
import Derived.ChangeOld
import Derived.Below
import Derived.SizedLaws
import Derived.Deep.Matrix
import Derived.Lib.SmallJoins
namespace Go.Proofs.Ytcmfcleeohcgaaa.P
open Go.RowKit Go.Proofs.YtcmfcleeohcgaaaW.PrintWords Go.Proofs.YtcmfcleeohcgaaaW.PrintLast Go.Proofs.YtcmfcleeohcgaaaW.PrintMore
attribute [local go_sem] max2_int min2_int max_two min_two max_three min_three max_four min_four   -- for this text's walks alone
set_option linter.unusedVariables false
set_option linter.unusedSimpArgs false

/-! ### spec_l1Has: function 58 -/
def spec_l1Has.l0 : Nat → Int → List Int → Int → Int → Option (Bool)
  | 0, _, _, _, _ => none
  | k + 1, x1, x7, x8, x9 => if x9 < x8 then (if 0 ≤ x9 then (if x9 < (x7.length : Int) then (if (rd x7 x9) = x1 then (some true) else (spec_l1Has.l0 k x1 x7 x8 (wrap64 (x9 + 1)))) else (none)) else (none)) else (some false)
def spec_l1Has.f (k : Nat) (l0 : List Int) (a1 : Int) : Option (Bool) := spec_l1Has.l0 k a1 l0 (l0.length : Int) 0
theorem spec_l1Has.mono_l : ∀ k, (∀ y0 y1 y2 y3, LeO (spec_l1Has.l0 k y0 y1 y2 y3) (spec_l1Has.l0 (k + 1) y0 y1 y2 y3))
  | 0 => fun _ _ _ _ r h => by simp [spec_l1Has.l0] at h
  | k + 1 => by
    have ih0 := spec_l1Has.mono_l k
    · intro y0 y1 y2 y3
      unfold spec_l1Has.l0
      repeat' first
      | (with_reducible exact ih0 _ _ _ _)
      | (with_reducible exact LeO.refl _)
      | (with_reducible exact LeO.none _)
      | (with_reducible refine LeO.ite ?_ ?_)
      | (with_reducible refine LeO.bind ?_ (fun _ => ?_))
      | exact ih0 _ _ _ _
      | exact LeO.none _
      | refine LeO.ite ?_ ?_
      | refine LeO.bind ?_ (fun _ => ?_)
theorem spec_l1Has.mono : ∀ a0 a1 k, LeO (spec_l1Has.f k a0 a1) (spec_l1Has.f (k + 1) a0 a1) := by
  intro a0 a1 k
  have ih0 := spec_l1Has.mono_l k
  unfold spec_l1Has.f
  repeat' first
      | (with_reducible exact ih0 _ _ _ _)
      | (with_reducible exact LeO.refl _)
      | (with_reducible exact LeO.none _)
      | (with_reducible refine LeO.ite ?_ ?_)
      | (with_reducible refine LeO.bind ?_ (fun _ => ?_))
      | exact ih0 _ _ _ _
      | exact LeO.none _
      | refine LeO.ite ?_ ?_
      | refine LeO.bind ?_ (fun _ => ?_)
set_option maxHeartbeats 8000000 in
set_option maxRecDepth 100000 in
theorem spec_l1Has.calls (k : Nat) (A0 : Option Addr) (c0 : Nat) (l0 : List Int) (a1 : Int) (r : Bool) (w : World) (hr0 : Kd.C (Kd.int .i64) w A0 l0.length l0) (hc0 : l0.length ≤ c0) (h : spec_l1Has.f k l0 a1 = some r) :
    Calls Try.prog 58 #[.slice A0 l0.length c0, .int .i64 a1] w fun e w' => e = .returned (.bool r) ∧ Drawn0 w w' := by
  have HR0 := Aside0.mk hr0
  have HC0 := Aside0.mk hc0
  clear hr0 hc0
  have H : (spec_l1Has.l0 k a1 l0 (l0.length : Int) 0) = some r := h
  clear h
  have H' := Aside0.mk H
  clear H
  go_enter Try.func58, Try.ntmps58
  go_wp2
  go_loopg [9] k (fun kq v9 w' => ∃ (x9_1 : Int), v9 = .int .i64 x9_1 ∧ Aside0 (spec_l1Has.l0 kq a1 l0 (l0.length : Int) x9_1 = some r) ∧ Aside0 (kq ≤ k) ∧ Drawn0 w w')
  case atStart => exact ⟨(0), (by first | rfl | (simp; done) | (simp [*]; done)), H', ⟨Nat.le_refl _⟩, by repeat (first | exact Drawn0.refl _ | apply Drawn0.step)⟩
  case round =>
    clear H'
    try clear p2
    obtain ⟨x9_1, rfl, HA, HK1, ⟨m1, rfl⟩⟩ := hrel
    cases gk with
    | zero => exact absurd HA.out (by simp [spec_l1Has.l0])
    | succ k1 =>
      have H := HA.out
      clear HA
      simp only [spec_l1Has.l0] at H
      by_cases c3 : x9_1 < (l0.length : Int)
      · rw [if_pos c3] at H
        have c3b0 : decide (x9_1 < (l0.length : Int)) = true := decide_eq_true c3
        clear c3
        by_cases c4 : 0 ≤ x9_1
        · rw [if_pos c4] at H
          have c4b0 : decide (0 ≤ x9_1) = true := decide_eq_true c4
          clear c4
          by_cases c5 : x9_1 < (l0.length : Int)
          · rw [if_pos c5] at H
            have c5b0 : decide (x9_1 < (l0.length : Int)) = true := decide_eq_true c5
            clear c5
            by_cases c6 : (rd l0 x9_1) = a1
            · rw [if_pos c6] at H
              have c6b0 : ((rd l0 x9_1) == a1) = true := beq_iff_eq.mpr c6
              have c6b1 : ((rd l0 x9_1) != a1) = false := bne_eq_false_iff_eq.mpr c6
              clear c6
              obtain rfl := Option.some.inj H
              have p250 : 0 ≤ (x9_1 : Int) := of_decide_eq_true (by first | (with_reducible assumption) | assumption)
              have q250 : x9_1 < (l0.length : Int) := of_decide_eq_true (by first | (with_reducible assumption) | assumption)
              obtain ⟨ad250, e250, hx250_0⟩ := Kd.at_int HR0.out x9_1 p250 q250
              cases e250
              replace p250 := eq_true p250
              replace q250 := eq_true q250
              go_wp2
              go_ret
              exact ⟨by first | rfl | (simp; done) | (simp [*]; done), by repeat (first | exact Drawn0.refl _ | apply Drawn0.step)⟩
            · rw [if_neg c6] at H
              have c6b0 : ((rd l0 x9_1) == a1) = false := beq_eq_false_iff_ne.mpr c6
              have c6b1 : ((rd l0 x9_1) != a1) = true := bne_iff_ne.mpr c6
              have H' := Aside0.mk H
              clear H
              have p250 : 0 ≤ (x9_1 : Int) := of_decide_eq_true (by first | (with_reducible assumption) | assumption)
              have q250 : x9_1 < (l0.length : Int) := of_decide_eq_true (by first | (with_reducible assumption) | assumption)
              obtain ⟨ad250, e250, hx250_0⟩ := Kd.at_int HR0.out x9_1 p250 q250
              cases e250
              replace p250 := eq_true p250
              replace q250 := eq_true q250
              go_wp2
              go_roundg k1
              case measure => have := HK1.out; omega
              case rel => exact ⟨(wrap64 (x9_1 + 1)), (by first | rfl | (simp; done) | (simp [*]; done)), H', ⟨by have := HK1.out; omega⟩, by repeat (first | exact Drawn0.refl _ | apply Drawn0.step)⟩
          · rw [if_neg c5] at H
            exact absurd H (by simp)
        · rw [if_neg c4] at H
          exact absurd H (by simp)
      · rw [if_neg c3] at H
        have c3b0 : decide (x9_1 < (l0.length : Int)) = false := decide_eq_false c3
        clear c3
        obtain rfl := Option.some.inj H
        go_wp2
        go_ret
        exact ⟨by first | rfl | (simp; done) | (simp [*]; done), by repeat (first | exact Drawn0.refl _ | apply Drawn0.step)⟩

end Go.Proofs.Ytcmfcleeohcgaaa.P
namespace Go.Proofs.Ytcmfcleeohcgaaa.M
open Go.RowKit Go.Proofs.Ytcmfcleeohcgaaa.P Go.Proofs.Ytcmfcleeohcgaaa.In Go.Proofs.YtcmfcleeohcgaaaW.PrintWords Go.Proofs.YtcmfcleeohcgaaaW.PrintLast
set_option linter.unusedVariables false
set_option linter.unusedSimpArgs false
def nx (g : List (List Int)) (rot : List Int) (p : Int) : Int := if ((rd_L1 g p).length : Int) = 0 then -1 else rd (rd_L1 g p) (rd rot p)
theorem rot_at : ∀ (rot : List Int) (g : List (List Int)), rotB rot g = true → ∀ (i : Nat) (h1 : i < rot.length) (h2 : i < g.length), 0 ≤ rot[i] ∧ (rot[i] < (g[i].length : Int) ∨ rot[i] = 0) := by
  intro rot
  induction rot with
  | nil => intro g h i h1; simp at h1
  | cons r rot ih =>
    intro g h i h1 h2
    cases g with
    | nil => simp at h2
    | cons row g =>
      simp only [rotB, Bool.and_eq_true, decide_eq_true_eq] at h
      cases i with
      | zero =>
        simp only [List.getElem_cons_zero]
        have := h.1; unfold mx at this; split at this <;> omega
      | succ i =>
        simp only [List.getElem_cons_succ]
        exact ih g h.2 i (by simpa using h1) (by simpa using h2)
theorem rot_rd {g : List (List Int)} {rot : List Int} (hr : rotB rot g = true) (hl : rot.length = g.length) {p : Int} (h0 : 0 ≤ p) (h1 : p < (g.length : Int)) : 0 ≤ rd rot p ∧ (((rd_L1 g p).length : Int) = 0 ∨ rd rot p < ((rd_L1 g p).length : Int)) := by
  have := rot_at rot g hr p.toNat (by omega) (by omega)
  rw [rd_get h0 (by omega), rdL_get h0 h1]
  omega
theorem next_eq {g : List (List Int)} {rot : List Int} (hr : rotB rot g = true) (hl : rot.length = g.length) {p : Int} (h0 : 0 ≤ p) (h1 : p < (g.length : Int)) : impl_Graph_next.f g rot p = some (nx g rot p) := by
  obtain ⟨a, b⟩ := rot_rd hr hl h0 h1
  unfold impl_Graph_next.f nx
  rw [if_pos h0, if_pos h1]
  by_cases h : ((rd_L1 g p).length : Int) = 0
  · rw [if_pos h, if_pos h]
  · rw [if_neg h, if_neg h, if_pos (by omega), if_pos a, if_pos (by omega)]
theorem trNext_eq {g : List (List Int)} {rot : List Int} (hr : rotB rot g = true) (hl : rot.length = g.length) {p : Int} (h0 : 0 ≤ p) (h1 : p < (g.length : Int)) : spec_trNext.f g rot p = some (nx g rot p) := by
  obtain ⟨a, b⟩ := rot_rd hr hl h0 h1
  unfold spec_trNext.f nx
  rw [if_pos h0, if_pos h1]
  by_cases h : ((rd_L1 g p).length : Int) = 0
  · rw [if_pos h, if_pos h]
  · rw [if_neg h, if_neg h, if_pos (by omega), if_pos a, if_pos (by omega)]
theorem nx_lt {g : List (List Int)} (hg : goodG g = true) {rot : List Int} (hr : rotB rot g = true) (hl : rot.length = g.length) {p : Int} (h0 : 0 ≤ p) (h1 : p < (g.length : Int)) : nx g rot p < (g.length : Int) ∧ -1 ≤ nx g rot p := by
  obtain ⟨a, b⟩ := rot_rd hr hl h0 h1
  have hrow := ((good_iff hg).2 (rd_L1 g p) (by rw [rdL_get h0 h1]; exact List.getElem_mem _)).2
  unfold nx
  split
  · omega
  · have := hrow (rd (rd_L1 g p) (rd rot p)) (by rw [rd_get a (by omega)]; exact List.getElem_mem _)
    omega

def find : List Int → Int → Nat → Int
  | [], _, _ => -1
  | y :: ys, x, i => if x = y then (i : Int) else find ys x (i + 1)
theorem find_no : ∀ (l : List Int) (x : Int) (i : Nat), x ∉ l → find l x i = -1 := by
  intro l
  induction l with
  | nil => intro x i _; rfl
  | cons y ys ih =>
    intro x i h
    simp only [List.mem_cons, not_or] at h
    simp only [find]; rw [if_neg h.1]; exact ih x (i + 1) h.2
theorem find_at : ∀ (l : List Int) (i s : Nat) (hs : s < l.length), l.Nodup → find l l[s] i = ((i + s : Nat) : Int) := by
  intro l
  induction l with
  | nil => intro i s hs; simp at hs
  | cons y ys ih =>
    intro i s hs hn
    rw [List.nodup_cons] at hn
    cases s with
    | zero => simp [find]
    | succ s =>
      simp only [List.getElem_cons_succ, find]
      have hs2 : s < ys.length := by simpa using hs
      rw [if_neg (fun (e : ys[s] = y) => hn.1 (by rw [← e]; exact List.getElem_mem _)), ih (i + 1) s hs2 hn.2]
      congr 1; omega
theorem find_in : ∀ (l : List Int) (x : Int) (i : Nat), x ∈ l → 0 ≤ find l x i := by
  intro l
  induction l with
  | nil => intro x i h; cases h
  | cons y ys ih =>
    intro x i h
    simp only [find]
    split
    · omega
    · rcases List.mem_cons.1 h with h2 | h2
      · contradiction
      · exact ih x (i + 1) h2
theorem index_l0 (l : List Int) (x : Int) (hl : l.length ≤ 4611686018427387904) : ∀ (d i : Nat), l.length - i = d → i ≤ l.length → Ev (fun k => slices_Index_int_int.l0 k l x l.length i) (find (l.drop i) x i) := by
  intro d
  induction d with
  | zero =>
    intro i hd hi
    refine Ev.succ ?_
    simp only [slices_Index_int_int.l0]
    rw [List.drop_of_length_le (by omega)]
    exact Ev.neg (by omega) (Ev.now _)
  | succ d ih =>
    intro i hd hi
    have hlt : i < l.length := by omega
    refine Ev.succ ?_
    simp only [slices_Index_int_int.l0]
    rw [List.drop_eq_getElem_cons hlt]
    simp only [find]
    refine Ev.pos (by omega) (Ev.pos (by omega) (Ev.pos (by omega) ?_))
    rw [rd_at hlt]
    by_cases h : x = l[i]
    · rw [if_pos h]; exact Ev.pos h (Ev.now _)
    · rw [if_neg h]
      refine Ev.neg h ?_
      rw [wrap_nat (by omega)]
      exact ih (i + 1) (by omega) (by omega)
theorem index_ev (l : List Int) (x : Int) (hl : l.length ≤ 4611686018427387904) : Ev (fun k => slices_Index_int_int.f k l x) (find l x 0) := by
  unfold slices_Index_int_int.f
  exact index_l0 l x hl l.length 0 (by omega) (by omega)
theorem contains_ev (l : List Int) (x : Int) (hl : l.length ≤ 4611686018427387904) : Ev (fun k => slices_Contains_int_int.f k l x) (decide (x ∈ l)) := by
  unfold slices_Contains_int_int.f
  refine Ev.bind (index_ev l x hl) ((Ev.now _).val ?_)
  by_cases h : x ∈ l
  · rw [decide_eq_true h, decide_eq_true (find_in l x 0 h)]
  · rw [decide_eq_false h, find_no l x 0 h]; rfl
theorem l1Has_l0 (l : List Int) (x : Int) (hl : l.length ≤ 4611686018427387904) : ∀ (d i : Nat), l.length - i = d → i ≤ l.length → Ev (fun k => spec_l1Has.l0 k x l l.length i) (decide (x ∈ l.drop i)) := by
  intro d
  induction d with
  | zero =>
    intro i hd hi
    refine Ev.succ ?_
    simp only [spec_l1Has.l0]
    rw [List.drop_of_length_le (by omega)]
    exact Ev.neg (by omega) ((Ev.now _).val (by simp))
  | succ d ih =>
    intro i hd hi
    have hlt : i < l.length := by omega
    refine Ev.succ ?_
    simp only [spec_l1Has.l0]
    rw [List.drop_eq_getElem_cons hlt]
    refine Ev.pos (by omega) (Ev.pos (by omega) (Ev.pos (by omega) ?_))
    rw [rd_at hlt]
    by_cases h : l[i] = x
    · exact Ev.pos h ((Ev.now _).val (by simp only [List.mem_cons, h, true_or, decide_true]))
    · refine Ev.neg h ?_
      rw [wrap_nat (by omega)]
      refine (ih (i + 1) (by omega) (by omega)).val ?_
      have : x ≠ l[i] := fun e => h e.symm
      simp only [List.mem_cons, this, false_or]
theorem l1Has_ev (l : List Int) (x : Int) (hl : l.length ≤ 4611686018427387904) : Ev (fun k => spec_l1Has.f k l x) (decide (x ∈ l)) := by
  unfold spec_l1Has.f
  exact l1Has_l0 l x hl l.length 0 (by omega) (by omega)

/-- Rotors of a graph. -/
structure Rot (g : List (List Int)) (rot : List Int) : Prop where
  good : goodG g = true
  rb : rotB rot g = true
  len : rot.length = g.length
theorem Rot.of_walk {g : List (List Int)} {rot : List Int} {a : Int} (h : walkB g rot a = true) : Rot g rot ∧ 0 ≤ a ∧ a < (g.length : Int) := by
  unfold walkB at h
  simp only [Bool.and_eq_true, decide_eq_true_eq] at h
  obtain ⟨hg, h0, h1⟩ := place_iff h.1
  exact ⟨⟨hg, h.2.2, h.2.1⟩, h0, h1⟩
theorem Rot.it_ok {g : List (List Int)} {rot : List Int} (h : Rot g rot) {p : Int} (h0 : 0 ≤ p) (h1 : p < (g.length : Int)) : ∀ i, (∀ j, j < i → 0 ≤ nx g rot (it (nx g rot) j p)) → 0 ≤ it (nx g rot) i p ∧ it (nx g rot) i p < (g.length : Int) := by
  intro i
  induction i with
  | zero => intro _; exact ⟨h0, h1⟩
  | succ i ih =>
    intro ha
    obtain ⟨a, b⟩ := ih (fun j hj => ha j (by omega))
    rw [it_succ]
    exact ⟨ha i (by omega), (nx_lt h.good h.rb h.len a b).1⟩
theorem Rot.orb_ok {g : List (List Int)} {rot : List Int} (h : Rot g rot) {p : Int} (h0 : 0 ≤ p) (h1 : p < (g.length : Int)) {i : Nat} (ha : ∀ j, j + 1 < i → 0 ≤ nx g rot (it (nx g rot) j p)) : ∀ x ∈ orb (nx g rot) p i, 0 ≤ x ∧ x < (g.length : Int) := by
  intro x hx
  obtain ⟨j, hj, rfl⟩ := orb_mem.1 hx
  exact h.it_ok h0 h1 j (fun m hm => ha m (by omega))
/-- The program's way: it comes to a place without exits, or it comes again. -/
theorem cycleFrom_l0 {g : List (List Int)} {rot : List Int} (h : Rot g rot) {p : Int} (h0 : 0 ≤ p) (h1 : p < (g.length : Int)) : ∀ (d i : Nat), g.length - i = d → i ≤ g.length → (orb (nx g rot) p i).Nodup → (∀ j, j < i → 0 ≤ nx g rot (it (nx g rot) j p)) →
    (∃ j, j < g.length ∧ nx g rot (it (nx g rot) j p) < 0 ∧ (∀ m, m < j → 0 ≤ nx g rot (it (nx g rot) m p)) ∧ Ev (fun k => impl_Graph_cycleFrom.l0 k rot (it (nx g rot) i p) (orb (nx g rot) p i) g) ([], false)) ∨
    (∃ s per, Rho (nx g rot) g.length p s per ∧ (∀ j, j < s + per → 0 ≤ nx g rot (it (nx g rot) j p)) ∧ Ev (fun k => impl_Graph_cycleFrom.l0 k rot (it (nx g rot) i p) (orb (nx g rot) p i) g) (orb (nx g rot) (it (nx g rot) s p) per, true)) := by
  have h8 := (good_iff h.good).1.2
  intro d
  induction d with
  | zero =>
    intro i hd hi hn ha
    have hi2 : i = g.length := by omega
    have hp := h.it_ok h0 h1 i ha
    have hm : it (nx g rot) i p ∈ orb (nx g rot) p i := by
      apply Classical.byContradiction
      intro hm
      have := pigeon g.length (orb (nx g rot) p i ++ [it (nx g rot) i p]) (nodup_snoc hn hm) (fun x hx => by
        rcases List.mem_append.1 hx with h2 | h2
        · exact h.orb_ok h0 h1 (fun j hj => ha j (by omega)) x h2
        · simp at h2; subst h2; exact hp)
      simp [orb_len] at this; omega
    right
    obtain ⟨s, hs, he⟩ := orb_mem.1 hm
    have hsp : s + (i - s) = i := by omega
    refine ⟨s, i - s, ⟨by omega, by omega, by rw [hsp]; exact hn, by rw [← it_add, hsp, he]⟩, by rw [hsp]; exact ha, ?_⟩
    refine Ev.succ ?_
    simp only [impl_Graph_cycleFrom.l0]
    refine Ev.bind (contains_ev _ _ (by rw [orb_len]; omega)) (Ev.pos (by simpa using hm) (Ev.bind (index_ev _ _ (by rw [orb_len]; omega)) ?_))
    have hfi : find (orb (nx g rot) p i) (it (nx g rot) i p) 0 = (s : Int) := by
      have := find_at (orb (nx g rot) p i) 0 s (by rw [orb_len]; exact hs) hn
      rw [orb_get hs, he] at this; simpa using this
    rw [hfi]
    refine Ev.pos (by omega) (Ev.pos (by rw [orb_len]; omega) ((Ev.now _).val ?_))
    have := orb_drop (nx g rot) p s (i - s)
    rw [hsp] at this
    rw [Int.toNat_natCast, this]
  | succ d ih =>
    intro i hd hi hn ha
    have hp := h.it_ok h0 h1 i ha
    by_cases hm : it (nx g rot) i p ∈ orb (nx g rot) p i
    · right
      obtain ⟨s, hs, he⟩ := orb_mem.1 hm
      have hsp : s + (i - s) = i := by omega
      refine ⟨s, i - s, ⟨by omega, by omega, by rw [hsp]; exact hn, by rw [← it_add, hsp, he]⟩, by rw [hsp]; exact ha, ?_⟩
      refine Ev.succ ?_
      simp only [impl_Graph_cycleFrom.l0]
      refine Ev.bind (contains_ev _ _ (by rw [orb_len]; omega)) (Ev.pos (by simpa using hm) (Ev.bind (index_ev _ _ (by rw [orb_len]; omega)) ?_))
      have hfi : find (orb (nx g rot) p i) (it (nx g rot) i p) 0 = (s : Int) := by
        have := find_at (orb (nx g rot) p i) 0 s (by rw [orb_len]; exact hs) hn
        rw [orb_get hs, he] at this; simpa using this
      rw [hfi]
      refine Ev.pos (by omega) (Ev.pos (by rw [orb_len]; omega) ((Ev.now _).val ?_))
      have := orb_drop (nx g rot) p s (i - s)
      rw [hsp] at this
      rw [Int.toNat_natCast, this]
    · by_cases hneg : nx g rot (it (nx g rot) i p) < 0
      · left
        refine ⟨i, by omega, hneg, ha, ?_⟩
        refine Ev.succ ?_
        simp only [impl_Graph_cycleFrom.l0]
        refine Ev.bind (contains_ev _ _ (by rw [orb_len]; omega)) (Ev.neg (by simpa using hm) (Ev.pos (by rw [orb_len]; omega) (Ev.bind0 (next_eq h.rb h.len hp.1 hp.2) (Ev.pos hneg (Ev.now _)))))
      · have hstep : ∀ r, Ev (fun k => impl_Graph_cycleFrom.l0 k rot (it (nx g rot) (i + 1) p) (orb (nx g rot) p (i + 1)) g) r → Ev (fun k => impl_Graph_cycleFrom.l0 k rot (it (nx g rot) i p) (orb (nx g rot) p i) g) r := by
          intro r hr
          rw [it_succ, orb_succ] at hr
          refine Ev.succ ?_
          simp only [impl_Graph_cycleFrom.l0]
          exact Ev.bind (contains_ev _ _ (by rw [orb_len]; omega)) (Ev.neg (by simpa using hm) (Ev.pos (by rw [orb_len]; omega) (Ev.bind0 (next_eq h.rb h.len hp.1 hp.2) (Ev.neg hneg hr))))
        have ha2 : ∀ j, j < i + 1 → 0 ≤ nx g rot (it (nx g rot) j p) := by
          intro j hj
          by_cases hj2 : j = i
          · subst hj2; omega
          · exact ha j (by omega)
        rcases ih (i + 1) (by omega) (by omega) (by rw [orb_succ]; exact nodup_snoc hn hm) ha2 with ⟨j, j1, j2, j3, j4⟩ | ⟨s, per, j1, j2, j3⟩
        · exact .inl ⟨j, j1, j2, j3, hstep _ j4⟩
        · exact .inr ⟨s, per, j1, j2, hstep _ j3⟩
theorem cycleFrom_ev {g : List (List Int)} {rot : List Int} (h : Rot g rot) {p : Int} (h0 : 0 ≤ p) (h1 : p < (g.length : Int)) :
    (∃ j, j < g.length ∧ nx g rot (it (nx g rot) j p) < 0 ∧ (∀ m, m < j → 0 ≤ nx g rot (it (nx g rot) m p)) ∧ Ev (fun k => impl_Graph_cycleFrom.f k g rot p) ([], false)) ∨
    (∃ s per, Rho (nx g rot) g.length p s per ∧ (∀ j, 0 ≤ nx g rot (it (nx g rot) j p)) ∧ Ev (fun k => impl_Graph_cycleFrom.f k g rot p) (orb (nx g rot) (it (nx g rot) s p) per, true)) := by
  rcases cycleFrom_l0 h h0 h1 g.length 0 (by omega) (by omega) (by simp [orb]) (fun j hj => by omega) with h2 | ⟨s, per, j1, j2, j3⟩
  · exact .inl h2
  · refine .inr ⟨s, per, j1, fun j => ?_, j3⟩
    obtain ⟨m, hm, he⟩ := orb_mem.1 (j1.all j)
    rw [← he]; exact j2 m hm
end Go.Proofs.Ytcmfcleeohcgaaa.M
namespace Go.Proofs.Ytcmfcleeohcgaaa.M
open Go.RowKit Go.Proofs.Ytcmfcleeohcgaaa.P Go.Proofs.Ytcmfcleeohcgaaa.In Go.Proofs.YtcmfcleeohcgaaaW.PrintWords Go.Proofs.YtcmfcleeohcgaaaW.PrintLast
set_option linter.unusedVariables false
set_option linter.unusedSimpArgs false
/-- m next places lead to the sink, not fewer. -/
structure Hit (f : Int → Int) (sink p : Int) (m : Nat) : Prop where
  at_ : it f m p = sink
  on : ∀ j, j < m → it f j p ≠ sink ∧ 0 ≤ f (it f j p)
theorem Hit.uniq {f : Int → Int} {sink p : Int} {m m' : Nat} (h : Hit f sink p m) (h' : Hit f sink p m') : m = m' := by
  rcases Nat.lt_trichotomy m m' with h2 | h2 | h2
  · exact absurd h.at_ (h'.on m h2).1
  · exact h2
  · exact absurd h'.at_ (h.on m' h2).1
theorem Hit.nodup {f : Int → Int} {sink p : Int} {m : Nat} (h : Hit f sink p m) : (orb f p (m + 1)).Nodup := by
  unfold orb
  rw [List.nodup_iff_pairwise_ne, List.pairwise_map]
  refine List.Pairwise.imp_of_mem ?_ (List.pairwise_lt_range (n := m + 1))
  intro i j hi hj hlt he
  have hj2 : j < m + 1 := List.mem_range.1 hj
  have : it f (i + (m - j)) p = sink := by
    rw [it_add, he, ← it_add, show j + (m - j) = m by omega]; exact h.at_
  exact (h.on (i + (m - j)) (by omega)).1 this
theorem Hit.lt {g : List (List Int)} {rot : List Int} (hr : Rot g rot) {sink p : Int} (h0 : 0 ≤ p) (h1 : p < (g.length : Int)) {m : Nat} (h : Hit (nx g rot) sink p m) : m < g.length := by
  have := pigeon g.length _ h.nodup (hr.orb_ok h0 h1 (fun j hj => (h.on j (by omega)).2))
  rw [orb_len] at this; omega
open Classical in
noncomputable def dst (f : Int → Int) (sink p : Int) : Int := if h : ∃ m, Hit f sink p m then ((Classical.choose h : Nat) : Int) else -1
theorem dst_hit {f : Int → Int} {sink p : Int} {m : Nat} (h : Hit f sink p m) : dst f sink p = m := by
  have he : ∃ m, Hit f sink p m := ⟨m, h⟩
  unfold dst
  rw [dif_pos he]
  have := h.uniq (Classical.choose_spec he)
  omega
theorem dst_no {f : Int → Int} {sink p : Int} (h : ¬ ∃ m, Hit f sink p m) : dst f sink p = -1 := by unfold dst; rw [dif_neg h]
theorem trFar_l0 {g : List (List Int)} {rot : List Int} (hr : Rot g rot) {sink p : Int} (h0 : 0 ≤ p) (h1 : p < (g.length : Int)) : ∀ (d i : Nat), g.length - i = d → i ≤ g.length → (∀ j, j < i → it (nx g rot) j p ≠ sink ∧ 0 ≤ nx g rot (it (nx g rot) j p)) → Ev (fun k => spec_trFar.l0 k sink rot (it (nx g rot) i p) i g) (dst (nx g rot) sink p) := by
  have h8 := (good_iff hr.good).1.2
  intro d
  induction d with
  | zero =>
    intro i hd hi ha
    refine Ev.succ ?_
    simp only [spec_trFar.l0]
    refine Ev.neg (by omega) ((Ev.now _).val ?_)
    symm; apply dst_no
    rintro ⟨m, hm⟩
    have hlt := hm.lt hr h0 h1
    exact (ha m (by omega)).1 hm.at_
  | succ d ih =>
    intro i hd hi ha
    have hp := hr.it_ok h0 h1 i (fun j hj => (ha j hj).2)
    refine Ev.succ ?_
    simp only [spec_trFar.l0]
    refine Ev.pos (by omega) ?_
    by_cases hs : it (nx g rot) i p = sink
    · exact Ev.pos hs ((Ev.now _).val (dst_hit ⟨hs, ha⟩).symm)
    · refine Ev.neg hs (Ev.bind0 (trNext_eq hr.rb hr.len hp.1 hp.2) ?_)
      by_cases hneg : nx g rot (it (nx g rot) i p) < 0
      · refine Ev.pos hneg ((Ev.now _).val ?_)
        symm; apply dst_no
        rintro ⟨m, hm⟩
        rcases Nat.lt_trichotomy m i with h2 | h2 | h2
        · exact (ha m h2).1 hm.at_
        · subst h2; exact hs hm.at_
        · have := (hm.on i h2).2; omega
      · refine Ev.neg hneg ?_
        rw [wrap_nat (by omega), ← it_succ (nx g rot) i p]
        refine ih (i + 1) (by omega) (by omega) (fun j hj => ?_)
        by_cases hj2 : j = i
        · subst hj2; exact ⟨hs, by omega⟩
        · exact ha j (by omega)
theorem trFar_ev {g : List (List Int)} {rot : List Int} (hr : Rot g rot) {sink p : Int} (h0 : 0 ≤ p) (h1 : p < (g.length : Int)) : Ev (fun k => spec_trFar.f k g sink rot p) (dst (nx g rot) sink p) :=
  trFar_l0 hr h0 h1 g.length 0 (by omega) (by omega) (fun j hj => by omega)
noncomputable def allFrom (g : List (List Int)) (rot : List Int) (sink : Int) : Nat → Nat → Bool
  | 0, _ => true
  | d + 1, i => if dst (nx g rot) sink i < 0 then false else allFrom g rot sink d (i + 1)
noncomputable def waysFrom (g : List (List Int)) (rot : List Int) (sink : Int) : Nat → Nat → List Int → List Int
  | 0, _, acc => acc
  | d + 1, i, acc => waysFrom g rot sink d (i + 1) (acc ++ [dst (nx g rot) sink i])
noncomputable def treeB (g : List (List Int)) (rot : List Int) (sink : Int) : Bool := allFrom g rot sink g.length 0
noncomputable def wayList (g : List (List Int)) (rot : List Int) (sink : Int) : List Int := waysFrom g rot sink g.length 0 []
theorem waysFrom_len (g : List (List Int)) (rot : List Int) (sink : Int) : ∀ (d i : Nat) (acc : List Int), (waysFrom g rot sink d i acc).length = acc.length + d := by
  intro d
  induction d with
  | zero => intro i acc; rfl
  | succ d ih => intro i acc; simp only [waysFrom]; rw [ih]; simp; omega
theorem trIs_l0 {g : List (List Int)} {rot : List Int} (hr : Rot g rot) (sink : Int) : ∀ (d i : Nat), g.length - i = d → i ≤ g.length → Ev (fun k => spec_trIs.l0 k sink rot g.length i g) (allFrom g rot sink d i) := by
  have h8 := (good_iff hr.good).1.2
  intro d
  induction d with
  | zero =>
    intro i hd hi
    refine Ev.succ ?_
    simp only [spec_trIs.l0]
    exact Ev.neg (by omega) (Ev.now _)
  | succ d ih =>
    intro i hd hi
    refine Ev.succ ?_
    simp only [spec_trIs.l0, allFrom]
    refine Ev.pos (by omega) (Ev.bind (trFar_ev hr (by omega) (by omega)) ?_)
    by_cases h : dst (nx g rot) sink i < 0
    · rw [if_pos h]; exact Ev.pos h (Ev.now _)
    · rw [if_neg h]
      refine Ev.neg h ?_
      rw [wrap_nat (by omega)]
      exact ih (i + 1) (by omega) (by omega)
theorem trIs_ev {g : List (List Int)} {rot : List Int} (hr : Rot g rot) (sink : Int) : Ev (fun k => spec_trIs.f k g sink rot) (treeB g rot sink) := trIs_l0 hr sink g.length 0 (by omega) (by omega)
/-- The inner way of the program, from a place on. -/
theorem treeWays_l1 {g : List (List Int)} {rot : List Int} (hr : Rot g rot) {sink p : Int} (h0 : 0 ≤ p) (h1 : p < (g.length : Int)) (acc : List Int) (hacc : acc.length ≤ 100) (x : Int) : ∀ (d i : Nat), g.length + 1 - i = d → i ≤ g.length + 1 → (∀ j, j < i → it (nx g rot) j p ≠ sink ∧ 0 ≤ nx g rot (it (nx g rot) j p)) →
    (dst (nx g rot) sink p < 0 → Ev (fun k => impl_Graph_treeWays.l1 k sink rot acc i (it (nx g rot) i p) g.length x g) ([], false)) ∧
    (¬ dst (nx g rot) sink p < 0 → ∀ r, Ev (fun k => impl_Graph_treeWays.l0 k sink rot (acc ++ [dst (nx g rot) sink p]) g.length (wrap64 (x + 1)) g) r → Ev (fun k => impl_Graph_treeWays.l1 k sink rot acc i (it (nx g rot) i p) g.length x g) r) := by
  have h8 := (good_iff hr.good).1.2
  intro d
  induction d with
  | zero =>
    intro i hd hi ha
    have hp := hr.it_ok h0 h1 i (fun j hj => (ha j hj).2)
    have hno : ¬ ∃ m, Hit (nx g rot) sink p m := by
      rintro ⟨m, hm⟩
      have hlt := hm.lt hr h0 h1
      exact (ha m (by omega)).1 hm.at_
    have hns : it (nx g rot) i p ≠ sink := fun e => hno ⟨i, e, ha⟩
    refine ⟨fun _ => ?_, fun h => absurd (dst_no hno) (by omega)⟩
    refine Ev.succ ?_
    simp only [impl_Graph_treeWays.l1]
    refine Ev.neg hns (Ev.bind0 (next_eq hr.rb hr.len hp.1 hp.2) ?_)
    by_cases hneg : nx g rot (it (nx g rot) i p) < 0
    · exact Ev.pos hneg (Ev.now _)
    · exact Ev.neg hneg (Ev.pos (by omega) (Ev.now _))
  | succ d ih =>
    intro i hd hi ha
    have hp := hr.it_ok h0 h1 i (fun j hj => (ha j hj).2)
    by_cases hs : it (nx g rot) i p = sink
    · have hh : dst (nx g rot) sink p = i := dst_hit ⟨hs, ha⟩
      refine ⟨fun h => by omega, fun _ r hrr => ?_⟩
      rw [hh] at hrr
      refine Ev.succ ?_
      simp only [impl_Graph_treeWays.l1]
      exact Ev.pos hs (Ev.pos (by omega) hrr)
    · by_cases hneg : nx g rot (it (nx g rot) i p) < 0
      · have hno : ¬ ∃ m, Hit (nx g rot) sink p m := by
          rintro ⟨m, hm⟩
          rcases Nat.lt_trichotomy m i with h2 | h2 | h2
          · exact (ha m h2).1 hm.at_
          · subst h2; exact hs hm.at_
          · have := (hm.on i h2).2; omega
        refine ⟨fun _ => ?_, fun h => absurd (dst_no hno) (by omega)⟩
        refine Ev.succ ?_
        simp only [impl_Graph_treeWays.l1]
        exact Ev.neg hs (Ev.bind0 (next_eq hr.rb hr.len hp.1 hp.2) (Ev.pos hneg (Ev.now _)))
      · have hrec := ih (i + 1) (by omega) (by omega) (fun j hj => by
          by_cases hj2 : j = i
          · subst hj2; exact ⟨hs, by omega⟩
          · exact ha j (by omega))
        have hstep : ∀ r, Ev (fun k => impl_Graph_treeWays.l1 k sink rot acc (i + 1 : Nat) (it (nx g rot) (i + 1) p) g.length x g) r → Ev (fun k => impl_Graph_treeWays.l1 k sink rot acc i (it (nx g rot) i p) g.length x g) r := by
          intro r hrr
          rw [it_succ] at hrr
          refine Ev.succ ?_
          simp only [impl_Graph_treeWays.l1]
          refine Ev.neg hs (Ev.bind0 (next_eq hr.rb hr.len hp.1 hp.2) (Ev.neg hneg (Ev.neg (by omega) ?_)))
          rw [wrap_nat (by omega)]; exact hrr
        exact ⟨fun h => hstep _ (hrec.1 h), fun h r hrr => hstep _ (hrec.2 h r hrr)⟩
theorem treeWays_l0 {g : List (List Int)} {rot : List Int} (hr : Rot g rot) (sink : Int) : ∀ (d i : Nat) (acc : List Int), g.length - i = d → i ≤ g.length → acc.length = i → Ev (fun k => impl_Graph_treeWays.l0 k sink rot acc g.length i g) (cond (allFrom g rot sink d i) (waysFrom g rot sink d i acc, true) ([], false)) := by
  have h8 := (good_iff hr.good).1.2
  intro d
  induction d with
  | zero =>
    intro i acc hd hi hac
    refine Ev.succ ?_
    simp only [impl_Graph_treeWays.l0]
    exact Ev.neg (by omega) (Ev.now _)
  | succ d ih =>
    intro i acc hd hi hac
    have hl := treeWays_l1 hr (sink := sink) (p := (i : Int)) (by omega) (by omega) acc (by omega) (i : Int) (g.length + 1) 0 (by omega) (by omega) (fun j hj => by omega)
    refine Ev.succ ?_
    simp only [impl_Graph_treeWays.l0, allFrom, waysFrom]
    refine Ev.pos (by omega) ?_
    by_cases h : dst (nx g rot) sink i < 0
    · rw [if_pos h]; exact hl.1 h
    · rw [if_neg h]
      refine hl.2 h _ ?_
      rw [wrap_nat (by omega)]
      exact ih (i + 1) _ (by omega) (by omega) (by simp; omega)
theorem treeWays_ev {g : List (List Int)} {rot : List Int} (hr : Rot g rot) (sink : Int) : Ev (fun k => impl_Graph_treeWays.f k g sink rot) (cond (treeB g rot sink) (wayList g rot sink, true) ([], false)) :=
  treeWays_l0 hr sink g.length 0 [] (by omega) (by omega) rfl
theorem isTree_ev {g : List (List Int)} {rot : List Int} (hr : Rot g rot) (sink : Int) : Ev (fun k => impl_Graph_isTree.f k g sink rot) (treeB g rot sink) := by
  unfold impl_Graph_isTree.f
  refine Ev.bind (treeWays_ev hr sink) ((Ev.now _).val ?_)
  cases h : treeB g rot sink <;> simp
theorem place_of0 {g : List (List Int)} (hg : goodG g = true) : placeB g 0 = true := by
  have := (good_iff hg).1
  unfold placeB; rw [hg]; simp; omega
/-- Are there a graph, a sink and rotors. -/
def sinkB (g : List (List Int)) (sink : Int) (rot : List Int) : Bool := placeB g sink && (decide (rot.length = g.length) && rotB rot g) && (rd rot sink == 0)
theorem Rot.of_sink {g : List (List Int)} {sink : Int} {rot : List Int} (h : sinkB g sink rot = true) : Rot g rot ∧ 0 ≤ sink ∧ sink < (g.length : Int) := by
  unfold sinkB at h
  simp only [Bool.and_eq_true, decide_eq_true_eq] at h
  obtain ⟨hg, h0, h1⟩ := place_iff h.1.1
  exact ⟨⟨hg, h.1.2.2, h.1.2.1⟩, h0, h1⟩
theorem areSink_ev (g : List (List Int)) (sink : Int) (rot : List Int) : Ev (fun k => impl_areSinkRotors.f k g sink rot) (sinkB g sink rot) := by
  unfold impl_areSinkRotors.f impl_areRotors.f sinkB
  refine Ev.bind0 (has1 g sink) ?_
  by_cases hp : placeB g sink = true
  · obtain ⟨hg, h0, h1⟩ := place_iff hp
    have hp0 : placeB g 0 = true := place_of0 hg
    refine Ev.pos hp (Ev.bind (Ev.bind (isWalk g rot 0) (Ev.now _)) ?_)
    have hw : walkB g rot 0 = (decide (rot.length = g.length) && rotB rot g) := by unfold walkB; rw [hp0]; rfl
    rw [hw]
    by_cases hr : (decide (rot.length = g.length) && rotB rot g) = true
    · have hlen : rot.length = g.length := by simp only [Bool.and_eq_true, decide_eq_true_eq] at hr; exact hr.1
      refine Ev.pos hr (Ev.pos h0 (Ev.pos (by omega) ((Ev.now _).val ?_)))
      rw [hp, hr]; simp
    · refine Ev.neg hr ((Ev.now _).val ?_)
      rw [Bool.eq_false_iff.mpr hr]; simp
  · refine Ev.neg hp ((Ev.now _).val ?_)
    rw [Bool.eq_false_iff.mpr hp]; simp
theorem trGood_ev (g : List (List Int)) (hl : okSS g) (sink : Int) (rot : List Int) : Ev (fun k => spec_trGood.f k g sink rot) (sinkB g sink rot) := by
  unfold spec_trGood.f sinkB
  refine Ev.bind (grPlace g sink hl) ?_
  by_cases hp : placeB g sink = true
  · obtain ⟨hg, h0, h1⟩ := place_iff hp
    refine Ev.pos hp (Ev.bind (waGood g hl rot sink) ?_)
    have hw : walkB g rot sink = (decide (rot.length = g.length) && rotB rot g) := by unfold walkB; rw [hp]; rfl
    rw [hw]
    by_cases hr : (decide (rot.length = g.length) && rotB rot g) = true
    · have hlen : rot.length = g.length := by simp only [Bool.and_eq_true, decide_eq_true_eq] at hr; exact hr.1
      refine Ev.pos hr (Ev.pos h0 (Ev.pos (by omega) ((Ev.now _).val ?_)))
      rw [hp, hr]; simp
    · refine Ev.neg hr ((Ev.now _).val ?_)
      rw [Bool.eq_false_iff.mpr hr]; simp
  · refine Ev.neg hp ((Ev.now _).val ?_)
    rw [Bool.eq_false_iff.mpr hp]; simp
end Go.Proofs.Ytcmfcleeohcgaaa.M
namespace Go.Proofs.Ytcmfcleeohcgaaa.M
open Go.RowKit Go.Proofs.Ytcmfcleeohcgaaa.P Go.Proofs.Ytcmfcleeohcgaaa.In Go.Proofs.YtcmfcleeohcgaaaW.PrintWords Go.Proofs.YtcmfcleeohcgaaaW.PrintLast
set_option linter.unusedVariables false
set_option linter.unusedSimpArgs false
def marks (a : Int) : Nat → List Int
  | 0 => []
  | n + 1 => a :: marks (a + 1) n
theorem marks_len (a : Int) (n : Nat) : (marks a n).length = n := by
  induction n generalizing a with
  | zero => rfl
  | succ n ih => simp [marks, ih]
theorem markIntS_l0 (n : Nat) (hn : n ≤ 4611686018427387904) : ∀ (d i : Nat) (x : List Int) (a : Int), x.length = n → n - i = d → i ≤ n → 0 ≤ a → a + d ≤ 4611686018427387904 → Ev (fun k => laws_markIntS.l0 k x a i) (a + d, x.take i ++ marks a d) := by
  intro d
  induction d with
  | zero =>
    intro i x a hx hd hi h0 h1
    refine Ev.succ ?_
    simp only [laws_markIntS.l0]
    refine Ev.neg (by omega) ((Ev.now _).val ?_)
    rw [List.take_of_length_le (by omega)]; simp [marks]
  | succ d ih =>
    intro i x a hx hd hi h0 h1
    refine Ev.succ ?_
    simp only [laws_markIntS.l0]
    refine Ev.pos (by omega) (Ev.pos (by omega) ?_)
    rw [wrap_id (x := a + 1) (by omega), wrap_nat (by omega), Int.toNat_natCast]
    refine (ih (i + 1) (x.set i a) (a + 1) (by rw [List.length_set]; exact hx) (by omega) (by omega) (by omega) (by omega)).val ?_
    rw [List.take_succ_eq_append_getElem (by rw [List.length_set]; omega), List.take_set_of_le (Nat.le_refl _), List.getElem_set_self]
    simp only [marks, List.append_assoc, List.singleton_append]
    congr 1; omega
theorem markIntS (x : List Int) (a : Int) (hn : x.length ≤ 4611686018427387904) (h0 : 0 ≤ a) (h1 : a + x.length ≤ 4611686018427387904) : Ev (fun k => laws_markIntS.f k x a) (a + x.length, marks a x.length) := by
  have := markIntS_l0 x.length hn x.length 0 x a rfl (by omega) (by omega) h0 h1
  unfold laws_markIntS.f
  simpa using this
theorem heldIntS_l0 (n : Nat) (hn : n ≤ 4611686018427387904) (y : List Int) (hy : y.length = n) : ∀ (d i : Nat) (a : Int), n - i = d → i ≤ n → 0 ≤ a → a + d ≤ 4611686018427387904 → y.drop i = marks a d → Ev (fun k => laws_heldIntS.l0 k y a i) (a + d) := by
  intro d
  induction d with
  | zero =>
    intro i a hd hi h0 h1 he
    refine Ev.succ ?_
    simp only [laws_heldIntS.l0]
    exact Ev.neg (by omega) ((Ev.now _).val (by simp))
  | succ d ih =>
    intro i a hd hi h0 h1 he
    have hlt : i < y.length := by omega
    rw [List.drop_eq_getElem_cons hlt] at he
    simp only [marks, List.cons.injEq] at he
    refine Ev.succ ?_
    simp only [laws_heldIntS.l0]
    refine Ev.pos (by omega) (Ev.pos (by omega) (Ev.pos (by rw [rd_at hlt]; exact he.1) ?_))
    rw [wrap_id (x := a + 1) (by omega), wrap_nat (by omega)]
    exact (ih (i + 1) (a + 1) (by omega) (by omega) (by omega) (by omega) he.2).val (by omega)
theorem heldIntS (a : Int) (n : Nat) (h0 : 0 ≤ a) (h1 : a + n ≤ 4611686018427387904) : Ev (fun k => laws_heldIntS.f k (marks a n) a) (a + n) :=
  heldIntS_l0 n (by omega) _ (marks_len a n) n 0 a (by omega) (by omega) h0 h1 (by simp)
theorem markR (r : List Int) (h : r.length ≤ 1048576) : ∃ q r', Ev (fun k => laws_markIntS.f k r 1) (q, r') ∧ 0 ≤ q ∧ Ev (fun k => laws_heldIntS.f k r' 1) q ∧ True :=
  ⟨_, _, markIntS r 1 (by omega) (by omega) (by omega), by omega, heldIntS 1 r.length (by omega) (by omega), trivial⟩
end Go.Proofs.Ytcmfcleeohcgaaa.M
namespace Go.Proofs.Ytcmfcleeohcgaaa.M
open Go.RowKit Go.Proofs.Ytcmfcleeohcgaaa.P Go.Proofs.Ytcmfcleeohcgaaa.In Go.Proofs.YtcmfcleeohcgaaaW.PrintWords Go.Proofs.YtcmfcleeohcgaaaW.PrintLast
set_option linter.unusedVariables false
set_option linter.unusedSimpArgs false
def markRows (a : Int) : List (List Int) → Int × List (List Int)
  | [] => (a, [])
  | row :: rest => ((markRows (a + row.length) rest).1, marks a row.length :: (markRows (a + row.length) rest).2)
theorem markIntSS_l0 (n : Nat) (hn : n ≤ 1048576) : ∀ (d i : Nat) (x : List (List Int)) (a : Int), x.length = n → (∀ row ∈ x.drop i, row.length ≤ 1048576) → n - i = d → i ≤ n → 0 ≤ a → a + 1048576 * d ≤ 4611686018427387904 → Ev (fun k => laws_markIntSS.l0 k x a i) ((markRows a (x.drop i)).1, x.take i ++ (markRows a (x.drop i)).2) ∧ a ≤ (markRows a (x.drop i)).1 ∧ (markRows a (x.drop i)).1 ≤ a + 1048576 * d := by
  intro d
  induction d with
  | zero =>
    intro i x a hx hr hd hi h0 h1
    rw [List.drop_of_length_le (by omega)]
    refine ⟨?_, by simp [markRows], by simp [markRows]⟩
    refine Ev.succ ?_
    simp only [laws_markIntSS.l0]
    refine Ev.neg (by omega) ((Ev.now _).val ?_)
    rw [List.take_of_length_le (by omega)]; simp [markRows]
  | succ d ih =>
    intro i x a hx hr hd hi h0 h1
    have hlt : i < x.length := by omega
    have hrow := hr x[i] (by rw [List.drop_eq_getElem_cons hlt]; exact List.mem_cons_self)
    have hdrop : (x.set i (marks a x[i].length)).drop (i + 1) = x.drop (i + 1) := List.drop_set_of_lt (by omega)
    obtain ⟨e1, e2, e3⟩ := ih (i + 1) (x.set i (marks a x[i].length)) (a + x[i].length) (by rw [List.length_set]; exact hx) (fun row hm => hr row (by rw [hdrop] at hm; rw [List.drop_eq_getElem_cons hlt]; exact List.mem_cons_of_mem _ hm)) (by omega) (by omega) (by omega) (by omega)
    rw [hdrop] at e1 e2 e3
    rw [List.drop_eq_getElem_cons hlt]
    simp only [markRows]
    refine ⟨?_, by omega, by omega⟩
    refine Ev.succ ?_
    simp only [laws_markIntSS.l0]
    refine Ev.pos (by omega) (Ev.pos (by omega) ?_)
    rw [rdL_at hlt]
    refine Ev.bind (markIntS x[i] a (by omega) h0 (by omega)) ?_
    rw [wrap_nat (by omega), Int.toNat_natCast]
    refine e1.val ?_
    rw [List.take_succ_eq_append_getElem (by rw [List.length_set]; omega), List.take_set_of_le (Nat.le_refl _), List.getElem_set_self]
    simp
theorem markIntSS (x : List (List Int)) (hx : small x) (a : Int) (h0 : 0 ≤ a) (h1 : a ≤ 1099511627776) : Ev (fun k => laws_markIntSS.f k x a) ((markRows a x).1, (markRows a x).2) ∧ a ≤ (markRows a x).1 ∧ (markRows a x).1 ≤ a + 1099511627776 := by
  have hl := hx.1
  obtain ⟨e1, e2, e3⟩ := markIntSS_l0 x.length hx.1 x.length 0 x a rfl (fun row hm => hx.2 row (by simpa using hm)) (by omega) (by omega) h0 (by omega)
  refine ⟨by unfold laws_markIntSS.f; simpa using e1, by simpa using e2, ?_⟩
  have : (markRows a x).1 ≤ a + 1048576 * x.length := by simpa using e3
  omega
theorem markG (x : List (List Int)) (hx : small x) : ∃ m x', Ev (fun k => laws_markGraph.f k x 1) (m, x') ∧ 0 ≤ m ∧ m ≤ 1099511627777 := by
  obtain ⟨e1, e2, e3⟩ := markIntSS x hx 1 (by omega) (by omega)
  exact ⟨_, _, e1, by omega, by omega⟩
end Go.Proofs.Ytcmfcleeohcgaaa.M
namespace Go.Proofs.Ytcmfcleeohcgaaa.M
open Go.RowKit Go.Proofs.Ytcmfcleeohcgaaa.P Go.Proofs.Ytcmfcleeohcgaaa.In Go.Proofs.YtcmfcleeohcgaaaW.PrintWords Go.Proofs.YtcmfcleeohcgaaaW.PrintLast
set_option linter.unusedVariables false
set_option linter.unusedSimpArgs false
theorem markW (r : List Int) (x : Int) (h : r.length ≤ 1048576) : ∃ q r', Ev (fun k => laws_markWalk.f k r x 1) (q, r') ∧ 0 ≤ q ∧ Ev (fun k => laws_heldWalk.f k r' x 1) q ∧ True := by
  refine ⟨1 + r.length, marks 1 r.length, ?_, ?_, ?_, trivial⟩
  · unfold laws_markWalk.f
    exact Ev.bind (markIntS r 1 (by omega) (by omega) (by omega)) (Ev.now _)
  · omega
  · unfold laws_heldWalk.f
    exact Ev.bind (heldIntS 1 r.length (by omega) (by omega)) (Ev.neg (by omega) (Ev.now _))
end Go.Proofs.Ytcmfcleeohcgaaa.M
namespace Go.Proofs.Ytcmfcleeohcgaaa.Pure
open Go.RowKit Go.Proofs.Ytcmfcleeohcgaaa.P Go.Proofs.Ytcmfcleeohcgaaa.In Go.Proofs.Ytcmfcleeohcgaaa.M Go.Proofs.YtcmfcleeohcgaaaW.PrintWords Go.Proofs.YtcmfcleeohcgaaaW.PrintLast
set_option linter.unusedVariables false
set_option linter.unusedSimpArgs false
theorem FnExactUnicycleOfTree (l : List (List Int)) (hl : okSS l) (p : Int) (hp : okI p) (ro : List Int) (hro : okIs ro) (q : Int) (hq : okI q) : laws_FnExactUnicycleOfTree.f l p ro q = some true := by
  unfold laws_FnExactUnicycleOfTree.f
  rw [if_pos]
  unfold laws_FnExactUnicycleOfTree.Good
  intro hlen
  obtain ⟨r, hr, _, hs⟩ := szGraph l hl
  refine ⟨r, hr, fun h => ?_⟩
  have sm := hs h
  have hcl : slices_Clone_int_int.f ro = some ro := by unfold slices_Clone_int_int.f; first | rfl | rw [if_pos (by omega)]
  have hown : spec_l1Own.f ro = some ro := by
    unfold spec_l1Own.f
    show (if ([] : List Int).length + ro.length < 17592186044416 then some ([] ++ ro) else none) = some ro
    rw [if_pos (by simp; omega)]; rfl
  obtain ⟨v, x, b, hS, hI, hv⟩ : ∃ (v : List Int) (x : Int) (b : Bool), Ev (fun k => spec_UnicycleOfTree.f k l p ro q) (v, x, b) ∧ Ev (fun k => impl_UnicycleOfTree.f k l p ro q) (v, x, b) ∧ v.length ≤ 1048576 := by
    by_cases hg : sinkB l p ro = true
    · obtain ⟨hrot, h0, h1⟩ := Rot.of_sink hg
      have h8 := (good_iff hrot.good).1.2
      have hrl := hrot.len
      have hrow := ((good_iff hrot.good).2 (rd_L1 l p) (by rw [rdL_get h0 h1]; exact List.getElem_mem _)).1
      by_cases ht : treeB l ro p = true
      · have hw : wrap64 (((rd_L1 l p).length : Int) - 1) = ((rd_L1 l p).length : Int) - 1 := wrap_id (by omega)
        by_cases hin : (decide (0 ≤ q) && decide (q ≤ ((rd_L1 l p).length : Int) - 1)) = true
        · refine ⟨ro.set p.toNat q, p, true, ?_, ?_, by simp; omega⟩
          · unfold spec_UnicycleOfTree.f
            refine Ev.bind (trGood_ev l hl p ro) (Ev.pos hg (Ev.bind (trIs_ev hrot p) (Ev.pos ht (Ev.pos h0 (Ev.pos h1 ?_)))))
            rw [hw]
            exact Ev.bind0 (l1In q 0 _) (Ev.pos hin (Ev.bind0 hown (Ev.pos (by omega) (Ev.now _))))
          · unfold impl_UnicycleOfTree.f
            refine Ev.bind (areSink_ev l p ro) (Ev.pos hg (Ev.bind (isTree_ev hrot p) (Ev.pos ht (Ev.pos h0 (Ev.pos h1 ?_)))))
            rw [hw]
            exact Ev.bind0 (implin q 0 _) (Ev.pos hin (Ev.bind0 hcl (Ev.pos (by omega) (Ev.now _))))
        · refine ⟨[], 0, false, ?_, ?_, by simp⟩
          · unfold spec_UnicycleOfTree.f
            refine Ev.bind (trGood_ev l hl p ro) (Ev.pos hg (Ev.bind (trIs_ev hrot p) (Ev.pos ht (Ev.pos h0 (Ev.pos h1 ?_)))))
            rw [hw]
            exact Ev.bind0 (l1In q 0 _) (Ev.neg hin (Ev.now _))
          · unfold impl_UnicycleOfTree.f
            refine Ev.bind (areSink_ev l p ro) (Ev.pos hg (Ev.bind (isTree_ev hrot p) (Ev.pos ht (Ev.pos h0 (Ev.pos h1 ?_)))))
            rw [hw]
            exact Ev.bind0 (implin q 0 _) (Ev.neg hin (Ev.now _))
      · refine ⟨[], 0, false, ?_, ?_, by simp⟩
        · unfold spec_UnicycleOfTree.f
          exact Ev.bind (trGood_ev l hl p ro) (Ev.pos hg (Ev.bind (trIs_ev hrot p) (Ev.neg ht (Ev.now _))))
        · unfold impl_UnicycleOfTree.f
          exact Ev.bind (areSink_ev l p ro) (Ev.pos hg (Ev.bind (isTree_ev hrot p) (Ev.neg ht (Ev.now _))))
    · refine ⟨[], 0, false, ?_, ?_, by simp⟩
      · unfold spec_UnicycleOfTree.f
        exact Ev.bind (trGood_ev l hl p ro) (Ev.neg hg (Ev.now _))
      · unfold impl_UnicycleOfTree.f
        exact Ev.bind (areSink_ev l p ro) (Ev.neg hg (Ev.now _))
  obtain ⟨m, l', hm, hm0, hm1⟩ := markG l sm
  exact ⟨toGraph l sm, toIntS ro (by omega), v, x, b, hS, hI, eqWalk v x hv, small_eq l sm, (eqIntS ro ro (by omega)).val (decide_eq_true rfl), m, l', hm, hm0, _, _, markIntS ro m (by omega) hm0 (by omega), by omega, markW v x hv⟩
end Go.Proofs.Ytcmfcleeohcgaaa.Pure
namespace Go.Proofs.Ytcmfcleeohcgaaa.fnExactUnicycleOfTree
open Go.ChangeShapes Go.WideShapes Go.ChangeAt Go.RowKit
open Go.ChangeMaps (open_string shut_string)
open Go.Proofs.Ytcmfcleeohcgaaa.In Go.Proofs.Ytcmfcleeohcgaaa.P
set_option linter.unusedVariables false
theorem own : ownKnob Try.prog.godebug = none := by kernel_rfl
theorem laidOut : laidOutB Try.prog = true := by kernel_rfl
set_option maxRecDepth 100000 in
theorem lifted (os : Os) (started : os.Started) (H : Type) (enc : TypeId × Value → H) :
    ReturnsInHanded {} Try.checked os 4 .any (Rows.fnExactUnicycleOfTreeSpec.pre6 enc Try.prog Try.f4 Rows.fnExactUnicycleOfTreeRow.domain false) (Rows.fnExactUnicycleOfTreeSpec.post enc Try.prog Try.f4 false true false false) := by
  refine returnsInHanded_of_change_sized (C := Try.checked) own started (by kernel_rfl) Try.func4
    (ChangeSpec.witness6 (enc := enc) (C := Try.checked) false ⟨#[], #[.agg #[.slice none 0 0], .int .i64 0, .slice none 0 0, .int .i64 0], []⟩ 8 (by kernel_rfl) (by kernel_rfl) (by kernel_rfl) (by kernel_rfl)) ?_
  intro W base args ds gs before hval0 hW hcnd hsz0 _
  have hsz : (DataW.weightsEach Try.prog (Try.f4.params.toList ++ Rows.fnExactUnicycleOfTreeSpec.plain.varTypes Try.prog) (ds ++ gs)).all (· ≤ reachBytes) = true := hsz0
  have hval : ∀ (j : Nat) t v, Try.f4.params[j]? = some t → args[j]? = some v → Value.okWide Try.prog W .any base t v := hval0
  have hW' := hW
  obtain ⟨p, q, hA0, hV, rfl, hfz, hnd⟩ := hW
  have hA : DataW.TrodAll enc Try.prog W 0 (fun _ => true) true Try.f4.params.toList args.toList ds p := hA0
  rw [Try.params4] at hA hval hsz
  obtain ⟨v0, vs0, d0, ds0, p0, q0, hargs, rfl, rfl, h0, r0⟩ := trodAll_cons hA
  obtain ⟨v1, vs1, d1, ds1, p1, q1, rfl, rfl, rfl, h1, r1⟩ := trodAll_cons r0
  obtain ⟨v2, vs2, d2, ds2, p2, q2, rfl, rfl, rfl, h2, r2⟩ := trodAll_cons r1
  obtain ⟨v3, vs3, d3, ds3, p3, q3, rfl, rfl, rfl, h3, r3⟩ := trodAll_cons r2
  obtain ⟨rfl, rfl, rfl⟩ := trodAll_nil r3
  obtain rfl : args = #[v0, v1, v2, v3] := by cases args; simp_all
  obtain ⟨rfl, rfl⟩ := trodVars_none hV
  have k0 := h0
  have lt0 : ∀ x ∈ p0, x.block < W.heap.size := by obtain ⟨m, hm⟩ := k0; exact DataW.trod_lt m _ _ _ hm
  obtain ⟨A0, l0, cap0, rfl, hl0, hc0, hw0⟩ := in_graph (q := 3) Try.underlying30 (by kernel_rfl) (by kernel_rfl) rfl Try.underlying22 Try.underlying31 Try.underlying3 (by kernel_rfl) (by kernel_rfl) (hval 0 30 v0 rfl rfl) h0
  obtain ⟨a1, rfl, rfl, rfl, w1⟩ := open_int Try.underlying3 (hval 1 3 v1 rfl rfl) h1
  have k2 := h2
  have lt2 : ∀ x ∈ p2, x.block < W.heap.size := by obtain ⟨m, hm⟩ := k2; exact DataW.trod_lt m _ _ _ hm
  obtain ⟨A2, l2, cap2, rfl, hl2, hc2, hw2⟩ := in_slice (q := 3) Try.underlying31 Try.underlying3 (by kernel_rfl) (hval 2 31 v2 rfl rfl) h2
  obtain ⟨a3, rfl, rfl, rfl, w3⟩ := open_int Try.underlying3 (hval 3 3 v3 rfl rfl) h3
  clear hA0 hval0 hsz0 hsz
  have h := Pure.FnExactUnicycleOfTree l0 (okSS_wf hc0 hw0) a1 (okI_wf w1) l2 (okIs_wf hw2) a3 (okI_wf w3)
  refine (laws_FnExactUnicycleOfTree.calls _ _ l0 a1 _ _ l2 a3 true W hc0 hl0 hc2 hl2 h).mono fun e W' ⟨he, bel0⟩ => ?_
  have bel : Below W.heap.size W W' := bel0
  subst he
  exact ⟨_, rfl, _, _, _, [], _, [], hW', trodAll_mk1 (shut_bool Try.underlying4 _), (trodAll_cons_mk (Below.trod laidOut (by kernel_rfl) (of_decide_eq_true (by kernel_rfl)) k0 bel lt0) (trodAll_cons_mk (shut_int Try.underlying3 w1) (trodAll_cons_mk (Below.trod laidOut (by kernel_rfl) (of_decide_eq_true (by kernel_rfl)) k2 bel lt2) (trodAll_cons_mk (shut_int Try.underlying3 w3) trodAll_mk0)))), rfl, bel.frame _, fun h => by cases h⟩
theorem over : Rows.fnExactUnicycleOfTreeRow.holds Try.pinned (OpenSpec.ofChange Rows.fnExactUnicycleOfTreeSpec) :=
  OpenClaim.holds_of_wide 4 Try.f4 rfl rfl rfl rfl rfl rfl rfl ⟨rfl, rfl, rfl, rfl, rfl⟩ rfl rfl rfl rfl rfl (by kernel_rfl) Try.func4 (by kernel_rfl)
    (of_decide_eq_true (by kernel_rfl)) (by unfold Func.isWrapper; first | (rw [if_pos (by decide +kernel)]; kernel_rfl) | (rw [if_neg (by decide +kernel)]; exact ⟨rfl, rfl⟩))
    (fun os started H enc _ => lifted os started H enc)
theorem proved : Rows.FnExactUnicycleOfTreeSaid := over
end Go.Proofs.Ytcmfcleeohcgaaa.fnExactUnicycleOfTree
namespace Go.Proofs.Ytcmfcleeohcgaaa
/-- The law, under a short name, for the claim. -/
theorem fnExactUnicycleOfTree_holds : Rows.FnExactUnicycleOfTreeSaid := fnExactUnicycleOfTree.proved
#print axioms fnExactUnicycleOfTree_holds
end Go.Proofs.Ytcmfcleeohcgaaa
