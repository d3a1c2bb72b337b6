/- The law FnExactCountExits holds for every input: the program returns what the reference returns (or what the law says), for all arguments. -/
import Derived.Test.YtjjnpllhenmdmaaP0
import Derived.Test.YtjjnpllhenmdmaaPspecgrEntries
import Derived.Test.YtjjnpllhenmdmaaMBase
import Derived.Test.YtjjnpllhenmdmaaMGraph
import Derived.Test.YtjjnpllhenmdmaaPimplGraphentries
import Derived.Test.YtjjnpllhenmdmaaPspecgrCount
import Derived.Test.YtjjnpllhenmdmaaPimplCountExits
import Derived.Test.YtjjnpllhenmdmaaPspecCountExits
import Derived.Test.YtjjnpllhenmdmaaPimplGraphisBalanced
import Derived.Test.YtjjnpllhenmdmaaRIn
import Derived.Test.YtjjnpllhenmdmaaPlawsFnExactCountExits
import Derived.Test.YtjjnpllhenmdmaaRows
import Derived.WalkKit
import Derived.ProofKit
import Derived.OpenShut
import Derived.ShutString
import Derived.ChangeOld
import Derived.Below
import Derived.SizedLaws
import Derived.Deep.Matrix
import Derived.Lib.SmallJoins
namespace Go.Proofs.Ytjjnpllhenmdmaa.P
open Go.RowKit Go.Proofs.YtjjnpllhenmdmaaW.PrintWords Go.Proofs.YtjjnpllhenmdmaaW.PrintLast Go.Proofs.YtjjnpllhenmdmaaW.PrintMore
attribute [local go_sem] max2_int min2_int max_two min_two max_three min_three max_four min_four   -- for this text's walks alone
set_option linter.unusedVariables false
set_option linter.unusedSimpArgs false

/-! ### spec_grBalanced: function 75 -/
def spec_grBalanced.l0 : Nat → List (List Int) → Int → Int → List (List Int) → Option (Bool)
  | 0, _, _, _, _ => none
  | k + 1, x6, x7, x8, x279000 => if x8 < x7 then (if 0 ≤ x8 then (if x8 < (x6.length : Int) then ((spec_grEntries.f k x279000 x8).bind fun t280 => (if ((rd_L1 x6 x8).length : Int) = t280 then (spec_grBalanced.l0 k x6 x7 (wrap64 (x8 + 1)) x279000) else (some false))) else (none)) else (none)) else (some true)
def spec_grBalanced.f (k : Nat) (l0_0 : List (List Int)) : Option (Bool) := spec_grBalanced.l0 k l0_0 (l0_0.length : Int) 0 l0_0
theorem spec_grBalanced.mono_l : ∀ k, (∀ y0 y1 y2 y3, LeO (spec_grBalanced.l0 k y0 y1 y2 y3) (spec_grBalanced.l0 (k + 1) y0 y1 y2 y3))
  | 0 => fun _ _ _ _ r h => by simp [spec_grBalanced.l0] at h
  | k + 1 => by
    have ih0 := spec_grBalanced.mono_l k
    · intro y0 y1 y2 y3
      unfold spec_grBalanced.l0
      repeat' first
      | (with_reducible exact ih0 _ _ _ _)
      | (with_reducible exact spec_grEntries.mono _ _ _)
      | (with_reducible exact LeO.refl _)
      | (with_reducible exact LeO.none _)
      | (with_reducible refine LeO.ite ?_ ?_)
      | (with_reducible refine LeO.bind ?_ (fun _ => ?_))
      | exact ih0 _ _ _ _
      | exact spec_grEntries.mono _ _ _
      | exact LeO.none _
      | refine LeO.ite ?_ ?_
      | refine LeO.bind ?_ (fun _ => ?_)
theorem spec_grBalanced.mono : ∀ a0 k, LeO (spec_grBalanced.f k a0) (spec_grBalanced.f (k + 1) a0) := by
  intro a0 k
  have ih0 := spec_grBalanced.mono_l k
  unfold spec_grBalanced.f
  repeat' first
      | (with_reducible exact ih0 _ _ _ _)
      | (with_reducible exact spec_grEntries.mono _ _ _)
      | (with_reducible exact LeO.refl _)
      | (with_reducible exact LeO.none _)
      | (with_reducible refine LeO.ite ?_ ?_)
      | (with_reducible refine LeO.bind ?_ (fun _ => ?_))
      | exact ih0 _ _ _ _
      | exact spec_grEntries.mono _ _ _
      | exact LeO.none _
      | refine LeO.ite ?_ ?_
      | refine LeO.bind ?_ (fun _ => ?_)
set_option maxHeartbeats 8000000 in
set_option maxRecDepth 100000 in
theorem spec_grBalanced.calls (k : Nat) (A0_0 : Option Addr) (c0_0 : Nat) (l0_0 : List (List Int)) (r : Bool) (w : World) (hr0_0 : Kd.C (Kd.slice 3 (Kd.int .i64)) w A0_0 l0_0.length l0_0) (hc0_0 : l0_0.length ≤ c0_0) (h : spec_grBalanced.f k l0_0 = some r) :
    Calls Try.prog 75 #[.agg #[.slice A0_0 l0_0.length c0_0]] w fun e w' => e = .returned (.bool r) ∧ Below w.heap.size w w' := by
  have hu25 := Try.underlying25
  have HR0_0 := Aside0.mk hr0_0
  have HC0_0 := Aside0.mk hc0_0
  clear hr0_0 hc0_0
  have HB := Aside0.mk (Below.refl w.heap.size w)
  have H : (spec_grBalanced.l0 k l0_0 (l0_0.length : Int) 0 l0_0) = some r := h
  clear h
  have H' := Aside0.mk H
  clear H
  go_enter Try.func75, Try.ntmps75
  go_wp2_with (first | ((with_reducible refine gate_dst (N := 1) rfl ?_); refine box_event ?hg (N := 1) ?hd (cs := #[.slice A0_0 l0_0.length c0_0]) (t := 25) ?hr ?_; (case hd => rfl); (case hg => rfl); (case hr => first | (go_simp; done) | (go_simp; rfl)); intro gb278 hg w2 hbox hb; have n0_ := Aside0.mk (below_step (by repeat (first | (with_reducible first | exact HB.out | apply below_alloc | apply pw_below_drewN | apply below_drew1) | exact HB.out)) hb); have n1_ := Aside0.mk (hbox); have n2_ := Aside0.mk ((by rw [hg]; exact (below_size (by repeat (first | (with_reducible first | exact HB.out | apply below_alloc | apply pw_below_drewN | apply below_drew1) | exact HB.out))) : w.heap.size ≤ gb278)); have n3_ := Aside0.mk ((by rw [hg]; exact (below_size (by repeat (first | (with_reducible first | exact HB.out | apply below_alloc | apply pw_below_drewN | apply below_drew1) | exact HB.out))) : w.heap.size ≤ gb278)); clear HB; have HB := n0_; have BK278 := n1_; have GW278 := n2_; have GE278 := n3_; clear n0_ n1_ n2_ n3_; clear hb hbox hg; have hcz3_0 : w2.cell? ⟨gb278, 0, none⟩ = some (.slice A0_0 l0_0.length c0_0) := (blk_cell BK278.out 0).trans rfl; have hfz3_0 := blk_frozen BK278.out 0))
  go_loopg [8] k (fun kq v8 w' => ∃ (x8_1 : Int), v8 = .int .i64 x8_1 ∧ Aside0 (spec_grBalanced.l0 kq l0_0 (l0_0.length : Int) x8_1 l0_0 = some r) ∧ Aside0 (kq ≤ k) ∧ Aside0 (w'.heap[gb278]? = some (.cells #[(.slice A0_0 l0_0.length c0_0)] 25 (0, 0))) ∧ Aside0 (Below w.heap.size w w'))
  case atStart => exact ⟨(0), (by first | rfl | (simp; done) | (simp [*]; done)), H', ⟨Nat.le_refl _⟩, ⟨by (with_reducible repeat (first | refine blk_drewN ?_ _ | refine blk_drew ?_ | refine blk_alloc ?_ _)); exact BK278.out⟩, ⟨by repeat (first | (with_reducible first | exact HB.out | apply below_alloc | apply pw_below_drewN | apply below_drew1 | refine below_set ?_ GE278.out) | exact HB.out)⟩⟩
  case round =>
    clear H'
    try clear p2
    try clear hcz3_0
    try clear hfz3_0
    obtain ⟨x8_1, rfl, HA, HK1, BK278, HB⟩ := hrel
    cases gk with
    | zero => exact absurd HA.out (by simp [spec_grBalanced.l0])
    | succ k1 =>
      have H := HA.out
      clear HA
      simp only [spec_grBalanced.l0] at H
      by_cases c4 : x8_1 < (l0_0.length : Int)
      · rw [if_pos c4] at H
        have c4b0 : decide (x8_1 < (l0_0.length : Int)) = true := decide_eq_true c4
        clear c4
        by_cases c5 : 0 ≤ x8_1
        · rw [if_pos c5] at H
          have c5b0 : decide (0 ≤ x8_1) = true := decide_eq_true c5
          clear c5
          by_cases c6 : x8_1 < (l0_0.length : Int)
          · rw [if_pos c6] at H
            have c6b0 : decide (x8_1 < (l0_0.length : Int)) = true := decide_eq_true c6
            clear c6
            replace H := Option.bind_eq_some_iff.mp H
            obtain ⟨t280, A70, H⟩ := H
            replace H : (if ((rd_L1 l0_0 x8_1).length : Int) = t280 then (spec_grBalanced.l0 k1 l0_0 (l0_0.length : Int) (wrap64 (x8_1 + 1)) l0_0) else (some false)) = some r := H
            have A7 := Aside0.mk A70
            clear A70
            by_cases c8 : ((rd_L1 l0_0 x8_1).length : Int) = t280
            · rw [if_pos c8] at H
              have c8b0 : (((rd_L1 l0_0 x8_1).length : Int) == t280) = true := beq_iff_eq.mpr c8
              have c8b1 : (((rd_L1 l0_0 x8_1).length : Int) != t280) = false := bne_eq_false_iff_eq.mpr c8
              clear c8
              have H' := Aside0.mk H
              clear H
              have p279 : 0 ≤ (x8_1 : Int) := of_decide_eq_true (by first | (with_reducible assumption) | assumption)
              have q279 : x8_1 < (l0_0.length : Int) := of_decide_eq_true (by first | (with_reducible assumption) | assumption)
              obtain ⟨ad279, A279_0, c279_0, e279, hx279_0, hl279_0, hi279_0⟩ := at_L1 HR0_0.out x8_1 p279 q279
              cases e279
              replace hx279_0 := (HB.out.cell (World.block_lt_of_cell? w _ hx279_0)).trans hx279_0
              have HR279_0 := Aside0.mk hi279_0
              have HC279_0 := Aside0.mk hl279_0
              clear hi279_0 hl279_0
              replace p279 := eq_true p279
              replace q279 := eq_true q279
              have hcz9_0 : wr.cell? ⟨gb278, 0, none⟩ = some (.slice (some ad279) l0_0.length c0_0) := (blk_cell BK278.out 0).trans rfl
              have hfz9_0 := blk_frozen BK278.out 0
              go_wp2_with (first | ((with_reducible refine gate_callee (f := 73) rfl ?_); refine goesL_ (some 17) rfl rfl Try.func73 (by kernel_rfl) rfl #[.agg #[.slice (some ad279) l0_0.length c0_0], .int .i64 x8_1] rfl (by (try simp only [List.map_toArray, List.map_cons, List.map_nil]); first | done | rfl | (simp only [List.length_drop, List.length_take]; rfl)) ?_; (with_reducible refine (spec_grEntries.calls k1 _ _ l0_0 x8_1 t280 _ ?side1 ?side2 A7.out).mono ?_); (case side1 => repeat (first | exact (Kd.C_below HR0_0.out HB.out) | (with_reducible refine Kd.C_alloc ?_ _) | (with_reducible refine Kd.C_drewN ?_ _) | (with_reducible refine Kd.C_drew ?_))); (case side2 => exact HC0_0.out); rintro e w10 ⟨rfl, hb⟩; refine ⟨_, rfl, ?_⟩; have n0_ := Aside0.mk (blk_below (g := gb278) (o := .cells #[.slice (some ad279) l0_0.length c0_0] 25 (0, 0)) (by (with_reducible repeat (first | refine blk_drewN ?_ _ | refine blk_drew ?_ | refine blk_alloc ?_ _)); exact BK278.out) hb); have n1_ := Aside0.mk (below_step (by repeat (first | (with_reducible first | exact HB.out | apply below_alloc | apply pw_below_drewN | apply below_drew1 | refine below_set ?_ GE278.out) | exact HB.out)) hb); clear BK278; clear HB; have BK278 := n0_; have HB := n1_; clear n0_ n1_; (try clear hb); (try clear hb2); (try clear hk); (try clear hi)))
              go_roundg k1
              case measure => have := HK1.out; omega
              case rel => exact ⟨(wrap64 (x8_1 + 1)), (by first | rfl | (simp; done) | (simp [*]; done)), H', ⟨by have := HK1.out; omega⟩, ⟨by (with_reducible repeat (first | refine blk_drewN ?_ _ | refine blk_drew ?_ | refine blk_alloc ?_ _)); exact BK278.out⟩, ⟨by repeat (first | (with_reducible first | exact HB.out | apply below_alloc | apply pw_below_drewN | apply below_drew1 | refine below_set ?_ GE278.out) | exact HB.out)⟩⟩
            · rw [if_neg c8] at H
              have c8b0 : (((rd_L1 l0_0 x8_1).length : Int) == t280) = false := beq_eq_false_iff_ne.mpr c8
              have c8b1 : (((rd_L1 l0_0 x8_1).length : Int) != t280) = true := bne_iff_ne.mpr c8
              obtain rfl := Option.some.inj H
              have p279 : 0 ≤ (x8_1 : Int) := of_decide_eq_true (by first | (with_reducible assumption) | assumption)
              have q279 : x8_1 < (l0_0.length : Int) := of_decide_eq_true (by first | (with_reducible assumption) | assumption)
              obtain ⟨ad279, A279_0, c279_0, e279, hx279_0, hl279_0, hi279_0⟩ := at_L1 HR0_0.out x8_1 p279 q279
              cases e279
              replace hx279_0 := (HB.out.cell (World.block_lt_of_cell? w _ hx279_0)).trans hx279_0
              have HR279_0 := Aside0.mk hi279_0
              have HC279_0 := Aside0.mk hl279_0
              clear hi279_0 hl279_0
              replace p279 := eq_true p279
              replace q279 := eq_true q279
              have hcz11_0 : wr.cell? ⟨gb278, 0, none⟩ = some (.slice (some ad279) l0_0.length c0_0) := (blk_cell BK278.out 0).trans rfl
              have hfz11_0 := blk_frozen BK278.out 0
              go_wp2_with (first | ((with_reducible refine gate_callee (f := 73) rfl ?_); refine goesL_ (some 17) rfl rfl Try.func73 (by kernel_rfl) rfl #[.agg #[.slice (some ad279) l0_0.length c0_0], .int .i64 x8_1] rfl (by (try simp only [List.map_toArray, List.map_cons, List.map_nil]); first | done | rfl | (simp only [List.length_drop, List.length_take]; rfl)) ?_; (with_reducible refine (spec_grEntries.calls k1 _ _ l0_0 x8_1 t280 _ ?side1 ?side2 A7.out).mono ?_); (case side1 => repeat (first | exact (Kd.C_below HR0_0.out HB.out) | (with_reducible refine Kd.C_alloc ?_ _) | (with_reducible refine Kd.C_drewN ?_ _) | (with_reducible refine Kd.C_drew ?_))); (case side2 => exact HC0_0.out); rintro e w12 ⟨rfl, hb⟩; refine ⟨_, rfl, ?_⟩; have n0_ := Aside0.mk (blk_below (g := gb278) (o := .cells #[.slice (some ad279) l0_0.length c0_0] 25 (0, 0)) (by (with_reducible repeat (first | refine blk_drewN ?_ _ | refine blk_drew ?_ | refine blk_alloc ?_ _)); exact BK278.out) hb); have n1_ := Aside0.mk (below_step (by repeat (first | (with_reducible first | exact HB.out | apply below_alloc | apply pw_below_drewN | apply below_drew1 | refine below_set ?_ GE278.out) | exact HB.out)) hb); clear BK278; clear HB; have BK278 := n0_; have HB := n1_; clear n0_ n1_; (try clear hb); (try clear hb2); (try clear hk); (try clear hi)))
              go_ret
              exact ⟨by first | rfl | (simp [errW_none, errW_some] <;> rfl) | (simp [*, errW_none, errW_some] <;> rfl), by repeat (first | (with_reducible first | exact HB.out | apply below_alloc | apply pw_below_drewN | apply below_drew1 | refine below_set ?_ GE278.out) | exact HB.out)⟩
          · rw [if_neg c6] at H
            exact absurd H (by simp)
        · rw [if_neg c5] at H
          exact absurd H (by simp)
      · rw [if_neg c4] at H
        have c4b0 : decide (x8_1 < (l0_0.length : Int)) = false := decide_eq_false c4
        clear c4
        obtain rfl := Option.some.inj H
        go_wp2
        go_ret
        exact ⟨by first | rfl | (simp [errW_none, errW_some] <;> rfl) | (simp [*, errW_none, errW_some] <;> rfl), by repeat (first | (with_reducible first | exact HB.out | apply below_alloc | apply pw_below_drewN | apply below_drew1 | refine below_set ?_ GE278.out) | exact HB.out)⟩

end Go.Proofs.Ytjjnpllhenmdmaa.P
namespace Go.Proofs.Ytjjnpllhenmdmaa.M
open Go.RowKit Go.Proofs.Ytjjnpllhenmdmaa.P Go.Proofs.Ytjjnpllhenmdmaa.In Go.Proofs.YtjjnpllhenmdmaaW.PrintWords Go.Proofs.YtjjnpllhenmdmaaW.PrintLast
set_option linter.unusedVariables false
set_option linter.unusedSimpArgs false
/-- How often p is among numbers. -/
def cnt (p : Int) : List Int → Int
  | [] => 0
  | x :: l => (if x = p then 1 else 0) + cnt p l
theorem cnt_append (p : Int) (l m : List Int) : cnt p (l ++ m) = cnt p l + cnt p m := by
  induction l with
  | nil => simp [cnt]
  | cons x l ih => simp only [List.cons_append, cnt, ih]; omega
theorem cnt_bound (p : Int) (l : List Int) : 0 ≤ cnt p l ∧ cnt p l ≤ l.length := by
  induction l with
  | nil => simp [cnt]
  | cons x l ih => simp only [cnt, List.length_cons]; split <;> omega
theorem flat_good {g : List (List Int)} (hg : goodG g = true) : g.flatten.length ≤ 40 := by
  obtain ⟨⟨h1, h8⟩, hrows⟩ := good_iff hg
  have : ∀ (l : List (List Int)), (∀ row ∈ l, row.length ≤ 5) → l.flatten.length ≤ 5 * l.length := by
    intro l
    induction l with
    | nil => intro _; simp
    | cons r l ih =>
      intro h
      have h1 := h r List.mem_cons_self
      have h2 := ih (fun row hr => h row (List.mem_cons_of_mem _ hr))
      rw [List.flatten_cons, List.length_append, List.length_cons]; omega
  have := this g (fun row hr => (hrows row hr).1)
  omega
theorem concat_good {g : List (List Int)} (hg : goodG g = true) : slices_Concat_int_int.f g = some g.flatten := by
  have := flat_good hg
  unfold slices_Concat_int_int.f
  rw [if_pos (by omega)]
theorem entries_l0 (p : Int) (l : List Int) (hl : l.length ≤ 1000) : ∀ (d i : Nat) (a : Int), l.length - i = d → i ≤ l.length → 0 ≤ a → a ≤ i → Ev (fun k => impl_Graph_entries.l0 k p a l l.length i) (a + cnt p (l.drop i)) := by
  intro d
  induction d with
  | zero =>
    intro i a hd hi h0 h1
    refine Ev.const1 (fun k => ?_)
    simp only [impl_Graph_entries.l0]
    rw [if_neg (by omega), List.drop_of_length_le (by omega)]
    simp [cnt]
  | succ d ih =>
    intro i a hd hi h0 h1
    have hlt : i < l.length := by omega
    rw [drop_rd hlt]
    by_cases e : rd l i = p
    · refine Ev.step (fun k => ?_) ((ih (i + 1) (a + 1) (by omega) (by omega) (by omega) (by omega)).val (by simp only [cnt, if_pos e]; omega))
      simp only [impl_Graph_entries.l0]
      rw [if_pos (by omega), if_pos (by omega), if_pos (by omega), if_pos e, wrap_nat (by omega), wrap_id (by omega)]
    · refine Ev.step (fun k => ?_) ((ih (i + 1) a (by omega) (by omega) (by omega) (by omega)).val (by simp only [cnt, if_neg e]; omega))
      simp only [impl_Graph_entries.l0]
      rw [if_pos (by omega), if_pos (by omega), if_pos (by omega), if_neg e, wrap_nat (by omega)]
theorem entries {g : List (List Int)} (hg : goodG g = true) (p : Int) : Ev (fun k => impl_Graph_entries.f k g p) (cnt p g.flatten) := by
  unfold impl_Graph_entries.f
  exact Ev.bind0 (concat_good hg) ((entries_l0 p g.flatten (by have := flat_good hg; omega) g.flatten.length 0 0 (by omega) (by omega) (by omega) (by omega)).val (by simp))
theorem grEntries_l1 (p : Int) (g : List (List Int)) (row : List Int) (hr : row.length ≤ 5) (x12 : Int) (j : Nat) (r : Int) (hj : j < 1000) : ∀ (d i : Nat) (a : Int), row.length - i = d → i ≤ row.length → 0 ≤ a → a + row.length - i ≤ 10000 →
    Ev (fun k => spec_grEntries.l0 k p (a + cnt p (row.drop i)) g x12 ((j + 1 : Nat) : Int)) r → Ev (fun k => spec_grEntries.l1 k p a g x12 j row row.length i) r := by
  intro d
  induction d with
  | zero =>
    intro i a hd hi h0 h1 h
    rw [List.drop_of_length_le (by omega)] at h
    simp only [cnt, Int.add_zero] at h
    refine Ev.step (fun k => ?_) h
    simp only [spec_grEntries.l1]
    rw [if_neg (by omega), wrap_nat (by omega)]
  | succ d ih =>
    intro i a hd hi h0 h1 h
    have hlt : i < row.length := by omega
    rw [drop_rd hlt] at h
    by_cases e : rd row i = p
    · refine Ev.step (fun k => ?_) (ih (i + 1) (a + 1) (by omega) (by omega) (by omega) (by omega) (by simp only [cnt, if_pos e] at h; rw [Int.add_assoc]; exact h))
      simp only [spec_grEntries.l1]
      rw [if_pos (by omega), if_pos (by omega), if_pos (by omega), if_pos e, wrap_nat (by omega), wrap_id (by omega)]
    · refine Ev.step (fun k => ?_) (ih (i + 1) a (by omega) (by omega) (by omega) (by omega) (by simp only [cnt, if_neg e, Int.zero_add] at h; exact h))
      simp only [spec_grEntries.l1]
      rw [if_pos (by omega), if_pos (by omega), if_pos (by omega), if_neg e, wrap_nat (by omega)]
theorem drop_rdL {g : List (List Int)} {i : Nat} (h : i < g.length) : g.drop i = rd_L1 g (i : Int) :: g.drop (i + 1) := by
  rw [List.drop_eq_getElem_cons h, rdL_at h]
theorem grEntries_l0 (p : Int) (g : List (List Int)) (h8 : g.length ≤ 8) (hr : ∀ row ∈ g, row.length ≤ 5) : ∀ (d i : Nat) (a : Int), g.length - i = d → i ≤ g.length → 0 ≤ a → a ≤ 5 * i → Ev (fun k => spec_grEntries.l0 k p a g g.length i) (a + cnt p (g.drop i).flatten) := by
  intro d
  induction d with
  | zero =>
    intro i a hd hi h0 h1
    refine Ev.const1 (fun k => ?_)
    simp only [spec_grEntries.l0]
    rw [if_neg (by omega), List.drop_of_length_le (by omega)]
    simp [cnt]
  | succ d ih =>
    intro i a hd hi h0 h1
    have hlt : i < g.length := by omega
    have hrow : (rd_L1 g i).length ≤ 5 := hr _ (by rw [rdL_at hlt]; exact List.getElem_mem _)
    have hb := cnt_bound p (rd_L1 g i)
    rw [drop_rdL hlt, List.flatten_cons, cnt_append]
    refine Ev.step (fun k => ?_) (grEntries_l1 p g (rd_L1 g i) hrow g.length i _ (by omega) (rd_L1 g i).length 0 a (by omega) (by omega) h0 (by omega) (by
      rw [List.drop_zero]
      exact (ih (i + 1) _ (by omega) (by omega) (by omega) (by omega)).val (by omega)))
    simp only [spec_grEntries.l0]
    rw [if_pos (by omega), if_pos (by omega), if_pos (by omega)]
    rfl
theorem grEntries {g : List (List Int)} (hg : goodG g = true) (p : Int) : Ev (fun k => spec_grEntries.f k g p) (cnt p g.flatten) := by
  obtain ⟨⟨h1, h8⟩, hrows⟩ := good_iff hg
  unfold spec_grEntries.f
  exact (grEntries_l0 p g h8 (fun row hr => (hrows row hr).1) g.length 0 0 (by omega) (by omega) (by omega) (by omega)).val (by simp)
theorem grCount_l0 (g : List (List Int)) (h8 : g.length ≤ 8) (hr : ∀ row ∈ g, row.length ≤ 5) : ∀ (d i : Nat) (a : Int), g.length - i = d → i ≤ g.length → 0 ≤ a → a ≤ 5 * i → Ev (fun k => spec_grCount.l0 k a g g.length i) (a + (g.drop i).flatten.length) := by
  intro d
  induction d with
  | zero =>
    intro i a hd hi h0 h1
    refine Ev.const1 (fun k => ?_)
    simp only [spec_grCount.l0]
    rw [if_neg (by omega), List.drop_of_length_le (by omega)]
    simp
  | succ d ih =>
    intro i a hd hi h0 h1
    have hlt : i < g.length := by omega
    have hrow : (rd_L1 g i).length ≤ 5 := hr _ (by rw [rdL_at hlt]; exact List.getElem_mem _)
    rw [drop_rdL hlt, List.flatten_cons, List.length_append]
    refine Ev.step (fun k => ?_) ((ih (i + 1) (a + (rd_L1 g i).length) (by omega) (by omega) (by omega) (by omega)).val (by omega))
    simp only [spec_grCount.l0]
    rw [if_pos (by omega), if_pos (by omega), if_pos (by omega), wrap_id (by omega), wrap_nat (by omega)]
theorem grCount {g : List (List Int)} (hg : goodG g = true) : Ev (fun k => spec_grCount.f k g) (g.flatten.length : Int) := by
  obtain ⟨⟨h1, h8⟩, hrows⟩ := good_iff hg
  unfold spec_grCount.f
  exact (grCount_l0 g h8 (fun row hr => (hrows row hr).1) g.length 0 0 (by omega) (by omega) (by omega) (by omega)).val (by simp)
/-- Does each place, from i on, have as many exits as lead to it. -/
def balFrom (g : List (List Int)) : Nat → List (List Int) → Bool
  | _, [] => true
  | i, row :: l => decide ((row.length : Int) = cnt (i : Int) g.flatten) && balFrom g (i + 1) l
theorem isBalanced_l0 {g : List (List Int)} (hg : goodG g = true) : ∀ (d i : Nat), g.length - i = d → i ≤ g.length → Ev (fun k => impl_Graph_isBalanced.l0 k g g.length i g) (balFrom g i (g.drop i)) := by
  obtain ⟨⟨h1, h8⟩, hrows⟩ := good_iff hg
  intro d
  induction d with
  | zero =>
    intro i hd hi
    refine Ev.const1 (fun k => ?_)
    simp only [impl_Graph_isBalanced.l0]
    rw [if_neg (by omega), List.drop_of_length_le (by omega)]
    rfl
  | succ d ih =>
    intro i hd hi
    have hlt : i < g.length := by omega
    rw [drop_rdL hlt]
    refine Ev.step (f := fun k => (impl_Graph_entries.f k g i).bind fun t => if ((rd_L1 g i).length : Int) = t then impl_Graph_isBalanced.l0 k g g.length (i + 1 : Nat) g else some false) (fun k => ?_) (Ev.bind (entries hg i) ?_)
    · simp only [impl_Graph_isBalanced.l0]
      rw [if_pos (by omega), if_pos (by omega), if_pos (by omega), wrap_nat (by omega)]
    · by_cases e : ((rd_L1 g i).length : Int) = cnt (i : Int) g.flatten
      · exact Ev.pos e ((ih (i + 1) (by omega) (by omega)).val (by simp [balFrom, e]))
      · exact Ev.neg e ((Ev.now _).val (by simp [balFrom, e]))
theorem grBalanced_l0 {g : List (List Int)} (hg : goodG g = true) : ∀ (d i : Nat), g.length - i = d → i ≤ g.length → Ev (fun k => spec_grBalanced.l0 k g g.length i g) (balFrom g i (g.drop i)) := by
  obtain ⟨⟨h1, h8⟩, hrows⟩ := good_iff hg
  intro d
  induction d with
  | zero =>
    intro i hd hi
    refine Ev.const1 (fun k => ?_)
    simp only [spec_grBalanced.l0]
    rw [if_neg (by omega), List.drop_of_length_le (by omega)]
    rfl
  | succ d ih =>
    intro i hd hi
    have hlt : i < g.length := by omega
    rw [drop_rdL hlt]
    refine Ev.step (f := fun k => (spec_grEntries.f k g i).bind fun t => if ((rd_L1 g i).length : Int) = t then spec_grBalanced.l0 k g g.length (i + 1 : Nat) g else some false) (fun k => ?_) (Ev.bind (grEntries hg i) ?_)
    · simp only [spec_grBalanced.l0]
      rw [if_pos (by omega), if_pos (by omega), if_pos (by omega), wrap_nat (by omega)]
    · by_cases e : ((rd_L1 g i).length : Int) = cnt (i : Int) g.flatten
      · exact Ev.pos e ((ih (i + 1) (by omega) (by omega)).val (by simp [balFrom, e]))
      · exact Ev.neg e ((Ev.now _).val (by simp [balFrom, e]))
end Go.Proofs.Ytjjnpllhenmdmaa.M
namespace Go.Proofs.Ytjjnpllhenmdmaa.Pure
open Go.RowKit Go.Proofs.Ytjjnpllhenmdmaa.P Go.Proofs.Ytjjnpllhenmdmaa.In Go.Proofs.Ytjjnpllhenmdmaa.M Go.Proofs.YtjjnpllhenmdmaaW.PrintWords Go.Proofs.YtjjnpllhenmdmaaW.PrintLast
set_option linter.unusedVariables false
set_option linter.unusedSimpArgs false
theorem FnExactCountExits (l : List (List Int)) (hl : okSS l) : ∃ k, laws_FnExactCountExits.f k l = some true := by
  refine Ev.rounds (g := fun k => laws_FnExactCountExits.f k l) ?_
  unfold laws_FnExactCountExits.f
  obtain ⟨r, hr, _, hs⟩ := szGraph l hl
  refine Ev.bind hr ?_
  by_cases h : r < 0
  · exact Ev.pos h (Ev.now _)
  · have sm := hs (by omega)
    obtain ⟨v, hS, hI⟩ : ∃ v : Int × Bool, Ev (fun k => spec_CountExits.f k l) v ∧ Ev (fun k => impl_CountExits.f l) v := by
      by_cases hg : goodG l = true
      · refine ⟨((l.flatten.length : Int), true), ?_, ?_⟩
        · unfold spec_CountExits.f
          exact Ev.bind (grGood l hl) (Ev.pos hg (Ev.bind (grCount hg) (Ev.now _)))
        · unfold impl_CountExits.f impl_isGraph.f
          exact Ev.bind0 rfl (Ev.pos hg (Ev.bind0 (concat_good hg) (Ev.now _)))
      · refine ⟨(0, false), ?_, ?_⟩
        · unfold spec_CountExits.f
          exact Ev.bind (grGood l hl) (Ev.neg hg (Ev.now _))
        · unfold impl_CountExits.f impl_isGraph.f
          exact Ev.bind0 rfl (Ev.neg hg (Ev.now _))
    refine Ev.neg h (Ev.bind (toGraph l sm) (Ev.bind hS (Ev.bind (toGraph l sm) (Ev.bind hI (Ev.pos rfl ?_)))))
    refine Ev.succ ?_
    simp only [laws_FnExactCountExits.j0]
    exact Ev.neg (by simp) (Ev.bind (toGraph l sm) (Ev.bind (small_eq l sm) (Ev.pos rfl (Ev.now _))))
end Go.Proofs.Ytjjnpllhenmdmaa.Pure
namespace Go.Proofs.Ytjjnpllhenmdmaa.fnExactCountExits
open Go.ChangeShapes Go.WideShapes Go.ChangeAt Go.RowKit
open Go.ChangeMaps (open_string shut_string)
open Go.Proofs.Ytjjnpllhenmdmaa.In Go.Proofs.Ytjjnpllhenmdmaa.P
set_option linter.unusedVariables false
theorem own : ownKnob Try.prog.godebug = none := by kernel_rfl
theorem laidOut : laidOutB Try.prog = true := by kernel_rfl
set_option maxRecDepth 100000 in
theorem lifted (os : Os) (started : os.Started) (H : Type) (enc : TypeId × Value → H) :
    ReturnsInHanded {} Try.checked os 8 .any (Rows.fnExactCountExitsSpec.pre6 enc Try.prog Try.f8 Rows.fnExactCountExitsRow.domain false) (Rows.fnExactCountExitsSpec.post enc Try.prog Try.f8 false true false false) := by
  refine returnsInHanded_of_change_sized (C := Try.checked) own started (by kernel_rfl) Try.func8
    (ChangeSpec.witness6 (enc := enc) (C := Try.checked) false ⟨#[], #[.agg #[.slice none 0 0]], []⟩ 8 (by kernel_rfl) (by kernel_rfl) (by kernel_rfl) (by kernel_rfl)) ?_
  intro W base args ds gs before hval0 hW hcnd hsz0 _
  have hsz : (DataW.weightsEach Try.prog (Try.f8.params.toList ++ Rows.fnExactCountExitsSpec.plain.varTypes Try.prog) (ds ++ gs)).all (· ≤ reachBytes) = true := hsz0
  have hval : ∀ (j : Nat) t v, Try.f8.params[j]? = some t → args[j]? = some v → Value.okWide Try.prog W .any base t v := hval0
  have hW' := hW
  obtain ⟨p, q, hA0, hV, rfl, hfz, hnd⟩ := hW
  have hA : DataW.TrodAll enc Try.prog W 0 (fun _ => true) true Try.f8.params.toList args.toList ds p := hA0
  rw [Try.params8] at hA hval hsz
  obtain ⟨v0, vs0, d0, ds0, p0, q0, hargs, rfl, rfl, h0, r0⟩ := trodAll_cons hA
  obtain ⟨rfl, rfl, rfl⟩ := trodAll_nil r0
  obtain rfl : args = #[v0] := by cases args; simp_all
  obtain ⟨rfl, rfl⟩ := trodVars_none hV
  have k0 := h0
  have lt0 : ∀ x ∈ p0, x.block < W.heap.size := by obtain ⟨m, hm⟩ := k0; exact DataW.trod_lt m _ _ _ hm
  obtain ⟨A0, l0, cap0, rfl, hl0, hc0, hw0⟩ := in_graph (q := 3) Try.underlying31 (by kernel_rfl) (by kernel_rfl) rfl Try.underlying23 Try.underlying43 Try.underlying3 (by kernel_rfl) (by kernel_rfl) (hval 0 31 v0 rfl rfl) h0
  clear hA0 hval0 hsz0 hsz
  obtain ⟨k, h⟩ := Pure.FnExactCountExits l0 (okSS_wf hc0 hw0)
  refine (laws_FnExactCountExits.calls k _ _ l0 true W hc0 hl0 h).mono fun e W' ⟨he, bel0⟩ => ?_
  have bel : Below W.heap.size W W' := bel0
  subst he
  exact ⟨_, rfl, _, _, _, [], _, [], hW', trodAll_mk1 (shut_bool Try.underlying4 _), (trodAll_cons_mk (Below.trod laidOut (by kernel_rfl) (of_decide_eq_true (by kernel_rfl)) k0 bel lt0) trodAll_mk0), rfl, bel.frame _, fun h => by cases h⟩
theorem over : Rows.fnExactCountExitsRow.holds Try.pinned (OpenSpec.ofChange Rows.fnExactCountExitsSpec) :=
  OpenClaim.holds_of_wide 8 Try.f8 rfl rfl rfl rfl rfl rfl rfl ⟨rfl, rfl, rfl, rfl, rfl⟩ rfl rfl rfl rfl rfl (by kernel_rfl) Try.func8 (by kernel_rfl)
    (of_decide_eq_true (by kernel_rfl)) (by unfold Func.isWrapper; first | (rw [if_pos (by decide +kernel)]; kernel_rfl) | (rw [if_neg (by decide +kernel)]; exact ⟨rfl, rfl⟩))
    (fun os started H enc _ => lifted os started H enc)
theorem proved : Rows.FnExactCountExitsSaid := over
end Go.Proofs.Ytjjnpllhenmdmaa.fnExactCountExits
namespace Go.Proofs.Ytjjnpllhenmdmaa
/-- The law, under a short name, for the claim. -/
theorem fnExactCountExits_holds : Rows.FnExactCountExitsSaid := fnExactCountExits.proved
#print axioms fnExactCountExits_holds
end Go.Proofs.Ytjjnpllhenmdmaa
