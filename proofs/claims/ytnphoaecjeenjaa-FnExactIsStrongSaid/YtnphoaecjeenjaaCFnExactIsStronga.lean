/- The law FnExactIsStrong holds for every input: the program returns what the reference returns (or what the law says), for all arguments. -/
import Derived.Test.YtnphoaecjeenjaaP0
import Derived.Test.YtnphoaecjeenjaaPspecgrFar
import Derived.Test.YtnphoaecjeenjaaMBase
import Derived.Test.YtnphoaecjeenjaaMGraph
import Derived.Test.YtnphoaecjeenjaaPimplGraphleadsTo
import Derived.Test.YtnphoaecjeenjaaPimplGraphreach
import Derived.Test.YtnphoaecjeenjaaPimplGraphisStrong
import Derived.Test.YtnphoaecjeenjaaPspecgrReach
import Derived.Test.YtnphoaecjeenjaaPspecgrStrong
import Derived.Test.YtnphoaecjeenjaaRIn
import Derived.Test.YtnphoaecjeenjaaPlawsFnExactIsStrong
import Derived.Test.YtnphoaecjeenjaaRows
import Derived.WalkKit
import Derived.ProofKit
import Derived.OpenShut
import Derived.ShutString
import Derived.ChangeOld
import Derived.Below
import Derived.SizedLaws
import Derived.Deep.Matrix
import Derived.Lib.SmallJoins
namespace Go.Proofs.Ytnphoaecjeenjaa.P
open Go.RowKit Go.Proofs.YtnphoaecjeenjaaW.PrintWords Go.Proofs.YtnphoaecjeenjaaW.PrintLast Go.Proofs.YtnphoaecjeenjaaW.PrintMore
attribute [local go_sem] max2_int min2_int max_two min_two max_three min_three max_four min_four   -- for this text's walks alone
set_option linter.unusedVariables false
set_option linter.unusedSimpArgs false

/-! ### spec_grLeads: function 65 -/
def spec_grLeads.l0 : Nat → Int → Int → Int → List (List Int) → Option (Bool)
  | 0, _, _, _, _ => none
  | k + 1, x1, x8, x9, x283000 => if x9 < x8 then ((spec_grFar.f k x283000 x9).bind fun t283 => (if 0 ≤ x1 then (if x1 < (t283.length : Int) then (if (rd t283 x1) < 0 then (some false) else (spec_grLeads.l0 k x1 x8 (wrap64 (x9 + 1)) x283000)) else (none)) else (none))) else (some true)
def spec_grLeads.f (k : Nat) (l0_0 : List (List Int)) (a1 : Int) : Option (Bool) := spec_grLeads.l0 k a1 (l0_0.length : Int) 0 l0_0
theorem spec_grLeads.mono_l : ∀ k, (∀ y0 y1 y2 y3, LeO (spec_grLeads.l0 k y0 y1 y2 y3) (spec_grLeads.l0 (k + 1) y0 y1 y2 y3))
  | 0 => fun _ _ _ _ r h => by simp [spec_grLeads.l0] at h
  | k + 1 => by
    have ih0 := spec_grLeads.mono_l k
    · intro y0 y1 y2 y3
      unfold spec_grLeads.l0
      repeat' first
      | (with_reducible exact ih0 _ _ _ _)
      | (with_reducible exact spec_grFar.mono _ _ _)
      | (with_reducible exact LeO.refl _)
      | (with_reducible exact LeO.none _)
      | (with_reducible refine LeO.ite ?_ ?_)
      | (with_reducible refine LeO.bind ?_ (fun _ => ?_))
      | exact ih0 _ _ _ _
      | exact spec_grFar.mono _ _ _
      | exact LeO.none _
      | refine LeO.ite ?_ ?_
      | refine LeO.bind ?_ (fun _ => ?_)
theorem spec_grLeads.mono : ∀ a0 a1 k, LeO (spec_grLeads.f k a0 a1) (spec_grLeads.f (k + 1) a0 a1) := by
  intro a0 a1 k
  have ih0 := spec_grLeads.mono_l k
  unfold spec_grLeads.f
  repeat' first
      | (with_reducible exact ih0 _ _ _ _)
      | (with_reducible exact spec_grFar.mono _ _ _)
      | (with_reducible exact LeO.refl _)
      | (with_reducible exact LeO.none _)
      | (with_reducible refine LeO.ite ?_ ?_)
      | (with_reducible refine LeO.bind ?_ (fun _ => ?_))
      | exact ih0 _ _ _ _
      | exact spec_grFar.mono _ _ _
      | exact LeO.none _
      | refine LeO.ite ?_ ?_
      | refine LeO.bind ?_ (fun _ => ?_)
set_option maxHeartbeats 8000000 in
set_option maxRecDepth 100000 in
theorem spec_grLeads.calls (k : Nat) (A0_0 : Option Addr) (c0_0 : Nat) (l0_0 : List (List Int)) (a1 : Int) (r : Bool) (w : World) (hr0_0 : Kd.C (Kd.slice 3 (Kd.int .i64)) w A0_0 l0_0.length l0_0) (hc0_0 : l0_0.length ≤ c0_0) (h : spec_grLeads.f k l0_0 a1 = some r) :
    Calls Try.prog 65 #[.agg #[.slice A0_0 l0_0.length c0_0], .int .i64 a1] w fun e w' => e = .returned (.bool r) ∧ Below w.heap.size w w' := by
  have hu28 := Try.underlying28
  have HR0_0 := Aside0.mk hr0_0
  have HC0_0 := Aside0.mk hc0_0
  clear hr0_0 hc0_0
  have HB := Aside0.mk (Below.refl w.heap.size w)
  have H : (spec_grLeads.l0 k a1 (l0_0.length : Int) 0 l0_0) = some r := h
  clear h
  have H' := Aside0.mk H
  clear H
  go_enter Try.func65, Try.ntmps65
  go_wp2_with (first | ((with_reducible refine gate_dst (N := 2) rfl ?_); refine box_event ?hg (N := 2) ?hd (cs := #[.slice A0_0 l0_0.length c0_0]) (t := 28) ?hr ?_; (case hd => rfl); (case hg => rfl); (case hr => first | (go_simp; done) | (go_simp; rfl)); intro gb282 hg w3 hbox hb; have n0_ := Aside0.mk (below_step (by repeat (first | (with_reducible first | exact HB.out | apply below_alloc | apply pw_below_drewN | apply below_drew1) | exact HB.out)) hb); have n1_ := Aside0.mk (hbox); have n2_ := Aside0.mk ((by rw [hg]; exact (below_size (by repeat (first | (with_reducible first | exact HB.out | apply below_alloc | apply pw_below_drewN | apply below_drew1) | exact HB.out))) : w.heap.size ≤ gb282)); have n3_ := Aside0.mk ((by rw [hg]; exact (below_size (by repeat (first | (with_reducible first | exact HB.out | apply below_alloc | apply pw_below_drewN | apply below_drew1) | exact HB.out))) : w.heap.size ≤ gb282)); clear HB; have HB := n0_; have BK282 := n1_; have GW282 := n2_; have GE282 := n3_; clear n0_ n1_ n2_ n3_; clear hb hbox hg; have hcz4_0 : w3.cell? ⟨gb282, 0, none⟩ = some (.slice A0_0 l0_0.length c0_0) := (blk_cell BK282.out 0).trans rfl; have hfz4_0 := blk_frozen BK282.out 0))
  go_loopg [9] k (fun kq v9 w' => ∃ (x9_1 : Int), v9 = .int .i64 x9_1 ∧ Aside0 (spec_grLeads.l0 kq a1 (l0_0.length : Int) x9_1 l0_0 = some r) ∧ Aside0 (kq ≤ k) ∧ Aside0 (w'.heap[gb282]? = some (.cells #[(.slice A0_0 l0_0.length c0_0)] 28 (0, 0))) ∧ Aside0 (Below w.heap.size w w'))
  case atStart => exact ⟨(0), (by first | rfl | (simp; done) | (simp [*]; done)), H', ⟨Nat.le_refl _⟩, ⟨by (with_reducible repeat (first | refine blk_drewN ?_ _ | refine blk_drew ?_ | refine blk_alloc ?_ _)); exact BK282.out⟩, ⟨by repeat (first | (with_reducible first | exact HB.out | apply below_alloc | apply pw_below_drewN | apply below_drew1 | refine below_set ?_ GE282.out) | exact HB.out)⟩⟩
  case round =>
    clear H'
    try clear p2
    try clear hcz4_0
    try clear hfz4_0
    obtain ⟨x9_1, rfl, HA, HK1, BK282, HB⟩ := hrel
    cases gk with
    | zero => exact absurd HA.out (by simp [spec_grLeads.l0])
    | succ k1 =>
      have H := HA.out
      clear HA
      simp only [spec_grLeads.l0] at H
      by_cases c5 : x9_1 < (l0_0.length : Int)
      · rw [if_pos c5] at H
        have c5b0 : decide (x9_1 < (l0_0.length : Int)) = true := decide_eq_true c5
        clear c5
        replace H := Option.bind_eq_some_iff.mp H
        obtain ⟨t283, A60, H⟩ := H
        replace H : (if 0 ≤ a1 then (if a1 < (t283.length : Int) then (if (rd t283 a1) < 0 then (some false) else (spec_grLeads.l0 k1 a1 (l0_0.length : Int) (wrap64 (x9_1 + 1)) l0_0)) else (none)) else (none)) = some r := H
        have A6 := Aside0.mk A60
        clear A60
        by_cases c7 : 0 ≤ a1
        · rw [if_pos c7] at H
          have c7b0 : decide (0 ≤ a1) = true := decide_eq_true c7
          clear c7
          by_cases c8 : a1 < (t283.length : Int)
          · rw [if_pos c8] at H
            have c8b0 : decide (a1 < (t283.length : Int)) = true := decide_eq_true c8
            clear c8
            by_cases c9 : (rd t283 a1) < 0
            · rw [if_pos c9] at H
              have c9b0 : decide ((rd t283 a1) < 0) = true := decide_eq_true c9
              clear c9
              obtain rfl := Option.some.inj H
              have hcz10_0 : wr.cell? ⟨gb282, 0, none⟩ = some (.slice A0_0 l0_0.length c0_0) := (blk_cell BK282.out 0).trans rfl
              have hfz10_0 := blk_frozen BK282.out 0
              go_wp2_with (first | ((with_reducible refine gate_callee (f := 99) rfl ?_); refine goesL_ (some 14) rfl rfl Try.func99 (by kernel_rfl) rfl #[.agg #[.slice A0_0 l0_0.length c0_0], .int .i64 x9_1] rfl (by (try simp only [List.map_toArray, List.map_cons, List.map_nil]); first | done | rfl | (simp only [List.length_drop, List.length_take]; rfl)) ?_; (with_reducible refine (spec_grFar.calls k1 _ _ l0_0 x9_1 t283 _ ?side1 ?side2 A6.out).mono ?_); (case side1 => repeat (first | exact (Kd.C_below HR0_0.out HB.out) | (with_reducible refine Kd.C_alloc ?_ _) | (with_reducible refine Kd.C_drewN ?_ _) | (with_reducible refine Kd.C_drew ?_))); (case side2 => exact HC0_0.out); rintro e w11 ⟨v284, rfl, ho0, hb⟩; refine ⟨_, rfl, ?_⟩; have n0_ := Aside0.mk (Kd.R_lower ho0 (below_size (by repeat (first | (with_reducible first | exact HB.out | apply below_alloc | apply pw_below_drewN | apply below_drew1 | refine below_set ?_ GE282.out) | exact HB.out)))); have n1_ := Aside0.mk (blk_below (g := gb282) (o := .cells #[.slice A0_0 l0_0.length c0_0] 28 (0, 0)) (by (with_reducible repeat (first | refine blk_drewN ?_ _ | refine blk_drew ?_ | refine blk_alloc ?_ _)); exact BK282.out) hb); have n2_ := Aside0.mk (below_step (by repeat (first | (with_reducible first | exact HB.out | apply below_alloc | apply pw_below_drewN | apply below_drew1 | refine below_set ?_ GE282.out) | exact HB.out)) hb); clear BK282; clear HB; have HO285 := n0_; have BK282 := n1_; have HB := n2_; clear n0_ n1_ n2_; (try clear hb); (try clear hb2); (try clear hk); (try clear hi); (try clear ho0); obtain ⟨Ao12, co12, eo12⟩ := Kd.R_slice HO285.out; subst eo12; have p286 : 0 ≤ (a1 : Int) := of_decide_eq_true (by first | (with_reducible assumption) | assumption); have q286 : a1 < (t283.length : Int) := of_decide_eq_true (by first | (with_reducible assumption) | assumption); obtain ⟨ad286, e286, hx286_0⟩ := Kd.at_int (Kd.R_reads' HO285.out).2.2 a1 p286 q286; cases e286; replace p286 := eq_true p286; replace q286 := eq_true q286))
              go_ret
              exact ⟨by first | rfl | (simp [errW_none, errW_some] <;> rfl) | (simp [*, errW_none, errW_some] <;> rfl), by repeat (first | (with_reducible first | exact HB.out | apply below_alloc | apply pw_below_drewN | apply below_drew1 | refine below_set ?_ GE282.out) | exact HB.out)⟩
            · rw [if_neg c9] at H
              have c9b0 : decide ((rd t283 a1) < 0) = false := decide_eq_false c9
              clear c9
              have H' := Aside0.mk H
              clear H
              have hcz13_0 : wr.cell? ⟨gb282, 0, none⟩ = some (.slice A0_0 l0_0.length c0_0) := (blk_cell BK282.out 0).trans rfl
              have hfz13_0 := blk_frozen BK282.out 0
              go_wp2_with (first | ((with_reducible refine gate_callee (f := 99) rfl ?_); refine goesL_ (some 14) rfl rfl Try.func99 (by kernel_rfl) rfl #[.agg #[.slice A0_0 l0_0.length c0_0], .int .i64 x9_1] rfl (by (try simp only [List.map_toArray, List.map_cons, List.map_nil]); first | done | rfl | (simp only [List.length_drop, List.length_take]; rfl)) ?_; (with_reducible refine (spec_grFar.calls k1 _ _ l0_0 x9_1 t283 _ ?side1 ?side2 A6.out).mono ?_); (case side1 => repeat (first | exact (Kd.C_below HR0_0.out HB.out) | (with_reducible refine Kd.C_alloc ?_ _) | (with_reducible refine Kd.C_drewN ?_ _) | (with_reducible refine Kd.C_drew ?_))); (case side2 => exact HC0_0.out); rintro e w14 ⟨v284, rfl, ho0, hb⟩; refine ⟨_, rfl, ?_⟩; have n0_ := Aside0.mk (Kd.R_lower ho0 (below_size (by repeat (first | (with_reducible first | exact HB.out | apply below_alloc | apply pw_below_drewN | apply below_drew1 | refine below_set ?_ GE282.out) | exact HB.out)))); have n1_ := Aside0.mk (blk_below (g := gb282) (o := .cells #[.slice A0_0 l0_0.length c0_0] 28 (0, 0)) (by (with_reducible repeat (first | refine blk_drewN ?_ _ | refine blk_drew ?_ | refine blk_alloc ?_ _)); exact BK282.out) hb); have n2_ := Aside0.mk (below_step (by repeat (first | (with_reducible first | exact HB.out | apply below_alloc | apply pw_below_drewN | apply below_drew1 | refine below_set ?_ GE282.out) | exact HB.out)) hb); clear BK282; clear HB; have HO285 := n0_; have BK282 := n1_; have HB := n2_; clear n0_ n1_ n2_; (try clear hb); (try clear hb2); (try clear hk); (try clear hi); (try clear ho0); obtain ⟨Ao15, co15, eo15⟩ := Kd.R_slice HO285.out; subst eo15; have p286 : 0 ≤ (a1 : Int) := of_decide_eq_true (by first | (with_reducible assumption) | assumption); have q286 : a1 < (t283.length : Int) := of_decide_eq_true (by first | (with_reducible assumption) | assumption); obtain ⟨ad286, e286, hx286_0⟩ := Kd.at_int (Kd.R_reads' HO285.out).2.2 a1 p286 q286; cases e286; replace p286 := eq_true p286; replace q286 := eq_true q286))
              go_roundg k1
              case measure => have := HK1.out; omega
              case rel => exact ⟨(wrap64 (x9_1 + 1)), (by first | rfl | (simp; done) | (simp [*]; done)), H', ⟨by have := HK1.out; omega⟩, ⟨by (with_reducible repeat (first | refine blk_drewN ?_ _ | refine blk_drew ?_ | refine blk_alloc ?_ _)); exact BK282.out⟩, ⟨by repeat (first | (with_reducible first | exact HB.out | apply below_alloc | apply pw_below_drewN | apply below_drew1 | refine below_set ?_ GE282.out) | exact HB.out)⟩⟩
          · rw [if_neg c8] at H
            exact absurd H (by simp)
        · rw [if_neg c7] at H
          exact absurd H (by simp)
      · rw [if_neg c5] at H
        have c5b0 : decide (x9_1 < (l0_0.length : Int)) = false := decide_eq_false c5
        clear c5
        obtain rfl := Option.some.inj H
        go_wp2
        go_ret
        exact ⟨by first | rfl | (simp [errW_none, errW_some] <;> rfl) | (simp [*, errW_none, errW_some] <;> rfl), by repeat (first | (with_reducible first | exact HB.out | apply below_alloc | apply pw_below_drewN | apply below_drew1 | refine below_set ?_ GE282.out) | exact HB.out)⟩

end Go.Proofs.Ytnphoaecjeenjaa.P
namespace Go.Proofs.Ytnphoaecjeenjaa.M
open Go.RowKit Go.Proofs.Ytnphoaecjeenjaa.P Go.Proofs.Ytnphoaecjeenjaa.In Go.Proofs.YtnphoaecjeenjaaW.PrintWords Go.Proofs.YtnphoaecjeenjaaW.PrintLast
set_option linter.unusedVariables false
set_option linter.unusedSimpArgs false
theorem place_of {g : List (List Int)} (hg : goodG g = true) {i : Nat} (hi : i < g.length) : placeB g (i : Int) = true := by
  unfold placeB; rw [hg]; simp; omega
def leadsFrom (g : List (List Int)) (p : Int) : Nat → Nat → Bool
  | 0, _ => true
  | d + 1, i => if rd (far g i) p < 0 then false else leadsFrom g p d (i + 1)
def leads (g : List (List Int)) (p : Int) : Bool := leadsFrom g p g.length 0
theorem leadsTo_l0 {g : List (List Int)} (hg : goodG g = true) (p : Int) (h0 : 0 ≤ p) (h1 : p < (g.length : Int)) : ∀ (d i : Nat), g.length - i = d → i ≤ g.length → Ev (fun k => impl_Graph_leadsTo.l0 k p g.length i g) (leadsFrom g p d i) := by
  have h8 := (good_iff hg).1
  intro d
  induction d with
  | zero =>
    intro i hd hi
    refine Ev.succ ?_
    simp only [impl_Graph_leadsTo.l0]
    exact Ev.neg (by omega) (Ev.now _)
  | succ d ih =>
    intro i hd hi
    have hp := place_of hg (i := i) (by omega)
    have hlen := (far_len hp).len
    refine Ev.succ ?_
    simp only [impl_Graph_leadsTo.l0, leadsFrom]
    refine Ev.pos (by omega) (Ev.bind (lengths hp) (Ev.pos h0 (Ev.pos (by omega) ?_)))
    by_cases h : rd (far g i) p < 0
    · rw [if_pos h]; exact Ev.pos h (Ev.now _)
    · rw [if_neg h]
      refine Ev.neg h ?_
      rw [wrap_nat (by omega)]
      exact ih (i + 1) (by omega) (by omega)
theorem leadsTo {g : List (List Int)} {p : Int} (h : placeB g p = true) : Ev (fun k => impl_Graph_leadsTo.f k g p) (leads g p) := by
  obtain ⟨hg, h0, h1⟩ := place_iff h
  exact leadsTo_l0 hg p h0 h1 g.length 0 (by omega) (by omega)
theorem grLeads_l0 {g : List (List Int)} (hg : goodG g = true) (p : Int) (h0 : 0 ≤ p) (h1 : p < (g.length : Int)) : ∀ (d i : Nat), g.length - i = d → i ≤ g.length → Ev (fun k => spec_grLeads.l0 k p g.length i g) (leadsFrom g p d i) := by
  have h8 := (good_iff hg).1
  intro d
  induction d with
  | zero =>
    intro i hd hi
    refine Ev.succ ?_
    simp only [spec_grLeads.l0]
    exact Ev.neg (by omega) (Ev.now _)
  | succ d ih =>
    intro i hd hi
    have hp := place_of hg (i := i) (by omega)
    have hlen := (far_len hp).len
    refine Ev.succ ?_
    simp only [spec_grLeads.l0, leadsFrom]
    refine Ev.pos (by omega) (Ev.bind (grFar hp) (Ev.pos h0 (Ev.pos (by omega) ?_)))
    by_cases h : rd (far g i) p < 0
    · rw [if_pos h]; exact Ev.pos h (Ev.now _)
    · rw [if_neg h]
      refine Ev.neg h ?_
      rw [wrap_nat (by omega)]
      exact ih (i + 1) (by omega) (by omega)
theorem grLeads {g : List (List Int)} {p : Int} (h : placeB g p = true) : Ev (fun k => spec_grLeads.f k g p) (leads g p) := by
  obtain ⟨hg, h0, h1⟩ := place_iff h
  exact grLeads_l0 hg p h0 h1 g.length 0 (by omega) (by omega)

def reachFrom (o : List Int) : Nat → Nat → List Int → List Int
  | 0, _, acc => acc
  | d + 1, i, acc => if rd o i ≥ 0 then reachFrom o d (i + 1) (acc ++ [(i : Int)]) else reachFrom o d (i + 1) acc
def reach (g : List (List Int)) (p : Int) : List Int := reachFrom (far g p) g.length 0 []
theorem reachFrom_len (o : List Int) : ∀ (d i : Nat) (acc : List Int), (reachFrom o d i acc).length ≤ acc.length + d := by
  intro d
  induction d with
  | zero => intro i acc; exact Nat.le_refl _
  | succ d ih =>
    intro i acc; simp only [reachFrom]; split
    · have := ih (i + 1) (acc ++ [(i : Int)]); simp at this; omega
    · have := ih (i + 1) acc; omega
theorem reachFrom_mem (o : List Int) : ∀ (d i : Nat) (acc : List Int) (q : Int), q ∈ reachFrom o d i acc → q ∈ acc ∨ ((i : Int) ≤ q ∧ q < (i : Int) + d ∧ rd o q ≥ 0) := by
  intro d
  induction d with
  | zero => intro i acc q h; exact .inl h
  | succ d ih =>
    intro i acc q h; simp only [reachFrom] at h; split at h
    · rcases ih _ _ _ h with h2 | h2
      · rcases List.mem_append.mp h2 with h3 | h3
        · exact .inl h3
        · simp at h3; subst h3; exact .inr ⟨by omega, by omega, by assumption⟩
      · refine .inr ⟨by omega, by omega, h2.2.2⟩
    · rcases ih _ _ _ h with h2 | h2
      · exact .inl h2
      · refine .inr ⟨by omega, by omega, h2.2.2⟩
theorem reach_mem {g : List (List Int)} {p q : Int} (h : q ∈ reach g p) : 0 ≤ q ∧ q < (g.length : Int) := by
  rcases reachFrom_mem _ _ _ _ _ h with h2 | h2
  · cases h2
  · omega
theorem reach_len (g : List (List Int)) (p : Int) : (reach g p).length ≤ g.length := by
  have := reachFrom_len (far g p) g.length 0 []; unfold reach; simpa using this
theorem reach_l0 {n : Nat} (hn : n ≤ 8) (o : List Int) (ho : o.length = n) : ∀ (d i : Nat) (acc : List Int), n - i = d → i ≤ n → acc.length ≤ i → Ev (fun k => impl_Graph_reach.l0 k acc o n i) (reachFrom o d i acc) := by
  intro d
  induction d with
  | zero =>
    intro i acc hd hi ha
    refine Ev.succ ?_
    simp only [impl_Graph_reach.l0]
    exact Ev.neg (by omega) (Ev.now _)
  | succ d ih =>
    intro i acc hd hi ha
    refine Ev.succ ?_
    simp only [impl_Graph_reach.l0, reachFrom]
    refine Ev.pos (by omega) (Ev.pos (by omega) (Ev.pos (by omega) ?_))
    rw [wrap_nat (by omega)]
    by_cases h : rd o i ≥ 0
    · rw [if_pos h]
      exact Ev.pos h (Ev.pos (by omega) (ih (i + 1) _ (by omega) (by omega) (by simp; omega)))
    · rw [if_neg h]
      exact Ev.neg h (ih (i + 1) _ (by omega) (by omega) (by omega))
theorem reach_ev {g : List (List Int)} {p : Int} (h : placeB g p = true) : Ev (fun k => impl_Graph_reach.f k g p) (reach g p) := by
  obtain ⟨hg, h0, h1⟩ := place_iff h
  have hlen := (far_len h).len
  unfold impl_Graph_reach.f
  refine Ev.bind (lengths h) ?_
  rw [hlen]
  exact reach_l0 (good_iff hg).1.2 _ hlen g.length 0 [] (by omega) (by omega) (by simp)
theorem grReach_l0 {n : Nat} (hn : n ≤ 8) (o : List Int) (ho : o.length = n) : ∀ (d i : Nat) (acc : List Int), n - i = d → i ≤ n → acc.length ≤ i → Ev (fun k => spec_grReach.l0 k acc o n i) (reachFrom o d i acc) := by
  intro d
  induction d with
  | zero =>
    intro i acc hd hi ha
    refine Ev.succ ?_
    simp only [spec_grReach.l0]
    exact Ev.neg (by omega) (Ev.now _)
  | succ d ih =>
    intro i acc hd hi ha
    refine Ev.succ ?_
    simp only [spec_grReach.l0, reachFrom]
    refine Ev.pos (by omega) (Ev.pos (by omega) (Ev.pos (by omega) ?_))
    rw [wrap_nat (by omega)]
    by_cases h : rd o i ≥ 0
    · rw [if_pos h]
      exact Ev.pos h (Ev.pos (by omega) (ih (i + 1) _ (by omega) (by omega) (by simp; omega)))
    · rw [if_neg h]
      exact Ev.neg h (ih (i + 1) _ (by omega) (by omega) (by omega))
theorem grReach_ev {g : List (List Int)} {p : Int} (h : placeB g p = true) : Ev (fun k => spec_grReach.f k g p) (reach g p) := by
  obtain ⟨hg, h0, h1⟩ := place_iff h
  have hlen := (far_len h).len
  unfold spec_grReach.f
  refine Ev.bind (grFar h) ?_
  rw [hlen]
  exact grReach_l0 (good_iff hg).1.2 _ hlen g.length 0 [] (by omega) (by omega) (by simp)

def strongFrom (g : List (List Int)) : Nat → Nat → Bool
  | 0, _ => true
  | d + 1, i => if ((reach g i).length : Int) = (g.length : Int) then strongFrom g d (i + 1) else false
def strong (g : List (List Int)) : Bool := strongFrom g g.length 0
theorem isStrong_l0 {g : List (List Int)} (hg : goodG g = true) : ∀ (d i : Nat), g.length - i = d → i ≤ g.length → Ev (fun k => impl_Graph_isStrong.l0 k g.length i g) (strongFrom g d i) := by
  have h8 := (good_iff hg).1
  intro d
  induction d with
  | zero =>
    intro i hd hi
    refine Ev.succ ?_
    simp only [impl_Graph_isStrong.l0]
    exact Ev.neg (by omega) (Ev.now _)
  | succ d ih =>
    intro i hd hi
    have hp := place_of hg (i := i) (by omega)
    refine Ev.succ ?_
    simp only [impl_Graph_isStrong.l0, strongFrom]
    refine Ev.pos (by omega) (Ev.bind (reach_ev hp) ?_)
    by_cases h : ((reach g i).length : Int) = (g.length : Int)
    · rw [if_pos h]
      refine Ev.pos h ?_
      rw [wrap_nat (by omega)]
      exact ih (i + 1) (by omega) (by omega)
    · rw [if_neg h]; exact Ev.neg h (Ev.now _)
theorem isStrong {g : List (List Int)} (hg : goodG g = true) : Ev (fun k => impl_Graph_isStrong.f k g) (strong g) := isStrong_l0 hg g.length 0 (by omega) (by omega)
theorem grStrong_l0 {g : List (List Int)} (hg : goodG g = true) : ∀ (d i : Nat), g.length - i = d → i ≤ g.length → Ev (fun k => spec_grStrong.l0 k g.length i g) (strongFrom g d i) := by
  have h8 := (good_iff hg).1
  intro d
  induction d with
  | zero =>
    intro i hd hi
    refine Ev.succ ?_
    simp only [spec_grStrong.l0]
    exact Ev.neg (by omega) (Ev.now _)
  | succ d ih =>
    intro i hd hi
    have hp := place_of hg (i := i) (by omega)
    refine Ev.succ ?_
    simp only [spec_grStrong.l0, strongFrom]
    refine Ev.pos (by omega) (Ev.bind (grReach_ev hp) ?_)
    by_cases h : ((reach g i).length : Int) = (g.length : Int)
    · rw [if_pos h]
      refine Ev.pos h ?_
      rw [wrap_nat (by omega)]
      exact ih (i + 1) (by omega) (by omega)
    · rw [if_neg h]; exact Ev.neg h (Ev.now _)
theorem grStrong {g : List (List Int)} (hg : goodG g = true) : Ev (fun k => spec_grStrong.f k g) (strong g) := grStrong_l0 hg g.length 0 (by omega) (by omega)
end Go.Proofs.Ytnphoaecjeenjaa.M
namespace Go.Proofs.Ytnphoaecjeenjaa.Pure
open Go.RowKit Go.Proofs.Ytnphoaecjeenjaa.P Go.Proofs.Ytnphoaecjeenjaa.In Go.Proofs.Ytnphoaecjeenjaa.M Go.Proofs.YtnphoaecjeenjaaW.PrintWords Go.Proofs.YtnphoaecjeenjaaW.PrintLast
set_option linter.unusedVariables false
set_option linter.unusedSimpArgs false
theorem FnExactIsStrong (l : List (List Int)) (hl : okSS l) : ∃ k, laws_FnExactIsStrong.f k l = some true := by
  refine Ev.rounds (g := fun k => laws_FnExactIsStrong.f k l) ?_
  unfold laws_FnExactIsStrong.f
  obtain ⟨r, hr, _, hs⟩ := szGraph l hl
  refine Ev.bind hr ?_
  by_cases h : r < 0
  · exact Ev.pos h (Ev.now _)
  · have sm := hs (by omega)
    obtain ⟨v, hS, hI⟩ : ∃ v : Bool × Bool, Ev (fun k => spec_IsStrong.f k l) v ∧ Ev (fun k => impl_IsStrong.f k l) v := by
      by_cases hg : goodG l = true
      · refine ⟨(strong l, true), ?_, ?_⟩
        · unfold spec_IsStrong.f
          exact Ev.bind (grGood l hl) (Ev.pos hg (Ev.bind (grStrong hg) (Ev.now _)))
        · unfold impl_IsStrong.f
          exact Ev.bind0 (show impl_isGraph.f l = some (goodG l) from rfl) (Ev.pos hg (Ev.bind (isStrong hg) (Ev.now _)))
      · refine ⟨(false, false), ?_, ?_⟩
        · unfold spec_IsStrong.f
          exact Ev.bind (grGood l hl) (Ev.neg hg (Ev.now _))
        · unfold impl_IsStrong.f
          exact Ev.bind0 (show impl_isGraph.f l = some (goodG l) from rfl) (Ev.neg hg (Ev.now _))
    refine Ev.neg h (Ev.bind (toGraph l sm) (Ev.bind hS (Ev.bind (toGraph l sm) (Ev.bind hI (Ev.neg (by simp) ?_)))))
    refine Ev.succ ?_
    simp only [laws_FnExactIsStrong.j0]
    exact Ev.neg (by simp) (Ev.bind (toGraph l sm) (Ev.bind (small_eq l sm) (Ev.pos rfl (Ev.now _))))
end Go.Proofs.Ytnphoaecjeenjaa.Pure
namespace Go.Proofs.Ytnphoaecjeenjaa.fnExactIsStrong
open Go.ChangeShapes Go.WideShapes Go.ChangeAt Go.RowKit
open Go.ChangeMaps (open_string shut_string)
open Go.Proofs.Ytnphoaecjeenjaa.In Go.Proofs.Ytnphoaecjeenjaa.P
set_option linter.unusedVariables false
theorem own : ownKnob Try.prog.godebug = none := by kernel_rfl
theorem laidOut : laidOutB Try.prog = true := by kernel_rfl
set_option maxRecDepth 100000 in
theorem lifted (os : Os) (started : os.Started) (H : Type) (enc : TypeId × Value → H) :
    ReturnsInHanded {} Try.checked os 8 .any (Rows.fnExactIsStrongSpec.pre6 enc Try.prog Try.f8 Rows.fnExactIsStrongRow.domain false) (Rows.fnExactIsStrongSpec.post enc Try.prog Try.f8 false true false false) := by
  refine returnsInHanded_of_change_sized (C := Try.checked) own started (by kernel_rfl) Try.func8
    (ChangeSpec.witness6 (enc := enc) (C := Try.checked) false ⟨#[], #[.agg #[.slice none 0 0]], []⟩ 8 (by kernel_rfl) (by kernel_rfl) (by kernel_rfl) (by kernel_rfl)) ?_
  intro W base args ds gs before hval0 hW hcnd hsz0 _
  have hsz : (DataW.weightsEach Try.prog (Try.f8.params.toList ++ Rows.fnExactIsStrongSpec.plain.varTypes Try.prog) (ds ++ gs)).all (· ≤ reachBytes) = true := hsz0
  have hval : ∀ (j : Nat) t v, Try.f8.params[j]? = some t → args[j]? = some v → Value.okWide Try.prog W .any base t v := hval0
  have hW' := hW
  obtain ⟨p, q, hA0, hV, rfl, hfz, hnd⟩ := hW
  have hA : DataW.TrodAll enc Try.prog W 0 (fun _ => true) true Try.f8.params.toList args.toList ds p := hA0
  rw [Try.params8] at hA hval hsz
  obtain ⟨v0, vs0, d0, ds0, p0, q0, hargs, rfl, rfl, h0, r0⟩ := trodAll_cons hA
  obtain ⟨rfl, rfl, rfl⟩ := trodAll_nil r0
  obtain rfl : args = #[v0] := by cases args; simp_all
  obtain ⟨rfl, rfl⟩ := trodVars_none hV
  have k0 := h0
  have lt0 : ∀ x ∈ p0, x.block < W.heap.size := by obtain ⟨m, hm⟩ := k0; exact DataW.trod_lt m _ _ _ hm
  obtain ⟨A0, l0, cap0, rfl, hl0, hc0, hw0⟩ := in_graph (q := 3) Try.underlying24 (by kernel_rfl) (by kernel_rfl) rfl Try.underlying22 Try.underlying35 Try.underlying3 (by kernel_rfl) (by kernel_rfl) (hval 0 24 v0 rfl rfl) h0
  clear hA0 hval0 hsz0 hsz
  obtain ⟨k, h⟩ := Pure.FnExactIsStrong l0 (okSS_wf hc0 hw0)
  refine (laws_FnExactIsStrong.calls k _ _ l0 true W hc0 hl0 h).mono fun e W' ⟨he, bel0⟩ => ?_
  have bel : Below W.heap.size W W' := bel0
  subst he
  exact ⟨_, rfl, _, _, _, [], _, [], hW', trodAll_mk1 (shut_bool Try.underlying4 _), (trodAll_cons_mk (Below.trod laidOut (by kernel_rfl) (of_decide_eq_true (by kernel_rfl)) k0 bel lt0) trodAll_mk0), rfl, bel.frame _, fun h => by cases h⟩
theorem over : Rows.fnExactIsStrongRow.holds Try.pinned (OpenSpec.ofChange Rows.fnExactIsStrongSpec) :=
  OpenClaim.holds_of_wide 8 Try.f8 rfl rfl rfl rfl rfl rfl rfl ⟨rfl, rfl, rfl, rfl, rfl⟩ rfl rfl rfl rfl rfl (by kernel_rfl) Try.func8 (by kernel_rfl)
    (of_decide_eq_true (by kernel_rfl)) (by unfold Func.isWrapper; first | (rw [if_pos (by decide +kernel)]; kernel_rfl) | (rw [if_neg (by decide +kernel)]; exact ⟨rfl, rfl⟩))
    (fun os started H enc _ => lifted os started H enc)
theorem proved : Rows.FnExactIsStrongSaid := over
end Go.Proofs.Ytnphoaecjeenjaa.fnExactIsStrong
namespace Go.Proofs.Ytnphoaecjeenjaa
/-- The law, under a short name, for the claim. -/
theorem fnExactIsStrong_holds : Rows.FnExactIsStrongSaid := fnExactIsStrong.proved
#print axioms fnExactIsStrong_holds
end Go.Proofs.Ytnphoaecjeenjaa
