/- The law FnExactLaplaceOf holds for every input: the program returns what the reference returns (or what the law says), for all arguments. -/
import Derived.Test.YthbigmlpgoobiaaP0
import Derived.Test.YthbigmlpgoobiaaRIn
import Derived.Test.YthbigmlpgoobiaaPimplLaplaceOf
import Derived.Test.YthbigmlpgoobiaaPlawseqGraph
import Derived.Test.YthbigmlpgoobiaaPlawseqIntSS
import Derived.Test.YthbigmlpgoobiaaPlawsheldIntSS
import Derived.Test.YthbigmlpgoobiaaPlawsmarkGraph
import Derived.Test.YthbigmlpgoobiaaPlawsmarkIntSS
import Derived.Test.YthbigmlpgoobiaaPlawsszGraph
import Derived.Test.YthbigmlpgoobiaaPlawstoGraph
import Derived.Test.YthbigmlpgoobiaaPspecLaplaceOf
import Derived.Test.YthbigmlpgoobiaaPlawseqIntS
import Derived.Test.YthbigmlpgoobiaaPspecgrGood
import Derived.Test.YthbigmlpgoobiaaPspecl1All
import Derived.Test.YthbigmlpgoobiaaPspecl1In
import Derived.Test.YthbigmlpgoobiaaPimplisGraph
import Derived.Test.YthbigmlpgoobiaaPspecgrPlace
import Derived.Test.YthbigmlpgoobiaaPimplhas
import Derived.Test.YthbigmlpgoobiaaPimpllaplace
import Derived.Test.YthbigmlpgoobiaaPspectrLaplace
import Derived.Test.YthbigmlpgoobiaaPslicesDeleteintint
import Derived.Test.YthbigmlpgoobiaaPspecl1Own
import Derived.Test.YthbigmlpgoobiaaPlawsmarkIntS
import Derived.Test.YthbigmlpgoobiaaPlawsheldIntS
import Derived.Test.YthbigmlpgoobiaaRows
import Derived.WalkKit
import Derived.ProofKit
import Derived.OpenShut
import Derived.ShutString
import Derived.ChangeOld
import Derived.Below
import Derived.SizedLaws
import Derived.Deep.Matrix
import Derived.Lib.SmallJoins
namespace Go.Proofs.Ythbigmlpgoobiaa.M
open Go.RowKit Go.Proofs.Ythbigmlpgoobiaa.P Go.Proofs.Ythbigmlpgoobiaa.In Go.Proofs.YthbigmlpgoobiaaW.PrintWords Go.Proofs.YthbigmlpgoobiaaW.PrintLast
set_option linter.unusedVariables false
set_option linter.unusedSimpArgs false
theorem ev_kept {w wc W w' : World} {S : Nat → Prop} {s : Nat} (hs : s ≤ wc.heap.size) (hB : Below w.heap.size w wc) (hb : Below W.heap.size W w') (hk : Kept wc W S) : Kept wc w' S ∧ s ≤ W.heap.size ∧ W.heap.size ≤ w'.heap.size ∧ w.heap.size ≤ W.heap.size :=
  ⟨hk.below hb, Nat.le_trans hs hk.1, hb.size, Nat.le_trans hB.size hk.1⟩
theorem ev_mark {wc W w' : World} {S : Nat → Prop} {s : Nat} (hs : s ≤ wc.heap.size) (hm : Kept W w' S) (hk : Kept wc W S) : Kept wc w' S ∧ s ≤ w'.heap.size :=
  ⟨hk.then_ hm (fun _ h => .inl h), Nat.le_trans hs (Nat.le_trans hk.1 hm.1)⟩
theorem S_new {α : Type} {d : Kd α} {e : Nat} {W w' : World} {v : Value} {r : List α} {b0 s : Nat} (h : Kd.S d e w' W.heap.size (fun _ => True) v r) (hb : W.heap.size ≤ w'.heap.size) (h0 : b0 ≤ W.heap.size) (hs : s ≤ W.heap.size) :
    ∃ lo hi, s ≤ lo ∧ lo ≤ hi ∧ hi ≤ w'.heap.size ∧ Kd.S d e w' b0 (fun k => lo ≤ k ∧ k < hi) v r :=
  ⟨W.heap.size, w'.heap.size, hs, hb, Nat.le_refl _, Kd.S_lower (Kd.S_mono (Kd.S_bound h) (fun _ hk => ⟨hk.2.1, hk.2.2.1⟩)) h0⟩
theorem R_new {α : Type} {d : Kd α} {e : Nat} {W w' : World} {v : Value} {r : List α} {b0 s : Nat} (h : Kd.R d e w' W.heap.size (fun _ => True) v r) (hb : W.heap.size ≤ w'.heap.size) (h0 : b0 ≤ W.heap.size) (hs : s ≤ W.heap.size) :
    ∃ lo hi, s ≤ lo ∧ lo ≤ hi ∧ hi ≤ w'.heap.size ∧ Kd.R d e w' b0 (fun k => lo ≤ k ∧ k < hi) v r :=
  ⟨W.heap.size, w'.heap.size, hs, hb, Nat.le_refl _, Kd.R_lower (Kd.R_mono (Kd.R_bound h) (fun _ hk => ⟨hk.2.1, hk.2.2.1⟩)) h0⟩
theorem Q_new {α : Type} {d : Kd α} {e : Nat} {W w' : World} {v : Value} {r : List α} {b0 s : Nat} (h : Kd.Q d e w' W.heap.size (fun _ => True) v r) (hb : W.heap.size ≤ w'.heap.size) (h0 : b0 ≤ W.heap.size) (hs : s ≤ W.heap.size) :
    ∃ lo hi, s ≤ lo ∧ lo ≤ hi ∧ hi ≤ w'.heap.size ∧ Kd.Q d e w' b0 (fun k => lo ≤ k ∧ k < hi) v r :=
  ⟨W.heap.size, w'.heap.size, hs, hb, Nat.le_refl _, Kd.Q_lower (Kd.Q_mono (Kd.Q_bound h) (fun _ hk => ⟨hk.2.1, hk.2.2.1⟩)) h0⟩
theorem Q_now {α : Type} {d : Kd α} {e base : Nat} {wc W : World} {ok S : Nat → Prop} {A : Option Addr} {c : Nat} {xs : List α} (h : Kd.Q d e wc base ok (.slice A xs.length c) xs) (hk : Kept wc W S) (hne : ∀ k, ok k → ¬ S k) : Kd.C d W A xs.length xs :=
  (Kd.Q_reads' (Kd.Q_kept h hk hne)).2.2
theorem S_now {α : Type} {d : Kd α} {e base : Nat} {wc W : World} {ok S : Nat → Prop} {A : Option Addr} {c : Nat} {xs : List α} (h : Kd.S d e wc base ok (.slice A xs.length c) xs) (hk : Kept wc W S) (hne : ∀ k, ok k → ¬ S k) : Kd.C d W A xs.length xs :=
  (Kd.S_reads' (Kd.S_kept h hk hne)).2.2
theorem R_now {α : Type} {d : Kd α} {e base : Nat} {wc W : World} {ok S : Nat → Prop} {A : Option Addr} {c : Nat} {xs : List α} (h : Kd.R d e wc base ok (.slice A xs.length c) xs) (hk : Kept wc W S) (hne : ∀ k, ok k → ¬ S k) : Kd.C d W A xs.length xs :=
  (Kd.R_reads' (Kd.R_kept h hk hne)).2.2
theorem F_at {α : Type} {d : Kd α} {wc W : World} {ok S : Nat → Prop} {A : Option Addr} {n : Nat} {xs : List α} (h : Kd.F d wc ok A n xs) (hk : Kept wc W S) (hne : ∀ k, ok k → ¬ S k) : Kd.C d W A n xs :=
  Kd.F_now (Kd.F_kept h hk hne)
theorem box_in {w : World} {g : Nat} {o : Obj} (h : w.heap[g]? = some o) : g + 1 ≤ w.heap.size := blk_lt h
theorem calls_len {P : Program} {n : FuncId} {args args' : Array Value} {w : World} {Q : Ending → World → Prop} (e : args = args') (h : Calls P n args' w Q) : Calls P n args w Q := e ▸ h
end Go.Proofs.Ythbigmlpgoobiaa.M
namespace Go.Proofs.Ythbigmlpgoobiaa.P
open Go.RowKit Go.Proofs.YthbigmlpgoobiaaW.PrintWords Go.Proofs.YthbigmlpgoobiaaW.PrintLast Go.Proofs.YthbigmlpgoobiaaW.PrintMore Go.Proofs.Ythbigmlpgoobiaa.M
attribute [local go_sem] max2_int min2_int max_two min_two max_three min_three max_four min_four   -- for this text's walks alone
set_option linter.unusedVariables false
set_option linter.unusedSimpArgs false

/-- What the calls on the straight way answer. -/
def laws_FnExactLaplaceOf.Good (l0_0 : List (List Int)) (a1 : Int) : Prop :=
  ∃ x4 : Int, Ev (fun k => laws_szGraph.f k l0_0 1048576) x4 ∧ (0 ≤ x4 → Ev (fun k => laws_toGraph.f k l0_0) l0_0 ∧ ∃ x15 : List (List Int), ∃ x16 : Bool, Ev (fun k => spec_LaplaceOf.f k l0_0 a1) (x15, x16) ∧ Ev (fun k => impl_LaplaceOf.f k l0_0 a1) (x15, x16) ∧ Ev (fun k => laws_eqIntSS.f k x15 x15) true ∧ Ev (fun k => laws_eqGraph.f k l0_0 l0_0) true ∧ ∃ x54 : Int, ∃ x55 : List (List Int), Ev (fun k => laws_markGraph.f k l0_0 1) (x54, x55) ∧ 0 ≤ x54 ∧ ∃ x60 : Int, ∃ x61 : List (List Int), Ev (fun k => laws_markIntSS.f k x15 1) (x60, x61) ∧ 0 ≤ x60 ∧ Ev (fun k => laws_heldIntSS.f k x61 1) x60 ∧ True)
open Classical in
noncomputable def laws_FnExactLaplaceOf.f (l0_0 : List (List Int)) (a1 : Int) : Option Bool := if laws_FnExactLaplaceOf.Good l0_0 a1 then some true else none
set_option maxHeartbeats 16000000 in
set_option maxRecDepth 100000 in
theorem laws_FnExactLaplaceOf.calls (A0_0 : Option Addr) (c0_0 : Nat) (l0_0 : List (List Int)) (a1 : Int) (r : Bool) (w : World) (hr0_0 : Kd.C (Kd.slice 3 (Kd.int .i64)) w A0_0 l0_0.length l0_0) (hc0_0 : l0_0.length ≤ c0_0) (h : laws_FnExactLaplaceOf.f l0_0 a1 = some r) :
    Calls Try.prog 4 #[.agg #[.slice A0_0 l0_0.length c0_0], .int .i64 a1] w fun e w' => e = .returned (.bool r) ∧ Below w.heap.size w w' := by
  unfold laws_FnExactLaplaceOf.f at h
  by_cases hg : laws_FnExactLaplaceOf.Good l0_0 a1
  case neg => rw [if_neg hg] at h; cases h
  rw [if_pos hg] at h
  obtain rfl := Option.some.inj h
  clear h
  unfold laws_FnExactLaplaceOf.Good at hg
  have hu30 := Try.underlying30
  have hu34 := Try.underlying34
  obtain ⟨s0, hs0⟩ : ∃ s0, s0 = w.heap.size := ⟨_, rfl⟩
  have HS := Aside0.mk (Nat.le_of_eq hs0)
  have CH := Aside0.mk True.intro
  have HB := Aside0.mk (Below.refl w.heap.size w)
  have FA0_0 := Aside0.mk (show Kd.F (Kd.slice 3 (Kd.int .i64)) w (fun k_ => k_ < s0) A0_0 l0_0.length l0_0 by rw [hs0]; exact Kd.C_F (Kd.heap_slice 3 (Kd.heap_int .i64)) hr0_0)
  have HC0_0 := Aside0.mk hc0_0
  clear hr0_0 hc0_0
  clear hs0
  obtain ⟨x4, hg⟩ := hg
  obtain ⟨E_, hg⟩ := hg
  obtain ⟨KE5, E_⟩ := E_
  have E5 := Aside0.mk (E_ KE5 (Nat.le_refl _))
  clear E_
  by_cases hz : x4 < 0
  · have hzb : decide (x4 < 0) = true := decide_eq_true hz
    clear hg hz
    go_enter Try.func4, Try.ntmps4
    go_wp2_with (first | ((with_reducible refine gate_dst (N := 2) rfl ?_); refine box_event ?hg (N := 2) ?hd (cs := #[.slice A0_0 l0_0.length c0_0]) (t := 30) ?hr ?_; (case hd => rfl); (case hg => rfl); (case hr => first | (go_simp; done) | (go_simp; rfl)); intro gb1 hg_ w2 hbox_ hb_; obtain ⟨hk_, hs1_, hs2_, hw0_⟩ := ev_kept (S := (fun _ => False)) HS.out HB.out hb_ (by repeat (first | (with_reducible first | exact Kept.refl _ _ | apply Kept.alloc | apply Kept.drewN | apply Kept.drew) | exact Kept.refl _ _)); have hw_ : w.heap.size ≤ gb1 := (by rw [hg_]; exact hw0_); have hB_ := below_step (by repeat (first | (with_reducible first | exact HB.out | apply below_alloc | apply pw_below_drewN | apply below_drew1) | exact HB.out)) hb_; have n0_ := Aside0.mk (Kd.F_kept FA0_0.out hk_ (fun _ _ hs_ => hs_.elim)); have hS_ : s0 ≤ gb1 := (by rw [hg_]; exact hs1_); have nb_ := Aside0.mk hbox_; have ns_ := Aside0.mk (box_in hbox_); have nc_ := Aside0.mk (And.intro hS_ CH.out); have ng_ := Aside0.mk hw_; have nB_ := Aside0.mk hB_; clear HB HS CH FA0_0; have FA0_0 := n0_; have HB := nB_; have HS := ns_; have CH := nc_; have BKgb1 := nb_; have GEgb1 := ng_; clear nB_ ns_ nc_ nb_ ng_ n0_; clear hk_ hs1_ hs2_ hw_ hw0_ hB_ hS_ hb_ hbox_ hg_; have hczgb1_0 : w2.cell? ⟨gb1, 0, none⟩ = some (.slice A0_0 l0_0.length c0_0) := (blk_cell BKgb1.out 0).trans rfl; have hfzgb1_0 := blk_frozen BKgb1.out 0) | ((with_reducible refine gate_callee (f := 12) rfl ?_); refine goesL_ (some 18) rfl rfl Try.func12 (by kernel_rfl) rfl #[.agg #[.slice A0_0 l0_0.length c0_0], .int .i64 1048576] rfl (by (try simp only [List.map_toArray, List.map_cons, List.map_nil]); first | done | rfl | (simp only [List.length_drop, List.length_take]; rfl)) ?_; (with_reducible refine (laws_szGraph.calls KE5 _ _ l0_0 1048576 x4 _ ?sidehr0_0 ?sidehc0_0 E5.out).mono ?_); (case sidehr0_0 => exact F_at (S := (fun _ => False)) FA0_0.out (by repeat (first | (with_reducible first | exact Kept.refl _ _ | apply Kept.alloc | apply Kept.drewN | apply Kept.drew) | exact Kept.refl _ _)) (fun _ _ hs_ => hs_.elim)); (case sidehc0_0 => exact HC0_0.out); rintro e w3 ⟨rfl, hb_⟩; refine ⟨_, rfl, ?_⟩; (try clear hczgb1_0); (try clear hfzgb1_0); obtain ⟨hk_, hs1_, hs2_, hw_⟩ := ev_kept (S := (fun _ => False)) HS.out HB.out hb_ (by repeat (first | (with_reducible first | exact Kept.refl _ _ | apply Kept.alloc | apply Kept.drewN | apply Kept.drew) | exact Kept.refl _ _)); have hB_ := below_step (by repeat (first | (with_reducible first | exact HB.out | apply below_alloc | apply pw_below_drewN | apply below_drew1 | refine below_set ?_ GEgb1.out) | exact HB.out)) hb_; have n0_ := Aside0.mk (Kd.F_kept FA0_0.out hk_ (fun _ _ hs_ => hs_.elim)); have n1_ := Aside0.mk (blk_below (g := gb1) (o := .cells #[.slice A0_0 l0_0.length c0_0] 30 (0, 0)) (by (with_reducible repeat (first | refine blk_drewN ?_ _ | refine blk_drew ?_ | refine blk_alloc ?_ _)); exact BKgb1.out) hb_); have ns_ := Aside0.mk (Nat.le_trans (Nat.le_trans hs1_ hs2_) (Nat.le_refl _)); have nB_ := Aside0.mk hB_; clear HB HS FA0_0 BKgb1; have FA0_0 := n0_; have BKgb1 := n1_; have HB := nB_; have HS := ns_; clear nB_ ns_ n0_ n1_; clear hk_ hs1_ hs2_ hw_ hB_ hb_; have hczgb1_0 : w3.cell? ⟨gb1, 0, none⟩ = some (.slice A0_0 l0_0.length c0_0) := (blk_cell BKgb1.out 0).trans rfl; have hfzgb1_0 := blk_frozen BKgb1.out 0))
    go_ret
    exact ⟨by first | rfl | (simp; done), by repeat (first | (with_reducible first | exact HB.out | apply below_alloc | apply pw_below_drewN | apply below_drew1 | refine below_set ?_ GEgb1.out | refine below_set ?_ GEgb31.out) | exact HB.out)⟩
  have hg := hg (by omega)
  have hzx4 : decide (x4 < 0) = false := decide_eq_false hz
  clear hz
  obtain ⟨E_, hg⟩ := hg
  obtain ⟨KE7, E_⟩ := E_
  have E7 := Aside0.mk (E_ KE7 (Nat.le_refl _))
  clear E_
  obtain ⟨x15, hg⟩ := hg
  obtain ⟨x16, hg⟩ := hg
  obtain ⟨E_, hg⟩ := hg
  obtain ⟨KE17, E_⟩ := E_
  have E17 := Aside0.mk (E_ KE17 (Nat.le_refl _))
  clear E_
  obtain ⟨E_, hg⟩ := hg
  obtain ⟨KE34, E_⟩ := E_
  have E34 := Aside0.mk (E_ KE34 (Nat.le_refl _))
  clear E_
  obtain ⟨E_, hg⟩ := hg
  obtain ⟨KE42, E_⟩ := E_
  have E42 := Aside0.mk (E_ KE42 (Nat.le_refl _))
  clear E_
  obtain ⟨E_, hg⟩ := hg
  obtain ⟨KE52, E_⟩ := E_
  have E52 := Aside0.mk (E_ KE52 (Nat.le_refl _))
  clear E_
  obtain ⟨x54, hg⟩ := hg
  obtain ⟨x55, hg⟩ := hg
  obtain ⟨E_, hg⟩ := hg
  obtain ⟨KE56, E_⟩ := E_
  have E56 := Aside0.mk (E_ KE56 (Nat.le_refl _))
  clear E_
  obtain ⟨hpx54, hg⟩ := hg
  have hnx54 : decide (x54 < 0) = false := decide_eq_false (by omega)
  have hex54 : (x54 != x54) = false := bne_self_eq_false _
  have hdx54 : decide (x54 = x54) = true := decide_eq_true rfl
  clear hpx54
  obtain ⟨x60, hg⟩ := hg
  obtain ⟨x61, hg⟩ := hg
  obtain ⟨E_, hg⟩ := hg
  obtain ⟨KE62, E_⟩ := E_
  have E62 := Aside0.mk (E_ KE62 (Nat.le_refl _))
  clear E_
  obtain ⟨hpx60, hg⟩ := hg
  have hnx60 : decide (x60 < 0) = false := decide_eq_false (by omega)
  have hex60 : (x60 != x60) = false := bne_self_eq_false _
  have hdx60 : decide (x60 = x60) = true := decide_eq_true rfl
  clear hpx60
  obtain ⟨E_, hg⟩ := hg
  obtain ⟨KE65, E_⟩ := E_
  have E65 := Aside0.mk (E_ KE65 (Nat.le_refl _))
  clear E_
  clear hg
  have hbx16 : (x16 != x16) = false := bne_self_eq_false _
  have hdx16 : (x16 == x16) = true := beq_self_eq_true _
  go_enter Try.func4, Try.ntmps4
  go_wp2_with (first | ((with_reducible refine gate_dst (N := 2) rfl ?_); refine box_event ?hg (N := 2) ?hd (cs := #[.slice A0_0 l0_0.length c0_0]) (t := 30) ?hr ?_; (case hd => rfl); (case hg => rfl); (case hr => first | (go_simp; done) | (go_simp; rfl)); intro gb1 hg_ w2 hbox_ hb_; obtain ⟨hk_, hs1_, hs2_, hw0_⟩ := ev_kept (S := (fun _ => False)) HS.out HB.out hb_ (by repeat (first | (with_reducible first | exact Kept.refl _ _ | apply Kept.alloc | apply Kept.drewN | apply Kept.drew) | exact Kept.refl _ _)); have hw_ : w.heap.size ≤ gb1 := (by rw [hg_]; exact hw0_); have hB_ := below_step (by repeat (first | (with_reducible first | exact HB.out | apply below_alloc | apply pw_below_drewN | apply below_drew1) | exact HB.out)) hb_; have n0_ := Aside0.mk (Kd.F_kept FA0_0.out hk_ (fun _ _ hs_ => hs_.elim)); have hS_ : s0 ≤ gb1 := (by rw [hg_]; exact hs1_); have nb_ := Aside0.mk hbox_; have ns_ := Aside0.mk (box_in hbox_); have nc_ := Aside0.mk (And.intro hS_ CH.out); have ng_ := Aside0.mk hw_; have nB_ := Aside0.mk hB_; clear HB HS CH FA0_0; have FA0_0 := n0_; have HB := nB_; have HS := ns_; have CH := nc_; have BKgb1 := nb_; have GEgb1 := ng_; clear nB_ ns_ nc_ nb_ ng_ n0_; clear hk_ hs1_ hs2_ hw_ hw0_ hB_ hS_ hb_ hbox_ hg_; have hczgb1_0 : w2.cell? ⟨gb1, 0, none⟩ = some (.slice A0_0 l0_0.length c0_0) := (blk_cell BKgb1.out 0).trans rfl; have hfzgb1_0 := blk_frozen BKgb1.out 0) | ((with_reducible refine gate_callee (f := 12) rfl ?_); refine goesL_ (some 18) rfl rfl Try.func12 (by kernel_rfl) rfl #[.agg #[.slice A0_0 l0_0.length c0_0], .int .i64 1048576] rfl (by (try simp only [List.map_toArray, List.map_cons, List.map_nil]); first | done | rfl | (simp only [List.length_drop, List.length_take]; rfl)) ?_; (with_reducible refine (laws_szGraph.calls KE5 _ _ l0_0 1048576 x4 _ ?sidehr0_0 ?sidehc0_0 E5.out).mono ?_); (case sidehr0_0 => exact F_at (S := (fun _ => False)) FA0_0.out (by repeat (first | (with_reducible first | exact Kept.refl _ _ | apply Kept.alloc | apply Kept.drewN | apply Kept.drew) | exact Kept.refl _ _)) (fun _ _ hs_ => hs_.elim)); (case sidehc0_0 => exact HC0_0.out); rintro e w3 ⟨rfl, hb_⟩; refine ⟨_, rfl, ?_⟩; (try clear hczgb1_0); (try clear hfzgb1_0); obtain ⟨hk_, hs1_, hs2_, hw_⟩ := ev_kept (S := (fun _ => False)) HS.out HB.out hb_ (by repeat (first | (with_reducible first | exact Kept.refl _ _ | apply Kept.alloc | apply Kept.drewN | apply Kept.drew) | exact Kept.refl _ _)); have hB_ := below_step (by repeat (first | (with_reducible first | exact HB.out | apply below_alloc | apply pw_below_drewN | apply below_drew1 | refine below_set ?_ GEgb1.out) | exact HB.out)) hb_; have n0_ := Aside0.mk (Kd.F_kept FA0_0.out hk_ (fun _ _ hs_ => hs_.elim)); have n1_ := Aside0.mk (blk_below (g := gb1) (o := .cells #[.slice A0_0 l0_0.length c0_0] 30 (0, 0)) (by (with_reducible repeat (first | refine blk_drewN ?_ _ | refine blk_drew ?_ | refine blk_alloc ?_ _)); exact BKgb1.out) hb_); have ns_ := Aside0.mk (Nat.le_trans (Nat.le_trans hs1_ hs2_) (Nat.le_refl _)); have nB_ := Aside0.mk hB_; clear HB HS FA0_0 BKgb1; have FA0_0 := n0_; have BKgb1 := n1_; have HB := nB_; have HS := ns_; clear nB_ ns_ n0_ n1_; clear hk_ hs1_ hs2_ hw_ hB_ hb_; have hczgb1_0 : w3.cell? ⟨gb1, 0, none⟩ = some (.slice A0_0 l0_0.length c0_0) := (blk_cell BKgb1.out 0).trans rfl; have hfzgb1_0 := blk_frozen BKgb1.out 0) | ((with_reducible refine gate_callee (f := 14) rfl ?_); refine goesL_ (some 23) rfl rfl Try.func14 (by kernel_rfl) rfl #[.agg #[.slice A0_0 l0_0.length c0_0]] rfl (by (try simp only [List.map_toArray, List.map_cons, List.map_nil]); first | done | rfl | (simp only [List.length_drop, List.length_take]; rfl)) ?_; (with_reducible refine (laws_toGraph.calls KE7 _ _ l0_0 l0_0 _ ?sidehr0_0 ?sidehc0_0 E7.out).mono ?_); (case sidehr0_0 => exact F_at (S := (fun _ => False)) FA0_0.out (by repeat (first | (with_reducible first | exact Kept.refl _ _ | apply Kept.alloc | apply Kept.drewN | apply Kept.drew) | exact Kept.refl _ _)) (fun _ _ hs_ => hs_.elim)); (case sidehc0_0 => exact HC0_0.out); rintro e w6 ⟨v8, rfl, hov0__, hb_⟩; refine ⟨_, rfl, ?_⟩; (try clear hczgb1_0); (try clear hfzgb1_0); obtain ⟨hk_, hs1_, hs2_, hw_⟩ := ev_kept (S := (fun _ => False)) HS.out HB.out hb_ (by repeat (first | (with_reducible first | exact Kept.refl _ _ | apply Kept.alloc | apply Kept.drewN | apply Kept.drew) | exact Kept.refl _ _)); have hB_ := below_step (by repeat (first | (with_reducible first | exact HB.out | apply below_alloc | apply pw_below_drewN | apply below_drew1 | refine below_set ?_ GEgb1.out) | exact HB.out)) hb_; have n0_ := Aside0.mk (Kd.F_kept FA0_0.out hk_ (fun _ _ hs_ => hs_.elim)); have n1_ := Aside0.mk (blk_below (g := gb1) (o := .cells #[.slice A0_0 l0_0.length c0_0] 30 (0, 0)) (by (with_reducible repeat (first | refine blk_drewN ?_ _ | refine blk_drew ?_ | refine blk_alloc ?_ _)); exact BKgb1.out) hb_); have ns_ := Aside0.mk (Nat.le_trans (Nat.le_trans hs1_ hs2_) (Nat.le_refl _)); have nB_ := Aside0.mk hB_; obtain ⟨lo9, hi10, c1_, c2_, c3_, h_⟩ := S_new hov0__ hs2_ hw_ hs1_; have HS11 := Aside0.mk h_; obtain ⟨Ao12, co13, eo_⟩ := Kd.S_slice HS11.out; subst eo_; have HCHS11 := Aside0.mk (Kd.S_reads' HS11.out).2.1; clear h_ hov0__; have nc_ := Aside0.mk (And.intro c1_ (And.intro c2_ CH.out)); clear CH ns_; have CH := nc_; have ns_ := Aside0.mk c3_; clear nc_ c1_ c2_ c3_; clear HB HS FA0_0 BKgb1; have FA0_0 := n0_; have BKgb1 := n1_; have HB := nB_; have HS := ns_; clear nB_ ns_ n0_ n1_; clear hk_ hs1_ hs2_ hw_ hB_ hb_; have hczgb1_0 : w6.cell? ⟨gb1, 0, none⟩ = some (.slice A0_0 l0_0.length c0_0) := (blk_cell BKgb1.out 0).trans rfl; have hfzgb1_0 := blk_frozen BKgb1.out 0) | ((with_reducible refine gate_callee (f := 13) rfl ?_); refine goesL_ (some 25) rfl rfl Try.func13 (by kernel_rfl) rfl #[.agg #[.slice Ao12 l0_0.length co13], .int .i64 a1] rfl (by (try simp only [List.map_toArray, List.map_cons, List.map_nil]); first | done | rfl | (simp only [List.length_drop, List.length_take]; rfl)) ?_; (with_reducible refine (spec_LaplaceOf.calls KE17 _ _ l0_0 a1 x15 x16 _ ?sidehr0_0 ?sidehc0_0 E17.out).mono ?_); (case sidehr0_0 => exact S_now (S := (fun _ => False)) HS11.out (by repeat (first | (with_reducible first | exact Kept.refl _ _ | apply Kept.alloc | apply Kept.drewN | apply Kept.drew) | exact Kept.refl _ _)) (fun _ _ hs_ => hs_.elim)); (case sidehc0_0 => exact HCHS11.out); rintro e w14 ⟨v18, rfl, hov0__, hb_⟩; refine ⟨_, rfl, ?_⟩; (try clear hczgb1_0); (try clear hfzgb1_0); obtain ⟨hk_, hs1_, hs2_, hw_⟩ := ev_kept (S := (fun _ => False)) HS.out HB.out hb_ (by repeat (first | (with_reducible first | exact Kept.refl _ _ | apply Kept.alloc | apply Kept.drewN | apply Kept.drew) | exact Kept.refl _ _)); have hB_ := below_step (by repeat (first | (with_reducible first | exact HB.out | apply below_alloc | apply pw_below_drewN | apply below_drew1 | refine below_set ?_ GEgb1.out) | exact HB.out)) hb_; have n0_ := Aside0.mk (Kd.F_kept FA0_0.out hk_ (fun _ _ hs_ => hs_.elim)); have n1_ := Aside0.mk (blk_below (g := gb1) (o := .cells #[.slice A0_0 l0_0.length c0_0] 30 (0, 0)) (by (with_reducible repeat (first | refine blk_drewN ?_ _ | refine blk_drew ?_ | refine blk_alloc ?_ _)); exact BKgb1.out) hb_); have n2_ := Aside0.mk (Kd.S_kept HS11.out hk_ (fun _ _ hs_ => hs_.elim)); have ns_ := Aside0.mk (Nat.le_trans (Nat.le_trans hs1_ hs2_) (Nat.le_refl _)); have nB_ := Aside0.mk hB_; obtain ⟨lo19, hi20, c1_, c2_, c3_, h_⟩ := S_new hov0__ hs2_ hw_ hs1_; have HS21 := Aside0.mk h_; obtain ⟨Ao22, co23, eo_⟩ := Kd.S_slice HS21.out; subst eo_; have HCHS21 := Aside0.mk (Kd.S_reads' HS21.out).2.1; clear h_ hov0__; have nc_ := Aside0.mk (And.intro c1_ (And.intro c2_ CH.out)); clear CH ns_; have CH := nc_; have ns_ := Aside0.mk c3_; clear nc_ c1_ c2_ c3_; clear HB HS FA0_0 BKgb1 HS11; have FA0_0 := n0_; have BKgb1 := n1_; have HS11 := n2_; have HB := nB_; have HS := ns_; clear nB_ ns_ n0_ n1_ n2_; clear hk_ hs1_ hs2_ hw_ hB_ hb_; have hczgb1_0 : w14.cell? ⟨gb1, 0, none⟩ = some (.slice A0_0 l0_0.length c0_0) := (blk_cell BKgb1.out 0).trans rfl; have hfzgb1_0 := blk_frozen BKgb1.out 0) | ((with_reducible refine gate_callee (f := 14) rfl ?_); refine goesL_ (some 29) rfl rfl Try.func14 (by kernel_rfl) rfl #[.agg #[.slice A0_0 l0_0.length c0_0]] rfl (by (try simp only [List.map_toArray, List.map_cons, List.map_nil]); first | done | rfl | (simp only [List.length_drop, List.length_take]; rfl)) ?_; (with_reducible refine (laws_toGraph.calls KE7 _ _ l0_0 l0_0 _ ?sidehr0_0 ?sidehc0_0 E7.out).mono ?_); (case sidehr0_0 => exact F_at (S := (fun _ => False)) FA0_0.out (by repeat (first | (with_reducible first | exact Kept.refl _ _ | apply Kept.alloc | apply Kept.drewN | apply Kept.drew) | exact Kept.refl _ _)) (fun _ _ hs_ => hs_.elim)); (case sidehc0_0 => exact HC0_0.out); rintro e w24 ⟨v25, rfl, hov0__, hb_⟩; refine ⟨_, rfl, ?_⟩; (try clear hczgb1_0); (try clear hfzgb1_0); obtain ⟨hk_, hs1_, hs2_, hw_⟩ := ev_kept (S := (fun _ => False)) HS.out HB.out hb_ (by repeat (first | (with_reducible first | exact Kept.refl _ _ | apply Kept.alloc | apply Kept.drewN | apply Kept.drew) | exact Kept.refl _ _)); have hB_ := below_step (by repeat (first | (with_reducible first | exact HB.out | apply below_alloc | apply pw_below_drewN | apply below_drew1 | refine below_set ?_ GEgb1.out) | exact HB.out)) hb_; have n0_ := Aside0.mk (Kd.F_kept FA0_0.out hk_ (fun _ _ hs_ => hs_.elim)); have n1_ := Aside0.mk (blk_below (g := gb1) (o := .cells #[.slice A0_0 l0_0.length c0_0] 30 (0, 0)) (by (with_reducible repeat (first | refine blk_drewN ?_ _ | refine blk_drew ?_ | refine blk_alloc ?_ _)); exact BKgb1.out) hb_); have n2_ := Aside0.mk (Kd.S_kept HS11.out hk_ (fun _ _ hs_ => hs_.elim)); have n3_ := Aside0.mk (Kd.S_kept HS21.out hk_ (fun _ _ hs_ => hs_.elim)); have ns_ := Aside0.mk (Nat.le_trans (Nat.le_trans hs1_ hs2_) (Nat.le_refl _)); have nB_ := Aside0.mk hB_; obtain ⟨lo26, hi27, c1_, c2_, c3_, h_⟩ := S_new hov0__ hs2_ hw_ hs1_; have HS28 := Aside0.mk h_; obtain ⟨Ao29, co30, eo_⟩ := Kd.S_slice HS28.out; subst eo_; have HCHS28 := Aside0.mk (Kd.S_reads' HS28.out).2.1; clear h_ hov0__; have nc_ := Aside0.mk (And.intro c1_ (And.intro c2_ CH.out)); clear CH ns_; have CH := nc_; have ns_ := Aside0.mk c3_; clear nc_ c1_ c2_ c3_; clear HB HS FA0_0 BKgb1 HS11 HS21; have FA0_0 := n0_; have BKgb1 := n1_; have HS11 := n2_; have HS21 := n3_; have HB := nB_; have HS := ns_; clear nB_ ns_ n0_ n1_ n2_ n3_; clear hk_ hs1_ hs2_ hw_ hB_ hb_; have hczgb1_0 : w24.cell? ⟨gb1, 0, none⟩ = some (.slice A0_0 l0_0.length c0_0) := (blk_cell BKgb1.out 0).trans rfl; have hfzgb1_0 := blk_frozen BKgb1.out 0) | ((with_reducible refine gate_dst (N := 8) rfl ?_); refine box_event ?hg (N := 8) ?hd (cs := #[.slice none 0 0]) (t := 34) ?hr ?_; (case hd => rfl); (case hg => rfl); (case hr => first | (go_simp; done) | (go_simp; rfl)); intro gb31 hg_ w32 hbox_ hb_; (try clear hczgb1_0); (try clear hfzgb1_0); obtain ⟨hk_, hs1_, hs2_, hw0_⟩ := ev_kept (S := (fun _ => False)) HS.out HB.out hb_ (by repeat (first | (with_reducible first | exact Kept.refl _ _ | apply Kept.alloc | apply Kept.drewN | apply Kept.drew) | exact Kept.refl _ _)); have hw_ : w.heap.size ≤ gb31 := (by rw [hg_]; exact hw0_); have hB_ := below_step (by repeat (first | (with_reducible first | exact HB.out | apply below_alloc | apply pw_below_drewN | apply below_drew1 | refine below_set ?_ GEgb1.out) | exact HB.out)) hb_; have n0_ := Aside0.mk (Kd.F_kept FA0_0.out hk_ (fun _ _ hs_ => hs_.elim)); have n1_ := Aside0.mk (blk_below (g := gb1) (o := .cells #[.slice A0_0 l0_0.length c0_0] 30 (0, 0)) (by (with_reducible repeat (first | refine blk_drewN ?_ _ | refine blk_drew ?_ | refine blk_alloc ?_ _)); exact BKgb1.out) hb_); have n2_ := Aside0.mk (Kd.S_kept HS11.out hk_ (fun _ _ hs_ => hs_.elim)); have n3_ := Aside0.mk (Kd.S_kept HS21.out hk_ (fun _ _ hs_ => hs_.elim)); have n4_ := Aside0.mk (Kd.S_kept HS28.out hk_ (fun _ _ hs_ => hs_.elim)); have hS_ : hi27 ≤ gb31 := (by rw [hg_]; exact hs1_); have nb_ := Aside0.mk hbox_; have ns_ := Aside0.mk (box_in hbox_); have nc_ := Aside0.mk (And.intro hS_ CH.out); have ng_ := Aside0.mk hw_; have nB_ := Aside0.mk hB_; clear HB HS CH FA0_0 BKgb1 HS11 HS21 HS28; have FA0_0 := n0_; have BKgb1 := n1_; have HS11 := n2_; have HS21 := n3_; have HS28 := n4_; have HB := nB_; have HS := ns_; have CH := nc_; have BKgb31 := nb_; have GEgb31 := ng_; clear nB_ ns_ nc_ nb_ ng_ n0_ n1_ n2_ n3_ n4_; clear hk_ hs1_ hs2_ hw_ hw0_ hB_ hS_ hb_ hbox_ hg_; have hczgb1_0 : w32.cell? ⟨gb1, 0, none⟩ = some (.slice A0_0 l0_0.length c0_0) := (blk_cell BKgb1.out 0).trans rfl; have hfzgb1_0 := blk_frozen BKgb1.out 0; have hczgb31_0 : w32.cell? ⟨gb31, 0, none⟩ = some (.slice none 0 0) := (blk_cell BKgb31.out 0).trans rfl; have hfzgb31_0 := blk_frozen BKgb31.out 0; have hnbgb1gb31 : gb1 ≠ gb31 := (by have := CH.out; omega); have hnbgb31gb1 : gb31 ≠ gb1 := (by have := CH.out; omega)) | ((with_reducible refine gate_callee (f := 15) rfl ?_); refine goesL_ (some 33) rfl rfl Try.func15 (by kernel_rfl) rfl #[.agg #[.slice Ao29 l0_0.length co30], .int .i64 a1] rfl (by (try simp only [List.map_toArray, List.map_cons, List.map_nil]); first | done | rfl | (simp only [List.length_drop, List.length_take]; rfl)) ?_; (with_reducible refine (impl_LaplaceOf.calls KE34 _ _ l0_0 a1 x15 x16 _ ?sidehr0_0 ?sidehc0_0 E34.out).mono ?_); (case sidehr0_0 => exact S_now (S := (fun k_ => k_ = gb31)) HS28.out (by repeat (first | (with_reducible first | exact Kept.refl _ _ | apply Kept.alloc | apply Kept.drewN | apply Kept.drew) | refine Kept.setCell ?_ (Or.inl (show gb31 = gb31 from rfl)) _ | exact Kept.refl _ _)) (fun k_ h_ hs_ => by obtain ⟨h1_, h2_⟩ := h_; have g1_ : k_ = gb31 := hs_; have := CH.out; omega)); (case sidehc0_0 => exact HCHS28.out); rintro e w33 ⟨v35, rfl, hov0__, hb_⟩; refine ⟨_, rfl, ?_⟩; (try clear hczgb1_0); (try clear hfzgb1_0); (try clear hczgb31_0); (try clear hfzgb31_0); obtain ⟨hk_, hs1_, hs2_, hw_⟩ := ev_kept (S := (fun k_ => k_ = gb31)) HS.out HB.out hb_ (by repeat (first | (with_reducible first | exact Kept.refl _ _ | apply Kept.alloc | apply Kept.drewN | apply Kept.drew) | refine Kept.setCell ?_ (Or.inl (show gb31 = gb31 from rfl)) _ | exact Kept.refl _ _)); have hB_ := below_step (by repeat (first | (with_reducible first | exact HB.out | apply below_alloc | apply pw_below_drewN | apply below_drew1 | refine below_set ?_ GEgb1.out | refine below_set ?_ GEgb31.out) | exact HB.out)) hb_; have n0_ := Aside0.mk (Kd.F_kept FA0_0.out hk_ (fun k_ h_ hs_ => by have h1_ : k_ < s0 := h_; have g1_ : k_ = gb31 := hs_; have := CH.out; omega)); have n1_ := Aside0.mk (blk_below (g := gb1) (o := .cells #[.slice A0_0 l0_0.length c0_0] 30 (0, 0)) (by (with_reducible repeat (first | refine blk_drewN ?_ _ | refine blk_drew ?_ | refine blk_alloc ?_ _)); refine blk_far ?_ (by have := CH.out; omega) _; (with_reducible repeat (first | refine blk_drewN ?_ _ | refine blk_drew ?_ | refine blk_alloc ?_ _)); exact BKgb1.out) hb_); have n2_ := Aside0.mk (Kd.S_kept HS11.out hk_ (fun k_ h_ hs_ => by obtain ⟨h1_, h2_⟩ := h_; have g1_ : k_ = gb31 := hs_; have := CH.out; omega)); have n3_ := Aside0.mk (Kd.S_kept HS21.out hk_ (fun k_ h_ hs_ => by obtain ⟨h1_, h2_⟩ := h_; have g1_ : k_ = gb31 := hs_; have := CH.out; omega)); have n4_ := Aside0.mk (Kd.S_kept HS28.out hk_ (fun k_ h_ hs_ => by obtain ⟨h1_, h2_⟩ := h_; have g1_ : k_ = gb31 := hs_; have := CH.out; omega)); have n5_ := Aside0.mk (blk_below (g := gb31) (o := .cells #[.slice Ao29 l0_0.length co30] 34 (0, 0)) (by (with_reducible repeat (first | refine blk_drewN ?_ _ | refine blk_drew ?_ | refine blk_alloc ?_ _)); refine blk_put (cs := #[.slice none 0 0]) ?_ 0 _ rfl; (with_reducible repeat (first | refine blk_drewN ?_ _ | refine blk_drew ?_ | refine blk_alloc ?_ _)); exact BKgb31.out) hb_); have ns_ := Aside0.mk (Nat.le_trans (Nat.le_trans hs1_ hs2_) (Nat.le_refl _)); have nB_ := Aside0.mk hB_; obtain ⟨lo36, hi37, c1_, c2_, c3_, h_⟩ := S_new hov0__ hs2_ hw_ hs1_; have HS38 := Aside0.mk h_; obtain ⟨Ao39, co40, eo_⟩ := Kd.S_slice HS38.out; subst eo_; have HCHS38 := Aside0.mk (Kd.S_reads' HS38.out).2.1; clear h_ hov0__; have nc_ := Aside0.mk (And.intro c1_ (And.intro c2_ CH.out)); clear CH ns_; have CH := nc_; have ns_ := Aside0.mk c3_; clear nc_ c1_ c2_ c3_; clear HB HS FA0_0 BKgb1 HS11 HS21 HS28 BKgb31; have FA0_0 := n0_; have BKgb1 := n1_; have HS11 := n2_; have HS21 := n3_; have HS28 := n4_; have BKgb31 := n5_; have HB := nB_; have HS := ns_; clear nB_ ns_ n0_ n1_ n2_ n3_ n4_ n5_; clear hk_ hs1_ hs2_ hw_ hB_ hb_; have hczgb1_0 : w33.cell? ⟨gb1, 0, none⟩ = some (.slice A0_0 l0_0.length c0_0) := (blk_cell BKgb1.out 0).trans rfl; have hfzgb1_0 := blk_frozen BKgb1.out 0; have hczgb31_0 : w33.cell? ⟨gb31, 0, none⟩ = some (.slice Ao29 l0_0.length co30) := (blk_cell BKgb31.out 0).trans rfl; have hfzgb31_0 := blk_frozen BKgb31.out 0; have hnbgb1gb31 : gb1 ≠ gb31 := (by have := CH.out; omega); have hnbgb31gb1 : gb31 ≠ gb1 := (by have := CH.out; omega)) | ((with_reducible refine gate_callee (f := 11) rfl ?_); refine goesL_ (some 38) rfl rfl Try.func11 (by kernel_rfl) rfl #[.slice Ao39 x15.length co40, .slice Ao22 x15.length co23] rfl (by (try simp only [List.map_toArray, List.map_cons, List.map_nil]); first | done | rfl | (simp only [List.length_drop, List.length_take]; rfl)) ?_; (with_reducible refine (laws_eqIntSS.calls KE42 _ _ x15 _ _ x15 true _ ?sidehr0 ?sidehc0 ?sidehr1 ?sidehc1 E42.out).mono ?_); (case sidehr0 => exact S_now (S := (fun _ => False)) HS38.out (by repeat (first | (with_reducible first | exact Kept.refl _ _ | apply Kept.alloc | apply Kept.drewN | apply Kept.drew) | exact Kept.refl _ _)) (fun _ _ hs_ => hs_.elim)); (case sidehc0 => exact HCHS38.out); (case sidehr1 => exact S_now (S := (fun _ => False)) HS21.out (by repeat (first | (with_reducible first | exact Kept.refl _ _ | apply Kept.alloc | apply Kept.drewN | apply Kept.drew) | exact Kept.refl _ _)) (fun _ _ hs_ => hs_.elim)); (case sidehc1 => exact HCHS21.out); rintro e w41 ⟨rfl, hd_⟩; refine ⟨_, rfl, ?_⟩; have hb_ := hd_.below; (try clear hczgb1_0); (try clear hfzgb1_0); (try clear hczgb31_0); (try clear hfzgb31_0); obtain ⟨hk_, hs1_, hs2_, hw_⟩ := ev_kept (S := (fun _ => False)) HS.out HB.out hb_ (by repeat (first | (with_reducible first | exact Kept.refl _ _ | apply Kept.alloc | apply Kept.drewN | apply Kept.drew) | exact Kept.refl _ _)); have hB_ := below_step (by repeat (first | (with_reducible first | exact HB.out | apply below_alloc | apply pw_below_drewN | apply below_drew1 | refine below_set ?_ GEgb1.out | refine below_set ?_ GEgb31.out) | exact HB.out)) hb_; have n0_ := Aside0.mk (Kd.F_kept FA0_0.out hk_ (fun _ _ hs_ => hs_.elim)); have n1_ := Aside0.mk (blk_below (g := gb1) (o := .cells #[.slice A0_0 l0_0.length c0_0] 30 (0, 0)) (by (with_reducible repeat (first | refine blk_drewN ?_ _ | refine blk_drew ?_ | refine blk_alloc ?_ _)); exact BKgb1.out) hb_); have n2_ := Aside0.mk (Kd.S_kept HS11.out hk_ (fun _ _ hs_ => hs_.elim)); have n3_ := Aside0.mk (Kd.S_kept HS21.out hk_ (fun _ _ hs_ => hs_.elim)); have n4_ := Aside0.mk (Kd.S_kept HS28.out hk_ (fun _ _ hs_ => hs_.elim)); have n5_ := Aside0.mk (blk_below (g := gb31) (o := .cells #[.slice Ao29 l0_0.length co30] 34 (0, 0)) (by (with_reducible repeat (first | refine blk_drewN ?_ _ | refine blk_drew ?_ | refine blk_alloc ?_ _)); exact BKgb31.out) hb_); have n6_ := Aside0.mk (Kd.S_kept HS38.out hk_ (fun _ _ hs_ => hs_.elim)); have ns_ := Aside0.mk (Nat.le_trans (Nat.le_trans hs1_ hs2_) (Nat.le_refl _)); have nB_ := Aside0.mk hB_; clear HB HS FA0_0 BKgb1 HS11 HS21 HS28 BKgb31 HS38; have FA0_0 := n0_; have BKgb1 := n1_; have HS11 := n2_; have HS21 := n3_; have HS28 := n4_; have BKgb31 := n5_; have HS38 := n6_; have HB := nB_; have HS := ns_; clear nB_ ns_ n0_ n1_ n2_ n3_ n4_ n5_ n6_; clear hk_ hs1_ hs2_ hw_ hB_ hb_; clear hd_; have hczgb1_0 : w41.cell? ⟨gb1, 0, none⟩ = some (.slice A0_0 l0_0.length c0_0) := (blk_cell BKgb1.out 0).trans rfl; have hfzgb1_0 := blk_frozen BKgb1.out 0; have hczgb31_0 : w41.cell? ⟨gb31, 0, none⟩ = some (.slice Ao29 l0_0.length co30) := (blk_cell BKgb31.out 0).trans rfl; have hfzgb31_0 := blk_frozen BKgb31.out 0; have hnbgb1gb31 : gb1 ≠ gb31 := (by have := CH.out; omega); have hnbgb31gb1 : gb31 ≠ gb1 := (by have := CH.out; omega)))
  try go_wp2
  (try clear hczgb1_0)
  (try clear hfzgb1_0)
  (try clear hczgb31_0)
  (try clear hfzgb31_0)
  have n0_ := Aside0.mk (Kd.F_drew FA0_0.out)
  have n1_ := Aside0.mk (blk_drew BKgb1.out)
  have n2_ := Aside0.mk (Kd.S_drew HS11.out)
  have n3_ := Aside0.mk (Kd.S_drew HS21.out)
  have n4_ := Aside0.mk (Kd.S_drew HS28.out)
  have n5_ := Aside0.mk (blk_drew BKgb31.out)
  have n6_ := Aside0.mk (Kd.S_drew HS38.out)
  have nB_ := Aside0.mk (below_drew1 HB.out)
  have nS_ : Aside0 (hi37 ≤ w41.drew.heap.size) := ⟨HS.out⟩
  clear HB HS FA0_0 BKgb1 HS11 HS21 HS28 BKgb31 HS38
  have FA0_0 := n0_
  have BKgb1 := n1_
  have HS11 := n2_
  have HS21 := n3_
  have HS28 := n4_
  have BKgb31 := n5_
  have HS38 := n6_
  have HB := nB_
  have HS := nS_
  clear nB_ nS_ n0_ n1_ n2_ n3_ n4_ n5_ n6_
  refine start_ (n := 5) (S := fun w' => w'.cell? ⟨gb1, 0, none⟩ = some (.slice A0_0 l0_0.length c0_0) ∧ w'.cell? ⟨gb31, 0, none⟩ = some (.slice Ao29 l0_0.length co30)) (ds := []) #[false, false, false, false, false] (by kernel_rfl) rfl rfl ⟨(blk_cell BKgb1.out 0).trans rfl, (blk_cell BKgb31.out 0).trans rfl⟩ (fun hHeld => ?_)
  generalize w41.drew = w43 at HB HS FA0_0 BKgb1 HS11 HS21 HS28 BKgb31 HS38 hHeld ⊢
  refine take_ (i := 0) (N := some 45) (v := ?_) (a' := ?_) #[true, false, false, false, false] rfl rfl (by kernel_rfl) (fun _ _ _ h => h) (Or.inl ⟨by rfl, ?_⟩) hHeld ?_ ?_
  rotate_left
  · rintro w' ⟨s0_, s1_⟩
    go_simp
    with_reducible rfl
  rotate_left
  · simp only [Act.put, List.setIfInBounds_toArray, List.set_cons_zero, List.set_cons_succ, i64_w, i32_w]
    rfl
  refine take_ (i := 1) (N := some 46) (v := ?_) (a' := ?_) #[true, true, false, false, false] rfl rfl (by kernel_rfl) (fun _ _ _ h => h) (Or.inl ⟨by rfl, ?_⟩) hHeld ?_ ?_
  rotate_left
  · rintro w' ⟨s0_, s1_⟩
    go_simp
    with_reducible rfl
  rotate_left
  · simp only [Act.put, List.setIfInBounds_toArray, List.set_cons_zero, List.set_cons_succ, i64_w, i32_w]
    rfl
  refine one_ (i := 2) (N := some 47) #[true, true, true, false, false] rfl rfl (by kernel_rfl) (by decide) (fun K hK => ?_)
  refine goes_ Try.func14 (by kernel_rfl) rfl #[.agg #[.slice A0_0 l0_0.length c0_0]] (by rfl) rfl rfl (by (try simp only [List.map_toArray, List.map_cons, List.map_nil]); first | done | rfl | (simp only [List.length_drop, List.length_take]; rfl)) ?_
  (with_reducible refine (laws_toGraph.calls KE7 _ _ l0_0 l0_0 _ ?sidehr0_0 ?sidehc0_0 E7.out).mono ?_)
  (case sidehr0_0 => exact F_at (S := (fun _ => False)) FA0_0.out (by repeat (first | (with_reducible first | exact Kept.refl _ _ | apply Kept.alloc | apply Kept.drewN | apply Kept.drew) | exact Kept.refl _ _)) (fun _ _ hs_ => hs_.elim))
  (case sidehc0_0 => exact HC0_0.out)
  rintro e w44 ⟨v45, rfl, hov0__, hb_⟩
  refine ⟨_, rfl, ?_⟩
  (try clear hczgb1_0)
  (try clear hfzgb1_0)
  (try clear hczgb31_0)
  (try clear hfzgb31_0)
  obtain ⟨hk_, hs1_, hs2_, hw_⟩ := ev_kept (S := (fun _ => False)) HS.out HB.out hb_ (by repeat (first | (with_reducible first | exact Kept.refl _ _ | apply Kept.alloc | apply Kept.drewN | apply Kept.drew) | exact Kept.refl _ _))
  have hB_ := below_step (by repeat (first | (with_reducible first | exact HB.out | apply below_alloc | apply pw_below_drewN | apply below_drew1 | refine below_set ?_ GEgb1.out | refine below_set ?_ GEgb31.out) | exact HB.out)) hb_
  have n0_ := Aside0.mk (Kd.F_kept FA0_0.out hk_ (fun _ _ hs_ => hs_.elim))
  have n1_ := Aside0.mk (blk_below (g := gb1) (o := .cells #[.slice A0_0 l0_0.length c0_0] 30 (0, 0)) (by (with_reducible repeat (first | refine blk_drewN ?_ _ | refine blk_drew ?_ | refine blk_alloc ?_ _)); exact BKgb1.out) hb_)
  have n2_ := Aside0.mk (Kd.S_kept HS11.out hk_ (fun _ _ hs_ => hs_.elim))
  have n3_ := Aside0.mk (Kd.S_kept HS21.out hk_ (fun _ _ hs_ => hs_.elim))
  have n4_ := Aside0.mk (Kd.S_kept HS28.out hk_ (fun _ _ hs_ => hs_.elim))
  have n5_ := Aside0.mk (blk_below (g := gb31) (o := .cells #[.slice Ao29 l0_0.length co30] 34 (0, 0)) (by (with_reducible repeat (first | refine blk_drewN ?_ _ | refine blk_drew ?_ | refine blk_alloc ?_ _)); exact BKgb31.out) hb_)
  have n6_ := Aside0.mk (Kd.S_kept HS38.out hk_ (fun _ _ hs_ => hs_.elim))
  have ns_ := Aside0.mk (Nat.le_trans (Nat.le_trans hs1_ hs2_) (Nat.le_refl _))
  have nB_ := Aside0.mk hB_
  obtain ⟨lo46, hi47, c1_, c2_, c3_, h_⟩ := S_new hov0__ hs2_ hw_ hs1_
  have HS48 := Aside0.mk h_
  obtain ⟨Ao49, co50, eo_⟩ := Kd.S_slice HS48.out
  subst eo_
  have HCHS48 := Aside0.mk (Kd.S_reads' HS48.out).2.1
  clear h_ hov0__
  have nc_ := Aside0.mk (And.intro c1_ (And.intro c2_ CH.out))
  clear CH ns_
  have CH := nc_
  have ns_ := Aside0.mk c3_
  clear nc_ c1_ c2_ c3_
  clear HB HS FA0_0 BKgb1 HS11 HS21 HS28 BKgb31 HS38
  have FA0_0 := n0_
  have BKgb1 := n1_
  have HS11 := n2_
  have HS21 := n3_
  have HS28 := n4_
  have BKgb31 := n5_
  have HS38 := n6_
  have HB := nB_
  have HS := ns_
  clear nB_ ns_ n0_ n1_ n2_ n3_ n4_ n5_ n6_
  clear hk_ hs1_ hs2_ hw_ hB_ hb_
  refine hK.out _ _ ⟨(blk_cell BKgb1.out 0).trans rfl, (blk_cell BKgb31.out 0).trans rfl⟩ (fun hHeld => ?_)
  clear hK K
  refine norm_ (a' := ?_) ?_ ?_
  rotate_left
  · show Act.put _ (some 47) _ = _
    simp only [Act.put, List.setIfInBounds_toArray, List.set_cons_zero, List.set_cons_succ, i64_w, i32_w]
    rfl
  refine one_ (i := 3) (N := some 48) #[true, true, true, true, false] rfl rfl (by kernel_rfl) (by decide) (fun K hK => ?_)
  refine goes_ Try.func16 (by kernel_rfl) rfl #[.agg #[.slice Ao29 l0_0.length co30], .agg #[.slice Ao49 l0_0.length co50]] (by rfl) rfl rfl (by (try simp only [List.map_toArray, List.map_cons, List.map_nil]); first | done | rfl | (simp only [List.length_drop, List.length_take]; rfl)) ?_
  (with_reducible refine (laws_eqGraph.calls KE52 _ _ l0_0 _ _ l0_0 true _ ?sidehr0_0 ?sidehc0_0 ?sidehr1_0 ?sidehc1_0 E52.out).mono ?_)
  (case sidehr0_0 => exact S_now (S := (fun _ => False)) HS28.out (by repeat (first | (with_reducible first | exact Kept.refl _ _ | apply Kept.alloc | apply Kept.drewN | apply Kept.drew) | exact Kept.refl _ _)) (fun _ _ hs_ => hs_.elim))
  (case sidehc0_0 => exact HCHS28.out)
  (case sidehr1_0 => exact S_now (S := (fun _ => False)) HS48.out (by repeat (first | (with_reducible first | exact Kept.refl _ _ | apply Kept.alloc | apply Kept.drewN | apply Kept.drew) | exact Kept.refl _ _)) (fun _ _ hs_ => hs_.elim))
  (case sidehc1_0 => exact HCHS48.out)
  rintro e w51 ⟨rfl, hb_⟩
  refine ⟨_, rfl, ?_⟩
  (try clear hczgb1_0)
  (try clear hfzgb1_0)
  (try clear hczgb31_0)
  (try clear hfzgb31_0)
  obtain ⟨hk_, hs1_, hs2_, hw_⟩ := ev_kept (S := (fun _ => False)) HS.out HB.out hb_ (by repeat (first | (with_reducible first | exact Kept.refl _ _ | apply Kept.alloc | apply Kept.drewN | apply Kept.drew) | exact Kept.refl _ _))
  have hB_ := below_step (by repeat (first | (with_reducible first | exact HB.out | apply below_alloc | apply pw_below_drewN | apply below_drew1 | refine below_set ?_ GEgb1.out | refine below_set ?_ GEgb31.out) | exact HB.out)) hb_
  have n0_ := Aside0.mk (Kd.F_kept FA0_0.out hk_ (fun _ _ hs_ => hs_.elim))
  have n1_ := Aside0.mk (blk_below (g := gb1) (o := .cells #[.slice A0_0 l0_0.length c0_0] 30 (0, 0)) (by (with_reducible repeat (first | refine blk_drewN ?_ _ | refine blk_drew ?_ | refine blk_alloc ?_ _)); exact BKgb1.out) hb_)
  have n2_ := Aside0.mk (Kd.S_kept HS11.out hk_ (fun _ _ hs_ => hs_.elim))
  have n3_ := Aside0.mk (Kd.S_kept HS21.out hk_ (fun _ _ hs_ => hs_.elim))
  have n4_ := Aside0.mk (Kd.S_kept HS28.out hk_ (fun _ _ hs_ => hs_.elim))
  have n5_ := Aside0.mk (blk_below (g := gb31) (o := .cells #[.slice Ao29 l0_0.length co30] 34 (0, 0)) (by (with_reducible repeat (first | refine blk_drewN ?_ _ | refine blk_drew ?_ | refine blk_alloc ?_ _)); exact BKgb31.out) hb_)
  have n6_ := Aside0.mk (Kd.S_kept HS38.out hk_ (fun _ _ hs_ => hs_.elim))
  have n7_ := Aside0.mk (Kd.S_kept HS48.out hk_ (fun _ _ hs_ => hs_.elim))
  have ns_ := Aside0.mk (Nat.le_trans (Nat.le_trans hs1_ hs2_) (Nat.le_refl _))
  have nB_ := Aside0.mk hB_
  clear HB HS FA0_0 BKgb1 HS11 HS21 HS28 BKgb31 HS38 HS48
  have FA0_0 := n0_
  have BKgb1 := n1_
  have HS11 := n2_
  have HS21 := n3_
  have HS28 := n4_
  have BKgb31 := n5_
  have HS38 := n6_
  have HS48 := n7_
  have HB := nB_
  have HS := ns_
  clear nB_ ns_ n0_ n1_ n2_ n3_ n4_ n5_ n6_ n7_
  clear hk_ hs1_ hs2_ hw_ hB_ hb_
  refine hK.out _ _ ⟨(blk_cell BKgb1.out 0).trans rfl, (blk_cell BKgb31.out 0).trans rfl⟩ (fun hHeld => ?_)
  clear hK K
  refine norm_ (a' := ?_) ?_ ?_
  rotate_left
  · show Act.put _ (some 48) _ = _
    simp only [Act.put, List.setIfInBounds_toArray, List.set_cons_zero, List.set_cons_succ, i64_w, i32_w]
    rfl
  refine pure_ (i := 4) (N := some 49) (v := ?_) (a' := ?_) #[true, true, true, true, true] rfl rfl (by kernel_rfl) (fun _ _ _ h => h) (Or.inl ⟨by rfl, ?_⟩) ?_ ?_
  rotate_left
  · intro w'
    go_simp
    with_reducible rfl
  rotate_left
  · simp only [Act.put, List.setIfInBounds_toArray, List.set_cons_zero, List.set_cons_succ, i64_w, i32_w]
    rfl
  refine done_ (by kernel_rfl) ?_
  go_wp2_with (first | ((with_reducible refine gate_callee (f := 17) rfl ?_); refine goesL_ (some 52) rfl rfl Try.func17 (by kernel_rfl) rfl #[.agg #[.slice Ao29 l0_0.length co30], .int .i64 1] rfl (by (try simp only [List.map_toArray, List.map_cons, List.map_nil]); first | done | rfl | (simp only [List.length_drop, List.length_take]; rfl)) ?_; (with_reducible refine (laws_markGraph.calls KE56 (fun k_ => lo26 ≤ k_ ∧ k_ < hi27) _ l0_0 1 x54 x55 w _ ?sideB ?sideO E56.out).mono ?_); (case sideB => exact (by repeat (first | (with_reducible first | exact HB.out | apply below_alloc | apply pw_below_drewN | apply below_drew1 | refine below_set ?_ GEgb1.out | refine below_set ?_ GEgb31.out) | exact HB.out))); (case sideO => exact Kd.S_kept (S := (fun _ => False)) HS28.out (by repeat (first | (with_reducible first | exact Kept.refl _ _ | apply Kept.alloc | apply Kept.drewN | apply Kept.drew) | exact Kept.refl _ _)) (fun _ _ hs_ => hs_.elim)); rintro e w53 ⟨rfl, ho_, hb_, hm_⟩; refine ⟨_, rfl, ?_⟩; (try clear hczgb1_0); (try clear hfzgb1_0); (try clear hczgb31_0); (try clear hfzgb31_0); obtain ⟨hk_, hs1_⟩ := ev_mark (S := (fun k_ => lo26 ≤ k_ ∧ k_ < hi27)) HS.out hm_ (by repeat (first | (with_reducible first | exact Kept.refl _ _ | apply Kept.alloc | apply Kept.drewN | apply Kept.drew) | exact Kept.refl _ _)); have n0_ := Aside0.mk (Kd.F_kept FA0_0.out hk_ (fun k_ h_ hs_ => by have h1_ : k_ < s0 := h_; obtain ⟨g1_, g2_⟩ := hs_; have := CH.out; omega)); have n1_ := Aside0.mk (blk_kept BKgb1.out hk_ (fun hs_ => by obtain ⟨g1_, g2_⟩ := hs_; have := CH.out; omega)); have n2_ := Aside0.mk (Kd.S_kept HS11.out hk_ (fun k_ h_ hs_ => by obtain ⟨h1_, h2_⟩ := h_; obtain ⟨g1_, g2_⟩ := hs_; have := CH.out; omega)); have n3_ := Aside0.mk (Kd.S_kept HS21.out hk_ (fun k_ h_ hs_ => by obtain ⟨h1_, h2_⟩ := h_; obtain ⟨g1_, g2_⟩ := hs_; have := CH.out; omega)); have n4_ := Aside0.mk (blk_kept BKgb31.out hk_ (fun hs_ => by obtain ⟨g1_, g2_⟩ := hs_; have := CH.out; omega)); have n5_ := Aside0.mk (Kd.S_kept HS38.out hk_ (fun k_ h_ hs_ => by obtain ⟨h1_, h2_⟩ := h_; obtain ⟨g1_, g2_⟩ := hs_; have := CH.out; omega)); have n6_ := Aside0.mk (Kd.S_kept HS48.out hk_ (fun k_ h_ hs_ => by obtain ⟨h1_, h2_⟩ := h_; obtain ⟨g1_, g2_⟩ := hs_; have := CH.out; omega)); have nB_ := Aside0.mk hb_; have ns_ := Aside0.mk hs1_; clear HB HS FA0_0 BKgb1 HS11 HS21 BKgb31 HS38 HS48; have FA0_0 := n0_; have BKgb1 := n1_; have HS11 := n2_; have HS21 := n3_; have BKgb31 := n4_; have HS38 := n5_; have HS48 := n6_; have HB := nB_; have HS := ns_; clear nB_ ns_ n0_ n1_ n2_ n3_ n4_ n5_ n6_; have hl_ : l0_0.length = x55.length := (Kd.S_reads' ho_).1; have FM57 := Aside0.mk (Kd.S_F ho_); rw [hl_] at FM57; have HCHS28_ := Aside0.mk (show x55.length ≤ co30 by rw [← hl_]; exact HCHS28.out); have HLFM57 := Aside0.mk hl_; clear ho_ hm_ hb_ hk_ hs1_ hl_ HS28; have hczgb1_0 : w53.cell? ⟨gb1, 0, none⟩ = some (.slice A0_0 l0_0.length c0_0) := (blk_cell BKgb1.out 0).trans rfl; have hfzgb1_0 := blk_frozen BKgb1.out 0; have hczgb31_0 : w53.cell? ⟨gb31, 0, none⟩ = some (.slice Ao29 l0_0.length co30) := (blk_cell BKgb31.out 0).trans rfl; have hfzgb31_0 := blk_frozen BKgb31.out 0; have hnbgb1gb31 : gb1 ≠ gb31 := (by have := CH.out; omega); have hnbgb31gb1 : gb31 ≠ gb1 := (by have := CH.out; omega)) | ((with_reducible refine gate_callee (f := 11) rfl ?_); (try (refine gate_guard (by rfl) ?_; dsimp only)); refine goesL_ (some 58) rfl rfl Try.func11 (by kernel_rfl) rfl #[.slice Ao39 x15.length co40, .slice Ao22 x15.length co23] rfl (by (try simp only [List.map_toArray, List.map_cons, List.map_nil]); first | done | rfl | (simp only [List.length_drop, List.length_take]; rfl)) ?_; (with_reducible refine (laws_eqIntSS.calls KE42 _ _ x15 _ _ x15 true _ ?sidehr0 ?sidehc0 ?sidehr1 ?sidehc1 E42.out).mono ?_); (case sidehr0 => exact S_now (S := (fun _ => False)) HS38.out (by repeat (first | (with_reducible first | exact Kept.refl _ _ | apply Kept.alloc | apply Kept.drewN | apply Kept.drew) | exact Kept.refl _ _)) (fun _ _ hs_ => hs_.elim)); (case sidehc0 => exact HCHS38.out); (case sidehr1 => exact S_now (S := (fun _ => False)) HS21.out (by repeat (first | (with_reducible first | exact Kept.refl _ _ | apply Kept.alloc | apply Kept.drewN | apply Kept.drew) | exact Kept.refl _ _)) (fun _ _ hs_ => hs_.elim)); (case sidehc1 => exact HCHS21.out); rintro e w58 ⟨rfl, hd_⟩; refine ⟨_, rfl, ?_⟩; have hb_ := hd_.below; (try clear hczgb1_0); (try clear hfzgb1_0); (try clear hczgb31_0); (try clear hfzgb31_0); obtain ⟨hk_, hs1_, hs2_, hw_⟩ := ev_kept (S := (fun _ => False)) HS.out HB.out hb_ (by repeat (first | (with_reducible first | exact Kept.refl _ _ | apply Kept.alloc | apply Kept.drewN | apply Kept.drew) | exact Kept.refl _ _)); have hB_ := below_step (by repeat (first | (with_reducible first | exact HB.out | apply below_alloc | apply pw_below_drewN | apply below_drew1 | refine below_set ?_ GEgb1.out | refine below_set ?_ GEgb31.out) | exact HB.out)) hb_; have n0_ := Aside0.mk (Kd.F_kept FA0_0.out hk_ (fun _ _ hs_ => hs_.elim)); have n1_ := Aside0.mk (blk_below (g := gb1) (o := .cells #[.slice A0_0 l0_0.length c0_0] 30 (0, 0)) (by (with_reducible repeat (first | refine blk_drewN ?_ _ | refine blk_drew ?_ | refine blk_alloc ?_ _)); exact BKgb1.out) hb_); have n2_ := Aside0.mk (Kd.S_kept HS11.out hk_ (fun _ _ hs_ => hs_.elim)); have n3_ := Aside0.mk (Kd.S_kept HS21.out hk_ (fun _ _ hs_ => hs_.elim)); have n4_ := Aside0.mk (blk_below (g := gb31) (o := .cells #[.slice Ao29 l0_0.length co30] 34 (0, 0)) (by (with_reducible repeat (first | refine blk_drewN ?_ _ | refine blk_drew ?_ | refine blk_alloc ?_ _)); exact BKgb31.out) hb_); have n5_ := Aside0.mk (Kd.S_kept HS38.out hk_ (fun _ _ hs_ => hs_.elim)); have n6_ := Aside0.mk (Kd.S_kept HS48.out hk_ (fun _ _ hs_ => hs_.elim)); have n7_ := Aside0.mk (Kd.F_kept FM57.out hk_ (fun _ _ hs_ => hs_.elim)); have ns_ := Aside0.mk (Nat.le_trans (Nat.le_trans hs1_ hs2_) (Nat.le_refl _)); have nB_ := Aside0.mk hB_; clear HB HS FA0_0 BKgb1 HS11 HS21 BKgb31 HS38 HS48 FM57; have FA0_0 := n0_; have BKgb1 := n1_; have HS11 := n2_; have HS21 := n3_; have BKgb31 := n4_; have HS38 := n5_; have HS48 := n6_; have FM57 := n7_; have HB := nB_; have HS := ns_; clear nB_ ns_ n0_ n1_ n2_ n3_ n4_ n5_ n6_ n7_; clear hk_ hs1_ hs2_ hw_ hB_ hb_; clear hd_; have hczgb1_0 : w58.cell? ⟨gb1, 0, none⟩ = some (.slice A0_0 l0_0.length c0_0) := (blk_cell BKgb1.out 0).trans rfl; have hfzgb1_0 := blk_frozen BKgb1.out 0; have hczgb31_0 : w58.cell? ⟨gb31, 0, none⟩ = some (.slice Ao29 l0_0.length co30) := (blk_cell BKgb31.out 0).trans rfl; have hfzgb31_0 := blk_frozen BKgb31.out 0; have hnbgb1gb31 : gb1 ≠ gb31 := (by have := CH.out; omega); have hnbgb31gb1 : gb31 ≠ gb1 := (by have := CH.out; omega)) | ((with_reducible refine gate_callee (f := 18) rfl ?_); refine goesL_ (some 68) rfl rfl Try.func18 (by kernel_rfl) rfl #[.slice Ao39 x15.length co40, .int .i64 1] rfl (by (try simp only [List.map_toArray, List.map_cons, List.map_nil]); first | done | rfl | (simp only [List.length_drop, List.length_take]; rfl)) ?_; (with_reducible refine (laws_markIntSS.calls KE62 (fun k_ => lo36 ≤ k_ ∧ k_ < hi37) _ x15 1 x60 x61 w _ ?sideB ?sideO E62.out).mono ?_); (case sideB => exact (by repeat (first | (with_reducible first | exact HB.out | apply below_alloc | apply pw_below_drewN | apply below_drew1 | refine below_set ?_ GEgb1.out | refine below_set ?_ GEgb31.out) | exact HB.out))); (case sideO => exact Kd.S_kept (S := (fun _ => False)) HS38.out (by repeat (first | (with_reducible first | exact Kept.refl _ _ | apply Kept.alloc | apply Kept.drewN | apply Kept.drew) | exact Kept.refl _ _)) (fun _ _ hs_ => hs_.elim)); rintro e w59 ⟨rfl, ho_, hb_, hm_⟩; refine ⟨_, rfl, ?_⟩; (try clear hczgb1_0); (try clear hfzgb1_0); (try clear hczgb31_0); (try clear hfzgb31_0); obtain ⟨hk_, hs1_⟩ := ev_mark (S := (fun k_ => lo36 ≤ k_ ∧ k_ < hi37)) HS.out hm_ (by repeat (first | (with_reducible first | exact Kept.refl _ _ | apply Kept.alloc | apply Kept.drewN | apply Kept.drew) | exact Kept.refl _ _)); have n0_ := Aside0.mk (Kd.F_kept FA0_0.out hk_ (fun k_ h_ hs_ => by have h1_ : k_ < s0 := h_; obtain ⟨g1_, g2_⟩ := hs_; have := CH.out; omega)); have n1_ := Aside0.mk (blk_kept BKgb1.out hk_ (fun hs_ => by obtain ⟨g1_, g2_⟩ := hs_; have := CH.out; omega)); have n2_ := Aside0.mk (Kd.S_kept HS11.out hk_ (fun k_ h_ hs_ => by obtain ⟨h1_, h2_⟩ := h_; obtain ⟨g1_, g2_⟩ := hs_; have := CH.out; omega)); have n3_ := Aside0.mk (Kd.S_kept HS21.out hk_ (fun k_ h_ hs_ => by obtain ⟨h1_, h2_⟩ := h_; obtain ⟨g1_, g2_⟩ := hs_; have := CH.out; omega)); have n4_ := Aside0.mk (blk_kept BKgb31.out hk_ (fun hs_ => by obtain ⟨g1_, g2_⟩ := hs_; have := CH.out; omega)); have n5_ := Aside0.mk (Kd.S_kept HS48.out hk_ (fun k_ h_ hs_ => by obtain ⟨h1_, h2_⟩ := h_; obtain ⟨g1_, g2_⟩ := hs_; have := CH.out; omega)); have n6_ := Aside0.mk (Kd.F_kept FM57.out hk_ (fun k_ h_ hs_ => by obtain ⟨h1_, h2_⟩ := h_; obtain ⟨g1_, g2_⟩ := hs_; have := CH.out; omega)); have nB_ := Aside0.mk hb_; have ns_ := Aside0.mk hs1_; clear HB HS FA0_0 BKgb1 HS11 HS21 BKgb31 HS48 FM57; have FA0_0 := n0_; have BKgb1 := n1_; have HS11 := n2_; have HS21 := n3_; have BKgb31 := n4_; have HS48 := n5_; have FM57 := n6_; have HB := nB_; have HS := ns_; clear nB_ ns_ n0_ n1_ n2_ n3_ n4_ n5_ n6_; have hl_ : x15.length = x61.length := (Kd.S_reads' ho_).1; have FM63 := Aside0.mk (Kd.S_F ho_); rw [hl_] at FM63; have HCHS38_ := Aside0.mk (show x61.length ≤ co40 by rw [← hl_]; exact HCHS38.out); have HLFM63 := Aside0.mk hl_; clear ho_ hm_ hb_ hk_ hs1_ hl_ HS38; have hczgb1_0 : w59.cell? ⟨gb1, 0, none⟩ = some (.slice A0_0 l0_0.length c0_0) := (blk_cell BKgb1.out 0).trans rfl; have hfzgb1_0 := blk_frozen BKgb1.out 0; have hczgb31_0 : w59.cell? ⟨gb31, 0, none⟩ = some (.slice Ao29 l0_0.length co30) := (blk_cell BKgb31.out 0).trans rfl; have hfzgb31_0 := blk_frozen BKgb31.out 0; have hnbgb1gb31 : gb1 ≠ gb31 := (by have := CH.out; omega); have hnbgb31gb1 : gb31 ≠ gb1 := (by have := CH.out; omega)) | ((with_reducible refine gate_callee (f := 19) rfl ?_); refine goesL_ (some 71) rfl rfl Try.func19 (by kernel_rfl) rfl #[.slice Ao39 x15.length co40, .int .i64 1] rfl (by (try simp only [List.map_toArray, List.map_cons, List.map_nil]); first | done | rfl | (simp only [List.length_drop, List.length_take]; rfl)) ?_; refine calls_len (args' := #[.slice Ao39 x61.length co40, .int .i64 1]) (by simp only [HLFM63.out]) ?_; (with_reducible refine (laws_heldIntSS.calls KE65 _ _ x61 1 x60 _ ?sidehr0 ?sidehc0 E65.out).mono ?_); (case sidehr0 => exact F_at (S := (fun _ => False)) FM63.out (by repeat (first | (with_reducible first | exact Kept.refl _ _ | apply Kept.alloc | apply Kept.drewN | apply Kept.drew) | exact Kept.refl _ _)) (fun _ _ hs_ => hs_.elim)); (case sidehc0 => exact HCHS38_.out); rintro e w64 ⟨rfl, hd_⟩; refine ⟨_, rfl, ?_⟩; have hb_ := hd_.below; (try clear hczgb1_0); (try clear hfzgb1_0); (try clear hczgb31_0); (try clear hfzgb31_0); obtain ⟨hk_, hs1_, hs2_, hw_⟩ := ev_kept (S := (fun _ => False)) HS.out HB.out hb_ (by repeat (first | (with_reducible first | exact Kept.refl _ _ | apply Kept.alloc | apply Kept.drewN | apply Kept.drew) | exact Kept.refl _ _)); have hB_ := below_step (by repeat (first | (with_reducible first | exact HB.out | apply below_alloc | apply pw_below_drewN | apply below_drew1 | refine below_set ?_ GEgb1.out | refine below_set ?_ GEgb31.out) | exact HB.out)) hb_; have n0_ := Aside0.mk (Kd.F_kept FA0_0.out hk_ (fun _ _ hs_ => hs_.elim)); have n1_ := Aside0.mk (blk_below (g := gb1) (o := .cells #[.slice A0_0 l0_0.length c0_0] 30 (0, 0)) (by (with_reducible repeat (first | refine blk_drewN ?_ _ | refine blk_drew ?_ | refine blk_alloc ?_ _)); exact BKgb1.out) hb_); have n2_ := Aside0.mk (Kd.S_kept HS11.out hk_ (fun _ _ hs_ => hs_.elim)); have n3_ := Aside0.mk (Kd.S_kept HS21.out hk_ (fun _ _ hs_ => hs_.elim)); have n4_ := Aside0.mk (blk_below (g := gb31) (o := .cells #[.slice Ao29 l0_0.length co30] 34 (0, 0)) (by (with_reducible repeat (first | refine blk_drewN ?_ _ | refine blk_drew ?_ | refine blk_alloc ?_ _)); exact BKgb31.out) hb_); have n5_ := Aside0.mk (Kd.S_kept HS48.out hk_ (fun _ _ hs_ => hs_.elim)); have n6_ := Aside0.mk (Kd.F_kept FM57.out hk_ (fun _ _ hs_ => hs_.elim)); have n7_ := Aside0.mk (Kd.F_kept FM63.out hk_ (fun _ _ hs_ => hs_.elim)); have ns_ := Aside0.mk (Nat.le_trans (Nat.le_trans hs1_ hs2_) (Nat.le_refl _)); have nB_ := Aside0.mk hB_; clear HB HS FA0_0 BKgb1 HS11 HS21 BKgb31 HS48 FM57 FM63; have FA0_0 := n0_; have BKgb1 := n1_; have HS11 := n2_; have HS21 := n3_; have BKgb31 := n4_; have HS48 := n5_; have FM57 := n6_; have FM63 := n7_; have HB := nB_; have HS := ns_; clear nB_ ns_ n0_ n1_ n2_ n3_ n4_ n5_ n6_ n7_; clear hk_ hs1_ hs2_ hw_ hB_ hb_; clear hd_; have hczgb1_0 : w64.cell? ⟨gb1, 0, none⟩ = some (.slice A0_0 l0_0.length c0_0) := (blk_cell BKgb1.out 0).trans rfl; have hfzgb1_0 := blk_frozen BKgb1.out 0; have hczgb31_0 : w64.cell? ⟨gb31, 0, none⟩ = some (.slice Ao29 l0_0.length co30) := (blk_cell BKgb31.out 0).trans rfl; have hfzgb31_0 := blk_frozen BKgb31.out 0; have hnbgb1gb31 : gb1 ≠ gb31 := (by have := CH.out; omega); have hnbgb31gb1 : gb31 ≠ gb1 := (by have := CH.out; omega)) | ((with_reducible refine gate_callee (f := 14) rfl ?_); refine goesL_ (some 79) rfl rfl Try.func14 (by kernel_rfl) rfl #[.agg #[.slice A0_0 l0_0.length c0_0]] rfl (by (try simp only [List.map_toArray, List.map_cons, List.map_nil]); first | done | rfl | (simp only [List.length_drop, List.length_take]; rfl)) ?_; (with_reducible refine (laws_toGraph.calls KE7 _ _ l0_0 l0_0 _ ?sidehr0_0 ?sidehc0_0 E7.out).mono ?_); (case sidehr0_0 => exact F_at (S := (fun _ => False)) FA0_0.out (by repeat (first | (with_reducible first | exact Kept.refl _ _ | apply Kept.alloc | apply Kept.drewN | apply Kept.drew) | exact Kept.refl _ _)) (fun _ _ hs_ => hs_.elim)); (case sidehc0_0 => exact HC0_0.out); rintro e w66 ⟨v67, rfl, hov0__, hb_⟩; refine ⟨_, rfl, ?_⟩; (try clear hczgb1_0); (try clear hfzgb1_0); (try clear hczgb31_0); (try clear hfzgb31_0); obtain ⟨hk_, hs1_, hs2_, hw_⟩ := ev_kept (S := (fun _ => False)) HS.out HB.out hb_ (by repeat (first | (with_reducible first | exact Kept.refl _ _ | apply Kept.alloc | apply Kept.drewN | apply Kept.drew) | exact Kept.refl _ _)); have hB_ := below_step (by repeat (first | (with_reducible first | exact HB.out | apply below_alloc | apply pw_below_drewN | apply below_drew1 | refine below_set ?_ GEgb1.out | refine below_set ?_ GEgb31.out) | exact HB.out)) hb_; have n0_ := Aside0.mk (Kd.F_kept FA0_0.out hk_ (fun _ _ hs_ => hs_.elim)); have n1_ := Aside0.mk (blk_below (g := gb1) (o := .cells #[.slice A0_0 l0_0.length c0_0] 30 (0, 0)) (by (with_reducible repeat (first | refine blk_drewN ?_ _ | refine blk_drew ?_ | refine blk_alloc ?_ _)); exact BKgb1.out) hb_); have n2_ := Aside0.mk (Kd.S_kept HS11.out hk_ (fun _ _ hs_ => hs_.elim)); have n3_ := Aside0.mk (Kd.S_kept HS21.out hk_ (fun _ _ hs_ => hs_.elim)); have n4_ := Aside0.mk (blk_below (g := gb31) (o := .cells #[.slice Ao29 l0_0.length co30] 34 (0, 0)) (by (with_reducible repeat (first | refine blk_drewN ?_ _ | refine blk_drew ?_ | refine blk_alloc ?_ _)); exact BKgb31.out) hb_); have n5_ := Aside0.mk (Kd.S_kept HS48.out hk_ (fun _ _ hs_ => hs_.elim)); have n6_ := Aside0.mk (Kd.F_kept FM57.out hk_ (fun _ _ hs_ => hs_.elim)); have n7_ := Aside0.mk (Kd.F_kept FM63.out hk_ (fun _ _ hs_ => hs_.elim)); have ns_ := Aside0.mk (Nat.le_trans (Nat.le_trans hs1_ hs2_) (Nat.le_refl _)); have nB_ := Aside0.mk hB_; obtain ⟨lo68, hi69, c1_, c2_, c3_, h_⟩ := S_new hov0__ hs2_ hw_ hs1_; have HS70 := Aside0.mk h_; obtain ⟨Ao71, co72, eo_⟩ := Kd.S_slice HS70.out; subst eo_; have HCHS70 := Aside0.mk (Kd.S_reads' HS70.out).2.1; clear h_ hov0__; have nc_ := Aside0.mk (And.intro c1_ (And.intro c2_ CH.out)); clear CH ns_; have CH := nc_; have ns_ := Aside0.mk c3_; clear nc_ c1_ c2_ c3_; clear HB HS FA0_0 BKgb1 HS11 HS21 BKgb31 HS48 FM57 FM63; have FA0_0 := n0_; have BKgb1 := n1_; have HS11 := n2_; have HS21 := n3_; have BKgb31 := n4_; have HS48 := n5_; have FM57 := n6_; have FM63 := n7_; have HB := nB_; have HS := ns_; clear nB_ ns_ n0_ n1_ n2_ n3_ n4_ n5_ n6_ n7_; clear hk_ hs1_ hs2_ hw_ hB_ hb_; have hczgb1_0 : w66.cell? ⟨gb1, 0, none⟩ = some (.slice A0_0 l0_0.length c0_0) := (blk_cell BKgb1.out 0).trans rfl; have hfzgb1_0 := blk_frozen BKgb1.out 0; have hczgb31_0 : w66.cell? ⟨gb31, 0, none⟩ = some (.slice Ao29 l0_0.length co30) := (blk_cell BKgb31.out 0).trans rfl; have hfzgb31_0 := blk_frozen BKgb31.out 0; have hnbgb1gb31 : gb1 ≠ gb31 := (by have := CH.out; omega); have hnbgb31gb1 : gb31 ≠ gb1 := (by have := CH.out; omega)) | ((with_reducible refine gate_callee (f := 15) rfl ?_); refine goesL_ (some 81) rfl rfl Try.func15 (by kernel_rfl) rfl #[.agg #[.slice Ao71 l0_0.length co72], .int .i64 a1] rfl (by (try simp only [List.map_toArray, List.map_cons, List.map_nil]); first | done | rfl | (simp only [List.length_drop, List.length_take]; rfl)) ?_; (with_reducible refine (impl_LaplaceOf.calls KE34 _ _ l0_0 a1 x15 x16 _ ?sidehr0_0 ?sidehc0_0 E34.out).mono ?_); (case sidehr0_0 => exact S_now (S := (fun _ => False)) HS70.out (by repeat (first | (with_reducible first | exact Kept.refl _ _ | apply Kept.alloc | apply Kept.drewN | apply Kept.drew) | exact Kept.refl _ _)) (fun _ _ hs_ => hs_.elim)); (case sidehc0_0 => exact HCHS70.out); rintro e w73 ⟨v74, rfl, hov0__, hb_⟩; refine ⟨_, rfl, ?_⟩; (try clear hczgb1_0); (try clear hfzgb1_0); (try clear hczgb31_0); (try clear hfzgb31_0); obtain ⟨hk_, hs1_, hs2_, hw_⟩ := ev_kept (S := (fun _ => False)) HS.out HB.out hb_ (by repeat (first | (with_reducible first | exact Kept.refl _ _ | apply Kept.alloc | apply Kept.drewN | apply Kept.drew) | exact Kept.refl _ _)); have hB_ := below_step (by repeat (first | (with_reducible first | exact HB.out | apply below_alloc | apply pw_below_drewN | apply below_drew1 | refine below_set ?_ GEgb1.out | refine below_set ?_ GEgb31.out) | exact HB.out)) hb_; have n0_ := Aside0.mk (Kd.F_kept FA0_0.out hk_ (fun _ _ hs_ => hs_.elim)); have n1_ := Aside0.mk (blk_below (g := gb1) (o := .cells #[.slice A0_0 l0_0.length c0_0] 30 (0, 0)) (by (with_reducible repeat (first | refine blk_drewN ?_ _ | refine blk_drew ?_ | refine blk_alloc ?_ _)); exact BKgb1.out) hb_); have n2_ := Aside0.mk (Kd.S_kept HS11.out hk_ (fun _ _ hs_ => hs_.elim)); have n3_ := Aside0.mk (Kd.S_kept HS21.out hk_ (fun _ _ hs_ => hs_.elim)); have n4_ := Aside0.mk (blk_below (g := gb31) (o := .cells #[.slice Ao29 l0_0.length co30] 34 (0, 0)) (by (with_reducible repeat (first | refine blk_drewN ?_ _ | refine blk_drew ?_ | refine blk_alloc ?_ _)); exact BKgb31.out) hb_); have n5_ := Aside0.mk (Kd.S_kept HS48.out hk_ (fun _ _ hs_ => hs_.elim)); have n6_ := Aside0.mk (Kd.F_kept FM57.out hk_ (fun _ _ hs_ => hs_.elim)); have n7_ := Aside0.mk (Kd.F_kept FM63.out hk_ (fun _ _ hs_ => hs_.elim)); have n8_ := Aside0.mk (Kd.S_kept HS70.out hk_ (fun _ _ hs_ => hs_.elim)); have ns_ := Aside0.mk (Nat.le_trans (Nat.le_trans hs1_ hs2_) (Nat.le_refl _)); have nB_ := Aside0.mk hB_; obtain ⟨lo75, hi76, c1_, c2_, c3_, h_⟩ := S_new hov0__ hs2_ hw_ hs1_; have HS77 := Aside0.mk h_; obtain ⟨Ao78, co79, eo_⟩ := Kd.S_slice HS77.out; subst eo_; have HCHS77 := Aside0.mk (Kd.S_reads' HS77.out).2.1; clear h_ hov0__; have nc_ := Aside0.mk (And.intro c1_ (And.intro c2_ CH.out)); clear CH ns_; have CH := nc_; have ns_ := Aside0.mk c3_; clear nc_ c1_ c2_ c3_; clear HB HS FA0_0 BKgb1 HS11 HS21 BKgb31 HS48 FM57 FM63 HS70; have FA0_0 := n0_; have BKgb1 := n1_; have HS11 := n2_; have HS21 := n3_; have BKgb31 := n4_; have HS48 := n5_; have FM57 := n6_; have FM63 := n7_; have HS70 := n8_; have HB := nB_; have HS := ns_; clear nB_ ns_ n0_ n1_ n2_ n3_ n4_ n5_ n6_ n7_ n8_; clear hk_ hs1_ hs2_ hw_ hB_ hb_; have hczgb1_0 : w73.cell? ⟨gb1, 0, none⟩ = some (.slice A0_0 l0_0.length c0_0) := (blk_cell BKgb1.out 0).trans rfl; have hfzgb1_0 := blk_frozen BKgb1.out 0; have hczgb31_0 : w73.cell? ⟨gb31, 0, none⟩ = some (.slice Ao29 l0_0.length co30) := (blk_cell BKgb31.out 0).trans rfl; have hfzgb31_0 := blk_frozen BKgb31.out 0; have hnbgb1gb31 : gb1 ≠ gb31 := (by have := CH.out; omega); have hnbgb31gb1 : gb31 ≠ gb1 := (by have := CH.out; omega)) | ((with_reducible refine gate_callee (f := 11) rfl ?_); refine goesL_ (some 86) rfl rfl Try.func11 (by kernel_rfl) rfl #[.slice Ao78 x15.length co79, .slice Ao22 x15.length co23] rfl (by (try simp only [List.map_toArray, List.map_cons, List.map_nil]); first | done | rfl | (simp only [List.length_drop, List.length_take]; rfl)) ?_; (with_reducible refine (laws_eqIntSS.calls KE42 _ _ x15 _ _ x15 true _ ?sidehr0 ?sidehc0 ?sidehr1 ?sidehc1 E42.out).mono ?_); (case sidehr0 => exact S_now (S := (fun _ => False)) HS77.out (by repeat (first | (with_reducible first | exact Kept.refl _ _ | apply Kept.alloc | apply Kept.drewN | apply Kept.drew) | exact Kept.refl _ _)) (fun _ _ hs_ => hs_.elim)); (case sidehc0 => exact HCHS77.out); (case sidehr1 => exact S_now (S := (fun _ => False)) HS21.out (by repeat (first | (with_reducible first | exact Kept.refl _ _ | apply Kept.alloc | apply Kept.drewN | apply Kept.drew) | exact Kept.refl _ _)) (fun _ _ hs_ => hs_.elim)); (case sidehc1 => exact HCHS21.out); rintro e w80 ⟨rfl, hd_⟩; refine ⟨_, rfl, ?_⟩; have hb_ := hd_.below; (try clear hczgb1_0); (try clear hfzgb1_0); (try clear hczgb31_0); (try clear hfzgb31_0); obtain ⟨hk_, hs1_, hs2_, hw_⟩ := ev_kept (S := (fun _ => False)) HS.out HB.out hb_ (by repeat (first | (with_reducible first | exact Kept.refl _ _ | apply Kept.alloc | apply Kept.drewN | apply Kept.drew) | exact Kept.refl _ _)); have hB_ := below_step (by repeat (first | (with_reducible first | exact HB.out | apply below_alloc | apply pw_below_drewN | apply below_drew1 | refine below_set ?_ GEgb1.out | refine below_set ?_ GEgb31.out) | exact HB.out)) hb_; have n0_ := Aside0.mk (Kd.F_kept FA0_0.out hk_ (fun _ _ hs_ => hs_.elim)); have n1_ := Aside0.mk (blk_below (g := gb1) (o := .cells #[.slice A0_0 l0_0.length c0_0] 30 (0, 0)) (by (with_reducible repeat (first | refine blk_drewN ?_ _ | refine blk_drew ?_ | refine blk_alloc ?_ _)); exact BKgb1.out) hb_); have n2_ := Aside0.mk (Kd.S_kept HS11.out hk_ (fun _ _ hs_ => hs_.elim)); have n3_ := Aside0.mk (Kd.S_kept HS21.out hk_ (fun _ _ hs_ => hs_.elim)); have n4_ := Aside0.mk (blk_below (g := gb31) (o := .cells #[.slice Ao29 l0_0.length co30] 34 (0, 0)) (by (with_reducible repeat (first | refine blk_drewN ?_ _ | refine blk_drew ?_ | refine blk_alloc ?_ _)); exact BKgb31.out) hb_); have n5_ := Aside0.mk (Kd.S_kept HS48.out hk_ (fun _ _ hs_ => hs_.elim)); have n6_ := Aside0.mk (Kd.F_kept FM57.out hk_ (fun _ _ hs_ => hs_.elim)); have n7_ := Aside0.mk (Kd.F_kept FM63.out hk_ (fun _ _ hs_ => hs_.elim)); have n8_ := Aside0.mk (Kd.S_kept HS70.out hk_ (fun _ _ hs_ => hs_.elim)); have n9_ := Aside0.mk (Kd.S_kept HS77.out hk_ (fun _ _ hs_ => hs_.elim)); have ns_ := Aside0.mk (Nat.le_trans (Nat.le_trans hs1_ hs2_) (Nat.le_refl _)); have nB_ := Aside0.mk hB_; clear HB HS FA0_0 BKgb1 HS11 HS21 BKgb31 HS48 FM57 FM63 HS70 HS77; have FA0_0 := n0_; have BKgb1 := n1_; have HS11 := n2_; have HS21 := n3_; have BKgb31 := n4_; have HS48 := n5_; have FM57 := n6_; have FM63 := n7_; have HS70 := n8_; have HS77 := n9_; have HB := nB_; have HS := ns_; clear nB_ ns_ n0_ n1_ n2_ n3_ n4_ n5_ n6_ n7_ n8_ n9_; clear hk_ hs1_ hs2_ hw_ hB_ hb_; clear hd_; have hczgb1_0 : w80.cell? ⟨gb1, 0, none⟩ = some (.slice A0_0 l0_0.length c0_0) := (blk_cell BKgb1.out 0).trans rfl; have hfzgb1_0 := blk_frozen BKgb1.out 0; have hczgb31_0 : w80.cell? ⟨gb31, 0, none⟩ = some (.slice Ao29 l0_0.length co30) := (blk_cell BKgb31.out 0).trans rfl; have hfzgb31_0 := blk_frozen BKgb31.out 0; have hnbgb1gb31 : gb1 ≠ gb31 := (by have := CH.out; omega); have hnbgb31gb1 : gb31 ≠ gb1 := (by have := CH.out; omega)) | ((with_reducible refine gate_callee (f := 19) rfl ?_); refine goesL_ (some 95) rfl rfl Try.func19 (by kernel_rfl) rfl #[.slice Ao39 x15.length co40, .int .i64 1] rfl (by (try simp only [List.map_toArray, List.map_cons, List.map_nil]); first | done | rfl | (simp only [List.length_drop, List.length_take]; rfl)) ?_; refine calls_len (args' := #[.slice Ao39 x61.length co40, .int .i64 1]) (by simp only [HLFM63.out]) ?_; (with_reducible refine (laws_heldIntSS.calls KE65 _ _ x61 1 x60 _ ?sidehr0 ?sidehc0 E65.out).mono ?_); (case sidehr0 => exact F_at (S := (fun _ => False)) FM63.out (by repeat (first | (with_reducible first | exact Kept.refl _ _ | apply Kept.alloc | apply Kept.drewN | apply Kept.drew) | exact Kept.refl _ _)) (fun _ _ hs_ => hs_.elim)); (case sidehc0 => exact HCHS38_.out); rintro e w81 ⟨rfl, hd_⟩; refine ⟨_, rfl, ?_⟩; have hb_ := hd_.below; (try clear hczgb1_0); (try clear hfzgb1_0); (try clear hczgb31_0); (try clear hfzgb31_0); obtain ⟨hk_, hs1_, hs2_, hw_⟩ := ev_kept (S := (fun _ => False)) HS.out HB.out hb_ (by repeat (first | (with_reducible first | exact Kept.refl _ _ | apply Kept.alloc | apply Kept.drewN | apply Kept.drew) | exact Kept.refl _ _)); have hB_ := below_step (by repeat (first | (with_reducible first | exact HB.out | apply below_alloc | apply pw_below_drewN | apply below_drew1 | refine below_set ?_ GEgb1.out | refine below_set ?_ GEgb31.out) | exact HB.out)) hb_; have n0_ := Aside0.mk (Kd.F_kept FA0_0.out hk_ (fun _ _ hs_ => hs_.elim)); have n1_ := Aside0.mk (blk_below (g := gb1) (o := .cells #[.slice A0_0 l0_0.length c0_0] 30 (0, 0)) (by (with_reducible repeat (first | refine blk_drewN ?_ _ | refine blk_drew ?_ | refine blk_alloc ?_ _)); exact BKgb1.out) hb_); have n2_ := Aside0.mk (Kd.S_kept HS11.out hk_ (fun _ _ hs_ => hs_.elim)); have n3_ := Aside0.mk (Kd.S_kept HS21.out hk_ (fun _ _ hs_ => hs_.elim)); have n4_ := Aside0.mk (blk_below (g := gb31) (o := .cells #[.slice Ao29 l0_0.length co30] 34 (0, 0)) (by (with_reducible repeat (first | refine blk_drewN ?_ _ | refine blk_drew ?_ | refine blk_alloc ?_ _)); exact BKgb31.out) hb_); have n5_ := Aside0.mk (Kd.S_kept HS48.out hk_ (fun _ _ hs_ => hs_.elim)); have n6_ := Aside0.mk (Kd.F_kept FM57.out hk_ (fun _ _ hs_ => hs_.elim)); have n7_ := Aside0.mk (Kd.F_kept FM63.out hk_ (fun _ _ hs_ => hs_.elim)); have n8_ := Aside0.mk (Kd.S_kept HS70.out hk_ (fun _ _ hs_ => hs_.elim)); have n9_ := Aside0.mk (Kd.S_kept HS77.out hk_ (fun _ _ hs_ => hs_.elim)); have ns_ := Aside0.mk (Nat.le_trans (Nat.le_trans hs1_ hs2_) (Nat.le_refl _)); have nB_ := Aside0.mk hB_; clear HB HS FA0_0 BKgb1 HS11 HS21 BKgb31 HS48 FM57 FM63 HS70 HS77; have FA0_0 := n0_; have BKgb1 := n1_; have HS11 := n2_; have HS21 := n3_; have BKgb31 := n4_; have HS48 := n5_; have FM57 := n6_; have FM63 := n7_; have HS70 := n8_; have HS77 := n9_; have HB := nB_; have HS := ns_; clear nB_ ns_ n0_ n1_ n2_ n3_ n4_ n5_ n6_ n7_ n8_ n9_; clear hk_ hs1_ hs2_ hw_ hB_ hb_; clear hd_; have hczgb1_0 : w81.cell? ⟨gb1, 0, none⟩ = some (.slice A0_0 l0_0.length c0_0) := (blk_cell BKgb1.out 0).trans rfl; have hfzgb1_0 := blk_frozen BKgb1.out 0; have hczgb31_0 : w81.cell? ⟨gb31, 0, none⟩ = some (.slice Ao29 l0_0.length co30) := (blk_cell BKgb31.out 0).trans rfl; have hfzgb31_0 := blk_frozen BKgb31.out 0; have hnbgb1gb31 : gb1 ≠ gb31 := (by have := CH.out; omega); have hnbgb31gb1 : gb31 ≠ gb1 := (by have := CH.out; omega)))
  go_ret
  exact ⟨by first | rfl | (simp; done), by repeat (first | (with_reducible first | exact HB.out | apply below_alloc | apply pw_below_drewN | apply below_drew1 | refine below_set ?_ GEgb1.out | refine below_set ?_ GEgb31.out) | exact HB.out)⟩

end Go.Proofs.Ythbigmlpgoobiaa.P
namespace Go.Proofs.Ythbigmlpgoobiaa.M
open Go.RowKit Go.Proofs.Ythbigmlpgoobiaa.P Go.Proofs.Ythbigmlpgoobiaa.In Go.Proofs.YthbigmlpgoobiaaW.PrintWords Go.Proofs.YthbigmlpgoobiaaW.PrintLast
set_option linter.unusedVariables false
set_option linter.unusedSimpArgs false
/-! numbers -/
theorem wrap_id {x : Int} (h : -9223372036854775808 ≤ x ∧ x ≤ 9223372036854775807) : wrap64 x = x := by unfold wrap64; omega
theorem wrap_nat {n : Nat} (h : n < 9223372036854775807) : wrap64 ((n : Int) + 1) = ((n + 1 : Nat) : Int) := by unfold wrap64; omega
theorem rd_at {l : List Int} {n : Nat} (h : n < l.length) : rd l (n : Int) = l[n] := by simp [rd, h]
theorem rdL_at {l : List (List Int)} {n : Nat} (h : n < l.length) : rd_L1 l (n : Int) = l[n] := by simp [rd_L1, h]
theorem _root_.Go.Proofs.YthbigmlpgoobiaaW.PrintWords.Ev.val {α : Type} {g : Nat → Option α} {r r' : α} (h : Ev g r) (e : r = r') : Ev g r' := e ▸ h
theorem _root_.Go.Proofs.YthbigmlpgoobiaaW.PrintWords.Ev.const {α : Type} {g : Nat → Option α} {r : α} (h : ∀ k, g k = some r) : Ev g r := ⟨0, fun k _ => h k⟩
theorem _root_.Go.Proofs.YthbigmlpgoobiaaW.PrintWords.Ev.const1 {α : Type} {g : Nat → Option α} {r : α} (h : ∀ k, g (k + 1) = some r) : Ev g r := Ev.step (f := fun _ => some r) h (Ev.const fun _ => rfl)
theorem _root_.Go.Proofs.YthbigmlpgoobiaaW.PrintWords.Ev.succ {α : Type} {g : Nat → Option α} {r : α} (h : Ev (fun k => g (k + 1)) r) : Ev g r := Ev.step (f := fun k => g (k + 1)) (fun _ => rfl) h
theorem _root_.Go.Proofs.YthbigmlpgoobiaaW.PrintWords.Ev.uniq {α : Type} {g : Nat → Option α} {r r' : α} (h : Ev g r) (h' : Ev g r') : r = r' := by
  obtain ⟨K, hK⟩ := h
  obtain ⟨K', hK'⟩ := h'
  have := (hK (max K K') (Nat.le_max_left _ _)).symm.trans (hK' (max K K') (Nat.le_max_right _ _))
  exact Option.some.inj this
theorem _root_.Go.Proofs.YthbigmlpgoobiaaW.PrintWords.Ev.bind0 {α β : Type} {g : Option α} {f : Nat → α → Option β} {a : α} {r : β} (h : g = some a) (k : Ev (fun n => f n a) r) : Ev (fun n => g.bind (f n)) r := by
  subst h; exact k
theorem _root_.Go.Proofs.YthbigmlpgoobiaaW.PrintWords.Ev.pos {α : Type} {g f : Nat → Option α} {r : α} {c : Prop} [Decidable c] (h : c) (k : Ev g r) : Ev (fun n => if c then g n else f n) r := by
  simp only [if_pos h]; exact k
theorem _root_.Go.Proofs.YthbigmlpgoobiaaW.PrintWords.Ev.neg {α : Type} {g f : Nat → Option α} {r : α} {c : Prop} [Decidable c] (h : ¬ c) (k : Ev f r) : Ev (fun n => if c then g n else f n) r := by
  simp only [if_neg h]; exact k

/-! copies -/
theorem toIntS_l0 (l : List Int) (hl : l.length < 9223372036854775807) : ∀ (d i : Nat) (y : List Int), l.length - i = d → i ≤ l.length → y.length = l.length → y.take i = l.take i → Ev (fun k => laws_toIntS.l0 k l y i) l := by
  intro d
  induction d with
  | zero =>
    intro i y hd hi hy ht
    have : i = l.length := by omega
    subst this
    refine Ev.const1 (fun k => ?_)
    simp only [laws_toIntS.l0]
    rw [if_neg (by omega)]
    rw [List.take_of_length_le (by omega), List.take_of_length_le (by omega)] at ht
    rw [ht]
  | succ d ih =>
    intro i y hd hi hy ht
    have hlt : i < l.length := by omega
    refine Ev.step (f := fun k => laws_toIntS.l0 k l (y.set i l[i]) (i + 1 : Nat)) (fun k => ?_) (ih (i + 1) (y.set i l[i]) (by omega) (by omega) (by rw [List.length_set]; exact hy) ?_)
    · simp only [laws_toIntS.l0]
      rw [if_pos (by omega), if_pos (by omega), if_pos (by omega), wrap_nat (by omega), rd_at hlt, Int.toNat_natCast]
    · rw [List.take_succ_eq_append_getElem (by rw [List.length_set]; omega), List.take_succ_eq_append_getElem hlt, List.take_set_of_le (Nat.le_refl _), ht, List.getElem_set_self]
theorem toIntS (l : List Int) (hl : l.length ≤ 35184372088832) : Ev (fun k => laws_toIntS.f k l) l := by
  unfold laws_toIntS.f
  refine Ev.pos (by omega) (Ev.pos (by omega) ?_)
  exact toIntS_l0 l (by omega) l.length 0 _ (by omega) (by omega) (by simp) (by simp)
theorem toIntSS_l0 (l : List (List Int)) (hl : l.length < 9223372036854775807) (hr : ∀ row ∈ l, row.length ≤ 35184372088832) : ∀ (d i : Nat) (y : List (List Int)), l.length - i = d → i ≤ l.length → y.length = l.length → y.take i = l.take i → Ev (fun k => laws_toIntSS.l0 k l y i) l := by
  intro d
  induction d with
  | zero =>
    intro i y hd hi hy ht
    have : i = l.length := by omega
    subst this
    refine Ev.const1 (fun k => ?_)
    simp only [laws_toIntSS.l0]
    rw [if_neg (by omega)]
    rw [List.take_of_length_le (by omega), List.take_of_length_le (by omega)] at ht
    rw [ht]
  | succ d ih =>
    intro i y hd hi hy ht
    have hlt : i < l.length := by omega
    refine Ev.step (f := fun k => (laws_toIntS.f k l[i]).bind fun t => laws_toIntSS.l0 k l (y.set i t) (i + 1 : Nat)) (fun k => ?_) (Ev.bind (toIntS l[i] (hr _ (List.getElem_mem hlt))) (ih (i + 1) (y.set i l[i]) (by omega) (by omega) (by rw [List.length_set]; exact hy) ?_))
    · simp only [laws_toIntSS.l0]
      rw [if_pos (by omega), if_pos (by omega), wrap_nat (by omega), rdL_at hlt, Int.toNat_natCast]
      congr 1
      funext t
      rw [if_pos (by omega)]
    · rw [List.take_succ_eq_append_getElem (by rw [List.length_set]; omega), List.take_succ_eq_append_getElem hlt, List.take_set_of_le (Nat.le_refl _), ht, List.getElem_set_self]
theorem toIntSS (l : List (List Int)) (hl : l.length ≤ 11728124029610) (hr : ∀ row ∈ l, row.length ≤ 35184372088832) : Ev (fun k => laws_toIntSS.f k l) l := by
  unfold laws_toIntSS.f
  refine Ev.pos (by omega) (Ev.pos (by omega) ?_)
  exact toIntSS_l0 l (by omega) hr l.length 0 _ (by omega) (by omega) (by simp) (by simp)
/-- A graph that is small enough for a law to look at it. -/
def small (l : List (List Int)) : Prop := l.length ≤ 1048576 ∧ ∀ row ∈ l, row.length ≤ 1048576
theorem toGraph (l : List (List Int)) (h : small l) : Ev (fun k => laws_toGraph.f k l) l := by
  unfold laws_toGraph.f
  exact Ev.bind (toIntSS l (by have := h.1; omega) (fun row hr => by have := h.2 row hr; omega)) (Ev.now _)

/-! sizes -/
theorem szIntSS_l0 (l : List (List Int)) (hl : okSS l) : ∀ (d i : Nat) (a : Int), l.length - i = d → i ≤ l.length → 0 ≤ a → a ≤ 1048576 → ∃ r, Ev (fun k => laws_szIntSS.l0 k l a i) r ∧ r ≤ 1048576 ∧ (0 ≤ r → ∀ j (hj : j < l.length), i ≤ j → l[j].length ≤ 1048576) := by
  intro d
  induction d with
  | zero =>
    intro i a hd hi h0 h1
    refine ⟨a, Ev.const1 (fun k => ?_), h1, fun _ j hj hij => by omega⟩
    simp only [laws_szIntSS.l0]
    rw [if_neg (by omega)]
  | succ d ih =>
    intro i a hd hi h0 h1
    have hlt : i < l.length := by omega
    have hll := hl.1
    have hrow := (hl.2 _ (List.getElem_mem hlt)).1
    by_cases hneg : a - (l[i].length : Int) < 0
    · refine ⟨-1, Ev.const1 (fun k => ?_), by omega, fun h => by omega⟩
      simp only [laws_szIntSS.l0, laws_szIntS.f]
      rw [if_pos (by omega), if_pos (by omega), rdL_at hlt, if_pos (by rw [wrap_id (by omega)]; exact hneg)]
      rfl
    · obtain ⟨r, h2, h3, h4⟩ := ih (i + 1) (a - (l[i].length : Int)) (by omega) (by omega) (by omega) (by omega)
      refine ⟨r, Ev.step (fun k => ?_) h2, h3, fun h j hj hij => ?_⟩
      · simp only [laws_szIntSS.l0, laws_szIntS.f]
        rw [if_pos (by omega), if_pos (by omega), rdL_at hlt, wrap_id (by omega), if_neg hneg, wrap_nat (by omega)]
        simp only [Option.bind_some]
        rw [if_neg hneg]
      · by_cases e : j = i
        · subst e; omega
        · exact h4 h j hj (by omega)
theorem szGraph (l : List (List Int)) (hl : okSS l) : ∃ r, Ev (fun k => laws_szGraph.f k l 1048576) r ∧ r ≤ 1048576 ∧ (0 ≤ r → small l) := by
  have hll := hl.1
  unfold laws_szGraph.f laws_szIntSS.f
  rw [wrap_id (by omega)]
  by_cases h : (1048576 : Int) - (l.length : Int) < 0
  · exact ⟨-1, Ev.bind (Ev.pos h (Ev.now _)) (Ev.pos (by omega) (Ev.now _)), by omega, fun h => by omega⟩
  · obtain ⟨r, h2, h3, h4⟩ := szIntSS_l0 l hl l.length 0 (1048576 - (l.length : Int)) (by omega) (by omega) (by omega) (by omega)
    by_cases hr : r < 0
    · exact ⟨-1, Ev.bind (Ev.neg h h2) (Ev.pos hr (Ev.now _)), by omega, fun h => by omega⟩
    · refine ⟨r, Ev.bind (Ev.neg h h2) (Ev.neg hr (Ev.now _)), h3, fun h0 => ⟨by omega, fun row hrow => ?_⟩⟩
      obtain ⟨j, hj, rfl⟩ := List.getElem_of_mem hrow
      exact h4 h0 j hj (Nat.zero_le _)

/-! comparisons -/
theorem cons_dec {α : Type} [DecidableEq α] {a b : α} {l m : List α} (e : a = b) : decide (l = m) = decide (a :: l = b :: m) := by
  subst e; exact decide_eq_decide.mpr ⟨fun h => by rw [h], fun h => (List.cons.inj h).2⟩
theorem eqIntS_l0 (x y : List Int) (hl : x.length ≤ 9223372036854775807) (hxy : x.length = y.length) : ∀ (d i : Nat), x.length - i = d → i ≤ x.length → Ev (fun k => laws_eqIntS.l0 k x y i) (decide (x.drop i = y.drop i)) := by
  intro d
  induction d with
  | zero =>
    intro i hd hi
    refine Ev.const1 (fun k => ?_)
    simp only [laws_eqIntS.l0]
    rw [if_neg (by omega), List.drop_of_length_le (by omega), List.drop_of_length_le (by omega)]
    simp
  | succ d ih =>
    intro i hd hi
    have hlt : i < x.length := by omega
    have hlt2 : i < y.length := by omega
    rw [List.drop_eq_getElem_cons hlt, List.drop_eq_getElem_cons hlt2]
    by_cases e : x[i] = y[i]
    · refine Ev.step (f := fun k => laws_eqIntS.l0 k x y (i + 1 : Nat)) (fun k => ?_) ((ih (i + 1) (by omega) (by omega)).val (cons_dec e))
      simp only [laws_eqIntS.l0]
      rw [if_pos (by omega), if_pos (by omega), if_pos (by omega), rd_at hlt, rd_at hlt2, if_pos e, wrap_nat (by omega)]
    · refine Ev.const1 (fun k => ?_)
      simp only [laws_eqIntS.l0]
      rw [if_pos (by omega), if_pos (by omega), if_pos (by omega), rd_at hlt, rd_at hlt2, if_neg e, decide_eq_false (fun h => e (List.cons.inj h).1)]
theorem eqIntS (x y : List Int) (hl : x.length ≤ 9223372036854775807) : Ev (fun k => laws_eqIntS.f k x y) (decide (x = y)) := by
  unfold laws_eqIntS.f
  by_cases h : x.length = y.length
  · refine Ev.pos (by omega) ?_
    exact eqIntS_l0 x y hl h x.length 0 (by omega) (by omega)
  · refine Ev.neg (by omega) ?_
    exact (Ev.now _).val (by have : x ≠ y := fun e => h (by rw [e]); simp [this])
theorem eqIntSS_l0 (x y : List (List Int)) (hl : x.length ≤ 9223372036854775807) (hr : ∀ row ∈ x, row.length ≤ 9223372036854775807) (hxy : x.length = y.length) : ∀ (d i : Nat), x.length - i = d → i ≤ x.length → Ev (fun k => laws_eqIntSS.l0 k x y i) (decide (x.drop i = y.drop i)) := by
  intro d
  induction d with
  | zero =>
    intro i hd hi
    refine Ev.const1 (fun k => ?_)
    simp only [laws_eqIntSS.l0]
    rw [if_neg (by omega), List.drop_of_length_le (by omega), List.drop_of_length_le (by omega)]
    simp
  | succ d ih =>
    intro i hd hi
    have hlt : i < x.length := by omega
    have hlt2 : i < y.length := by omega
    rw [List.drop_eq_getElem_cons hlt, List.drop_eq_getElem_cons hlt2]
    refine Ev.step (f := fun k => (laws_eqIntS.f k x[i] y[i]).bind fun t => if t = true then laws_eqIntSS.l0 k x y (i + 1 : Nat) else some false) (fun k => ?_) ?_
    · simp only [laws_eqIntSS.l0]
      rw [if_pos (by omega), if_pos (by omega), if_pos (by omega), rdL_at hlt, rdL_at hlt2, wrap_nat (by omega)]
    · by_cases e : x[i] = y[i]
      · exact Ev.bind ((eqIntS x[i] y[i] (hr _ (List.getElem_mem hlt))).val (decide_eq_true e)) (Ev.pos rfl ((ih (i + 1) (by omega) (by omega)).val (cons_dec e)))
      · exact Ev.bind ((eqIntS x[i] y[i] (hr _ (List.getElem_mem hlt))).val (decide_eq_false e)) (Ev.neg (by simp) ((Ev.now _).val (decide_eq_false (fun h => e (List.cons.inj h).1)).symm))
theorem eqIntSS (x y : List (List Int)) (hl : x.length ≤ 9223372036854775807) (hr : ∀ row ∈ x, row.length ≤ 9223372036854775807) : Ev (fun k => laws_eqIntSS.f k x y) (decide (x = y)) := by
  unfold laws_eqIntSS.f
  by_cases h : x.length = y.length
  · refine Ev.pos (by omega) ?_
    exact eqIntSS_l0 x y hl hr h x.length 0 (by omega) (by omega)
  · refine Ev.neg (by omega) ?_
    exact (Ev.now _).val (by have : x ≠ y := fun e => h (by rw [e]); simp [this])
theorem eqGraph (x y : List (List Int)) (hl : x.length ≤ 9223372036854775807) (hr : ∀ row ∈ x, row.length ≤ 9223372036854775807) : Ev (fun k => laws_eqGraph.f k x y) (decide (x = y)) := by
  unfold laws_eqGraph.f
  refine Ev.bind (eqIntSS x y hl hr) ?_
  by_cases e : x = y
  · exact Ev.pos (decide_eq_true e) ((Ev.now _).val (decide_eq_true e).symm)
  · exact Ev.neg (by simp [e]) ((Ev.now _).val (decide_eq_false e).symm)
theorem small_eq (l : List (List Int)) (h : small l) : Ev (fun k => laws_eqGraph.f k l l) true := (eqGraph l l (by have := h.1; omega) (fun row hr => by have := h.2 row hr; omega)).val (decide_eq_true rfl)

/-! what a graph is -/
theorem l1In (a lo hi : Int) : spec_l1In.f a lo hi = some (decide (lo ≤ a) && decide (a ≤ hi)) := by
  unfold spec_l1In.f
  by_cases h : a ≥ lo
  · rw [if_pos h]; have : lo ≤ a := h; simp [this]
  · rw [if_neg h]; have : ¬ lo ≤ a := h; simp [this]
theorem implin (a lo hi : Int) : impl_in.f a lo hi = some (decide (lo ≤ a) && decide (a ≤ hi)) := by
  unfold impl_in.f
  by_cases h : lo ≤ a
  · rw [if_pos h]; simp [h]
  · rw [if_neg h]; simp [h]
theorem l1All_l0 (l : List Int) (lo hi : Int) (hl : l.length ≤ 9223372036854775807) : ∀ (d i : Nat), l.length - i = d → i ≤ l.length → Ev (fun k => spec_l1All.l0 k lo hi l l.length i) ((l.drop i).all fun x => decide (lo ≤ x) && decide (x ≤ hi)) := by
  intro d
  induction d with
  | zero =>
    intro i hd hi
    refine Ev.const1 (fun k => ?_)
    simp only [spec_l1All.l0]
    rw [if_neg (by omega), List.drop_of_length_le (by omega)]
    rfl
  | succ d ih =>
    intro i hd hi'
    have hlt : i < l.length := by omega
    rw [List.drop_eq_getElem_cons hlt, List.all_cons]
    by_cases e : (decide (lo ≤ l[i]) && decide (l[i] ≤ hi)) = true
    · refine Ev.step (f := fun k => spec_l1All.l0 k lo hi l l.length (i + 1 : Nat)) (fun k => ?_) ((ih (i + 1) (by omega) (by omega)).val (by rw [e]; simp))
      simp only [spec_l1All.l0, l1In]
      rw [if_pos (by omega), if_pos (by omega), if_pos (by omega), rd_at hlt, wrap_nat (by omega)]
      simp only [Option.bind_some]
      rw [if_pos e]
    · refine Ev.const1 (fun k => ?_)
      simp only [spec_l1All.l0, l1In]
      rw [if_pos (by omega), if_pos (by omega), if_pos (by omega), rd_at hlt]
      simp only [Option.bind_some]
      rw [if_neg e]
      simp only [Bool.not_eq_true] at e
      rw [e]; rfl
theorem l1All (l : List Int) (lo hi : Int) (hl : l.length ≤ 9223372036854775807) : Ev (fun k => spec_l1All.f k l lo hi) (l.all fun x => decide (lo ≤ x) && decide (x ≤ hi)) := by
  unfold spec_l1All.f
  exact l1All_l0 l lo hi hl l.length 0 (by omega) (by omega)
theorem grGood_l0 (l : List (List Int)) (hl : okSS l) : ∀ (d i : Nat), l.length - i = d → i ≤ l.length → Ev (fun k => spec_grGood.l0 k l.length l l.length i) ((l.drop i).all (goodRow l.length)) := by
  intro d
  induction d with
  | zero =>
    intro i hd hi
    refine Ev.const1 (fun k => ?_)
    simp only [spec_grGood.l0]
    rw [if_neg (by omega), List.drop_of_length_le (by omega)]
    rfl
  | succ d ih =>
    intro i hd hi'
    have hlt : i < l.length := by omega
    have hll := hl.1
    have hrow := (hl.2 _ (List.getElem_mem hlt)).1
    rw [List.drop_eq_getElem_cons hlt, List.all_cons]
    by_cases h5 : l[i].length ≤ 5
    · refine Ev.step (f := fun k => (spec_l1All.f k l[i] 0 ((l.length : Int) - 1)).bind fun t => if t = true then spec_grGood.l0 k l.length l l.length (i + 1 : Nat) else some false) (fun k => ?_) ?_
      · simp only [spec_grGood.l0]
        rw [if_pos (by omega), if_pos (by omega), if_pos (by omega), rdL_at hlt, if_neg (by omega), wrap_nat (by omega), wrap_id (by omega)]
      · by_cases e : (l[i].all fun x => decide (0 ≤ x) && decide (x ≤ (l.length : Int) - 1)) = true
        · exact Ev.bind ((l1All _ 0 _ hrow).val e) (Ev.pos rfl ((ih (i + 1) (by omega) (by omega)).val (by unfold goodRow; rw [e]; simp [h5])))
        · exact Ev.bind ((l1All _ 0 _ hrow).val (Bool.eq_false_iff.mpr e)) (Ev.neg (by simp) ((Ev.now _).val (by unfold goodRow; simp only [Bool.not_eq_true] at e; rw [e]; simp)))
    · refine Ev.const1 (fun k => ?_)
      simp only [spec_grGood.l0]
      rw [if_pos (by omega), if_pos (by omega), if_pos (by omega), rdL_at hlt, if_pos (by omega)]
      simp [goodRow, h5]
theorem grGood (l : List (List Int)) (hl : okSS l) : Ev (fun k => spec_grGood.f k l) (goodG l) := by
  unfold spec_grGood.f
  rw [l1In]
  simp only [Option.bind_some]
  by_cases h : 1 ≤ l.length ∧ l.length ≤ 8
  · have h1 : (1 : Int) ≤ l.length := by omega
    have h2 : (l.length : Int) ≤ 8 := by omega
    refine Ev.pos (by simp [h1, h2]) ?_
    exact (grGood_l0 l hl l.length 0 (by omega) (by omega)).val (by simp [goodG, h.1, h.2])
  · refine Ev.neg (by simp; omega) ((Ev.now _).val ?_)
    unfold goodG
    by_cases h1 : 1 ≤ l.length
    · have h2 : ¬ l.length ≤ 8 := by omega
      simp [h1, h2]
    · simp [h1]
theorem ok_small {l : List (List Int)} (h : okSS l) : l.length ≤ 9223372036854775807 ∧ ∀ row ∈ l, row.length ≤ 9223372036854775807 := ⟨h.1, fun row hr => (h.2 row hr).1⟩
end Go.Proofs.Ythbigmlpgoobiaa.M
namespace Go.Proofs.Ythbigmlpgoobiaa.M
open Go.RowKit Go.Proofs.Ythbigmlpgoobiaa.P Go.Proofs.Ythbigmlpgoobiaa.In Go.Proofs.YthbigmlpgoobiaaW.PrintWords Go.Proofs.YthbigmlpgoobiaaW.PrintLast
set_option linter.unusedVariables false
set_option linter.unusedSimpArgs false
theorem good_iff {l : List (List Int)} (h : goodG l = true) : (1 ≤ l.length ∧ l.length ≤ 8) ∧ ∀ row ∈ l, row.length ≤ 5 ∧ ∀ q ∈ row, 0 ≤ q ∧ q < (l.length : Int) := by
  simp only [goodG, goodRow, Bool.and_eq_true, decide_eq_true_eq, List.all_eq_true] at h
  refine ⟨⟨h.1, h.2.1⟩, fun row hr => ⟨(h.2.2 row hr).1, fun q hq => ?_⟩⟩
  have := (h.2.2 row hr).2 q hq
  omega
/-- A place of a graph. -/
def placeB (l : List (List Int)) (p : Int) : Bool := goodG l && (decide (0 ≤ p) && decide (p ≤ (l.length : Int) - 1))
theorem place_iff {l : List (List Int)} {p : Int} (h : placeB l p = true) : goodG l = true ∧ 0 ≤ p ∧ p < (l.length : Int) := by
  simp only [placeB, Bool.and_eq_true, decide_eq_true_eq] at h
  exact ⟨h.1, h.2.1, by omega⟩
theorem grPlace (l : List (List Int)) (p : Int) (hl : okSS l) : Ev (fun k => spec_grPlace.f k l p) (placeB l p) := by
  unfold spec_grPlace.f
  have hll := hl.1
  refine Ev.bind (grGood l hl) ?_
  by_cases h : goodG l = true
  · refine Ev.pos h ?_
    rw [l1In, wrap_id (by omega)]
    exact Ev.bind0 rfl ((Ev.now _).val (by simp [placeB, h]))
  · exact Ev.neg h ((Ev.now _).val (by simp only [Bool.not_eq_true] at h; simp [placeB, h]))
theorem has1 (l : List (List Int)) (p : Int) : impl_has.f l [p] = some (placeB l p) := by
  unfold impl_has.f placeB; simp
theorem has2 (l : List (List Int)) (p q : Int) : impl_has.f l [p, q] = some (placeB l p && placeB l q) := by
  unfold impl_has.f placeB
  cases goodG l <;> simp

theorem rd_get {l : List Int} {q : Int} (h0 : 0 ≤ q) (h1 : q < (l.length : Int)) : rd l q = l[q.toNat]'(by omega) := by
  unfold rd; rw [List.getD_eq_getElem?_getD, List.getElem?_eq_getElem (by omega)]; rfl
theorem rdL_get {l : List (List Int)} {q : Int} (h0 : 0 ≤ q) (h1 : q < (l.length : Int)) : rd_L1 l q = l[q.toNat]'(by omega) := by
  unfold rd_L1; rw [List.getD_eq_getElem?_getD, List.getElem?_eq_getElem (by omega)]; rfl
theorem rd_set {o : List Int} {q x v : Int} (hq0 : 0 ≤ q) (hq : q < (o.length : Int)) (hx0 : 0 ≤ x) : rd (o.set q.toNat v) x = if x = q then v else rd o x := by
  unfold rd
  rw [List.getD_eq_getElem?_getD, List.getElem?_set, List.getD_eq_getElem?_getD]
  by_cases e : x = q
  · subst e; rw [if_pos rfl, if_pos (by omega), if_pos rfl]; rfl
  · rw [if_neg (by omega), if_neg e]
theorem drop_rd {row : List Int} {i : Nat} (h : i < row.length) : row.drop i = rd row (i : Int) :: row.drop (i + 1) := by
  rw [List.drop_eq_getElem_cons h, rd_at h]
theorem place_of {g : List (List Int)} (hg : goodG g = true) {i : Nat} (hi : i < g.length) : placeB g (i : Int) = true := by
  unfold placeB; rw [hg]; simp; omega
end Go.Proofs.Ythbigmlpgoobiaa.M
namespace Go.Proofs.Ythbigmlpgoobiaa.M

set_option linter.unusedVariables false
set_option linter.unusedSimpArgs false
namespace DetKit

/-- The j-th index where k is left out. -/
def skip (k j : Nat) : Nat := if j < k then j else j + 1
/-- f 0 + .. + f (n - 1). -/
def sm : Nat → (Nat → Int) → Int
  | 0, _ => 0
  | n + 1, f => sm n f + f n
def sg (k : Nat) : Int := if k % 2 = 0 then 1 else -1
def D : Nat → (Nat → Nat → Int) → Int
  | 0, _ => 1
  | n + 1, A => sm (n + 1) (fun k => sg k * A 0 k * D n (fun i j => A (i + 1) (skip k j)))

theorem sm_congr {n : Nat} {f g : Nat → Int} (h : ∀ i, i < n → f i = g i) : sm n f = sm n g := by
  induction n with
  | zero => rfl
  | succ n ih => simp only [sm]; rw [ih (fun i hi => h i (by omega)), h n (by omega)]
theorem sm_zero {n : Nat} {f : Nat → Int} (h : ∀ i, i < n → f i = 0) : sm n f = 0 := by
  induction n with
  | zero => rfl
  | succ n ih => simp only [sm]; rw [ih (fun i hi => h i (by omega)), h n (by omega)]; rfl
theorem sm_add (n : Nat) (f g : Nat → Int) : sm n (fun i => f i + g i) = sm n f + sm n g := by
  induction n with
  | zero => rfl
  | succ n ih => simp only [sm]; rw [ih]; omega
theorem sm_mul (n : Nat) (c : Int) (f : Nat → Int) : sm n (fun i => c * f i) = c * sm n f := by
  induction n with
  | zero => simp [sm]
  | succ n ih => simp only [sm]; rw [ih, Int.mul_add]
theorem sm_neg (n : Nat) (f : Nat → Int) : sm n (fun i => - f i) = - sm n f := by
  induction n with
  | zero => simp [sm]
  | succ n ih => simp only [sm]; rw [ih]; omega
theorem sm_head (n : Nat) (f : Nat → Int) : sm (n + 1) f = f 0 + sm n (fun i => f (i + 1)) := by
  induction n with
  | zero => simp [sm]
  | succ n ih => rw [show sm (n + 1 + 1) f = sm (n + 1) f + f (n + 1) from rfl, ih]; simp only [sm]; omega
theorem sm_swap (m n : Nat) (f : Nat → Nat → Int) : sm m (fun i => sm n (fun j => f i j)) = sm n (fun j => sm m (fun i => f i j)) := by
  induction m with
  | zero => simp only [sm]; exact (sm_zero (fun _ _ => rfl)).symm
  | succ m ih => simp only [sm]; rw [ih, ← sm_add]
theorem sm_one {n r : Nat} {f : Nat → Int} (hr : r < n) (h : ∀ i, i < n → i ≠ r → f i = 0) : sm n f = f r := by
  induction n with
  | zero => omega
  | succ n ih =>
    simp only [sm]
    by_cases e : r = n
    · subst e; rw [sm_zero (fun i hi => h i (by omega) (by omega))]; omega
    · rw [ih (by omega) (fun i hi hn => h i (by omega) hn), h n (by omega) (by omega)]; omega
theorem sm_two {n r : Nat} {f : Nat → Int} (hr : r + 1 < n) (h : ∀ i, i < n → i ≠ r → i ≠ r + 1 → f i = 0) : sm n f = f r + f (r + 1) := by
  induction n with
  | zero => omega
  | succ n ih =>
    simp only [sm]
    by_cases e : r + 1 = n
    · subst e; rw [sm_one (r := r) (by omega) (fun i hi hn => h i (by omega) hn (by omega))]
    · rw [ih (by omega) (fun i hi hn hm => h i (by omega) hn hm), h n (by omega) (by omega) (by omega)]; omega

theorem sg_succ (k : Nat) : sg (k + 1) = - sg k := by unfold sg; split <;> split <;> omega
theorem sg_sq (k : Nat) : sg k * sg k = 1 := by unfold sg; split <;> rfl
theorem skip_ne (k j : Nat) : skip k j ≠ k := by unfold skip; split <;> omega
theorem skip_lt {k j n : Nat} (h : j < n) : skip k j < n + 1 := by unfold skip; split <;> omega
theorem skip_zero (j : Nat) : skip 0 j = j + 1 := by simp [skip]
theorem skip_succ (k j : Nat) : skip (k + 1) (j + 1) = skip k j + 1 := by unfold skip; split <;> split <;> omega

theorem D_congr {n : Nat} {A B : Nat → Nat → Int} (h : ∀ i, i < n → ∀ j, j < n → A i j = B i j) : D n A = D n B := by
  induction n generalizing A B with
  | zero => rfl
  | succ n ih =>
    simp only [D]
    refine sm_congr (fun k hk => ?_)
    rw [h 0 (by omega) k hk, ih (fun i hi j hj => h (i + 1) (by omega) _ (skip_lt hj))]

/-- By the first column. -/
theorem D_col (n : Nat) (A : Nat → Nat → Int) : D (n + 1) A = sm (n + 1) (fun i => sg i * A i 0 * D n (fun a b => A (skip i a) (b + 1))) := by
  induction n generalizing A with
  | zero => simp [D, sm]
  | succ n ih =>
    rw [show D (n + 1 + 1) A = sm (n + 1 + 1) (fun k => sg k * A 0 k * D (n + 1) (fun i j => A (i + 1) (skip k j))) from rfl]
    rw [sm_head (n + 1) (fun k => sg k * A 0 k * D (n + 1) (fun i j => A (i + 1) (skip k j))), sm_head (n + 1) (fun i => sg i * A i 0 * D (n + 1) (fun a b => A (skip i a) (b + 1)))]
    have e0 : D (n + 1) (fun i j => A (i + 1) (skip 0 j)) = D (n + 1) (fun a b => A (skip 0 a) (b + 1)) := D_congr (fun a _ b _ => by rw [skip_zero, skip_zero])
    rw [e0]
    congr 1
    have e1 : ∀ k, sg (k + 1) * A 0 (k + 1) * D (n + 1) (fun i j => A (i + 1) (skip (k + 1) j)) = sm (n + 1) (fun i => - (sg k * sg i * A 0 (k + 1) * A (i + 1) 0 * D n (fun a b => A (skip i a + 1) (skip k b + 1)))) := by
      intro k
      rw [ih, ← sm_mul]
      refine sm_congr (fun i _ => ?_)
      have : D n (fun a b => A (skip i a + 1) (skip (k + 1) (b + 1))) = D n (fun a b => A (skip i a + 1) (skip k b + 1)) := D_congr (fun a _ b _ => by rw [skip_succ])
      rw [this, sg_succ, show skip (k + 1) 0 = 0 from by simp [skip]]
      simp only [Int.neg_mul, Int.mul_neg, Int.mul_assoc, Int.mul_comm, Int.mul_left_comm]
    have e2 : ∀ i, sg (i + 1) * A (i + 1) 0 * D (n + 1) (fun a b => A (skip (i + 1) a) (b + 1)) = sm (n + 1) (fun k => - (sg k * sg i * A 0 (k + 1) * A (i + 1) 0 * D n (fun a b => A (skip i a + 1) (skip k b + 1)))) := by
      intro i
      rw [show D (n + 1) (fun a b => A (skip (i + 1) a) (b + 1)) = sm (n + 1) (fun k => sg k * A (skip (i + 1) 0) (k + 1) * D n (fun a b => A (skip (i + 1) (a + 1)) (skip k b + 1))) from rfl, ← sm_mul]
      refine sm_congr (fun k _ => ?_)
      have : D n (fun a b => A (skip (i + 1) (a + 1)) (skip k b + 1)) = D n (fun a b => A (skip i a + 1) (skip k b + 1)) := D_congr (fun a _ b _ => by rw [skip_succ])
      rw [this, sg_succ, show skip (i + 1) 0 = 0 from by simp [skip]]
      simp only [Int.neg_mul, Int.mul_neg, Int.mul_assoc, Int.mul_comm, Int.mul_left_comm]
    rw [sm_congr (fun k _ => e1 k), sm_congr (fun i _ => e2 i), sm_swap]
theorem D_transpose (n : Nat) (A : Nat → Nat → Int) : D n (fun i j => A j i) = D n A := by
  induction n generalizing A with
  | zero => rfl
  | succ n ih =>
    rw [D_col n A]
    rw [show D (n + 1) (fun i j => A j i) = sm (n + 1) (fun k => sg k * A k 0 * D n (fun i j => A (skip k j) (i + 1))) from rfl]
    refine sm_congr (fun k _ => ?_)
    rw [ih (fun i j => A (skip k i) (j + 1))]

def setRow (A : Nat → Nat → Int) (r : Nat) (u : Nat → Int) : Nat → Nat → Int := fun i j => if i = r then u j else A i j
def setCol (A : Nat → Nat → Int) (c : Nat) (u : Nat → Int) : Nat → Nat → Int := fun i j => if j = c then u i else A i j

theorem D_row_lin (n r : Nat) (hr : r < n) (A : Nat → Nat → Int) (a b : Int) (u v : Nat → Int) :
    D n (setRow A r (fun j => a * u j + b * v j)) = a * D n (setRow A r u) + b * D n (setRow A r v) := by
  induction n generalizing A r u v with
  | zero => omega
  | succ n ih =>
    simp only [D]
    rw [← sm_mul, ← sm_mul, ← sm_add]
    refine sm_congr (fun k hk => ?_)
    cases r with
    | zero =>
      have e : ∀ w : Nat → Int, D n (fun i j => setRow A 0 w (i + 1) (skip k j)) = D n (fun i j => A (i + 1) (skip k j)) := fun w => D_congr (fun i _ j _ => by simp [setRow])
      rw [e, e, e]
      simp only [setRow, if_pos]
      generalize sg k = s
      generalize D n _ = d
      simp only [Int.mul_add, Int.mul_comm, Int.mul_left_comm]
    | succ r =>
      have e : ∀ w : Nat → Int, D n (fun i j => setRow A (r + 1) w (i + 1) (skip k j)) = D n (setRow (fun i j => A (i + 1) (skip k j)) r (fun j => w (skip k j))) := fun w => D_congr (fun i _ j _ => by simp [setRow])
      rw [e, e, e, ih r (by omega)]
      simp only [setRow]
      rw [if_neg (by omega), if_neg (by omega), if_neg (by omega)]
      generalize sg k = s
      generalize D n _ = d
      generalize D n _ = d'
      simp only [Int.mul_add, Int.add_mul, Int.mul_assoc, Int.mul_comm, Int.mul_left_comm]
theorem D_row_zero (n r : Nat) (hr : r < n) (A : Nat → Nat → Int) (h : ∀ j, j < n → A r j = 0) : D n A = 0 := by
  have e := D_row_lin n r hr A 0 0 (fun _ => 0) (fun _ => 0)
  rw [Int.zero_mul, Int.zero_mul] at e
  have e2 : D n (setRow A r (fun j => 0 * 0 + 0 * 0)) = D n A := D_congr (fun i hi j hj => by
    simp only [setRow]; split
    · subst i; rw [h j hj]; rfl
    · rfl)
  rw [← e2]; exact e
theorem D_row_sum (n r : Nat) (hr : r < n) (A : Nat → Nat → Int) (m : Nat) (c : Nat → Int) (F : Nat → Nat → Int) :
    D n (setRow A r (fun j => sm m (fun t => c t * F t j))) = sm m (fun t => c t * D n (setRow A r (F t))) := by
  induction m with
  | zero => simp only [sm]; exact D_row_zero n r hr _ (fun j _ => by simp [setRow])
  | succ m ih =>
    simp only [sm]
    have := D_row_lin n r hr A 1 (c m) (fun j => sm m (fun t => c t * F t j)) (F m)
    simp only [Int.one_mul] at this
    rw [this, ih]
theorem setRow_self (A : Nat → Nat → Int) (r : Nat) : setRow A r (A r) = A := by
  funext i j; simp only [setRow]; split
  · subst i; rfl
  · rfl
/-- Rows r, r + 1 are equal. -/
theorem D_adj (n r : Nat) (hr : r + 1 < n) (A : Nat → Nat → Int) (h : ∀ j, j < n → A r j = A (r + 1) j) : D n A = 0 := by
  induction n generalizing r A with
  | zero => omega
  | succ n ih =>
    rw [D_col]
    rw [sm_two (r := r) hr]
    · rw [sg_succ, ← h 0 (by omega)]
      have : D n (fun a b => A (skip r a) (b + 1)) = D n (fun a b => A (skip (r + 1) a) (b + 1)) := D_congr (fun a _ b hb => by
        unfold skip
        by_cases e : a = r
        · subst e; rw [if_neg (by omega), if_pos (by omega), h (b + 1) (by omega)]
        · by_cases l : a < r
          · rw [if_pos l, if_pos (by omega)]
          · rw [if_neg l, if_neg (by omega)])
      rw [this, Int.neg_mul, Int.neg_mul]; omega
    · intro i hi h1 h2
      have : D n (fun a b => A (skip i a) (b + 1)) = 0 := by
        by_cases l : i < r
        · refine ih (r - 1) (by omega) _ (fun j hj => ?_)
          show A (skip i (r - 1)) (j + 1) = A (skip i (r - 1 + 1)) (j + 1)
          rw [show skip i (r - 1) = r from by unfold skip; split <;> omega, show skip i (r - 1 + 1) = r + 1 from by unfold skip; split <;> omega]
          exact h _ (by omega)
        · refine ih r (by omega) _ (fun j hj => ?_)
          show A (skip i r) (j + 1) = A (skip i (r + 1)) (j + 1)
          rw [show skip i r = r from by unfold skip; split <;> omega, show skip i (r + 1) = r + 1 from by unfold skip; split <;> omega]
          exact h _ (by omega)
      rw [this, Int.mul_zero]
/-- Two rows, told by their places. -/
def set2 (A : Nat → Nat → Int) (r s : Nat) (u v : Nat → Int) : Nat → Nat → Int := setRow (setRow A r u) s v
theorem D_adj_swap (n r : Nat) (hr : r + 1 < n) (A : Nat → Nat → Int) (u v : Nat → Int) : D n (set2 A r (r + 1) u v) = - D n (set2 A r (r + 1) v u) := by
  have z : ∀ w, D n (set2 A r (r + 1) w w) = 0 := fun w => D_adj n r hr _ (fun j _ => by simp [set2, setRow])
  have c : ∀ w x, set2 A r (r + 1) w x = setRow (setRow A (r + 1) x) r w := fun w x => by
    funext i j; simp only [set2, setRow]
    by_cases e : i = r
    · subst e; rw [if_neg (by omega), if_pos rfl, if_pos rfl]
    · simp [e]
  have l1 : D n (set2 A r (r + 1) (fun j => 1 * u j + 1 * v j) (fun j => 1 * u j + 1 * v j)) = 1 * D n (set2 A r (r + 1) (fun j => 1 * u j + 1 * v j) u) + 1 * D n (set2 A r (r + 1) (fun j => 1 * u j + 1 * v j) v) := D_row_lin n (r + 1) hr _ 1 1 u v
  have l2 : ∀ x, D n (set2 A r (r + 1) (fun j => 1 * u j + 1 * v j) x) = 1 * D n (set2 A r (r + 1) u x) + 1 * D n (set2 A r (r + 1) v x) := fun x => by
    rw [c, c, c]; exact D_row_lin n r (by omega) _ 1 1 u v
  rw [z, l2, l2, z, z] at l1
  omega
theorem D_rows_eq (n : Nat) (A : Nat → Nat → Int) (i d : Nat) (hd : i + 1 + d < n) (h : ∀ c, c < n → A i c = A (i + 1 + d) c) : D n A = 0 := by
  induction d generalizing A with
  | zero => exact D_adj n i hd A h
  | succ d ih =>
    have e : A = set2 A (i + 1 + d) (i + 1 + d + 1) (A (i + 1 + d)) (A (i + 1 + d + 1)) := by
      funext a b; simp only [set2, setRow]
      split
      · subst a; rfl
      · split
        · subst a; rfl
        · rfl
    rw [e, D_adj_swap n (i + 1 + d) (by omega), ih _ (by omega)]
    · rfl
    · intro c hc
      simp only [set2, setRow]
      rw [if_neg (by omega), if_neg (by omega), if_neg (by omega), if_pos trivial, h c hc]; rfl
theorem D_rows_eq' (n : Nat) (A : Nat → Nat → Int) (i j : Nat) (hi : i < n) (hj : j < n) (hij : i ≠ j) (h : ∀ c, c < n → A i c = A j c) : D n A = 0 := by
  rcases Nat.lt_or_gt_of_ne hij with l | l
  · exact D_rows_eq n A i (j - i - 1) (by omega) (by rw [show i + 1 + (j - i - 1) = j by omega]; exact h)
  · exact D_rows_eq n A j (i - j - 1) (by omega) (by rw [show j + 1 + (i - j - 1) = i by omega]; exact fun c hc => (h c hc).symm)
def swapRows (A : Nat → Nat → Int) (i j : Nat) : Nat → Nat → Int := fun a b => if a = i then A j b else if a = j then A i b else A a b
theorem D_swap (n : Nat) (A : Nat → Nat → Int) (i j : Nat) (hi : i < n) (hj : j < n) (hij : i ≠ j) : D n (swapRows A i j) = - D n A := by
  have z : ∀ w, D n (set2 A i j w w) = 0 := fun w => D_rows_eq' n _ i j hi hj hij (fun c _ => by simp [set2, setRow])
  have c : ∀ w x, set2 A i j w x = setRow (setRow A j x) i w := fun w x => by
    funext a b; simp only [set2, setRow]
    by_cases e : a = i
    · subst e; rw [if_neg hij, if_pos rfl, if_pos rfl]
    · simp [e]
  have l1 : D n (set2 A i j (fun b => 1 * A i b + 1 * A j b) (fun b => 1 * A i b + 1 * A j b)) = 1 * D n (set2 A i j (fun b => 1 * A i b + 1 * A j b) (A i)) + 1 * D n (set2 A i j (fun b => 1 * A i b + 1 * A j b) (A j)) := D_row_lin n j hj _ 1 1 (A i) (A j)
  have l2 : ∀ x, D n (set2 A i j (fun b => 1 * A i b + 1 * A j b) x) = 1 * D n (set2 A i j (A i) x) + 1 * D n (set2 A i j (A j) x) := fun x => by
    rw [c, c, c]; exact D_row_lin n i hi _ 1 1 (A i) (A j)
  rw [z, l2, l2, z, z] at l1
  have e1 : set2 A i j (A i) (A j) = A := by
    funext a b; simp only [set2, setRow]; split
    · subst a; rfl
    · split
      · subst a; rfl
      · rfl
  have e2 : set2 A i j (A j) (A i) = swapRows A i j := by
    funext a b; simp only [set2, setRow, swapRows]
    by_cases e : a = i
    · subst e; rw [if_neg hij, if_pos rfl, if_pos rfl]
    · simp [e]
  rw [e1, e2] at l1
  omega
/-! columns, by the transposed matrix -/
theorem D_col_lin (n c : Nat) (hc : c < n) (A : Nat → Nat → Int) (a b : Int) (u v : Nat → Int) :
    D n (setCol A c (fun i => a * u i + b * v i)) = a * D n (setCol A c u) + b * D n (setCol A c v) := by
  have e : ∀ w, D n (setCol A c w) = D n (setRow (fun i j => A j i) c w) := fun w => by
    rw [← D_transpose]; rfl
  rw [e, e, e]; exact D_row_lin n c hc _ a b u v
theorem D_col_sum (n c : Nat) (hc : c < n) (A : Nat → Nat → Int) (m : Nat) (d : Nat → Int) (F : Nat → Nat → Int) :
    D n (setCol A c (fun i => sm m (fun t => d t * F t i))) = sm m (fun t => d t * D n (setCol A c (F t))) := by
  have e : ∀ w, D n (setCol A c w) = D n (setRow (fun i j => A j i) c w) := fun w => by
    rw [← D_transpose]; rfl
  rw [e, D_row_sum n c hc]
  exact sm_congr (fun t _ => by rw [e])
theorem D_cols_eq (n : Nat) (A : Nat → Nat → Int) (i j : Nat) (hi : i < n) (hj : j < n) (hij : i ≠ j) (h : ∀ r, r < n → A r i = A r j) : D n A = 0 := by
  rw [← D_transpose]; exact D_rows_eq' n _ i j hi hj hij h
theorem D_one (n : Nat) : D n (fun i j => if i = j then 1 else 0) = 1 := by
  induction n with
  | zero => rfl
  | succ n ih =>
    simp only [D]
    rw [sm_one (r := 0) (by omega) (fun k _ hk => by rw [if_neg (by omega)]; simp)]
    rw [D_congr (B := fun i j => if i = j then 1 else 0) (fun i _ j _ => by rw [skip_zero]; simp), ih]; rfl
/-- Above the last column's end stand zeros. -/
theorem D_block1 (k : Nat) (M : Nat → Nat → Int) (h : ∀ a, a < k → M a k = 0) : D (k + 1) M = D k M * M k k := by
  induction k generalizing M with
  | zero => simp [D, sm, sg]
  | succ k ih =>
    rw [show D (k + 1 + 1) M = sm (k + 1 + 1) (fun c => sg c * M 0 c * D (k + 1) (fun i j => M (i + 1) (skip c j))) from rfl]
    rw [show sm (k + 1 + 1) (fun c => sg c * M 0 c * D (k + 1) (fun i j => M (i + 1) (skip c j))) = sm (k + 1) (fun c => sg c * M 0 c * D (k + 1) (fun i j => M (i + 1) (skip c j))) + sg (k + 1) * M 0 (k + 1) * D (k + 1) (fun i j => M (i + 1) (skip (k + 1) j)) from rfl]
    rw [h 0 (by omega), Int.mul_zero, Int.zero_mul, Int.add_zero]
    rw [show D (k + 1) M = sm (k + 1) (fun c => sg c * M 0 c * D k (fun i j => M (i + 1) (skip c j))) from rfl, Int.mul_comm, ← sm_mul]
    refine sm_congr (fun c hc => ?_)
    have hs : ∀ b, c ≤ b → skip c b = b + 1 := fun b hb => by unfold skip; split <;> omega
    rw [ih _ (fun a ha => by rw [hs k (by omega)]; exact h (a + 1) (by omega)), hs k (by omega)]
    simp only [Int.mul_assoc, Int.mul_comm, Int.mul_left_comm]
/-- Above the last two columns' ends stand zeros. -/
theorem D_block2 (k : Nat) (M : Nat → Nat → Int) (h : ∀ a, a < k → M a k = 0 ∧ M a (k + 1) = 0) :
    D (k + 2) M = D k M * (M k k * M (k + 1) (k + 1) - M k (k + 1) * M (k + 1) k) := by
  induction k generalizing M with
  | zero => simp [D, sm, sg, skip, Int.sub_eq_add_neg, Int.neg_mul]
  | succ k ih =>
    rw [show D (k + 1 + 2) M = sm (k + 1) (fun c => sg c * M 0 c * D (k + 2) (fun i j => M (i + 1) (skip c j))) + sg (k + 1) * M 0 (k + 1) * D (k + 2) (fun i j => M (i + 1) (skip (k + 1) j)) + sg (k + 2) * M 0 (k + 2) * D (k + 2) (fun i j => M (i + 1) (skip (k + 2) j)) from rfl]
    rw [(h 0 (by omega)).1, (h 0 (by omega)).2]
    simp only [Int.mul_zero, Int.zero_mul, Int.add_zero]
    rw [show D (k + 1) M = sm (k + 1) (fun c => sg c * M 0 c * D k (fun i j => M (i + 1) (skip c j))) from rfl, Int.mul_comm (sm _ _), ← sm_mul]
    refine sm_congr (fun c hc => ?_)
    have hs : ∀ b, c ≤ b → skip c b = b + 1 := fun b hb => by unfold skip; split <;> omega
    rw [ih _ (fun a ha => by rw [hs k (by omega), hs (k + 1) (by omega)]; exact h (a + 1) (by omega)), hs k (by omega), hs (k + 1) (by omega)]
    simp only [Int.mul_assoc, Int.mul_comm, Int.mul_left_comm]
theorem sm_unit (n : Nat) (v : Nat → Int) (j : Nat) (hj : j < n) : sm n (fun t => v t * (if t = j then 1 else 0)) = v j := by
  rw [sm_one hj (fun i _ hn => by rw [if_neg hn, Int.mul_zero])]; simp

/-! ### Elimination without fractions -/
/-- The minor of the first k rows and row i, the first k columns and column j. -/
def B (A : Nat → Nat → Int) (k i j : Nat) : Int := D (k + 1) (fun a b => A (if a < k then a else i) (if b < k then b else j))
theorem B_diag (A : Nat → Nat → Int) (k : Nat) : B A k k k = D (k + 1) A := D_congr (fun a ha b hb => by
  rw [show (if a < k then a else k) = a from by split <;> omega, show (if b < k then b else k) = b from by split <;> omega])
theorem B_low (A : Nat → Nat → Int) (k i j : Nat) (hi : i < k) : B A k i j = 0 :=
  D_rows_eq' (k + 1) _ i k (by omega) (by omega) (by omega) (fun c _ => by simp [hi])
/-- A column, by the first k ones and what is left of it. -/
theorem B_solve (A : Nat → Nat → Int) (k j : Nat) : ∃ C : Nat → Int, ∀ i, D k A * A i j = sm k (fun c => C c * A i c) + B A k i j := by
  refine ⟨fun c => - D (k + 1) (setRow (fun a b => A a (if b < k then b else j)) k (fun b => if c = b then 1 else 0)), fun i => ?_⟩
  have e : B A k i j = D (k + 1) (setRow (fun a b => A a (if b < k then b else j)) k (fun b => sm (k + 1) (fun t => A i (if t < k then t else j) * (if t = b then 1 else 0)))) := D_congr (fun a ha b hb => by
    simp only [setRow]
    by_cases l : a = k
    · subst l; rw [if_pos rfl, sm_unit _ _ _ hb, if_neg (by omega)]
    · rw [if_neg l, if_pos (by omega)])
  rw [e, D_row_sum (k + 1) k (by omega)]
  have last : D (k + 1) (setRow (fun a b => A a (if b < k then b else j)) k (fun b => if k = b then 1 else 0)) = D k A := by
    rw [← D_transpose, D_block1]
    · have : D k (fun a b => setRow (fun a b => A a (if b < k then b else j)) k (fun b => if k = b then 1 else 0) b a) = D k A := by
        rw [D_transpose]
        exact D_congr (fun a ha b hb => by simp only [setRow]; rw [if_neg (by omega), if_pos hb])
      rw [this]; simp [setRow]
    · intro a ha; simp only [setRow]; rw [if_pos trivial, if_neg (by omega)]
  simp only [sm]
  rw [last]
  have : sm k (fun t => A i (if t < k then t else j) * D (k + 1) (setRow (fun a b => A a (if b < k then b else j)) k (fun b => if t = b then 1 else 0))) = - sm k (fun c => - D (k + 1) (setRow (fun a b => A a (if b < k then b else j)) k (fun b => if c = b then 1 else 0)) * A i c) := by
    rw [← sm_neg]
    refine sm_congr (fun t ht => ?_)
    rw [if_pos ht, Int.neg_mul, Int.neg_neg, Int.mul_comm]
  rw [this, if_neg (Nat.lt_irrefl k), Int.mul_comm (A i j)]; omega
/-- One round of the elimination. -/
theorem B_step (A : Nat → Nat → Int) (k i j : Nat) (hp : D k A ≠ 0) :
    D k A * B A (k + 1) i j = B A k k k * B A k i j - B A k i k * B A k k j := by
  obtain ⟨C1, h1⟩ := B_solve A k k
  obtain ⟨C2, h2⟩ := B_solve A k j
  -- the rows and columns of the great minor
  let ro : Nat → Nat := fun a => if a < k + 1 then a else i
  let W : Nat → Nat → Int := fun a b => A (ro a) (if b < k + 1 then b else j)
  have hW : B A (k + 1) i j = D (k + 2) W := rfl
  let X : Nat → Int := fun a => B A k (ro a) k
  let Y : Nat → Int := fun a => B A k (ro a) j
  have s1 : D k A * D (k + 2) W = D (k + 2) (setCol W k X) := by
    have e0 : D (k + 2) (setCol W k (fun a => D k A * A (ro a) k + 0 * 0)) = D k A * D (k + 2) W := by
      rw [D_col_lin (k + 2) k (by omega) W (D k A) 0 (fun a => A (ro a) k) (fun _ => 0), Int.zero_mul, Int.add_zero]
      congr 1
      exact D_congr (fun a _ b _ => by
        simp only [setCol]; split
        · subst b; show A (ro a) k = A (ro a) (if k < k + 1 then k else j); rw [if_pos (by omega)]
        · rfl)
    have e1 : D (k + 2) (setCol W k (fun a => D k A * A (ro a) k + 0 * 0)) = D (k + 2) (setCol W k (fun a => 1 * sm k (fun c => C1 c * A (ro a) c) + 1 * X a)) := D_congr (fun a _ b _ => by
      simp only [setCol]; split
      · rw [h1 (ro a)]; show _ = 1 * _ + 1 * B A k (ro a) k; omega
      · rfl)
    rw [← e0, e1, D_col_lin (k + 2) k (by omega), D_col_sum (k + 2) k (by omega)]
    rw [sm_zero (fun c hc => by
      rw [D_cols_eq (k + 2) _ c k (by omega) (by omega) (by omega) (fun r _ => by
        simp only [setCol]; rw [if_neg (by omega), if_pos trivial]; show A (ro r) (if c < k + 1 then c else j) = _; rw [if_pos (by omega)]), Int.mul_zero])]
    omega
  have s2 : D k A * D (k + 2) (setCol W k X) = D (k + 2) (setCol (setCol W k X) (k + 1) Y) := by
    have e0 : D (k + 2) (setCol (setCol W k X) (k + 1) (fun a => D k A * A (ro a) j + 0 * 0)) = D k A * D (k + 2) (setCol W k X) := by
      rw [D_col_lin (k + 2) (k + 1) (by omega) (setCol W k X) (D k A) 0 (fun a => A (ro a) j) (fun _ => 0), Int.zero_mul, Int.add_zero]
      congr 1
      exact D_congr (fun a _ b _ => by
        simp only [setCol]; split
        · subst b; rw [if_neg (by omega)]; show A (ro a) j = A (ro a) (if k + 1 < k + 1 then k + 1 else j); rw [if_neg (by omega)]
        · rfl)
    have e1 : D (k + 2) (setCol (setCol W k X) (k + 1) (fun a => D k A * A (ro a) j + 0 * 0)) = D (k + 2) (setCol (setCol W k X) (k + 1) (fun a => 1 * sm k (fun c => C2 c * A (ro a) c) + 1 * Y a)) := D_congr (fun a _ b _ => by
      simp only [setCol]; split
      · rw [h2 (ro a)]; show _ = 1 * _ + 1 * B A k (ro a) j; omega
      · rfl)
    rw [← e0, e1, D_col_lin (k + 2) (k + 1) (by omega), D_col_sum (k + 2) (k + 1) (by omega)]
    rw [sm_zero (fun c hc => by
      rw [D_cols_eq (k + 2) _ c (k + 1) (by omega) (by omega) (by omega) (fun r _ => by
        simp only [setCol]; rw [if_neg (by omega), if_neg (by omega), if_pos trivial]; show A (ro r) (if c < k + 1 then c else j) = _; rw [if_pos (by omega)]), Int.mul_zero])]
    omega
  have s3 : D (k + 2) (setCol (setCol W k X) (k + 1) Y) = D k A * (X k * Y (k + 1) - Y k * X (k + 1)) := by
    rw [D_block2]
    · have : D k (setCol (setCol W k X) (k + 1) Y) = D k A := D_congr (fun a ha b hb => by
        simp only [setCol]; rw [if_neg (by omega), if_neg (by omega)]; show A (if a < k + 1 then a else i) (if b < k + 1 then b else j) = _; rw [if_pos (by omega), if_pos (by omega)])
      rw [this]

      simp [setCol]
    · intro a ha
      have hr : ro a = a := by show (if a < k + 1 then a else i) = a; rw [if_pos (by omega)]
      have h1 : ¬ k = k + 1 := by omega
      simp only [setCol, if_neg h1, if_true]
      constructor
      · show B A k (ro a) k = 0; rw [hr]; exact B_low A k a k ha
      · show B A k (ro a) j = 0; rw [hr]; exact B_low A k a j ha
  have hk : ro k = k := by show (if k < k + 1 then k else i) = k; rw [if_pos (by omega)]
  have hk1 : ro (k + 1) = i := by show (if k + 1 < k + 1 then k + 1 else i) = i; rw [if_neg (by omega)]
  have hX0 : X k = B A k k k := by show B A k (ro k) k = _; rw [hk]
  have hX1 : X (k + 1) = B A k i k := by show B A k (ro (k + 1)) k = _; rw [hk1]
  have hY0 : Y k = B A k k j := by show B A k (ro k) j = _; rw [hk]
  have hY1 : Y (k + 1) = B A k i j := by show B A k (ro (k + 1)) j = _; rw [hk1]
  rw [hX0, hX1, hY0, hY1] at s3
  rw [hW]
  have all : D k A * (D k A * D (k + 2) W) = D k A * (B A k k k * B A k i j - B A k k j * B A k i k) := by rw [s1, s2, s3]
  have := Int.eq_of_mul_eq_mul_left hp all
  rw [this, Int.mul_comm (B A k k j)]
/-- No pivot: the determinant is 0. -/
theorem B_none (A : Nat → Nat → Int) (n k : Nat) (hk : k < n) (hp : D k A ≠ 0) (h : ∀ i, k ≤ i → i < n → B A k i k = 0) : D n A = 0 := by
  obtain ⟨C1, h1⟩ := B_solve A k k
  have e0 : D n (setCol A k (fun a => D k A * A a k + 0 * 0)) = D k A * D n A := by
    rw [D_col_lin n k hk A (D k A) 0 (fun a => A a k) (fun _ => 0), Int.zero_mul, Int.add_zero]
    congr 1
    exact D_congr (fun a _ b _ => by
      simp only [setCol]; split
      · subst b; rfl
      · rfl)
  have e1 : D n (setCol A k (fun a => D k A * A a k + 0 * 0)) = D n (setCol A k (fun a => sm k (fun c => C1 c * A a c))) := D_congr (fun a ha b _ => by
    simp only [setCol]; split
    · have : B A k a k = 0 := by
        by_cases l : a < k
        · exact B_low A k a k l
        · exact h a (by omega) ha
      rw [h1 a, this]; omega
    · rfl)
  have : D k A * D n A = 0 := by
    rw [← e0, e1, D_col_sum n k hk]
    exact sm_zero (fun c hc => by
      rw [D_cols_eq n _ c k (by omega) (by omega) (by omega) (fun r _ => by
        simp only [setCol]; rw [if_neg (by omega), if_pos trivial]), Int.mul_zero])
  rcases Int.mul_eq_zero.mp this with h | h
  · exact absurd h hp
  · exact h
/-- How great a determinant of numbers from -10 to 10 is at most. -/
def bd : Nat → Int
  | 0 => 1
  | n + 1 => (n + 1) * (10 * bd n)
theorem bd_pos (n : Nat) : 1 ≤ bd n := by
  induction n with
  | zero => decide
  | succ n ih =>
    simp only [bd]
    have h1 : (1 : Int) ≤ (n : Int) + 1 := by omega
    have h2 : (1 : Int) ≤ 10 * bd n := by omega
    have := Int.mul_le_mul h1 h2 (by omega) (by omega)
    omega
theorem sm_bound (n : Nat) (f : Nat → Int) (b : Int) (h : ∀ i, i < n → -b ≤ f i ∧ f i ≤ b) : -(n * b) ≤ sm n f ∧ sm n f ≤ n * b := by
  induction n with
  | zero => simp [sm]
  | succ n ih =>
    have h1 := ih (fun i hi => h i (by omega))
    have h2 := h n (by omega)
    simp only [sm]
    rw [show ((n + 1 : Nat) : Int) * b = n * b + b from by rw [Int.natCast_add, Int.add_mul]; simp]
    omega
theorem mul_bound {x y a b : Int} (ha : -a ≤ x ∧ x ≤ a) (hb : -b ≤ y ∧ y ≤ b) : -(a * b) ≤ x * y ∧ x * y ≤ a * b := by
  have h : x.natAbs * y.natAbs ≤ a.natAbs * b.natAbs := Nat.mul_le_mul (by omega) (by omega)
  rw [← Int.natAbs_mul, ← Int.natAbs_mul] at h
  have : 0 ≤ a * b := Int.mul_nonneg (by omega) (by omega)
  omega
theorem term_bound {s x d b : Int} (hs : s = 1 ∨ s = -1) (hx : -10 ≤ x ∧ x ≤ 10) (hd : -b ≤ d ∧ d ≤ b) : -(10 * b) ≤ s * x * d ∧ s * x * d ≤ 10 * b := by
  refine mul_bound (a := 10) ?_ hd
  rcases hs with rfl | rfl <;> omega
theorem sg_or (k : Nat) : sg k = 1 ∨ sg k = -1 := by unfold sg; split <;> simp
theorem D_bound (n : Nat) (A : Nat → Nat → Int) (h : ∀ i j, i < n → j < n → -10 ≤ A i j ∧ A i j ≤ 10) : -(bd n) ≤ D n A ∧ D n A ≤ bd n := by
  induction n generalizing A with
  | zero => simp [D, bd]
  | succ n ih =>
    simp only [D, bd]
    have := sm_bound (n + 1) (fun k => sg k * A 0 k * D n (fun i j => A (i + 1) (skip k j))) (10 * bd n) (fun k hk =>
      term_bound (sg_or k) (h 0 k (by omega) hk) (ih _ (fun i j hi hj => h _ _ (by omega) (skip_lt hj))))
    simpa using this
end DetKit
end Go.Proofs.Ythbigmlpgoobiaa.M
namespace Go.Proofs.Ythbigmlpgoobiaa.M
open Go.RowKit Go.Proofs.Ythbigmlpgoobiaa.P Go.Proofs.Ythbigmlpgoobiaa.In Go.Proofs.YthbigmlpgoobiaaW.PrintWords Go.Proofs.YthbigmlpgoobiaaW.PrintLast
set_option linter.unusedVariables false
set_option linter.unusedSimpArgs false
open DetKit
def mat (m : List (List Int)) : Nat → Nat → Int := fun i j => rd (rd_L1 m (i : Int)) (j : Int)
/-- As many rows as columns, n; numbers from -10 to 10. -/
structure Sq (n : Nat) (m : List (List Int)) : Prop where
  len : m.length = n
  rows : ∀ row ∈ m, row.length = n ∧ ∀ x ∈ row, -10 ≤ x ∧ x ≤ 10
theorem Sq.row {n : Nat} {m : List (List Int)} (h : Sq n m) {i : Nat} (hi : i < n) : (rd_L1 m (i : Int)).length = n := by
  have hl := h.len
  exact (h.rows (rd_L1 m (i : Int)) (by rw [rdL_at (by omega)]; exact List.getElem_mem _)).1
theorem Sq.bnd {n : Nat} {m : List (List Int)} (h : Sq n m) (i j : Nat) (hi : i < n) (hj : j < n) : -10 ≤ mat m i j ∧ mat m i j ≤ 10 := by
  have hl := h.len
  have hr := h.rows (rd_L1 m (i : Int)) (by rw [rdL_at (by omega)]; exact List.getElem_mem _)
  exact hr.2 _ (by unfold mat; rw [rd_at (by omega)]; exact List.getElem_mem _)
theorem bd_le6 {n : Nat} (h : n ≤ 6) : bd n ≤ 720000000 := by
  have : n = 0 ∨ n = 1 ∨ n = 2 ∨ n = 3 ∨ n = 4 ∨ n = 5 ∨ n = 6 := by omega
  rcases this with rfl | rfl | rfl | rfl | rfl | rfl | rfl <;> decide
theorem bd_le7 {n : Nat} (h : n ≤ 7) : bd n ≤ 50400000000 := by
  have : n = 0 ∨ n = 1 ∨ n = 2 ∨ n = 3 ∨ n = 4 ∨ n = 5 ∨ n = 6 ∨ n = 7 := by omega
  rcases this with rfl | rfl | rfl | rfl | rfl | rfl | rfl | rfl <;> decide
end Go.Proofs.Ythbigmlpgoobiaa.M
namespace Go.Proofs.Ythbigmlpgoobiaa.M
open Go.RowKit Go.Proofs.Ythbigmlpgoobiaa.P Go.Proofs.Ythbigmlpgoobiaa.In Go.Proofs.YthbigmlpgoobiaaW.PrintWords Go.Proofs.YthbigmlpgoobiaaW.PrintLast
set_option linter.unusedVariables false
set_option linter.unusedSimpArgs false
open DetKit
def decr : List Int → List Int → List Int
  | [], c => c
  | q :: row, c => decr row (c.set q.toNat (rd c q - 1))
theorem decr_len : ∀ (row c : List Int), (decr row c).length = c.length := by
  intro row
  induction row with
  | nil => intro c; rfl
  | cons q row ih => intro c; simp only [decr]; rw [ih]; simp
def lapRow (g : List (List Int)) (p : Nat) : List Int := decr (rd_L1 g (p : Int)) ((List.replicate g.length (0 : Int)).set p ((rd_L1 g (p : Int)).length : Int))
def lapFrom (g : List (List Int)) (sink : Nat) : Nat → Nat → List (List Int) → List (List Int)
  | 0, _, acc => acc
  | d + 1, i, acc => if i = sink then lapFrom g sink d (i + 1) acc else lapFrom g sink d (i + 1) (acc ++ [(lapRow g i).eraseIdx sink])
def lap (g : List (List Int)) (sink : Nat) : List (List Int) := lapFrom g sink g.length 0 []
def lowB (i : Nat) (c : List Int) : Prop := ∀ x ∈ c, -(i : Int) ≤ x ∧ x ≤ 5
theorem low_step {i : Nat} {c : List Int} (h : lowB i c) {q : Int} (h0 : 0 ≤ q) (h1 : q < (c.length : Int)) : -(i : Int) ≤ rd c q ∧ rd c q ≤ 5 ∧ lowB (i + 1) (c.set q.toNat (rd c q - 1)) := by
  have hq := h (rd c q) (by rw [rd_get h0 h1]; exact List.getElem_mem _)
  refine ⟨hq.1, hq.2, fun x hx => ?_⟩
  rcases List.mem_or_eq_of_mem_set hx with h2 | h2
  · have := h x h2; omega
  · subst h2; omega
theorem decr_low : ∀ (row c : List Int) (i : Nat), lowB i c → (∀ q ∈ row, 0 ≤ q ∧ q < (c.length : Int)) → lowB (i + row.length) (decr row c) := by
  intro row
  induction row with
  | nil => intro c i h _; exact h
  | cons q row ih =>
    intro c i h hr
    have hq := hr q (by simp)
    have := ih _ (i + 1) (low_step h hq.1 hq.2).2.2 (fun x hx => by have := hr x (by simp [hx]); simpa using this)
    simp only [decr]
    rw [show i + (q :: row).length = i + 1 + row.length by simp; omega]
    exact this
theorem low_start {n p len : Nat} (h : len ≤ 5) : lowB 0 ((List.replicate n (0 : Int)).set p (len : Int)) := by
  intro x hx
  rcases List.mem_or_eq_of_mem_set hx with h2 | h2
  · have := List.eq_of_mem_replicate h2; omega
  · omega
theorem lapRow_len (g : List (List Int)) (p : Nat) : (lapRow g p).length = g.length := by unfold lapRow; rw [decr_len]; simp
theorem lapRow_low {g : List (List Int)} (hg : goodG g = true) {p : Nat} (hp : p < g.length) : lowB 5 (lapRow g p) := by
  have hrow := (good_iff hg).2 (rd_L1 g (p : Int)) (by rw [rdL_at hp]; exact List.getElem_mem _)
  have := decr_low (rd_L1 g (p : Int)) ((List.replicate g.length (0 : Int)).set p ((rd_L1 g (p : Int)).length : Int)) 0 (low_start hrow.1) (fun q hq => by simpa using hrow.2 q hq)
  intro x hx
  have h2 := this x hx
  omega
theorem lapFrom_sq {g : List (List Int)} (hg : goodG g = true) {sink : Nat} (hs : sink < g.length) : ∀ (d i : Nat) (acc : List (List Int)), g.length - i = d → i ≤ g.length → (∀ row ∈ acc, row.length = g.length - 1 ∧ ∀ x ∈ row, -10 ≤ x ∧ x ≤ 10) → acc.length = (if sink < i then i - 1 else i) → (lapFrom g sink d i acc).length = g.length - 1 ∧ ∀ row ∈ lapFrom g sink d i acc, row.length = g.length - 1 ∧ ∀ x ∈ row, -10 ≤ x ∧ x ≤ 10 := by
  intro d
  induction d with
  | zero =>
    intro i acc hd hi ha hl
    rw [if_pos (by omega)] at hl
    exact ⟨by simp only [lapFrom]; omega, ha⟩
  | succ d ih =>
    intro i acc hd hi ha hl
    simp only [lapFrom]
    by_cases h : i = sink
    · rw [if_pos h]
      refine ih (i + 1) acc (by omega) (by omega) ha ?_
      rw [if_neg (by omega)] at hl
      rw [if_pos (by omega)]; omega
    · rw [if_neg h]
      refine ih (i + 1) _ (by omega) (by omega) (fun row hr => ?_) ?_
      · rcases List.mem_append.1 hr with h2 | h2
        · exact ha row h2
        · simp at h2; subst h2
          have hlr := lapRow_len g i
          refine ⟨by rw [List.length_eraseIdx_of_lt (by omega)]; omega, fun x hx => ?_⟩
          have := lapRow_low hg (p := i) (by omega) x (List.mem_of_mem_eraseIdx hx)
          omega
      · simp only [List.length_append, List.length_singleton, hl]
        by_cases h3 : sink < i
        · rw [if_pos h3, if_pos (by omega)]; omega
        · rw [if_neg h3, if_neg (by omega)]
theorem lap_sq {g : List (List Int)} (hg : goodG g = true) {sink : Nat} (hs : sink < g.length) : Sq (g.length - 1) (lap g sink) := by
  obtain ⟨a, b⟩ := lapFrom_sq hg hs g.length 0 [] (by omega) (by omega) (by simp) (by simp)
  exact ⟨a, b⟩
section
variable {g : List (List Int)} {r : List (List Int)}
theorem lapI_l1 (hg : goodG g = true) (sink p : Nat) (hs : sink < g.length) (hp : p < g.length) (acc : List (List Int)) (hacc : acc.length ≤ 8) (row : List Int) (h5 : row.length ≤ 5) (hr : ∀ q ∈ row, 0 ≤ q ∧ q < (g.length : Int)) :
    ∀ (d i : Nat) (c : List Int), row.length - i = d → i ≤ row.length → c.length = g.length → lowB i c → Ev (fun k => impl_laplace.l0 k sink (acc ++ [(decr (row.drop i) c).eraseIdx sink]) g g.length ((p + 1 : Nat) : Int) g) r → Ev (fun k => impl_laplace.l1 k sink acc c g g.length p row row.length i g) r := by
  have h8 := (good_iff hg).1.2
  intro d
  induction d with
  | zero =>
    intro i c hd hi hc hl h
    rw [List.drop_of_length_le (by omega)] at h
    refine Ev.succ ?_
    simp only [impl_laplace.l1]
    refine Ev.neg (by omega) (Ev.bind0 (a := c.eraseIdx sink) ?_ (Ev.pos (by omega) ?_))
    · unfold slices_Delete_int_int.f
      rw [wrap_nat (by omega), if_pos (by omega), if_pos (by omega), if_pos (by omega), Int.toNat_natCast]
    · rw [wrap_nat (n := p) (by omega)]
      exact h
  | succ d ih =>
    intro i c hd hi hc hl h
    have hlt : i < row.length := by omega
    have hq := hr (rd row i) (by rw [rd_at hlt]; exact List.getElem_mem _)
    obtain ⟨s1, s2, s3⟩ := low_step hl hq.1 (by rw [hc]; exact hq.2)
    rw [drop_rd hlt] at h
    simp only [decr] at h
    refine Ev.succ ?_
    simp only [impl_laplace.l1]
    refine Ev.pos (by omega) (Ev.pos (by omega) (Ev.pos (by omega) (Ev.pos hq.1 (Ev.pos (by omega) ?_))))
    rw [wrap_id (x := rd c (rd row i) - 1) (by omega), wrap_nat (n := i) (by omega)]
    exact ih (i + 1) _ (by omega) (by omega) (by simp; exact hc) s3 h
theorem lapI_l0 (hg : goodG g = true) (sink : Nat) (hs : sink < g.length) : ∀ (d i : Nat) (acc : List (List Int)), g.length - i = d → i ≤ g.length → acc.length ≤ i → Ev (fun k => impl_laplace.l0 k sink acc g g.length i g) (lapFrom g sink d i acc) := by
  have h8 := (good_iff hg).1.2
  intro d
  induction d with
  | zero =>
    intro i acc hd hi ha
    refine Ev.succ ?_
    simp only [impl_laplace.l0, lapFrom]
    exact Ev.neg (by omega) (Ev.now _)
  | succ d ih =>
    intro i acc hd hi ha
    have hrow := (good_iff hg).2 (rd_L1 g (i : Int)) (by rw [rdL_at (by omega)]; exact List.getElem_mem _)
    refine Ev.succ ?_
    simp only [impl_laplace.l0, lapFrom]
    refine Ev.pos (by omega) (Ev.pos (by omega) (Ev.pos (by omega) ?_))
    by_cases h : i = sink
    · rw [if_pos h]
      refine Ev.pos (by omega) ?_
      rw [wrap_nat (by omega)]
      exact ih (i + 1) acc (by omega) (by omega) (by omega)
    · rw [if_neg h]
      refine Ev.neg (by omega) (Ev.pos (by omega) (Ev.pos (by omega) (Ev.bind0 rfl (Ev.pos (by simp; omega) ?_))))
      rw [Int.toNat_natCast, Int.toNat_natCast]
      refine lapI_l1 hg sink i hs (by omega) acc (by omega) (rd_L1 g (i : Int)) hrow.1 hrow.2 _ 0 _ rfl (by omega) (by simp) (low_start hrow.1) ?_
      exact ih (i + 1) _ (by omega) (by omega) (by simp; omega)
theorem laplace_ev (hg : goodG g = true) {sink : Int} (h0 : 0 ≤ sink) (h1 : sink < (g.length : Int)) : Ev (fun k => impl_laplace.f k g sink) (lap g sink.toNat) := by
  unfold impl_laplace.f lap
  have := lapI_l0 hg sink.toNat (by omega) g.length 0 [] (by omega) (by omega) (by simp)
  rw [Int.toNat_of_nonneg h0] at this
  exact this
theorem own_l (l : List Int) (h : l.length ≤ 1048576) : spec_l1Own.f l = some l := by
  unfold spec_l1Own.f
  show (if ([] : List Int).length + l.length < 17592186044416 then some ([] ++ l) else none) = some l
  rw [if_pos (by simp; omega)]; rfl
theorem lapS_l1 (hg : goodG g = true) (sink p : Nat) (hs : sink < g.length) (hp : p < g.length) (acc : List (List Int)) (hacc : acc.length ≤ 8) (row : List Int) (h5 : row.length ≤ 5) (hr : ∀ q ∈ row, 0 ≤ q ∧ q < (g.length : Int)) :
    ∀ (d i : Nat) (c : List Int), row.length - i = d → i ≤ row.length → c.length = g.length → lowB i c → Ev (fun k => spec_trLaplace.l0 k sink (acc ++ [(decr (row.drop i) c).eraseIdx sink]) g g.length ((p + 1 : Nat) : Int) g) r → Ev (fun k => spec_trLaplace.l1 k sink acc c g g.length p row row.length i g) r := by
  have h8 := (good_iff hg).1.2
  intro d
  induction d with
  | zero =>
    intro i c hd hi hc hl h
    rw [List.drop_of_length_le (by omega)] at h
    simp only [decr] at h
    rw [List.eraseIdx_eq_take_drop_succ] at h
    refine Ev.succ ?_
    simp only [spec_trLaplace.l1]
    rw [wrap_nat (n := sink) (by omega), Int.toNat_natCast, Int.toNat_natCast]
    refine Ev.neg (by omega) (Ev.pos (by omega) (Ev.pos (by omega) (Ev.bind0 (own_l _ (by simp; omega)) (Ev.pos (by omega) (Ev.pos (by omega) (Ev.bind0 rfl (Ev.pos (by simp; omega) (Ev.pos (by omega) ?_))))))))
    rw [wrap_nat (n := p) (by omega)]
    exact h
  | succ d ih =>
    intro i c hd hi hc hl h
    have hlt : i < row.length := by omega
    have hq := hr (rd row i) (by rw [rd_at hlt]; exact List.getElem_mem _)
    obtain ⟨s1, s2, s3⟩ := low_step hl hq.1 (by rw [hc]; exact hq.2)
    rw [drop_rd hlt] at h
    simp only [decr] at h
    refine Ev.succ ?_
    simp only [spec_trLaplace.l1]
    refine Ev.pos (by omega) (Ev.pos (by omega) (Ev.pos (by omega) (Ev.pos hq.1 (Ev.pos (by omega) ?_))))
    rw [wrap_id (x := rd c (rd row i) - 1) (by omega), wrap_nat (n := i) (by omega)]
    exact ih (i + 1) _ (by omega) (by omega) (by simp; exact hc) s3 h
theorem lapS_l0 (hg : goodG g = true) (sink : Nat) (hs : sink < g.length) : ∀ (d i : Nat) (acc : List (List Int)), g.length - i = d → i ≤ g.length → acc.length ≤ i → Ev (fun k => spec_trLaplace.l0 k sink acc g g.length i g) (lapFrom g sink d i acc) := by
  have h8 := (good_iff hg).1.2
  intro d
  induction d with
  | zero =>
    intro i acc hd hi ha
    refine Ev.succ ?_
    simp only [spec_trLaplace.l0, lapFrom]
    exact Ev.neg (by omega) (Ev.now _)
  | succ d ih =>
    intro i acc hd hi ha
    have hrow := (good_iff hg).2 (rd_L1 g (i : Int)) (by rw [rdL_at (by omega)]; exact List.getElem_mem _)
    refine Ev.succ ?_
    simp only [spec_trLaplace.l0, lapFrom]
    refine Ev.pos (by omega) (Ev.pos (by omega) (Ev.pos (by omega) ?_))
    by_cases h : i = sink
    · rw [if_pos h]
      refine Ev.pos (by omega) ?_
      rw [wrap_nat (by omega)]
      exact ih (i + 1) acc (by omega) (by omega) (by omega)
    · rw [if_neg h]
      refine Ev.neg (by omega) (Ev.pos (by omega) (Ev.pos (by omega) (Ev.bind0 rfl (Ev.pos (by simp; omega) ?_))))
      rw [Int.toNat_natCast, Int.toNat_natCast]
      refine lapS_l1 hg sink i hs (by omega) acc (by omega) (rd_L1 g (i : Int)) hrow.1 hrow.2 _ 0 _ rfl (by omega) (by simp) (low_start hrow.1) ?_
      exact ih (i + 1) _ (by omega) (by omega) (by simp; omega)
theorem trLaplace_ev (hg : goodG g = true) {sink : Int} (h0 : 0 ≤ sink) (h1 : sink < (g.length : Int)) : Ev (fun k => spec_trLaplace.f k g sink) (lap g sink.toNat) := by
  unfold spec_trLaplace.f lap
  have := lapS_l0 hg sink.toNat (by omega) g.length 0 [] (by omega) (by omega) (by simp)
  rw [Int.toNat_of_nonneg h0] at this
  exact this
end
end Go.Proofs.Ythbigmlpgoobiaa.M
namespace Go.Proofs.Ythbigmlpgoobiaa.M
open Go.RowKit Go.Proofs.Ythbigmlpgoobiaa.P Go.Proofs.Ythbigmlpgoobiaa.In Go.Proofs.YthbigmlpgoobiaaW.PrintWords Go.Proofs.YthbigmlpgoobiaaW.PrintLast
set_option linter.unusedVariables false
set_option linter.unusedSimpArgs false
def marks (a : Int) : Nat → List Int
  | 0 => []
  | n + 1 => a :: marks (a + 1) n
theorem marks_len (a : Int) (n : Nat) : (marks a n).length = n := by
  induction n generalizing a with
  | zero => rfl
  | succ n ih => simp [marks, ih]
theorem markIntS_l0 (n : Nat) (hn : n ≤ 4611686018427387904) : ∀ (d i : Nat) (x : List Int) (a : Int), x.length = n → n - i = d → i ≤ n → 0 ≤ a → a + d ≤ 4611686018427387904 → Ev (fun k => laws_markIntS.l0 k x a i) (a + d, x.take i ++ marks a d) := by
  intro d
  induction d with
  | zero =>
    intro i x a hx hd hi h0 h1
    refine Ev.succ ?_
    simp only [laws_markIntS.l0]
    refine Ev.neg (by omega) ((Ev.now _).val ?_)
    rw [List.take_of_length_le (by omega)]; simp [marks]
  | succ d ih =>
    intro i x a hx hd hi h0 h1
    refine Ev.succ ?_
    simp only [laws_markIntS.l0]
    refine Ev.pos (by omega) (Ev.pos (by omega) ?_)
    rw [wrap_id (x := a + 1) (by omega), wrap_nat (by omega), Int.toNat_natCast]
    refine (ih (i + 1) (x.set i a) (a + 1) (by rw [List.length_set]; exact hx) (by omega) (by omega) (by omega) (by omega)).val ?_
    rw [List.take_succ_eq_append_getElem (by rw [List.length_set]; omega), List.take_set_of_le (Nat.le_refl _), List.getElem_set_self]
    simp only [marks, List.append_assoc, List.singleton_append]
    congr 1; omega
theorem markIntS (x : List Int) (a : Int) (hn : x.length ≤ 4611686018427387904) (h0 : 0 ≤ a) (h1 : a + x.length ≤ 4611686018427387904) : Ev (fun k => laws_markIntS.f k x a) (a + x.length, marks a x.length) := by
  have := markIntS_l0 x.length hn x.length 0 x a rfl (by omega) (by omega) h0 h1
  unfold laws_markIntS.f
  simpa using this
theorem heldIntS_l0 (n : Nat) (hn : n ≤ 4611686018427387904) (y : List Int) (hy : y.length = n) : ∀ (d i : Nat) (a : Int), n - i = d → i ≤ n → 0 ≤ a → a + d ≤ 4611686018427387904 → y.drop i = marks a d → Ev (fun k => laws_heldIntS.l0 k y a i) (a + d) := by
  intro d
  induction d with
  | zero =>
    intro i a hd hi h0 h1 he
    refine Ev.succ ?_
    simp only [laws_heldIntS.l0]
    exact Ev.neg (by omega) ((Ev.now _).val (by simp))
  | succ d ih =>
    intro i a hd hi h0 h1 he
    have hlt : i < y.length := by omega
    rw [List.drop_eq_getElem_cons hlt] at he
    simp only [marks, List.cons.injEq] at he
    refine Ev.succ ?_
    simp only [laws_heldIntS.l0]
    refine Ev.pos (by omega) (Ev.pos (by omega) (Ev.pos (by rw [rd_at hlt]; exact he.1) ?_))
    rw [wrap_id (x := a + 1) (by omega), wrap_nat (by omega)]
    exact (ih (i + 1) (a + 1) (by omega) (by omega) (by omega) (by omega) he.2).val (by omega)
theorem heldIntS (a : Int) (n : Nat) (h0 : 0 ≤ a) (h1 : a + n ≤ 4611686018427387904) : Ev (fun k => laws_heldIntS.f k (marks a n) a) (a + n) :=
  heldIntS_l0 n (by omega) _ (marks_len a n) n 0 a (by omega) (by omega) h0 h1 (by simp)
theorem markR (r : List Int) (h : r.length ≤ 1048576) : ∃ q r', Ev (fun k => laws_markIntS.f k r 1) (q, r') ∧ 0 ≤ q ∧ Ev (fun k => laws_heldIntS.f k r' 1) q ∧ True :=
  ⟨_, _, markIntS r 1 (by omega) (by omega) (by omega), by omega, heldIntS 1 r.length (by omega) (by omega), trivial⟩
end Go.Proofs.Ythbigmlpgoobiaa.M
namespace Go.Proofs.Ythbigmlpgoobiaa.M
open Go.RowKit Go.Proofs.Ythbigmlpgoobiaa.P Go.Proofs.Ythbigmlpgoobiaa.In Go.Proofs.YthbigmlpgoobiaaW.PrintWords Go.Proofs.YthbigmlpgoobiaaW.PrintLast
set_option linter.unusedVariables false
set_option linter.unusedSimpArgs false
def markRows (a : Int) : List (List Int) → Int × List (List Int)
  | [] => (a, [])
  | row :: rest => ((markRows (a + row.length) rest).1, marks a row.length :: (markRows (a + row.length) rest).2)
theorem markIntSS_l0 (n : Nat) (hn : n ≤ 1048576) : ∀ (d i : Nat) (x : List (List Int)) (a : Int), x.length = n → (∀ row ∈ x.drop i, row.length ≤ 1048576) → n - i = d → i ≤ n → 0 ≤ a → a + 1048576 * d ≤ 4611686018427387904 → Ev (fun k => laws_markIntSS.l0 k x a i) ((markRows a (x.drop i)).1, x.take i ++ (markRows a (x.drop i)).2) ∧ a ≤ (markRows a (x.drop i)).1 ∧ (markRows a (x.drop i)).1 ≤ a + 1048576 * d := by
  intro d
  induction d with
  | zero =>
    intro i x a hx hr hd hi h0 h1
    rw [List.drop_of_length_le (by omega)]
    refine ⟨?_, by simp [markRows], by simp [markRows]⟩
    refine Ev.succ ?_
    simp only [laws_markIntSS.l0]
    refine Ev.neg (by omega) ((Ev.now _).val ?_)
    rw [List.take_of_length_le (by omega)]; simp [markRows]
  | succ d ih =>
    intro i x a hx hr hd hi h0 h1
    have hlt : i < x.length := by omega
    have hrow := hr x[i] (by rw [List.drop_eq_getElem_cons hlt]; exact List.mem_cons_self)
    have hdrop : (x.set i (marks a x[i].length)).drop (i + 1) = x.drop (i + 1) := List.drop_set_of_lt (by omega)
    obtain ⟨e1, e2, e3⟩ := ih (i + 1) (x.set i (marks a x[i].length)) (a + x[i].length) (by rw [List.length_set]; exact hx) (fun row hm => hr row (by rw [hdrop] at hm; rw [List.drop_eq_getElem_cons hlt]; exact List.mem_cons_of_mem _ hm)) (by omega) (by omega) (by omega) (by omega)
    rw [hdrop] at e1 e2 e3
    rw [List.drop_eq_getElem_cons hlt]
    simp only [markRows]
    refine ⟨?_, by omega, by omega⟩
    refine Ev.succ ?_
    simp only [laws_markIntSS.l0]
    refine Ev.pos (by omega) (Ev.pos (by omega) ?_)
    rw [rdL_at hlt]
    refine Ev.bind (markIntS x[i] a (by omega) h0 (by omega)) ?_
    rw [wrap_nat (by omega), Int.toNat_natCast]
    refine e1.val ?_
    rw [List.take_succ_eq_append_getElem (by rw [List.length_set]; omega), List.take_set_of_le (Nat.le_refl _), List.getElem_set_self]
    simp
theorem markIntSS (x : List (List Int)) (hx : small x) (a : Int) (h0 : 0 ≤ a) (h1 : a ≤ 1099511627776) : Ev (fun k => laws_markIntSS.f k x a) ((markRows a x).1, (markRows a x).2) ∧ a ≤ (markRows a x).1 ∧ (markRows a x).1 ≤ a + 1099511627776 := by
  have hl := hx.1
  obtain ⟨e1, e2, e3⟩ := markIntSS_l0 x.length hx.1 x.length 0 x a rfl (fun row hm => hx.2 row (by simpa using hm)) (by omega) (by omega) h0 (by omega)
  refine ⟨by unfold laws_markIntSS.f; simpa using e1, by simpa using e2, ?_⟩
  have : (markRows a x).1 ≤ a + 1048576 * x.length := by simpa using e3
  omega
theorem markG (x : List (List Int)) (hx : small x) : ∃ m x', Ev (fun k => laws_markGraph.f k x 1) (m, x') ∧ 0 ≤ m ∧ m ≤ 1099511627777 := by
  obtain ⟨e1, e2, e3⟩ := markIntSS x hx 1 (by omega) (by omega)
  exact ⟨_, _, e1, by omega, by omega⟩
end Go.Proofs.Ythbigmlpgoobiaa.M
namespace Go.Proofs.Ythbigmlpgoobiaa.M
open Go.RowKit Go.Proofs.Ythbigmlpgoobiaa.P Go.Proofs.Ythbigmlpgoobiaa.In Go.Proofs.YthbigmlpgoobiaaW.PrintWords Go.Proofs.YthbigmlpgoobiaaW.PrintLast
set_option linter.unusedVariables false
set_option linter.unusedSimpArgs false
theorem heldIntSS_l0 (n : Nat) (hn : n ≤ 1048576) (y : List (List Int)) (hy : y.length = n) : ∀ (d i : Nat) (x : List (List Int)) (a : Int), x.length = d → (∀ row ∈ x, row.length ≤ 1048576) → n - i = d → i ≤ n → 0 ≤ a → a + 1048576 * d ≤ 4611686018427387904 → y.drop i = (markRows a x).2 → Ev (fun k => laws_heldIntSS.l0 k y a i) (markRows a x).1 := by
  intro d
  induction d with
  | zero =>
    intro i x a hx hr hd hi h0 h1 he
    have : x = [] := List.length_eq_zero_iff.1 hx
    subst this
    refine Ev.succ ?_
    simp only [laws_heldIntSS.l0]
    exact Ev.neg (by omega) (Ev.now _)
  | succ d ih =>
    intro i x a hx hr hd hi h0 h1 he
    have hlt : i < y.length := by omega
    cases x with
    | nil => simp at hx
    | cons row rest =>
      rw [List.drop_eq_getElem_cons hlt] at he
      simp only [markRows, List.cons.injEq] at he
      have hrow := hr row List.mem_cons_self
      refine Ev.succ ?_
      simp only [laws_heldIntSS.l0]
      refine Ev.pos (by omega) (Ev.pos (by omega) ?_)
      rw [rdL_at hlt, he.1]
      refine Ev.bind (heldIntS a row.length h0 (by omega)) (Ev.neg (by omega) ?_)
      rw [wrap_nat (by omega)]
      exact ih (i + 1) rest (a + row.length) (by simpa using hx) (fun r hm => hr r (List.mem_cons_of_mem _ hm)) (by omega) (by omega) (by omega) (by omega) he.2
theorem markRows_len (a : Int) (x : List (List Int)) : (markRows a x).2.length = x.length := by
  induction x generalizing a with
  | nil => rfl
  | cons r x ih => simp [markRows, ih]
theorem heldIntSS (x : List (List Int)) (hx : small x) (a : Int) (h0 : 0 ≤ a) (h1 : a ≤ 1099511627776) : Ev (fun k => laws_heldIntSS.f k (markRows a x).2 a) (markRows a x).1 := by
  have hl := hx.1
  exact heldIntSS_l0 x.length hx.1 _ (markRows_len a x) x.length 0 x a rfl hx.2 (by omega) (by omega) h0 (by omega) (by simp)
theorem markRR (x : List (List Int)) (hx : small x) : ∃ q x', Ev (fun k => laws_markIntSS.f k x 1) (q, x') ∧ 0 ≤ q ∧ Ev (fun k => laws_heldIntSS.f k x' 1) q ∧ True := by
  obtain ⟨e1, e2, e3⟩ := markIntSS x hx 1 (by omega) (by omega)
  exact ⟨_, _, e1, by omega, heldIntSS x hx 1 (by omega) (by omega), trivial⟩
end Go.Proofs.Ythbigmlpgoobiaa.M
namespace Go.Proofs.Ythbigmlpgoobiaa.Pure
open Go.RowKit Go.Proofs.Ythbigmlpgoobiaa.P Go.Proofs.Ythbigmlpgoobiaa.In Go.Proofs.Ythbigmlpgoobiaa.M Go.Proofs.YthbigmlpgoobiaaW.PrintWords Go.Proofs.YthbigmlpgoobiaaW.PrintLast
set_option linter.unusedVariables false
set_option linter.unusedSimpArgs false
theorem FnExactLaplaceOf (l : List (List Int)) (hl : okSS l) (p : Int) (hp : okI p) : laws_FnExactLaplaceOf.f l p = some true := by
  unfold laws_FnExactLaplaceOf.f
  rw [if_pos]
  unfold laws_FnExactLaplaceOf.Good
  obtain ⟨r, hr, _, hs⟩ := szGraph l hl
  refine ⟨r, hr, fun h => ?_⟩
  have sm := hs h
  obtain ⟨v, b, hS, hI, hv⟩ : ∃ (v : List (List Int)) (b : Bool), Ev (fun k => spec_LaplaceOf.f k l p) (v, b) ∧ Ev (fun k => impl_LaplaceOf.f k l p) (v, b) ∧ small v := by
    by_cases hg : placeB l p = true
    · obtain ⟨hgood, h0, h1⟩ := place_iff hg
      have h8 := (good_iff hgood).1.2
      have hsq := lap_sq hgood (sink := p.toNat) (by omega)
      refine ⟨lap l p.toNat, true, ?_, ?_, ⟨by have := hsq.len; omega, fun row hr => by have := (hsq.rows row hr).1; omega⟩⟩
      · unfold spec_LaplaceOf.f
        exact Ev.bind (grPlace l p hl) (Ev.pos hg (Ev.bind (trLaplace_ev hgood h0 h1) (Ev.now _)))
      · unfold impl_LaplaceOf.f
        exact Ev.bind0 (has1 l p) (Ev.pos hg (Ev.bind (laplace_ev hgood h0 h1) (Ev.now _)))
    · refine ⟨[], false, ?_, ?_, ⟨by simp, by simp⟩⟩
      · unfold spec_LaplaceOf.f
        exact Ev.bind (grPlace l p hl) (Ev.neg hg (Ev.now _))
      · unfold impl_LaplaceOf.f
        exact Ev.bind0 (has1 l p) (Ev.neg hg (Ev.now _))
  obtain ⟨m, l', hm, hm0, hm1⟩ := markG l sm
  exact ⟨toGraph l sm, v, b, hS, hI, (eqIntSS v v (by have := hv.1; omega) (fun row hr => by have := hv.2 row hr; omega)).val (decide_eq_true rfl), small_eq l sm, m, l', hm, hm0, markRR v hv⟩
end Go.Proofs.Ythbigmlpgoobiaa.Pure
namespace Go.Proofs.Ythbigmlpgoobiaa.fnExactLaplaceOf
open Go.ChangeShapes Go.WideShapes Go.ChangeAt Go.RowKit
open Go.ChangeMaps (open_string shut_string)
open Go.Proofs.Ythbigmlpgoobiaa.In Go.Proofs.Ythbigmlpgoobiaa.P
set_option linter.unusedVariables false
theorem own : ownKnob Try.prog.godebug = none := by kernel_rfl
theorem laidOut : laidOutB Try.prog = true := by kernel_rfl
set_option maxRecDepth 100000 in
theorem lifted (os : Os) (started : os.Started) (H : Type) (enc : TypeId × Value → H) :
    ReturnsInHanded {} Try.checked os 4 .any (Rows.fnExactLaplaceOfSpec.pre6 enc Try.prog Try.f4 Rows.fnExactLaplaceOfRow.domain false) (Rows.fnExactLaplaceOfSpec.post enc Try.prog Try.f4 false true false false) := by
  refine returnsInHanded_of_change_sized (C := Try.checked) own started (by kernel_rfl) Try.func4
    (ChangeSpec.witness6 (enc := enc) (C := Try.checked) false ⟨#[], #[.agg #[.slice none 0 0], .int .i64 0], []⟩ 8 (by kernel_rfl) (by kernel_rfl) (by kernel_rfl) (by kernel_rfl)) ?_
  intro W base args ds gs before hval0 hW hcnd hsz0 _
  have hsz : (DataW.weightsEach Try.prog (Try.f4.params.toList ++ Rows.fnExactLaplaceOfSpec.plain.varTypes Try.prog) (ds ++ gs)).all (· ≤ reachBytes) = true := hsz0
  have hval : ∀ (j : Nat) t v, Try.f4.params[j]? = some t → args[j]? = some v → Value.okWide Try.prog W .any base t v := hval0
  have hW' := hW
  obtain ⟨p, q, hA0, hV, rfl, hfz, hnd⟩ := hW
  have hA : DataW.TrodAll enc Try.prog W 0 (fun _ => true) true Try.f4.params.toList args.toList ds p := hA0
  rw [Try.params4] at hA hval hsz
  obtain ⟨v0, vs0, d0, ds0, p0, q0, hargs, rfl, rfl, h0, r0⟩ := trodAll_cons hA
  obtain ⟨v1, vs1, d1, ds1, p1, q1, rfl, rfl, rfl, h1, r1⟩ := trodAll_cons r0
  obtain ⟨rfl, rfl, rfl⟩ := trodAll_nil r1
  obtain rfl : args = #[v0, v1] := by cases args; simp_all
  obtain ⟨rfl, rfl⟩ := trodVars_none hV
  have k0 := h0
  have lt0 : ∀ x ∈ p0, x.block < W.heap.size := by obtain ⟨m, hm⟩ := k0; exact DataW.trod_lt m _ _ _ hm
  obtain ⟨A0, l0, cap0, rfl, hl0, hc0, hw0⟩ := in_graph (q := 3) Try.underlying30 (by kernel_rfl) (by kernel_rfl) rfl Try.underlying22 Try.underlying43 Try.underlying3 (by kernel_rfl) (by kernel_rfl) (hval 0 30 v0 rfl rfl) h0
  obtain ⟨a1, rfl, rfl, rfl, w1⟩ := open_int Try.underlying3 (hval 1 3 v1 rfl rfl) h1
  clear hA0 hval0 hsz0 hsz
  have h := Pure.FnExactLaplaceOf l0 (okSS_wf hc0 hw0) a1 (okI_wf w1)
  refine (laws_FnExactLaplaceOf.calls _ _ l0 a1 true W hc0 hl0 h).mono fun e W' ⟨he, bel0⟩ => ?_
  have bel : Below W.heap.size W W' := bel0
  subst he
  exact ⟨_, rfl, _, _, _, [], _, [], hW', trodAll_mk1 (shut_bool Try.underlying4 _), (trodAll_cons_mk (Below.trod laidOut (by kernel_rfl) (of_decide_eq_true (by kernel_rfl)) k0 bel lt0) (trodAll_cons_mk (shut_int Try.underlying3 w1) trodAll_mk0)), rfl, bel.frame _, fun h => by cases h⟩
theorem over : Rows.fnExactLaplaceOfRow.holds Try.pinned (OpenSpec.ofChange Rows.fnExactLaplaceOfSpec) :=
  OpenClaim.holds_of_wide 4 Try.f4 rfl rfl rfl rfl rfl rfl rfl ⟨rfl, rfl, rfl, rfl, rfl⟩ rfl rfl rfl rfl rfl (by kernel_rfl) Try.func4 (by kernel_rfl)
    (of_decide_eq_true (by kernel_rfl)) (by unfold Func.isWrapper; first | (rw [if_pos (by decide +kernel)]; kernel_rfl) | (rw [if_neg (by decide +kernel)]; exact ⟨rfl, rfl⟩))
    (fun os started H enc _ => lifted os started H enc)
theorem proved : Rows.FnExactLaplaceOfSaid := over
end Go.Proofs.Ythbigmlpgoobiaa.fnExactLaplaceOf
namespace Go.Proofs.Ythbigmlpgoobiaa
/-- The law, under a short name, for the claim. -/
theorem fnExactLaplaceOf_holds : Rows.FnExactLaplaceOfSaid := fnExactLaplaceOf.proved
#print axioms fnExactLaplaceOf_holds
end Go.Proofs.Ythbigmlpgoobiaa
