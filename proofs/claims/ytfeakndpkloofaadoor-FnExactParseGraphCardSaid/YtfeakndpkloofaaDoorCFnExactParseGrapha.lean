/- The law FnExactParseGraph holds for every input: the program returns what the reference returns (or what the law says), for all arguments. -/
import Derived.Test.YtfeakndpkloofaaDoorP0
import Derived.Test.YtfeakndpkloofaaDoorRIn
import Derived.Test.YtfeakndpkloofaaDoorPimplParseGraph
import Derived.Test.YtfeakndpkloofaaDoorPlawseqGraph
import Derived.Test.YtfeakndpkloofaaDoorPlawsheldGraph
import Derived.Test.YtfeakndpkloofaaDoorPlawsmarkGraph
import Derived.Test.YtfeakndpkloofaaDoorPspecParseGraph
import Derived.Test.YtfeakndpkloofaaDoorPlawseqIntS
import Derived.Test.YtfeakndpkloofaaDoorPspecgrGood
import Derived.Test.YtfeakndpkloofaaDoorPspecl1All
import Derived.Test.YtfeakndpkloofaaDoorPspecl1In
import Derived.Test.YtfeakndpkloofaaDoorPimplisGraph
import Derived.Test.YtfeakndpkloofaaDoorPlawsmarkIntS
import Derived.Test.YtfeakndpkloofaaDoorPlawsheldIntS
import Derived.Test.YtfeakndpkloofaaDoorPlawsmarkIntSS
import Derived.Test.YtfeakndpkloofaaDoorPlawsheldIntSS
import Derived.Test.YtfeakndpkloofaaDoorPimplin
import Derived.Test.YtfeakndpkloofaaDoorPstrconvItoa
import Derived.Test.YtfeakndpkloofaaDoorPstringsJoin
import Derived.Test.YtfeakndpkloofaaDoorPspecl1Num
import Derived.Test.YtfeakndpkloofaaDoorPimpllistText
import Derived.Test.YtfeakndpkloofaaDoorPspecgrText
import Derived.Test.YtfeakndpkloofaaDoorPstringsSplit
import Derived.Test.YtfeakndpkloofaaDoorPimplreadList
import Derived.Test.YtfeakndpkloofaaDoorPimpltold
import Derived.Test.YtfeakndpkloofaaDoorPspecgrParse
import Derived.Test.YtfeakndpkloofaaDoorRows
import Derived.Stop.LaidErr
import Derived.Lib.LaidTab
import Derived.Shelf.Vars
import Derived.MakeChecks
import Derived.LaidLaws
import Derived.Handed
import Derived.HandedShaped
import Derived.Test.YtfeakndpkloofaaDoorCards
import Derived.Test.YtfeakndpkloofaaDoorTie
import Derived.WalkKit
import Derived.ProofKit
import Derived.OpenShut
import Derived.ShutString
import Derived.ChangeOld
import Derived.Below
import Derived.SizedLaws
import Derived.LaidMore
import Derived.Lay
import Derived.SevenTiedAt
import Derived.Stop.Joined
import Derived.Deep.Matrix
import Derived.Lib.SmallJoins
namespace Go.Proofs.YtfeakndpkloofaaDoor.M
open Go.RowKit Go.Proofs.YtfeakndpkloofaaDoor.P Go.Proofs.YtfeakndpkloofaaDoor.In Go.Proofs.YtfeakndpkloofaaDoorW.PrintWords Go.Proofs.YtfeakndpkloofaaDoorW.PrintLast
set_option linter.unusedVariables false
set_option linter.unusedSimpArgs false
theorem ev_kept {w wc W w' : World} {S : Nat → Prop} {s : Nat} (hs : s ≤ wc.heap.size) (hB : Below w.heap.size w wc) (hb : Below W.heap.size W w') (hk : Kept wc W S) : Kept wc w' S ∧ s ≤ W.heap.size ∧ W.heap.size ≤ w'.heap.size ∧ w.heap.size ≤ W.heap.size :=
  ⟨hk.below hb, Nat.le_trans hs hk.1, hb.size, Nat.le_trans hB.size hk.1⟩
theorem ev_mark {wc W w' : World} {S : Nat → Prop} {s : Nat} (hs : s ≤ wc.heap.size) (hm : Kept W w' S) (hk : Kept wc W S) : Kept wc w' S ∧ s ≤ w'.heap.size :=
  ⟨hk.then_ hm (fun _ h => .inl h), Nat.le_trans hs (Nat.le_trans hk.1 hm.1)⟩
theorem S_new {α : Type} {d : Kd α} {e : Nat} {W w' : World} {v : Value} {r : List α} {b0 s : Nat} (h : Kd.S d e w' W.heap.size (fun _ => True) v r) (hb : W.heap.size ≤ w'.heap.size) (h0 : b0 ≤ W.heap.size) (hs : s ≤ W.heap.size) :
    ∃ lo hi, s ≤ lo ∧ lo ≤ hi ∧ hi ≤ w'.heap.size ∧ Kd.S d e w' b0 (fun k => lo ≤ k ∧ k < hi) v r :=
  ⟨W.heap.size, w'.heap.size, hs, hb, Nat.le_refl _, Kd.S_lower (Kd.S_mono (Kd.S_bound h) (fun _ hk => ⟨hk.2.1, hk.2.2.1⟩)) h0⟩
theorem R_new {α : Type} {d : Kd α} {e : Nat} {W w' : World} {v : Value} {r : List α} {b0 s : Nat} (h : Kd.R d e w' W.heap.size (fun _ => True) v r) (hb : W.heap.size ≤ w'.heap.size) (h0 : b0 ≤ W.heap.size) (hs : s ≤ W.heap.size) :
    ∃ lo hi, s ≤ lo ∧ lo ≤ hi ∧ hi ≤ w'.heap.size ∧ Kd.R d e w' b0 (fun k => lo ≤ k ∧ k < hi) v r :=
  ⟨W.heap.size, w'.heap.size, hs, hb, Nat.le_refl _, Kd.R_lower (Kd.R_mono (Kd.R_bound h) (fun _ hk => ⟨hk.2.1, hk.2.2.1⟩)) h0⟩
theorem Q_new {α : Type} {d : Kd α} {e : Nat} {W w' : World} {v : Value} {r : List α} {b0 s : Nat} (h : Kd.Q d e w' W.heap.size (fun _ => True) v r) (hb : W.heap.size ≤ w'.heap.size) (h0 : b0 ≤ W.heap.size) (hs : s ≤ W.heap.size) :
    ∃ lo hi, s ≤ lo ∧ lo ≤ hi ∧ hi ≤ w'.heap.size ∧ Kd.Q d e w' b0 (fun k => lo ≤ k ∧ k < hi) v r :=
  ⟨W.heap.size, w'.heap.size, hs, hb, Nat.le_refl _, Kd.Q_lower (Kd.Q_mono (Kd.Q_bound h) (fun _ hk => ⟨hk.2.1, hk.2.2.1⟩)) h0⟩
theorem Q_now {α : Type} {d : Kd α} {e base : Nat} {wc W : World} {ok S : Nat → Prop} {A : Option Addr} {c : Nat} {xs : List α} (h : Kd.Q d e wc base ok (.slice A xs.length c) xs) (hk : Kept wc W S) (hne : ∀ k, ok k → ¬ S k) : Kd.C d W A xs.length xs :=
  (Kd.Q_reads' (Kd.Q_kept h hk hne)).2.2
theorem S_now {α : Type} {d : Kd α} {e base : Nat} {wc W : World} {ok S : Nat → Prop} {A : Option Addr} {c : Nat} {xs : List α} (h : Kd.S d e wc base ok (.slice A xs.length c) xs) (hk : Kept wc W S) (hne : ∀ k, ok k → ¬ S k) : Kd.C d W A xs.length xs :=
  (Kd.S_reads' (Kd.S_kept h hk hne)).2.2
theorem R_now {α : Type} {d : Kd α} {e base : Nat} {wc W : World} {ok S : Nat → Prop} {A : Option Addr} {c : Nat} {xs : List α} (h : Kd.R d e wc base ok (.slice A xs.length c) xs) (hk : Kept wc W S) (hne : ∀ k, ok k → ¬ S k) : Kd.C d W A xs.length xs :=
  (Kd.R_reads' (Kd.R_kept h hk hne)).2.2
theorem F_at {α : Type} {d : Kd α} {wc W : World} {ok S : Nat → Prop} {A : Option Addr} {n : Nat} {xs : List α} (h : Kd.F d wc ok A n xs) (hk : Kept wc W S) (hne : ∀ k, ok k → ¬ S k) : Kd.C d W A n xs :=
  Kd.F_now (Kd.F_kept h hk hne)
theorem N_new {α : Type} {d : Kd α} {e : Nat} {W w' : World} {v : Value} {r : List α} {b0 s : Nat} (h : Kd.N d e w' W.heap.size (fun k => W.heap.size ≤ k) v r) (hb : W.heap.size ≤ w'.heap.size) (h0 : b0 ≤ W.heap.size) (hs : s ≤ W.heap.size) :
    ∃ lo hi, s ≤ lo ∧ lo ≤ hi ∧ hi ≤ w'.heap.size ∧ Kd.N d e w' b0 (fun k => lo ≤ k ∧ k < hi) v r :=
  ⟨W.heap.size, w'.heap.size, hs, hb, Nat.le_refl _, Kd.N_lower (Kd.N_mono (Kd.N_bound h) (fun _ hk => ⟨hk.1, hk.2⟩)) h0⟩
theorem N_now {α : Type} {d : Kd α} {e base : Nat} {wc W : World} {ok S : Nat → Prop} {A : Option Addr} {c : Nat} {xs : List α} (h : Kd.N d e wc base ok (.slice A xs.length c) xs) (hk : Kept wc W S) (hne : ∀ k, ok k → ¬ S k) : Kd.C d W A xs.length xs :=
  (Kd.N_reads' (Kd.N_kept h hk hne)).2.2
theorem box_in {w : World} {g : Nat} {o : Obj} (h : w.heap[g]? = some o) : g + 1 ≤ w.heap.size := blk_lt h
theorem calls_len {P : Program} {n : FuncId} {args args' : Array Value} {w : World} {Q : Ending → World → Prop} (e : args = args') (h : Calls P n args' w Q) : Calls P n args w Q := e ▸ h
end Go.Proofs.YtfeakndpkloofaaDoor.M
namespace Go.Proofs.YtfeakndpkloofaaDoor.P
open Go.RowKit Go.Proofs.YtfeakndpkloofaaDoorW.PrintWords Go.Proofs.YtfeakndpkloofaaDoorW.PrintLast Go.Proofs.YtfeakndpkloofaaDoorW.PrintMore Go.Proofs.YtfeakndpkloofaaDoor.M
attribute [local go_sem] max2_int min2_int max_two min_two max_three min_three max_four min_four   -- for this text's walks alone
set_option linter.unusedVariables false
set_option linter.unusedSimpArgs false

/-- What the calls on the straight way answer. -/
def laws_FnExactParseGraph.Good (a0 : ByteArray) : Prop :=
  ((a0.size : Int) ≤ 1048576 → ∃ x2 : List (List Int), ∃ x3 : Bool, Ev (fun k => spec_ParseGraph.f k a0) (x2, x3) ∧ Ev (fun k => impl_ParseGraph.f k a0) (x2, x3) ∧ Ev (fun k => laws_eqGraph.f k x2 x2) true ∧ ∃ x26 : Int, ∃ x27 : List (List Int), Ev (fun k => laws_markGraph.f k x2 1) (x26, x27) ∧ 0 ≤ x26 ∧ Ev (fun k => laws_heldGraph.f k x27 1) x26 ∧ True)
open Classical in
noncomputable def laws_FnExactParseGraph.f (a0 : ByteArray) : Option Bool := if laws_FnExactParseGraph.Good a0 then some true else none
set_option maxHeartbeats 16000000 in
set_option maxRecDepth 100000 in
theorem laws_FnExactParseGraph.calls (a0 : ByteArray) (r : Bool) (w : World) (hglb : Glb w) (h : laws_FnExactParseGraph.f a0 = some r) :
    Calls Tryd.prog 5 #[.string a0] w fun e w' => e = .returned (.bool r) ∧ Below w.heap.size w w' := by
  unfold laws_FnExactParseGraph.f at h
  by_cases hg : laws_FnExactParseGraph.Good a0
  case neg => rw [if_neg hg] at h; cases h
  rw [if_pos hg] at h
  obtain rfl := Option.some.inj h
  clear h
  unfold laws_FnExactParseGraph.Good at hg
  have hu28 := Tryd.underlying28
  obtain ⟨s0, hs0⟩ : ∃ s0, s0 = w.heap.size := ⟨_, rfl⟩
  have HS := Aside0.mk (Nat.le_of_eq hs0)
  have CH := Aside0.mk True.intro
  have HB := Aside0.mk (Below.refl w.heap.size w)
  clear hs0
  have HGLB := Aside0.mk hglb
  clear hglb
  by_cases hz : (a0.size : Int) > 1048576
  · have hzb : decide ((a0.size : Int) > 1048576) = true := decide_eq_true hz
    have hzc : decide (1048576 < a0.size) = true := decide_eq_true (by omega)
    have hzd : decide (1048576 < (a0.size : Int)) = true := hzb
    clear hg hz
    go_enter Tryd.func5, Tryd.ntmps5
    go_wp2
    go_ret
    exact ⟨by first | rfl | (simp; done), by repeat (first | (with_reducible first | exact HB.out | apply below_alloc | apply pw_below_drewN | apply below_drew1 | refine below_set ?_ GEgb11.out | refine below_set ?_ GEgb21.out | refine below_set ?_ GEgb39.out) | exact HB.out)⟩
  have hg := hg (by omega)
  have hzLa0 : decide ((a0.size : Int) > 1048576) = false := decide_eq_false hz
  have hzcLa0 : decide (1048576 < a0.size) = false := decide_eq_false (by omega)
  have hzdLa0 : decide (1048576 < (a0.size : Int)) = false := hzLa0
  clear hz
  obtain ⟨x2, hg⟩ := hg
  obtain ⟨x3, hg⟩ := hg
  obtain ⟨E_, hg⟩ := hg
  obtain ⟨KE4, E_⟩ := E_
  have E4 := Aside0.mk (E_ KE4 (Nat.le_refl _))
  clear E_
  obtain ⟨E_, hg⟩ := hg
  obtain ⟨KE14, E_⟩ := E_
  have E14 := Aside0.mk (E_ KE14 (Nat.le_refl _))
  clear E_
  obtain ⟨E_, hg⟩ := hg
  obtain ⟨KE24, E_⟩ := E_
  have E24 := Aside0.mk (E_ KE24 (Nat.le_refl _))
  clear E_
  obtain ⟨x26, hg⟩ := hg
  obtain ⟨x27, hg⟩ := hg
  obtain ⟨E_, hg⟩ := hg
  obtain ⟨KE28, E_⟩ := E_
  have E28 := Aside0.mk (E_ KE28 (Nat.le_refl _))
  clear E_
  obtain ⟨hpx26, hg⟩ := hg
  have hnx26 : decide (x26 < 0) = false := decide_eq_false (by omega)
  have hex26 : (x26 != x26) = false := bne_self_eq_false _
  have hdx26 : decide (x26 = x26) = true := decide_eq_true rfl
  clear hpx26
  obtain ⟨E_, hg⟩ := hg
  obtain ⟨KE31, E_⟩ := E_
  have E31 := Aside0.mk (E_ KE31 (Nat.le_refl _))
  clear E_
  clear hg
  have hbx3 : (x3 != x3) = false := bne_self_eq_false _
  have hdx3 : (x3 == x3) = true := beq_self_eq_true _
  go_enter Tryd.func5, Tryd.ntmps5
  go_wp2_with (first | ((with_reducible refine gate_callee (f := 16) rfl ?_); refine goesL_ (some 16) rfl rfl Tryd.func16 (by kernel_rfl) rfl #[.string a0] rfl (by (try simp only [List.map_toArray, List.map_cons, List.map_nil]); first | done | rfl | (simp only [List.length_drop, List.length_take]; rfl)) ?_; (with_reducible refine (spec_ParseGraph.calls KE4 a0 x2 x3 _ E4.out).mono ?_); rintro e w1 ⟨v5, rfl, hov0__, hb_⟩; refine ⟨_, rfl, ?_⟩; obtain ⟨hk_, hs1_, hs2_, hw_⟩ := ev_kept (S := (fun _ => False)) HS.out HB.out hb_ (by repeat (first | (with_reducible first | exact Kept.refl _ _ | apply Kept.alloc | apply Kept.drewN | apply Kept.drew) | exact Kept.refl _ _)); have hB_ := below_step (by repeat (first | (with_reducible first | exact HB.out | apply below_alloc | apply pw_below_drewN | apply below_drew1) | exact HB.out)) hb_; have ns_ := Aside0.mk (Nat.le_trans (Nat.le_trans hs1_ hs2_) (Nat.le_refl _)); have nB_ := Aside0.mk hB_; obtain ⟨lo6, hi7, c1_, c2_, c3_, h_⟩ := S_new hov0__ hs2_ hw_ hs1_; have HS8 := Aside0.mk h_; obtain ⟨Ao9, co10, eo_⟩ := Kd.S_slice HS8.out; subst eo_; have HCHS8 := Aside0.mk (Kd.S_reads' HS8.out).2.1; clear h_ hov0__; have nc_ := Aside0.mk (And.intro c1_ (And.intro c2_ CH.out)); clear CH ns_; have CH := nc_; have ns_ := Aside0.mk c3_; clear nc_ c1_ c2_ c3_; clear HB HS ; have HB := nB_; have HS := ns_; clear nB_ ns_ ; clear hk_ hs1_ hs2_ hw_ hB_ hb_) | ((with_reducible refine gate_dst (N := 3) rfl ?_); refine box_event ?hg (N := 3) ?hd (cs := #[.slice none 0 0]) (t := 28) ?hr ?_; (case hd => rfl); (case hg => rfl); (case hr => first | (go_simp; done) | (go_simp; rfl)); intro gb11 hg_ w12 hbox_ hb_; obtain ⟨hk_, hs1_, hs2_, hw0_⟩ := ev_kept (S := (fun _ => False)) HS.out HB.out hb_ (by repeat (first | (with_reducible first | exact Kept.refl _ _ | apply Kept.alloc | apply Kept.drewN | apply Kept.drew) | exact Kept.refl _ _)); have hw_ : w.heap.size ≤ gb11 := (by rw [hg_]; exact hw0_); have hB_ := below_step (by repeat (first | (with_reducible first | exact HB.out | apply below_alloc | apply pw_below_drewN | apply below_drew1) | exact HB.out)) hb_; have n0_ := Aside0.mk (Kd.S_kept HS8.out hk_ (fun _ _ hs_ => hs_.elim)); have hS_ : hi7 ≤ gb11 := (by rw [hg_]; exact hs1_); have nb_ := Aside0.mk hbox_; have ns_ := Aside0.mk (box_in hbox_); have nc_ := Aside0.mk (And.intro hS_ CH.out); have ng_ := Aside0.mk hw_; have nB_ := Aside0.mk hB_; clear HB HS CH HS8; have HS8 := n0_; have HB := nB_; have HS := ns_; have CH := nc_; have BKgb11 := nb_; have GEgb11 := ng_; clear nB_ ns_ nc_ nb_ ng_ n0_; clear hk_ hs1_ hs2_ hw_ hw0_ hB_ hS_ hb_ hbox_ hg_; have hczgb11_0 : w12.cell? ⟨gb11, 0, none⟩ = some (.slice none 0 0) := (blk_cell BKgb11.out 0).trans rfl; have hfzgb11_0 := blk_frozen BKgb11.out 0) | ((with_reducible refine gate_callee (f := 17) rfl ?_); refine goesL_ (some 21) rfl rfl Tryd.func17 (by kernel_rfl) rfl #[.string a0] rfl (by (try simp only [List.map_toArray, List.map_cons, List.map_nil]); first | done | rfl | (simp only [List.length_drop, List.length_take]; rfl)) ?_; (with_reducible refine (impl_ParseGraph.calls KE14 a0 x2 x3 _ E14.out (HGLB.out.below (by repeat (first | (with_reducible first | exact HB.out | apply below_alloc | apply pw_below_drewN | apply below_drew1 | refine below_set ?_ GEgb11.out) | exact HB.out)))).mono ?_); rintro e w13 ⟨v15, rfl, hov0__, hb_⟩; refine ⟨_, rfl, ?_⟩; (try clear hczgb11_0); (try clear hfzgb11_0); obtain ⟨hk_, hs1_, hs2_, hw_⟩ := ev_kept (S := (fun k_ => k_ = gb11)) HS.out HB.out hb_ (by repeat (first | (with_reducible first | exact Kept.refl _ _ | apply Kept.alloc | apply Kept.drewN | apply Kept.drew) | refine Kept.setCell ?_ (Or.inl (show gb11 = gb11 from rfl)) _ | exact Kept.refl _ _)); have hB_ := below_step (by repeat (first | (with_reducible first | exact HB.out | apply below_alloc | apply pw_below_drewN | apply below_drew1 | refine below_set ?_ GEgb11.out) | exact HB.out)) hb_; have n0_ := Aside0.mk (Kd.S_kept HS8.out hk_ (fun k_ h_ hs_ => by obtain ⟨h1_, h2_⟩ := h_; have g1_ : k_ = gb11 := hs_; have := CH.out; omega)); have n1_ := Aside0.mk (blk_below (g := gb11) (o := .cells #[.slice Ao9 x2.length co10] 28 (0, 0)) (by (with_reducible repeat (first | refine blk_drewN ?_ _ | refine blk_drew ?_ | refine blk_alloc ?_ _)); refine blk_put (cs := #[.slice none 0 0]) ?_ 0 _ rfl; (with_reducible repeat (first | refine blk_drewN ?_ _ | refine blk_drew ?_ | refine blk_alloc ?_ _)); exact BKgb11.out) hb_); have ns_ := Aside0.mk (Nat.le_trans (Nat.le_trans hs1_ hs2_) (Nat.le_refl _)); have nB_ := Aside0.mk hB_; obtain ⟨lo16, hi17, c1_, c2_, c3_, h_⟩ := S_new hov0__ hs2_ hw_ hs1_; have HS18 := Aside0.mk h_; obtain ⟨Ao19, co20, eo_⟩ := Kd.S_slice HS18.out; subst eo_; have HCHS18 := Aside0.mk (Kd.S_reads' HS18.out).2.1; clear h_ hov0__; have nc_ := Aside0.mk (And.intro c1_ (And.intro c2_ CH.out)); clear CH ns_; have CH := nc_; have ns_ := Aside0.mk c3_; clear nc_ c1_ c2_ c3_; clear HB HS HS8 BKgb11; have HS8 := n0_; have BKgb11 := n1_; have HB := nB_; have HS := ns_; clear nB_ ns_ n0_ n1_; clear hk_ hs1_ hs2_ hw_ hB_ hb_; have hczgb11_0 : w13.cell? ⟨gb11, 0, none⟩ = some (.slice Ao9 x2.length co10) := (blk_cell BKgb11.out 0).trans rfl; have hfzgb11_0 := blk_frozen BKgb11.out 0) | ((with_reducible refine gate_dst (N := 5) rfl ?_); refine box_event ?hg (N := 5) ?hd (cs := #[.slice none 0 0]) (t := 28) ?hr ?_; (case hd => rfl); (case hg => rfl); (case hr => first | (go_simp; done) | (go_simp; rfl)); intro gb21 hg_ w22 hbox_ hb_; (try clear hczgb11_0); (try clear hfzgb11_0); obtain ⟨hk_, hs1_, hs2_, hw0_⟩ := ev_kept (S := (fun _ => False)) HS.out HB.out hb_ (by repeat (first | (with_reducible first | exact Kept.refl _ _ | apply Kept.alloc | apply Kept.drewN | apply Kept.drew) | exact Kept.refl _ _)); have hw_ : w.heap.size ≤ gb21 := (by rw [hg_]; exact hw0_); have hB_ := below_step (by repeat (first | (with_reducible first | exact HB.out | apply below_alloc | apply pw_below_drewN | apply below_drew1 | refine below_set ?_ GEgb11.out) | exact HB.out)) hb_; have n0_ := Aside0.mk (Kd.S_kept HS8.out hk_ (fun _ _ hs_ => hs_.elim)); have n1_ := Aside0.mk (blk_below (g := gb11) (o := .cells #[.slice Ao9 x2.length co10] 28 (0, 0)) (by (with_reducible repeat (first | refine blk_drewN ?_ _ | refine blk_drew ?_ | refine blk_alloc ?_ _)); exact BKgb11.out) hb_); have n2_ := Aside0.mk (Kd.S_kept HS18.out hk_ (fun _ _ hs_ => hs_.elim)); have hS_ : hi17 ≤ gb21 := (by rw [hg_]; exact hs1_); have nb_ := Aside0.mk hbox_; have ns_ := Aside0.mk (box_in hbox_); have nc_ := Aside0.mk (And.intro hS_ CH.out); have ng_ := Aside0.mk hw_; have nB_ := Aside0.mk hB_; clear HB HS CH HS8 BKgb11 HS18; have HS8 := n0_; have BKgb11 := n1_; have HS18 := n2_; have HB := nB_; have HS := ns_; have CH := nc_; have BKgb21 := nb_; have GEgb21 := ng_; clear nB_ ns_ nc_ nb_ ng_ n0_ n1_ n2_; clear hk_ hs1_ hs2_ hw_ hw0_ hB_ hS_ hb_ hbox_ hg_; have hczgb11_0 : w22.cell? ⟨gb11, 0, none⟩ = some (.slice Ao9 x2.length co10) := (blk_cell BKgb11.out 0).trans rfl; have hfzgb11_0 := blk_frozen BKgb11.out 0; have hczgb21_0 : w22.cell? ⟨gb21, 0, none⟩ = some (.slice none 0 0) := (blk_cell BKgb21.out 0).trans rfl; have hfzgb21_0 := blk_frozen BKgb21.out 0; have hnbgb11gb21 : gb11 ≠ gb21 := (by have := CH.out; omega); have hnbgb21gb11 : gb21 ≠ gb11 := (by have := CH.out; omega)) | ((with_reducible refine gate_callee (f := 10) rfl ?_); refine goesL_ (some 26) rfl rfl Tryd.func10 (by kernel_rfl) rfl #[.agg #[.slice Ao19 x2.length co20], .agg #[.slice Ao9 x2.length co10]] rfl (by (try simp only [List.map_toArray, List.map_cons, List.map_nil]); first | done | rfl | (simp only [List.length_drop, List.length_take]; rfl)) ?_; (with_reducible refine (laws_eqGraph.calls KE24 _ _ x2 _ _ x2 true _ ?sidehr0_0 ?sidehc0_0 ?sidehr1_0 ?sidehc1_0 E24.out).mono ?_); (case sidehr0_0 => exact S_now (S := (fun k_ => k_ = gb21)) HS18.out (by repeat (first | (with_reducible first | exact Kept.refl _ _ | apply Kept.alloc | apply Kept.drewN | apply Kept.drew) | refine Kept.setCell ?_ (Or.inl (show gb21 = gb21 from rfl)) _ | exact Kept.refl _ _)) (fun k_ h_ hs_ => by obtain ⟨h1_, h2_⟩ := h_; have g1_ : k_ = gb21 := hs_; have := CH.out; omega)); (case sidehc0_0 => exact HCHS18.out); (case sidehr1_0 => exact S_now (S := (fun k_ => k_ = gb21)) HS8.out (by repeat (first | (with_reducible first | exact Kept.refl _ _ | apply Kept.alloc | apply Kept.drewN | apply Kept.drew) | refine Kept.setCell ?_ (Or.inl (show gb21 = gb21 from rfl)) _ | exact Kept.refl _ _)) (fun k_ h_ hs_ => by obtain ⟨h1_, h2_⟩ := h_; have g1_ : k_ = gb21 := hs_; have := CH.out; omega)); (case sidehc1_0 => exact HCHS8.out); rintro e w23 ⟨rfl, hb_⟩; refine ⟨_, rfl, ?_⟩; (try clear hczgb11_0); (try clear hfzgb11_0); (try clear hczgb21_0); (try clear hfzgb21_0); obtain ⟨hk_, hs1_, hs2_, hw_⟩ := ev_kept (S := (fun k_ => k_ = gb21)) HS.out HB.out hb_ (by repeat (first | (with_reducible first | exact Kept.refl _ _ | apply Kept.alloc | apply Kept.drewN | apply Kept.drew) | refine Kept.setCell ?_ (Or.inl (show gb21 = gb21 from rfl)) _ | exact Kept.refl _ _)); have hB_ := below_step (by repeat (first | (with_reducible first | exact HB.out | apply below_alloc | apply pw_below_drewN | apply below_drew1 | refine below_set ?_ GEgb11.out | refine below_set ?_ GEgb21.out) | exact HB.out)) hb_; have n0_ := Aside0.mk (Kd.S_kept HS8.out hk_ (fun k_ h_ hs_ => by obtain ⟨h1_, h2_⟩ := h_; have g1_ : k_ = gb21 := hs_; have := CH.out; omega)); have n1_ := Aside0.mk (blk_below (g := gb11) (o := .cells #[.slice Ao9 x2.length co10] 28 (0, 0)) (by (with_reducible repeat (first | refine blk_drewN ?_ _ | refine blk_drew ?_ | refine blk_alloc ?_ _)); refine blk_far ?_ (by have := CH.out; omega) _; (with_reducible repeat (first | refine blk_drewN ?_ _ | refine blk_drew ?_ | refine blk_alloc ?_ _)); exact BKgb11.out) hb_); have n2_ := Aside0.mk (Kd.S_kept HS18.out hk_ (fun k_ h_ hs_ => by obtain ⟨h1_, h2_⟩ := h_; have g1_ : k_ = gb21 := hs_; have := CH.out; omega)); have n3_ := Aside0.mk (blk_below (g := gb21) (o := .cells #[.slice Ao19 x2.length co20] 28 (0, 0)) (by (with_reducible repeat (first | refine blk_drewN ?_ _ | refine blk_drew ?_ | refine blk_alloc ?_ _)); refine blk_put (cs := #[.slice none 0 0]) ?_ 0 _ rfl; (with_reducible repeat (first | refine blk_drewN ?_ _ | refine blk_drew ?_ | refine blk_alloc ?_ _)); exact BKgb21.out) hb_); have ns_ := Aside0.mk (Nat.le_trans (Nat.le_trans hs1_ hs2_) (Nat.le_refl _)); have nB_ := Aside0.mk hB_; clear HB HS HS8 BKgb11 HS18 BKgb21; have HS8 := n0_; have BKgb11 := n1_; have HS18 := n2_; have BKgb21 := n3_; have HB := nB_; have HS := ns_; clear nB_ ns_ n0_ n1_ n2_ n3_; clear hk_ hs1_ hs2_ hw_ hB_ hb_; have hczgb11_0 : w23.cell? ⟨gb11, 0, none⟩ = some (.slice Ao9 x2.length co10) := (blk_cell BKgb11.out 0).trans rfl; have hfzgb11_0 := blk_frozen BKgb11.out 0; have hczgb21_0 : w23.cell? ⟨gb21, 0, none⟩ = some (.slice Ao19 x2.length co20) := (blk_cell BKgb21.out 0).trans rfl; have hfzgb21_0 := blk_frozen BKgb21.out 0; have hnbgb11gb21 : gb11 ≠ gb21 := (by have := CH.out; omega); have hnbgb21gb11 : gb21 ≠ gb11 := (by have := CH.out; omega)) | ((with_reducible refine gate_callee (f := 18) rfl ?_); refine goesL_ (some 35) rfl rfl Tryd.func18 (by kernel_rfl) rfl #[.agg #[.slice Ao19 x2.length co20], .int .i64 1] rfl (by (try simp only [List.map_toArray, List.map_cons, List.map_nil]); first | done | rfl | (simp only [List.length_drop, List.length_take]; rfl)) ?_; (with_reducible refine (laws_markGraph.calls KE28 (fun k_ => lo16 ≤ k_ ∧ k_ < hi17) _ x2 1 x26 x27 w _ ?sideB ?sideO E28.out).mono ?_); (case sideB => exact (by repeat (first | (with_reducible first | exact HB.out | apply below_alloc | apply pw_below_drewN | apply below_drew1 | refine below_set ?_ GEgb11.out | refine below_set ?_ GEgb21.out) | exact HB.out))); (case sideO => exact Kd.S_kept (S := (fun _ => False)) HS18.out (by repeat (first | (with_reducible first | exact Kept.refl _ _ | apply Kept.alloc | apply Kept.drewN | apply Kept.drew) | exact Kept.refl _ _)) (fun _ _ hs_ => hs_.elim)); rintro e w25 ⟨rfl, ho_, hb_, hm_⟩; refine ⟨_, rfl, ?_⟩; (try clear hczgb11_0); (try clear hfzgb11_0); (try clear hczgb21_0); (try clear hfzgb21_0); obtain ⟨hk_, hs1_⟩ := ev_mark (S := (fun k_ => lo16 ≤ k_ ∧ k_ < hi17)) HS.out hm_ (by repeat (first | (with_reducible first | exact Kept.refl _ _ | apply Kept.alloc | apply Kept.drewN | apply Kept.drew) | exact Kept.refl _ _)); have n0_ := Aside0.mk (Kd.S_kept HS8.out hk_ (fun k_ h_ hs_ => by obtain ⟨h1_, h2_⟩ := h_; obtain ⟨g1_, g2_⟩ := hs_; have := CH.out; omega)); have n1_ := Aside0.mk (blk_kept BKgb11.out hk_ (fun hs_ => by obtain ⟨g1_, g2_⟩ := hs_; have := CH.out; omega)); have n2_ := Aside0.mk (blk_kept BKgb21.out hk_ (fun hs_ => by obtain ⟨g1_, g2_⟩ := hs_; have := CH.out; omega)); have nB_ := Aside0.mk hb_; have ns_ := Aside0.mk hs1_; clear HB HS HS8 BKgb11 BKgb21; have HS8 := n0_; have BKgb11 := n1_; have BKgb21 := n2_; have HB := nB_; have HS := ns_; clear nB_ ns_ n0_ n1_ n2_; have hl_ : x2.length = x27.length := (Kd.S_reads' ho_).1; have FM29 := Aside0.mk (Kd.S_F ho_); rw [hl_] at FM29; have HCHS18_ := Aside0.mk (show x27.length ≤ co20 by rw [← hl_]; exact HCHS18.out); have HLFM29 := Aside0.mk hl_; clear ho_ hm_ hb_ hk_ hs1_ hl_ HS18; have hczgb11_0 : w25.cell? ⟨gb11, 0, none⟩ = some (.slice Ao9 x2.length co10) := (blk_cell BKgb11.out 0).trans rfl; have hfzgb11_0 := blk_frozen BKgb11.out 0; have hczgb21_0 : w25.cell? ⟨gb21, 0, none⟩ = some (.slice Ao19 x2.length co20) := (blk_cell BKgb21.out 0).trans rfl; have hfzgb21_0 := blk_frozen BKgb21.out 0; have hnbgb11gb21 : gb11 ≠ gb21 := (by have := CH.out; omega); have hnbgb21gb11 : gb21 ≠ gb11 := (by have := CH.out; omega)) | ((with_reducible refine gate_callee (f := 19) rfl ?_); refine goesL_ (some 38) rfl rfl Tryd.func19 (by kernel_rfl) rfl #[.agg #[.slice Ao19 x2.length co20], .int .i64 1] rfl (by (try simp only [List.map_toArray, List.map_cons, List.map_nil]); first | done | rfl | (simp only [List.length_drop, List.length_take]; rfl)) ?_; refine calls_len (args' := #[.agg #[.slice Ao19 x27.length co20], .int .i64 1]) (by simp only [HLFM29.out]) ?_; (with_reducible refine (laws_heldGraph.calls KE31 _ _ x27 1 x26 _ ?sidehr0_0 ?sidehc0_0 E31.out).mono ?_); (case sidehr0_0 => exact F_at (S := (fun _ => False)) FM29.out (by repeat (first | (with_reducible first | exact Kept.refl _ _ | apply Kept.alloc | apply Kept.drewN | apply Kept.drew) | exact Kept.refl _ _)) (fun _ _ hs_ => hs_.elim)); (case sidehc0_0 => exact HCHS18_.out); rintro e w30 ⟨rfl, hb_⟩; refine ⟨_, rfl, ?_⟩; (try clear hczgb11_0); (try clear hfzgb11_0); (try clear hczgb21_0); (try clear hfzgb21_0); obtain ⟨hk_, hs1_, hs2_, hw_⟩ := ev_kept (S := (fun _ => False)) HS.out HB.out hb_ (by repeat (first | (with_reducible first | exact Kept.refl _ _ | apply Kept.alloc | apply Kept.drewN | apply Kept.drew) | exact Kept.refl _ _)); have hB_ := below_step (by repeat (first | (with_reducible first | exact HB.out | apply below_alloc | apply pw_below_drewN | apply below_drew1 | refine below_set ?_ GEgb11.out | refine below_set ?_ GEgb21.out) | exact HB.out)) hb_; have n0_ := Aside0.mk (Kd.S_kept HS8.out hk_ (fun _ _ hs_ => hs_.elim)); have n1_ := Aside0.mk (blk_below (g := gb11) (o := .cells #[.slice Ao9 x2.length co10] 28 (0, 0)) (by (with_reducible repeat (first | refine blk_drewN ?_ _ | refine blk_drew ?_ | refine blk_alloc ?_ _)); exact BKgb11.out) hb_); have n2_ := Aside0.mk (blk_below (g := gb21) (o := .cells #[.slice Ao19 x2.length co20] 28 (0, 0)) (by (with_reducible repeat (first | refine blk_drewN ?_ _ | refine blk_drew ?_ | refine blk_alloc ?_ _)); exact BKgb21.out) hb_); have n3_ := Aside0.mk (Kd.F_kept FM29.out hk_ (fun _ _ hs_ => hs_.elim)); have ns_ := Aside0.mk (Nat.le_trans (Nat.le_trans hs1_ hs2_) (Nat.le_refl _)); have nB_ := Aside0.mk hB_; clear HB HS HS8 BKgb11 BKgb21 FM29; have HS8 := n0_; have BKgb11 := n1_; have BKgb21 := n2_; have FM29 := n3_; have HB := nB_; have HS := ns_; clear nB_ ns_ n0_ n1_ n2_ n3_; clear hk_ hs1_ hs2_ hw_ hB_ hb_; have hczgb11_0 : w30.cell? ⟨gb11, 0, none⟩ = some (.slice Ao9 x2.length co10) := (blk_cell BKgb11.out 0).trans rfl; have hfzgb11_0 := blk_frozen BKgb11.out 0; have hczgb21_0 : w30.cell? ⟨gb21, 0, none⟩ = some (.slice Ao19 x2.length co20) := (blk_cell BKgb21.out 0).trans rfl; have hfzgb21_0 := blk_frozen BKgb21.out 0; have hnbgb11gb21 : gb11 ≠ gb21 := (by have := CH.out; omega); have hnbgb21gb11 : gb21 ≠ gb11 := (by have := CH.out; omega)) | ((with_reducible refine gate_callee (f := 17) rfl ?_); refine goesL_ (some 46) rfl rfl Tryd.func17 (by kernel_rfl) rfl #[.string a0] rfl (by (try simp only [List.map_toArray, List.map_cons, List.map_nil]); first | done | rfl | (simp only [List.length_drop, List.length_take]; rfl)) ?_; (with_reducible refine (impl_ParseGraph.calls KE14 a0 x2 x3 _ E14.out (HGLB.out.below (by repeat (first | (with_reducible first | exact HB.out | apply below_alloc | apply pw_below_drewN | apply below_drew1 | refine below_set ?_ GEgb11.out | refine below_set ?_ GEgb21.out) | exact HB.out)))).mono ?_); rintro e w32 ⟨v33, rfl, hov0__, hb_⟩; refine ⟨_, rfl, ?_⟩; (try clear hczgb11_0); (try clear hfzgb11_0); (try clear hczgb21_0); (try clear hfzgb21_0); obtain ⟨hk_, hs1_, hs2_, hw_⟩ := ev_kept (S := (fun _ => False)) HS.out HB.out hb_ (by repeat (first | (with_reducible first | exact Kept.refl _ _ | apply Kept.alloc | apply Kept.drewN | apply Kept.drew) | exact Kept.refl _ _)); have hB_ := below_step (by repeat (first | (with_reducible first | exact HB.out | apply below_alloc | apply pw_below_drewN | apply below_drew1 | refine below_set ?_ GEgb11.out | refine below_set ?_ GEgb21.out) | exact HB.out)) hb_; have n0_ := Aside0.mk (Kd.S_kept HS8.out hk_ (fun _ _ hs_ => hs_.elim)); have n1_ := Aside0.mk (blk_below (g := gb11) (o := .cells #[.slice Ao9 x2.length co10] 28 (0, 0)) (by (with_reducible repeat (first | refine blk_drewN ?_ _ | refine blk_drew ?_ | refine blk_alloc ?_ _)); exact BKgb11.out) hb_); have n2_ := Aside0.mk (blk_below (g := gb21) (o := .cells #[.slice Ao19 x2.length co20] 28 (0, 0)) (by (with_reducible repeat (first | refine blk_drewN ?_ _ | refine blk_drew ?_ | refine blk_alloc ?_ _)); exact BKgb21.out) hb_); have n3_ := Aside0.mk (Kd.F_kept FM29.out hk_ (fun _ _ hs_ => hs_.elim)); have ns_ := Aside0.mk (Nat.le_trans (Nat.le_trans hs1_ hs2_) (Nat.le_refl _)); have nB_ := Aside0.mk hB_; obtain ⟨lo34, hi35, c1_, c2_, c3_, h_⟩ := S_new hov0__ hs2_ hw_ hs1_; have HS36 := Aside0.mk h_; obtain ⟨Ao37, co38, eo_⟩ := Kd.S_slice HS36.out; subst eo_; have HCHS36 := Aside0.mk (Kd.S_reads' HS36.out).2.1; clear h_ hov0__; have nc_ := Aside0.mk (And.intro c1_ (And.intro c2_ CH.out)); clear CH ns_; have CH := nc_; have ns_ := Aside0.mk c3_; clear nc_ c1_ c2_ c3_; clear HB HS HS8 BKgb11 BKgb21 FM29; have HS8 := n0_; have BKgb11 := n1_; have BKgb21 := n2_; have FM29 := n3_; have HB := nB_; have HS := ns_; clear nB_ ns_ n0_ n1_ n2_ n3_; clear hk_ hs1_ hs2_ hw_ hB_ hb_; have hczgb11_0 : w32.cell? ⟨gb11, 0, none⟩ = some (.slice Ao9 x2.length co10) := (blk_cell BKgb11.out 0).trans rfl; have hfzgb11_0 := blk_frozen BKgb11.out 0; have hczgb21_0 : w32.cell? ⟨gb21, 0, none⟩ = some (.slice Ao19 x2.length co20) := (blk_cell BKgb21.out 0).trans rfl; have hfzgb21_0 := blk_frozen BKgb21.out 0; have hnbgb11gb21 : gb11 ≠ gb21 := (by have := CH.out; omega); have hnbgb21gb11 : gb21 ≠ gb11 := (by have := CH.out; omega)) | ((with_reducible refine gate_dst (N := 9) rfl ?_); refine box_event ?hg (N := 9) ?hd (cs := #[.slice none 0 0]) (t := 28) ?hr ?_; (case hd => rfl); (case hg => rfl); (case hr => first | (go_simp; done) | (go_simp; rfl)); intro gb39 hg_ w40 hbox_ hb_; (try clear hczgb11_0); (try clear hfzgb11_0); (try clear hczgb21_0); (try clear hfzgb21_0); obtain ⟨hk_, hs1_, hs2_, hw0_⟩ := ev_kept (S := (fun _ => False)) HS.out HB.out hb_ (by repeat (first | (with_reducible first | exact Kept.refl _ _ | apply Kept.alloc | apply Kept.drewN | apply Kept.drew) | exact Kept.refl _ _)); have hw_ : w.heap.size ≤ gb39 := (by rw [hg_]; exact hw0_); have hB_ := below_step (by repeat (first | (with_reducible first | exact HB.out | apply below_alloc | apply pw_below_drewN | apply below_drew1 | refine below_set ?_ GEgb11.out | refine below_set ?_ GEgb21.out) | exact HB.out)) hb_; have n0_ := Aside0.mk (Kd.S_kept HS8.out hk_ (fun _ _ hs_ => hs_.elim)); have n1_ := Aside0.mk (blk_below (g := gb11) (o := .cells #[.slice Ao9 x2.length co10] 28 (0, 0)) (by (with_reducible repeat (first | refine blk_drewN ?_ _ | refine blk_drew ?_ | refine blk_alloc ?_ _)); exact BKgb11.out) hb_); have n2_ := Aside0.mk (blk_below (g := gb21) (o := .cells #[.slice Ao19 x2.length co20] 28 (0, 0)) (by (with_reducible repeat (first | refine blk_drewN ?_ _ | refine blk_drew ?_ | refine blk_alloc ?_ _)); exact BKgb21.out) hb_); have n3_ := Aside0.mk (Kd.F_kept FM29.out hk_ (fun _ _ hs_ => hs_.elim)); have n4_ := Aside0.mk (Kd.S_kept HS36.out hk_ (fun _ _ hs_ => hs_.elim)); have hS_ : hi35 ≤ gb39 := (by rw [hg_]; exact hs1_); have nb_ := Aside0.mk hbox_; have ns_ := Aside0.mk (box_in hbox_); have nc_ := Aside0.mk (And.intro hS_ CH.out); have ng_ := Aside0.mk hw_; have nB_ := Aside0.mk hB_; clear HB HS CH HS8 BKgb11 BKgb21 FM29 HS36; have HS8 := n0_; have BKgb11 := n1_; have BKgb21 := n2_; have FM29 := n3_; have HS36 := n4_; have HB := nB_; have HS := ns_; have CH := nc_; have BKgb39 := nb_; have GEgb39 := ng_; clear nB_ ns_ nc_ nb_ ng_ n0_ n1_ n2_ n3_ n4_; clear hk_ hs1_ hs2_ hw_ hw0_ hB_ hS_ hb_ hbox_ hg_; have hczgb11_0 : w40.cell? ⟨gb11, 0, none⟩ = some (.slice Ao9 x2.length co10) := (blk_cell BKgb11.out 0).trans rfl; have hfzgb11_0 := blk_frozen BKgb11.out 0; have hczgb21_0 : w40.cell? ⟨gb21, 0, none⟩ = some (.slice Ao19 x2.length co20) := (blk_cell BKgb21.out 0).trans rfl; have hfzgb21_0 := blk_frozen BKgb21.out 0; have hczgb39_0 : w40.cell? ⟨gb39, 0, none⟩ = some (.slice none 0 0) := (blk_cell BKgb39.out 0).trans rfl; have hfzgb39_0 := blk_frozen BKgb39.out 0; have hnbgb11gb21 : gb11 ≠ gb21 := (by have := CH.out; omega); have hnbgb11gb39 : gb11 ≠ gb39 := (by have := CH.out; omega); have hnbgb21gb11 : gb21 ≠ gb11 := (by have := CH.out; omega); have hnbgb21gb39 : gb21 ≠ gb39 := (by have := CH.out; omega); have hnbgb39gb11 : gb39 ≠ gb11 := (by have := CH.out; omega); have hnbgb39gb21 : gb39 ≠ gb21 := (by have := CH.out; omega)) | ((with_reducible refine gate_callee (f := 10) rfl ?_); refine goesL_ (some 51) rfl rfl Tryd.func10 (by kernel_rfl) rfl #[.agg #[.slice Ao37 x2.length co38], .agg #[.slice Ao9 x2.length co10]] rfl (by (try simp only [List.map_toArray, List.map_cons, List.map_nil]); first | done | rfl | (simp only [List.length_drop, List.length_take]; rfl)) ?_; (with_reducible refine (laws_eqGraph.calls KE24 _ _ x2 _ _ x2 true _ ?sidehr0_0 ?sidehc0_0 ?sidehr1_0 ?sidehc1_0 E24.out).mono ?_); (case sidehr0_0 => exact S_now (S := (fun k_ => k_ = gb39)) HS36.out (by repeat (first | (with_reducible first | exact Kept.refl _ _ | apply Kept.alloc | apply Kept.drewN | apply Kept.drew) | refine Kept.setCell ?_ (Or.inl (show gb39 = gb39 from rfl)) _ | exact Kept.refl _ _)) (fun k_ h_ hs_ => by obtain ⟨h1_, h2_⟩ := h_; have g1_ : k_ = gb39 := hs_; have := CH.out; omega)); (case sidehc0_0 => exact HCHS36.out); (case sidehr1_0 => exact S_now (S := (fun k_ => k_ = gb39)) HS8.out (by repeat (first | (with_reducible first | exact Kept.refl _ _ | apply Kept.alloc | apply Kept.drewN | apply Kept.drew) | refine Kept.setCell ?_ (Or.inl (show gb39 = gb39 from rfl)) _ | exact Kept.refl _ _)) (fun k_ h_ hs_ => by obtain ⟨h1_, h2_⟩ := h_; have g1_ : k_ = gb39 := hs_; have := CH.out; omega)); (case sidehc1_0 => exact HCHS8.out); rintro e w41 ⟨rfl, hb_⟩; refine ⟨_, rfl, ?_⟩; (try clear hczgb11_0); (try clear hfzgb11_0); (try clear hczgb21_0); (try clear hfzgb21_0); (try clear hczgb39_0); (try clear hfzgb39_0); obtain ⟨hk_, hs1_, hs2_, hw_⟩ := ev_kept (S := (fun k_ => k_ = gb39)) HS.out HB.out hb_ (by repeat (first | (with_reducible first | exact Kept.refl _ _ | apply Kept.alloc | apply Kept.drewN | apply Kept.drew) | refine Kept.setCell ?_ (Or.inl (show gb39 = gb39 from rfl)) _ | exact Kept.refl _ _)); have hB_ := below_step (by repeat (first | (with_reducible first | exact HB.out | apply below_alloc | apply pw_below_drewN | apply below_drew1 | refine below_set ?_ GEgb11.out | refine below_set ?_ GEgb21.out | refine below_set ?_ GEgb39.out) | exact HB.out)) hb_; have n0_ := Aside0.mk (Kd.S_kept HS8.out hk_ (fun k_ h_ hs_ => by obtain ⟨h1_, h2_⟩ := h_; have g1_ : k_ = gb39 := hs_; have := CH.out; omega)); have n1_ := Aside0.mk (blk_below (g := gb11) (o := .cells #[.slice Ao9 x2.length co10] 28 (0, 0)) (by (with_reducible repeat (first | refine blk_drewN ?_ _ | refine blk_drew ?_ | refine blk_alloc ?_ _)); refine blk_far ?_ (by have := CH.out; omega) _; (with_reducible repeat (first | refine blk_drewN ?_ _ | refine blk_drew ?_ | refine blk_alloc ?_ _)); exact BKgb11.out) hb_); have n2_ := Aside0.mk (blk_below (g := gb21) (o := .cells #[.slice Ao19 x2.length co20] 28 (0, 0)) (by (with_reducible repeat (first | refine blk_drewN ?_ _ | refine blk_drew ?_ | refine blk_alloc ?_ _)); refine blk_far ?_ (by have := CH.out; omega) _; (with_reducible repeat (first | refine blk_drewN ?_ _ | refine blk_drew ?_ | refine blk_alloc ?_ _)); exact BKgb21.out) hb_); have n3_ := Aside0.mk (Kd.F_kept FM29.out hk_ (fun k_ h_ hs_ => by obtain ⟨h1_, h2_⟩ := h_; have g1_ : k_ = gb39 := hs_; have := CH.out; omega)); have n4_ := Aside0.mk (Kd.S_kept HS36.out hk_ (fun k_ h_ hs_ => by obtain ⟨h1_, h2_⟩ := h_; have g1_ : k_ = gb39 := hs_; have := CH.out; omega)); have n5_ := Aside0.mk (blk_below (g := gb39) (o := .cells #[.slice Ao37 x2.length co38] 28 (0, 0)) (by (with_reducible repeat (first | refine blk_drewN ?_ _ | refine blk_drew ?_ | refine blk_alloc ?_ _)); refine blk_put (cs := #[.slice none 0 0]) ?_ 0 _ rfl; (with_reducible repeat (first | refine blk_drewN ?_ _ | refine blk_drew ?_ | refine blk_alloc ?_ _)); exact BKgb39.out) hb_); have ns_ := Aside0.mk (Nat.le_trans (Nat.le_trans hs1_ hs2_) (Nat.le_refl _)); have nB_ := Aside0.mk hB_; clear HB HS HS8 BKgb11 BKgb21 FM29 HS36 BKgb39; have HS8 := n0_; have BKgb11 := n1_; have BKgb21 := n2_; have FM29 := n3_; have HS36 := n4_; have BKgb39 := n5_; have HB := nB_; have HS := ns_; clear nB_ ns_ n0_ n1_ n2_ n3_ n4_ n5_; clear hk_ hs1_ hs2_ hw_ hB_ hb_; have hczgb11_0 : w41.cell? ⟨gb11, 0, none⟩ = some (.slice Ao9 x2.length co10) := (blk_cell BKgb11.out 0).trans rfl; have hfzgb11_0 := blk_frozen BKgb11.out 0; have hczgb21_0 : w41.cell? ⟨gb21, 0, none⟩ = some (.slice Ao19 x2.length co20) := (blk_cell BKgb21.out 0).trans rfl; have hfzgb21_0 := blk_frozen BKgb21.out 0; have hczgb39_0 : w41.cell? ⟨gb39, 0, none⟩ = some (.slice Ao37 x2.length co38) := (blk_cell BKgb39.out 0).trans rfl; have hfzgb39_0 := blk_frozen BKgb39.out 0; have hnbgb11gb21 : gb11 ≠ gb21 := (by have := CH.out; omega); have hnbgb11gb39 : gb11 ≠ gb39 := (by have := CH.out; omega); have hnbgb21gb11 : gb21 ≠ gb11 := (by have := CH.out; omega); have hnbgb21gb39 : gb21 ≠ gb39 := (by have := CH.out; omega); have hnbgb39gb11 : gb39 ≠ gb11 := (by have := CH.out; omega); have hnbgb39gb21 : gb39 ≠ gb21 := (by have := CH.out; omega)) | ((with_reducible refine gate_callee (f := 19) rfl ?_); refine goesL_ (some 60) rfl rfl Tryd.func19 (by kernel_rfl) rfl #[.agg #[.slice Ao19 x2.length co20], .int .i64 1] rfl (by (try simp only [List.map_toArray, List.map_cons, List.map_nil]); first | done | rfl | (simp only [List.length_drop, List.length_take]; rfl)) ?_; refine calls_len (args' := #[.agg #[.slice Ao19 x27.length co20], .int .i64 1]) (by simp only [HLFM29.out]) ?_; (with_reducible refine (laws_heldGraph.calls KE31 _ _ x27 1 x26 _ ?sidehr0_0 ?sidehc0_0 E31.out).mono ?_); (case sidehr0_0 => exact F_at (S := (fun _ => False)) FM29.out (by repeat (first | (with_reducible first | exact Kept.refl _ _ | apply Kept.alloc | apply Kept.drewN | apply Kept.drew) | exact Kept.refl _ _)) (fun _ _ hs_ => hs_.elim)); (case sidehc0_0 => exact HCHS18_.out); rintro e w42 ⟨rfl, hb_⟩; refine ⟨_, rfl, ?_⟩; (try clear hczgb11_0); (try clear hfzgb11_0); (try clear hczgb21_0); (try clear hfzgb21_0); (try clear hczgb39_0); (try clear hfzgb39_0); obtain ⟨hk_, hs1_, hs2_, hw_⟩ := ev_kept (S := (fun _ => False)) HS.out HB.out hb_ (by repeat (first | (with_reducible first | exact Kept.refl _ _ | apply Kept.alloc | apply Kept.drewN | apply Kept.drew) | exact Kept.refl _ _)); have hB_ := below_step (by repeat (first | (with_reducible first | exact HB.out | apply below_alloc | apply pw_below_drewN | apply below_drew1 | refine below_set ?_ GEgb11.out | refine below_set ?_ GEgb21.out | refine below_set ?_ GEgb39.out) | exact HB.out)) hb_; have n0_ := Aside0.mk (Kd.S_kept HS8.out hk_ (fun _ _ hs_ => hs_.elim)); have n1_ := Aside0.mk (blk_below (g := gb11) (o := .cells #[.slice Ao9 x2.length co10] 28 (0, 0)) (by (with_reducible repeat (first | refine blk_drewN ?_ _ | refine blk_drew ?_ | refine blk_alloc ?_ _)); exact BKgb11.out) hb_); have n2_ := Aside0.mk (blk_below (g := gb21) (o := .cells #[.slice Ao19 x2.length co20] 28 (0, 0)) (by (with_reducible repeat (first | refine blk_drewN ?_ _ | refine blk_drew ?_ | refine blk_alloc ?_ _)); exact BKgb21.out) hb_); have n3_ := Aside0.mk (Kd.F_kept FM29.out hk_ (fun _ _ hs_ => hs_.elim)); have n4_ := Aside0.mk (Kd.S_kept HS36.out hk_ (fun _ _ hs_ => hs_.elim)); have n5_ := Aside0.mk (blk_below (g := gb39) (o := .cells #[.slice Ao37 x2.length co38] 28 (0, 0)) (by (with_reducible repeat (first | refine blk_drewN ?_ _ | refine blk_drew ?_ | refine blk_alloc ?_ _)); exact BKgb39.out) hb_); have ns_ := Aside0.mk (Nat.le_trans (Nat.le_trans hs1_ hs2_) (Nat.le_refl _)); have nB_ := Aside0.mk hB_; clear HB HS HS8 BKgb11 BKgb21 FM29 HS36 BKgb39; have HS8 := n0_; have BKgb11 := n1_; have BKgb21 := n2_; have FM29 := n3_; have HS36 := n4_; have BKgb39 := n5_; have HB := nB_; have HS := ns_; clear nB_ ns_ n0_ n1_ n2_ n3_ n4_ n5_; clear hk_ hs1_ hs2_ hw_ hB_ hb_; have hczgb11_0 : w42.cell? ⟨gb11, 0, none⟩ = some (.slice Ao9 x2.length co10) := (blk_cell BKgb11.out 0).trans rfl; have hfzgb11_0 := blk_frozen BKgb11.out 0; have hczgb21_0 : w42.cell? ⟨gb21, 0, none⟩ = some (.slice Ao19 x2.length co20) := (blk_cell BKgb21.out 0).trans rfl; have hfzgb21_0 := blk_frozen BKgb21.out 0; have hczgb39_0 : w42.cell? ⟨gb39, 0, none⟩ = some (.slice Ao37 x2.length co38) := (blk_cell BKgb39.out 0).trans rfl; have hfzgb39_0 := blk_frozen BKgb39.out 0; have hnbgb11gb21 : gb11 ≠ gb21 := (by have := CH.out; omega); have hnbgb11gb39 : gb11 ≠ gb39 := (by have := CH.out; omega); have hnbgb21gb11 : gb21 ≠ gb11 := (by have := CH.out; omega); have hnbgb21gb39 : gb21 ≠ gb39 := (by have := CH.out; omega); have hnbgb39gb11 : gb39 ≠ gb11 := (by have := CH.out; omega); have hnbgb39gb21 : gb39 ≠ gb21 := (by have := CH.out; omega)))
  go_ret
  exact ⟨by first | rfl | (simp; done), by repeat (first | (with_reducible first | exact HB.out | apply below_alloc | apply pw_below_drewN | apply below_drew1 | refine below_set ?_ GEgb11.out | refine below_set ?_ GEgb21.out | refine below_set ?_ GEgb39.out) | exact HB.out)⟩

end Go.Proofs.YtfeakndpkloofaaDoor.P
namespace Go.Proofs.YtfeakndpkloofaaDoor.P
open Go.RowKit Go.Proofs.YtfeakndpkloofaaDoorW.PrintWords Go.Proofs.YtfeakndpkloofaaDoorW.PrintLast Go.Proofs.YtfeakndpkloofaaDoorW.PrintMore
attribute [local go_sem] max2_int min2_int max_two min_two max_three min_three max_four min_four   -- for this text's walks alone
set_option linter.unusedVariables false
set_option linter.unusedSimpArgs false

/-! ### laws_szIntS: function 27 -/
def laws_szIntS.f (l0 : List Int) (a1 : Int) : Option (Int) := if (wrap64 (a1 - (l0.length : Int))) < 0 then (some (-1)) else (some (wrap64 (a1 - (l0.length : Int))))
set_option maxHeartbeats 8000000 in
set_option maxRecDepth 100000 in
theorem laws_szIntS.calls (A0 : Option Addr) (c0 : Nat) (l0 : List Int) (a1 : Int) (r : Int) (w : World) (hr0 : Kd.C (Kd.int .i64) w A0 l0.length l0) (hc0 : l0.length ≤ c0) (h : laws_szIntS.f l0 a1 = some r) :
    Calls Tryd.prog 27 #[.slice A0 l0.length c0, .int .i64 a1] w fun e w' => e = .returned (.int .i64 r) ∧ Drawn0 w w' := by
  have HR0 := Aside0.mk hr0
  have HC0 := Aside0.mk hc0
  clear hr0 hc0
  have H : (if (wrap64 (a1 - (l0.length : Int))) < 0 then (some (-1)) else (some (wrap64 (a1 - (l0.length : Int))))) = some r := h
  clear h
  by_cases c3 : (wrap64 (a1 - (l0.length : Int))) < 0
  · rw [if_pos c3] at H
    have c3b0 : decide ((wrap64 (a1 - (l0.length : Int))) < 0) = true := decide_eq_true c3
    clear c3
    obtain rfl := Option.some.inj H
    go_enter Tryd.func27, Tryd.ntmps27
    go_wp2
    go_ret
    exact ⟨by first | rfl | (simp; done) | (simp [*]; done), by repeat (first | exact Drawn0.refl _ | apply Drawn0.step)⟩
  · rw [if_neg c3] at H
    have c3b0 : decide ((wrap64 (a1 - (l0.length : Int))) < 0) = false := decide_eq_false c3
    clear c3
    obtain rfl := Option.some.inj H
    go_enter Tryd.func27, Tryd.ntmps27
    go_wp2
    go_ret
    exact ⟨by first | rfl | (simp; done) | (simp [*]; done), by repeat (first | exact Drawn0.refl _ | apply Drawn0.step)⟩


/-! ### laws_szIntSS: function 20 -/
def laws_szIntSS.l0 : Nat → List (List Int) → Int → Int → Option (Int)
  | 0, _, _, _ => none
  | k + 1, x0, x1, x5 => if x5 < (x0.length : Int) then (if 0 ≤ x5 then ((laws_szIntS.f (rd_L3 x0 x5) x1).bind fun t194 => (if t194 < 0 then (some (-1)) else (laws_szIntSS.l0 k x0 t194 (wrap64 (x5 + 1))))) else (none)) else (some x1)
def laws_szIntSS.f (k : Nat) (l0 : List (List Int)) (a1 : Int) : Option (Int) := if (wrap64 (a1 - (l0.length : Int))) < 0 then (some (-1)) else (laws_szIntSS.l0 k l0 (wrap64 (a1 - (l0.length : Int))) 0)
theorem laws_szIntSS.mono_l : ∀ k, (∀ y0 y1 y2, LeO (laws_szIntSS.l0 k y0 y1 y2) (laws_szIntSS.l0 (k + 1) y0 y1 y2))
  | 0 => fun _ _ _ r h => by simp [laws_szIntSS.l0] at h
  | k + 1 => by
    have ih0 := laws_szIntSS.mono_l k
    · intro y0 y1 y2
      unfold laws_szIntSS.l0
      repeat' first
      | (with_reducible exact ih0 _ _ _)
      | (with_reducible exact LeO.refl _)
      | (with_reducible exact LeO.none _)
      | (with_reducible refine LeO.ite ?_ ?_)
      | (with_reducible refine LeO.bind ?_ (fun _ => ?_))
      | exact ih0 _ _ _
      | exact LeO.none _
      | refine LeO.ite ?_ ?_
      | refine LeO.bind ?_ (fun _ => ?_)
theorem laws_szIntSS.mono : ∀ a0 a1 k, LeO (laws_szIntSS.f k a0 a1) (laws_szIntSS.f (k + 1) a0 a1) := by
  intro a0 a1 k
  have ih0 := laws_szIntSS.mono_l k
  unfold laws_szIntSS.f
  repeat' first
      | (with_reducible exact ih0 _ _ _)
      | (with_reducible exact LeO.refl _)
      | (with_reducible exact LeO.none _)
      | (with_reducible refine LeO.ite ?_ ?_)
      | (with_reducible refine LeO.bind ?_ (fun _ => ?_))
      | exact ih0 _ _ _
      | exact LeO.none _
      | refine LeO.ite ?_ ?_
      | refine LeO.bind ?_ (fun _ => ?_)
set_option maxHeartbeats 8000000 in
set_option maxRecDepth 100000 in
theorem laws_szIntSS.calls (k : Nat) (A0 : Option Addr) (c0 : Nat) (l0 : List (List Int)) (a1 : Int) (r : Int) (w : World) (hr0 : Kd.C (Kd.slice 3 (Kd.int .i64)) w A0 l0.length l0) (hc0 : l0.length ≤ c0) (h : laws_szIntSS.f k l0 a1 = some r) :
    Calls Tryd.prog 20 #[.slice A0 l0.length c0, .int .i64 a1] w fun e w' => e = .returned (.int .i64 r) ∧ Drawn0 w w' := by
  have HR0 := Aside0.mk hr0
  have HC0 := Aside0.mk hc0
  clear hr0 hc0
  have H : (if (wrap64 (a1 - (l0.length : Int))) < 0 then (some (-1)) else (laws_szIntSS.l0 k l0 (wrap64 (a1 - (l0.length : Int))) 0)) = some r := h
  clear h
  by_cases c3 : (wrap64 (a1 - (l0.length : Int))) < 0
  · rw [if_pos c3] at H
    have c3b0 : decide ((wrap64 (a1 - (l0.length : Int))) < 0) = true := decide_eq_true c3
    clear c3
    obtain rfl := Option.some.inj H
    go_enter Tryd.func20, Tryd.ntmps20
    go_wp2
    go_ret
    exact ⟨by first | rfl | (simp; done) | (simp [*]; done), by repeat (first | exact Drawn0.refl _ | apply Drawn0.step)⟩
  · rw [if_neg c3] at H
    have c3b0 : decide ((wrap64 (a1 - (l0.length : Int))) < 0) = false := decide_eq_false c3
    clear c3
    have H' := Aside0.mk H
    clear H
    go_enter Tryd.func20, Tryd.ntmps20
    go_wp2
    go_loopg [1, 5] k (fun kq v1 v5 w' => ∃ (x1_1 : Int) (x5_1 : Int), v1 = .int .i64 x1_1 ∧ v5 = .int .i64 x5_1 ∧ Aside0 (laws_szIntSS.l0 kq l0 x1_1 x5_1 = some r) ∧ Aside0 (kq ≤ k) ∧ Drawn0 w w')
    case atStart => exact ⟨(wrap64 (a1 - (l0.length : Int))), (0), (by first | rfl | (simp; done) | (simp [*]; done)), (by first | rfl | (simp; done) | (simp [*]; done)), H', ⟨Nat.le_refl _⟩, by repeat (first | exact Drawn0.refl _ | apply Drawn0.step)⟩
    case round =>
      clear H'
      try clear c2
      try clear p2
      try clear c3
      try clear c3b0
      obtain ⟨x1_1, x5_1, rfl, rfl, HA, HK1, ⟨m1, rfl⟩⟩ := hrel
      cases gk with
      | zero => exact absurd HA.out (by simp [laws_szIntSS.l0])
      | succ k1 =>
        have H := HA.out
        clear HA
        simp only [laws_szIntSS.l0] at H
        by_cases c4 : x5_1 < (l0.length : Int)
        · rw [if_pos c4] at H
          have c4b0 : decide (x5_1 < (l0.length : Int)) = true := decide_eq_true c4
          clear c4
          by_cases c5 : 0 ≤ x5_1
          · rw [if_pos c5] at H
            have c5b0 : decide (0 ≤ x5_1) = true := decide_eq_true c5
            clear c5
            replace H := Option.bind_eq_some_iff.mp H
            obtain ⟨t194, A60, H⟩ := H
            replace H : (if t194 < 0 then (some (-1)) else (laws_szIntSS.l0 k1 l0 t194 (wrap64 (x5_1 + 1)))) = some r := H
            have A6 := Aside0.mk A60
            clear A60
            by_cases c7 : t194 < 0
            · rw [if_pos c7] at H
              have c7b0 : decide (t194 < 0) = true := decide_eq_true c7
              clear c7
              obtain rfl := Option.some.inj H
              have p193 : 0 ≤ (x5_1 : Int) := of_decide_eq_true (by first | (with_reducible assumption) | assumption)
              have q193 : x5_1 < (l0.length : Int) := of_decide_eq_true (by first | (with_reducible assumption) | assumption)
              obtain ⟨ad193, A193_0, c193_0, e193, hx193_0, hl193_0, hi193_0⟩ := at_L3 HR0.out x5_1 p193 q193
              cases e193
              have HR193_0 := Aside0.mk hi193_0
              have HC193_0 := Aside0.mk hl193_0
              clear hi193_0 hl193_0
              replace p193 := eq_true p193
              replace q193 := eq_true q193
              go_wp2_with (first | ((with_reducible refine gate_callee (f := 27) rfl ?_); refine goesL_ (some 23) rfl rfl Tryd.func27 (by kernel_rfl) rfl #[.slice A193_0 (rd_L3 l0 x5_1).length c193_0, .int .i64 x1_1] rfl (by (try simp only [List.map_toArray, List.map_cons, List.map_nil]); first | done | rfl | (simp only [List.length_drop, List.length_take]; rfl)) ?_; (with_reducible refine (laws_szIntS.calls _ _ (rd_L3 l0 x5_1) x1_1 t194 _ ?side1 ?side2 A6.out).mono ?_); (case side1 => repeat (first | exact HR193_0.out | (with_reducible refine Kd.C_alloc ?_ _) | (with_reducible refine Kd.C_drewN ?_ _) | (with_reducible refine Kd.C_drew ?_))); (case side2 => exact HC193_0.out); rintro e w' ⟨rfl, ⟨nd, rfl⟩⟩; refine ⟨_, rfl, ?_⟩))
              go_ret
              exact ⟨by first | rfl | (simp; done) | (simp [*]; done), by repeat (first | exact Drawn0.refl _ | apply Drawn0.step)⟩
            · rw [if_neg c7] at H
              have c7b0 : decide (t194 < 0) = false := decide_eq_false c7
              clear c7
              have H' := Aside0.mk H
              clear H
              have p193 : 0 ≤ (x5_1 : Int) := of_decide_eq_true (by first | (with_reducible assumption) | assumption)
              have q193 : x5_1 < (l0.length : Int) := of_decide_eq_true (by first | (with_reducible assumption) | assumption)
              obtain ⟨ad193, A193_0, c193_0, e193, hx193_0, hl193_0, hi193_0⟩ := at_L3 HR0.out x5_1 p193 q193
              cases e193
              have HR193_0 := Aside0.mk hi193_0
              have HC193_0 := Aside0.mk hl193_0
              clear hi193_0 hl193_0
              replace p193 := eq_true p193
              replace q193 := eq_true q193
              go_wp2_with (first | ((with_reducible refine gate_callee (f := 27) rfl ?_); refine goesL_ (some 23) rfl rfl Tryd.func27 (by kernel_rfl) rfl #[.slice A193_0 (rd_L3 l0 x5_1).length c193_0, .int .i64 x1_1] rfl (by (try simp only [List.map_toArray, List.map_cons, List.map_nil]); first | done | rfl | (simp only [List.length_drop, List.length_take]; rfl)) ?_; (with_reducible refine (laws_szIntS.calls _ _ (rd_L3 l0 x5_1) x1_1 t194 _ ?side1 ?side2 A6.out).mono ?_); (case side1 => repeat (first | exact HR193_0.out | (with_reducible refine Kd.C_alloc ?_ _) | (with_reducible refine Kd.C_drewN ?_ _) | (with_reducible refine Kd.C_drew ?_))); (case side2 => exact HC193_0.out); rintro e w' ⟨rfl, ⟨nd, rfl⟩⟩; refine ⟨_, rfl, ?_⟩))
              go_roundg k1
              case measure => have := HK1.out; omega
              case rel => exact ⟨(t194), (wrap64 (x5_1 + 1)), (by first | rfl | (simp; done) | (simp [*]; done)), (by first | rfl | (simp; done) | (simp [*]; done)), H', ⟨by have := HK1.out; omega⟩, by repeat (first | exact Drawn0.refl _ | apply Drawn0.step)⟩
          · rw [if_neg c5] at H
            exact absurd H (by simp)
        · rw [if_neg c4] at H
          have c4b0 : decide (x5_1 < (l0.length : Int)) = false := decide_eq_false c4
          clear c4
          obtain rfl := Option.some.inj H
          go_wp2
          go_ret
          exact ⟨by first | rfl | (simp; done) | (simp [*]; done), by repeat (first | exact Drawn0.refl _ | apply Drawn0.step)⟩


/-! ### laws_szGraph: function 6 -/
def laws_szGraph.f (k : Nat) (l0_0 : List (List Int)) (a1 : Int) : Option (Int) := (laws_szIntSS.f k l0_0 a1).bind fun t196 => (if t196 < 0 then (some (-1)) else (some t196))
theorem laws_szGraph.mono : ∀ a0 a1 k, LeO (laws_szGraph.f k a0 a1) (laws_szGraph.f (k + 1) a0 a1) := by
  intro a0 a1 k
  unfold laws_szGraph.f
  repeat' first
      | (with_reducible exact laws_szIntSS.mono _ _ _)
      | (with_reducible exact LeO.refl _)
      | (with_reducible exact LeO.none _)
      | (with_reducible refine LeO.ite ?_ ?_)
      | (with_reducible refine LeO.bind ?_ (fun _ => ?_))
      | exact laws_szIntSS.mono _ _ _
      | exact LeO.none _
      | refine LeO.ite ?_ ?_
      | refine LeO.bind ?_ (fun _ => ?_)
set_option maxHeartbeats 8000000 in
set_option maxRecDepth 100000 in
theorem laws_szGraph.calls (k : Nat) (A0_0 : Option Addr) (c0_0 : Nat) (l0_0 : List (List Int)) (a1 : Int) (r : Int) (w : World) (hr0_0 : Kd.C (Kd.slice 3 (Kd.int .i64)) w A0_0 l0_0.length l0_0) (hc0_0 : l0_0.length ≤ c0_0) (h : laws_szGraph.f k l0_0 a1 = some r) :
    Calls Tryd.prog 6 #[.agg #[.slice A0_0 l0_0.length c0_0], .int .i64 a1] w fun e w' => e = .returned (.int .i64 r) ∧ Below w.heap.size w w' := by
  have hu24 := Tryd.underlying24
  have HR0_0 := Aside0.mk hr0_0
  have HC0_0 := Aside0.mk hc0_0
  clear hr0_0 hc0_0
  have HB := Aside0.mk (Below.refl w.heap.size w)
  have H : ((laws_szIntSS.f k l0_0 a1).bind fun t196 => (if t196 < 0 then (some (-1)) else (some t196))) = some r := h
  clear h
  replace H := Option.bind_eq_some_iff.mp H
  obtain ⟨t196, A30, H⟩ := H
  replace H : (if t196 < 0 then (some (-1)) else (some t196)) = some r := H
  have A3 := Aside0.mk A30
  clear A30
  by_cases c4 : t196 < 0
  · rw [if_pos c4] at H
    have c4b0 : decide (t196 < 0) = true := decide_eq_true c4
    clear c4
    obtain rfl := Option.some.inj H
    go_enter Tryd.func6, Tryd.ntmps6
    go_wp2_with (first | ((with_reducible refine gate_dst (N := 2) rfl ?_); refine box_event ?hg (N := 2) ?hd (cs := #[.slice A0_0 l0_0.length c0_0]) (t := 24) ?hr ?_; (case hd => rfl); (case hg => rfl); (case hr => first | (go_simp; done) | (go_simp; rfl)); intro gb195 hg w5 hbox hb; have n0_ := Aside0.mk (below_step (by repeat (first | (with_reducible first | exact HB.out | apply below_alloc | apply pw_below_drewN | apply below_drew1) | exact HB.out)) hb); have n1_ := Aside0.mk (hbox); have n2_ := Aside0.mk ((by rw [hg]; exact (below_size (by repeat (first | (with_reducible first | exact HB.out | apply below_alloc | apply pw_below_drewN | apply below_drew1) | exact HB.out))) : w.heap.size ≤ gb195)); have n3_ := Aside0.mk ((by rw [hg]; exact (below_size (by repeat (first | (with_reducible first | exact HB.out | apply below_alloc | apply pw_below_drewN | apply below_drew1) | exact HB.out))) : w.heap.size ≤ gb195)); clear HB; have HB := n0_; have BK195 := n1_; have GW195 := n2_; have GE195 := n3_; clear n0_ n1_ n2_ n3_; clear hb hbox hg; have hcz6_0 : w5.cell? ⟨gb195, 0, none⟩ = some (.slice A0_0 l0_0.length c0_0) := (blk_cell BK195.out 0).trans rfl; have hfz6_0 := blk_frozen BK195.out 0) | ((with_reducible refine gate_callee (f := 20) rfl ?_); refine goesL_ (some 8) rfl rfl Tryd.func20 (by kernel_rfl) rfl #[.slice A0_0 l0_0.length c0_0, .int .i64 a1] rfl (by (try simp only [List.map_toArray, List.map_cons, List.map_nil]); first | done | rfl | (simp only [List.length_drop, List.length_take]; rfl)) ?_; (with_reducible refine (laws_szIntSS.calls k _ _ l0_0 a1 t196 _ ?side1 ?side2 A3.out).mono ?_); (case side1 => repeat (first | exact (Kd.C_below HR0_0.out HB.out) | (with_reducible refine Kd.C_alloc ?_ _) | (with_reducible refine Kd.C_drewN ?_ _) | (with_reducible refine Kd.C_drew ?_))); (case side2 => exact HC0_0.out); rintro e w' ⟨rfl, ⟨nd, rfl⟩⟩; refine ⟨_, rfl, ?_⟩))
    go_ret
    exact ⟨by first | rfl | (simp [errW_none, errW_some] <;> rfl) | (simp [*, errW_none, errW_some] <;> rfl), by repeat (first | (with_reducible first | exact HB.out | apply below_alloc | apply pw_below_drewN | apply below_drew1 | refine below_set ?_ GE195.out) | exact HB.out)⟩
  · rw [if_neg c4] at H
    have c4b0 : decide (t196 < 0) = false := decide_eq_false c4
    clear c4
    obtain rfl := Option.some.inj H
    go_enter Tryd.func6, Tryd.ntmps6
    go_wp2_with (first | ((with_reducible refine gate_dst (N := 2) rfl ?_); refine box_event ?hg (N := 2) ?hd (cs := #[.slice A0_0 l0_0.length c0_0]) (t := 24) ?hr ?_; (case hd => rfl); (case hg => rfl); (case hr => first | (go_simp; done) | (go_simp; rfl)); intro gb195 hg w7 hbox hb; have n0_ := Aside0.mk (below_step (by repeat (first | (with_reducible first | exact HB.out | apply below_alloc | apply pw_below_drewN | apply below_drew1) | exact HB.out)) hb); have n1_ := Aside0.mk (hbox); have n2_ := Aside0.mk ((by rw [hg]; exact (below_size (by repeat (first | (with_reducible first | exact HB.out | apply below_alloc | apply pw_below_drewN | apply below_drew1) | exact HB.out))) : w.heap.size ≤ gb195)); have n3_ := Aside0.mk ((by rw [hg]; exact (below_size (by repeat (first | (with_reducible first | exact HB.out | apply below_alloc | apply pw_below_drewN | apply below_drew1) | exact HB.out))) : w.heap.size ≤ gb195)); clear HB; have HB := n0_; have BK195 := n1_; have GW195 := n2_; have GE195 := n3_; clear n0_ n1_ n2_ n3_; clear hb hbox hg; have hcz8_0 : w7.cell? ⟨gb195, 0, none⟩ = some (.slice A0_0 l0_0.length c0_0) := (blk_cell BK195.out 0).trans rfl; have hfz8_0 := blk_frozen BK195.out 0) | ((with_reducible refine gate_callee (f := 20) rfl ?_); refine goesL_ (some 8) rfl rfl Tryd.func20 (by kernel_rfl) rfl #[.slice A0_0 l0_0.length c0_0, .int .i64 a1] rfl (by (try simp only [List.map_toArray, List.map_cons, List.map_nil]); first | done | rfl | (simp only [List.length_drop, List.length_take]; rfl)) ?_; (with_reducible refine (laws_szIntSS.calls k _ _ l0_0 a1 t196 _ ?side1 ?side2 A3.out).mono ?_); (case side1 => repeat (first | exact (Kd.C_below HR0_0.out HB.out) | (with_reducible refine Kd.C_alloc ?_ _) | (with_reducible refine Kd.C_drewN ?_ _) | (with_reducible refine Kd.C_drew ?_))); (case side2 => exact HC0_0.out); rintro e w' ⟨rfl, ⟨nd, rfl⟩⟩; refine ⟨_, rfl, ?_⟩))
    go_ret
    exact ⟨by first | rfl | (simp [errW_none, errW_some] <;> rfl) | (simp [*, errW_none, errW_some] <;> rfl), by repeat (first | (with_reducible first | exact HB.out | apply below_alloc | apply pw_below_drewN | apply below_drew1 | refine below_set ?_ GE195.out) | exact HB.out)⟩


/-! ### laws_toIntS: function 31 -/
def laws_toIntS.l0 : Nat → List Int → List Int → Int → Option (List Int)
  | 0, _, _, _ => none
  | k + 1, x0, x3, x4 => if x4 < (x0.length : Int) then (if 0 ≤ x4 then (if x4 < (x3.length : Int) then (laws_toIntS.l0 k x0 (x3.set (x4 : Int).toNat (rd x0 x4)) (wrap64 (x4 + 1))) else (none)) else (none)) else (some x3)
def laws_toIntS.f (k : Nat) (l0 : List Int) : Option (List Int) := if 0 ≤ (l0.length : Int) then (if ((l0.length : Int) : Int).toNat ≤ 35184372088832 then (laws_toIntS.l0 k l0 (List.replicate ((l0.length : Int) : Int).toNat 0) 0) else (none)) else (none)
theorem laws_toIntS.mono_l : ∀ k, (∀ y0 y1 y2, LeO (laws_toIntS.l0 k y0 y1 y2) (laws_toIntS.l0 (k + 1) y0 y1 y2))
  | 0 => fun _ _ _ r h => by simp [laws_toIntS.l0] at h
  | k + 1 => by
    have ih0 := laws_toIntS.mono_l k
    · intro y0 y1 y2
      unfold laws_toIntS.l0
      repeat' first
      | (with_reducible exact ih0 _ _ _)
      | (with_reducible exact LeO.refl _)
      | (with_reducible exact LeO.none _)
      | (with_reducible refine LeO.ite ?_ ?_)
      | (with_reducible refine LeO.bind ?_ (fun _ => ?_))
      | exact ih0 _ _ _
      | exact LeO.none _
      | refine LeO.ite ?_ ?_
      | refine LeO.bind ?_ (fun _ => ?_)
theorem laws_toIntS.mono : ∀ a0 k, LeO (laws_toIntS.f k a0) (laws_toIntS.f (k + 1) a0) := by
  intro a0 k
  have ih0 := laws_toIntS.mono_l k
  unfold laws_toIntS.f
  repeat' first
      | (with_reducible exact ih0 _ _ _)
      | (with_reducible exact LeO.refl _)
      | (with_reducible exact LeO.none _)
      | (with_reducible refine LeO.ite ?_ ?_)
      | (with_reducible refine LeO.bind ?_ (fun _ => ?_))
      | exact ih0 _ _ _
      | exact LeO.none _
      | refine LeO.ite ?_ ?_
      | refine LeO.bind ?_ (fun _ => ?_)
set_option maxHeartbeats 8000000 in
set_option maxRecDepth 100000 in
theorem laws_toIntS.calls (k : Nat) (A0 : Option Addr) (c0 : Nat) (l0 : List Int) (r : List Int) (w : World) (hr0 : Kd.C (Kd.int .i64) w A0 l0.length l0) (hc0 : l0.length ≤ c0) (h : laws_toIntS.f k l0 = some r) :
    Calls Tryd.prog 31 #[.slice A0 l0.length c0] w fun e w' => ∃ v0_ : Value, e = .returned (v0_) ∧ Kd.R (Kd.int .i64) 3 w' w.heap.size (fun _ => True) v0_ r ∧ Below w.heap.size w w' := by
  have HR0 := Aside0.mk hr0
  have HC0 := Aside0.mk hc0
  clear hr0 hc0
  have HB := Aside0.mk (Below.refl w.heap.size w)
  have H : (if 0 ≤ (l0.length : Int) then (if ((l0.length : Int) : Int).toNat ≤ 35184372088832 then (laws_toIntS.l0 k l0 (List.replicate ((l0.length : Int) : Int).toNat 0) 0) else (none)) else (none)) = some r := h
  clear h
  by_cases c2 : 0 ≤ (l0.length : Int)
  · rw [if_pos c2] at H
    have c2b0 := eq_true c2
    have c2b1 : decide (0 ≤ (l0.length : Int)) = true := decide_eq_true c2
    clear c2
    by_cases c3 : ((l0.length : Int) : Int).toNat ≤ 35184372088832
    · rw [if_pos c3] at H
      have c3b0 := eq_true c3
      have c3b1 : decide (((l0.length : Int) : Int).toNat ≤ 35184372088832) = true := decide_eq_true c3
      clear c3
      obtain ⟨y157, hy157⟩ : ∃ y_ : List Int, y_ = (List.replicate ((l0.length : Int) : Int).toNat 0) := ⟨_, rfl⟩
      replace H : (laws_toIntS.l0 k l0 y157 0) = some r := by first | (rw [hy157]; with_reducible exact H) | (have H2_ := (Option.bind_some _ _).symm.trans H; rw [hy157]; with_reducible exact H2_) | (have H2_ := (Option.bind_some _ _).symm.trans H; with_reducible exact H2_) | with_reducible exact H | (rw [hy157]; exact H) | exact H
      have Ny157 := Aside0.mk hy157
      clear hy157
      have H' := Aside0.mk H
      clear H
      go_enter Tryd.func31, Tryd.ntmps31
      go_wp2_with (first | ((with_reducible refine gate_dst (N := 7) rfl ?_); refine Kd.R_make (Kd.int .i64) _ 3 rfl (N := 7) rfl 32 _ _ rfl (l0.length : Int) rfl rfl Tryd.underlying32 (.int .i64 0) 8 info3 rfl (by decide) (by omega) 0 (ok := fun _ => True) (okp := fun _ => True) rfl (fun _ hk => hk) trivial (of_decide_eq_true (by first | (with_reducible assumption) | assumption)) (Nat.le_trans (Nat.mul_le_mul_right _ (of_decide_eq_true (by first | (with_reducible assumption) | assumption) : (l0.length : Int).toNat ≤ 35184372088832)) (by omega)) (Below.refl _ _) (Nat.le_refl _) ?_; intro v158 w4 ho5 hb hg_ hnew_; clear hg_ hnew_; (first | rw [← Ny157.out] at ho5 | (simp only [Int.reduceToNat] at ho5; rw [← Ny157.out] at ho5)); have n0_ := Aside0.mk (Kd.R_lower ho5 (below_size (by repeat (first | (with_reducible first | exact HB.out | apply below_alloc | apply pw_below_drewN | apply below_drew1) | exact HB.out)))); have n1_ := Aside0.mk (below_step (by repeat (first | (with_reducible first | exact HB.out | apply below_alloc | apply pw_below_drewN | apply below_drew1) | exact HB.out)) hb); clear HB; have HO159 := n0_; have HB := n1_; clear n0_ n1_; clear hb ho5))
      go_loopg [4] k (fun kq v4 w' => ∃ (x3_1 : List Int) (x4_1 : Int), v4 = .int .i64 x4_1 ∧ Aside0 (laws_toIntS.l0 kq l0 x3_1 x4_1 = some r) ∧ Aside0 (kq ≤ k) ∧ Aside0 (Kd.R (Kd.int .i64) 3 w' w.heap.size (fun _ => True) v158 x3_1) ∧ Aside0 (Below w.heap.size w w'))
      case atStart => exact ⟨(y157), (0), (by first | rfl | (simp; done) | (simp [*]; done)), H', ⟨Nat.le_refl _⟩, ⟨by (with_reducible repeat (first | apply Kd.R_alloc | apply Kd.R_drewN | apply Kd.R_drew)); exact HO159.out⟩, ⟨by repeat (first | (with_reducible first | exact HB.out | apply below_alloc | apply pw_below_drewN | apply below_drew1) | exact HB.out)⟩⟩
      case round =>
        clear H'
        try clear c2
        try clear c2b0
        try clear c2b1
        try clear p2
        try clear c3
        try clear c3b0
        try clear c3b1
        obtain ⟨x3_1, x4_1, rfl, HA, HK1, HO_3, HB⟩ := hrel
        cases gk with
        | zero => exact absurd HA.out (by simp [laws_toIntS.l0])
        | succ k1 =>
          have H := HA.out
          clear HA
          simp only [laws_toIntS.l0] at H
          by_cases c6 : x4_1 < (l0.length : Int)
          · rw [if_pos c6] at H
            have c6b0 : decide (x4_1 < (l0.length : Int)) = true := decide_eq_true c6
            clear c6
            by_cases c7 : 0 ≤ x4_1
            · rw [if_pos c7] at H
              have c7b0 : decide (0 ≤ x4_1) = true := decide_eq_true c7
              clear c7
              by_cases c8 : x4_1 < (x3_1.length : Int)
              · rw [if_pos c8] at H
                have c8b0 : decide (x4_1 < (x3_1.length : Int)) = true := decide_eq_true c8
                clear c8
                obtain ⟨y161, hy161⟩ : ∃ y_ : List Int, y_ = (x3_1.set (x4_1 : Int).toNat (rd l0 x4_1)) := ⟨_, rfl⟩
                replace H : (laws_toIntS.l0 k1 l0 y161 (wrap64 (x4_1 + 1))) = some r := by first | (rw [hy161]; with_reducible exact H) | (have H2_ := (Option.bind_some _ _).symm.trans H; rw [hy161]; with_reducible exact H2_) | (have H2_ := (Option.bind_some _ _).symm.trans H; with_reducible exact H2_) | with_reducible exact H | (rw [hy161]; exact H) | exact H
                have Ny161 := Aside0.mk hy161
                clear hy161
                have H' := Aside0.mk H
                clear H
                have p160 : 0 ≤ (x4_1 : Int) := of_decide_eq_true (by first | (with_reducible assumption) | assumption)
                have q160 : x4_1 < (l0.length : Int) := of_decide_eq_true (by first | (with_reducible assumption) | assumption)
                obtain ⟨ad160, e160, hx160_0⟩ := Kd.at_int HR0.out x4_1 p160 q160
                cases e160
                replace hx160_0 := (HB.out.cell (World.block_lt_of_cell? w _ hx160_0)).trans hx160_0
                replace p160 := eq_true p160
                replace q160 := eq_true q160
                have p9 : 0 ≤ (x4_1 : Int) := of_decide_eq_true (by first | (with_reducible assumption) | assumption)
                have q9 : (x4_1 : Int) < ((x3_1.length : Int) : Int) := of_decide_eq_true (by first | (with_reducible assumption) | assumption)
                obtain ⟨go9, co9, eo9, gb9, gl9, cl9, HG9⟩ := Kd.R_form HO_3.out (by omega)
                (first | cases eo9 | (injection eo9 with ea_ en_ ec_; (first | subst ea_ | (injection ea_ with ea_; subst ea_)); subst ec_; clear en_))
                have GB9 := Aside0.mk gb9
                have GG9 := Aside0.mk HG9
                clear gb9 gl9 HG9
                obtain ⟨hx9_0, hf9_0⟩ := Kd.R_celln 0 HO_3.out (x4_1 : Int) p9 q9
                replace p9 := eq_true p9
                replace q9 := eq_true q9
                have HP10 := Kd.R_putg HO_3.out (x4_1 : Int) (rd l0 x4_1)
                go_wp2_with (first | ((with_reducible refine gate_store (t := 3) (p := 20) rfl ?_); refine store_event (t := 3) (p := 20) (v := ?vo_w11) (w1 := (wr.setCell ⟨go9, (x4_1 : Int).toNat, none⟩ (.int .i64 (rd l0 x4_1)))) ?hg ?ho ?hn ?hr ?_; (case ho => rfl); (case hg => rfl); (case hn => rfl); (case hr => first | (go_simp; done) | (go_simp; rfl)); intro w11 hw; have hg : wr.grownBy w11 (some go9) := (by rw [hw]; exact HP10.2); have hp_ : Kd.R (Kd.int .i64) 3 w11 w.heap.size (fun _ => True) (.slice (some ⟨go9, 0, none⟩) x3_1.length co9) y161 := (by rw [hw, Ny161.out]; exact HP10.1); clear HP10; have n0_ := Aside0.mk (hp_); have n1_ := Aside0.mk ((by rw [hw]; exact below_set (HB.out) GB9.out : Below w.heap.size w w11)); clear HO_3; clear HB; have HO_3 := n0_; have HB := n1_; clear n0_ n1_; clear hg hw hp_))
                go_roundg k1
                case measure => have := HK1.out; omega
                case rel => exact ⟨(y161), (wrap64 (x4_1 + 1)), (by first | rfl | (simp; done) | (simp [*]; done)), H', ⟨by have := HK1.out; omega⟩, ⟨by (with_reducible repeat (first | apply Kd.R_alloc | apply Kd.R_drewN | apply Kd.R_drew)); exact HO_3.out⟩, ⟨by repeat (first | (with_reducible first | exact HB.out | apply below_alloc | apply pw_below_drewN | apply below_drew1) | exact HB.out)⟩⟩
              · rw [if_neg c8] at H
                exact absurd H (by simp)
            · rw [if_neg c7] at H
              exact absurd H (by simp)
          · rw [if_neg c6] at H
            have c6b0 : decide (x4_1 < (l0.length : Int)) = false := decide_eq_false c6
            clear c6
            obtain rfl := Option.some.inj H
            go_wp2
            go_ret
            exact ⟨_, by first | rfl | (simp [errW_none, errW_some] <;> rfl) | (simp [*, errW_none, errW_some] <;> rfl), by (with_reducible repeat (first | apply Kd.R_alloc | apply Kd.R_drewN | apply Kd.R_drew)); exact HO_3.out, by repeat (first | (with_reducible first | exact HB.out | apply below_alloc | apply pw_below_drewN | apply below_drew1) | exact HB.out)⟩
    · rw [if_neg c3] at H
      exact absurd H (by simp)
  · rw [if_neg c2] at H
    exact absurd H (by simp)


/-! ### laws_toIntSS: function 23 -/
def laws_toIntSS.l0 : Nat → List (List Int) → List (List Int) → Int → Option ((List (List Int)))
  | 0, _, _, _ => none
  | k + 1, x0, x3, x4 => if x4 < (x0.length : Int) then (if 0 ≤ x4 then ((laws_toIntS.f k (rd_L3 x0 x4)).bind fun t201 => (if x4 < (x3.length : Int) then (laws_toIntSS.l0 k x0 (x3.set (x4 : Int).toNat t201) (wrap64 (x4 + 1))) else (none))) else (none)) else (some x3)
def laws_toIntSS.f (k : Nat) (l0 : List (List Int)) : Option ((List (List Int))) := if 0 ≤ (l0.length : Int) then (if ((l0.length : Int) : Int).toNat ≤ 11728124029610 then (laws_toIntSS.l0 k l0 (List.replicate ((l0.length : Int) : Int).toNat []) 0) else (none)) else (none)
theorem laws_toIntSS.mono_l : ∀ k, (∀ y0 y1 y2, LeO (laws_toIntSS.l0 k y0 y1 y2) (laws_toIntSS.l0 (k + 1) y0 y1 y2))
  | 0 => fun _ _ _ r h => by simp [laws_toIntSS.l0] at h
  | k + 1 => by
    have ih0 := laws_toIntSS.mono_l k
    · intro y0 y1 y2
      unfold laws_toIntSS.l0
      repeat' first
      | (with_reducible exact ih0 _ _ _)
      | (with_reducible exact laws_toIntS.mono _ _)
      | (with_reducible exact LeO.refl _)
      | (with_reducible exact LeO.none _)
      | (with_reducible refine LeO.ite ?_ ?_)
      | (with_reducible refine LeO.bind ?_ (fun _ => ?_))
      | exact ih0 _ _ _
      | exact laws_toIntS.mono _ _
      | exact LeO.none _
      | refine LeO.ite ?_ ?_
      | refine LeO.bind ?_ (fun _ => ?_)
theorem laws_toIntSS.mono : ∀ a0 k, LeO (laws_toIntSS.f k a0) (laws_toIntSS.f (k + 1) a0) := by
  intro a0 k
  have ih0 := laws_toIntSS.mono_l k
  unfold laws_toIntSS.f
  repeat' first
      | (with_reducible exact ih0 _ _ _)
      | (with_reducible exact laws_toIntS.mono _ _)
      | (with_reducible exact LeO.refl _)
      | (with_reducible exact LeO.none _)
      | (with_reducible refine LeO.ite ?_ ?_)
      | (with_reducible refine LeO.bind ?_ (fun _ => ?_))
      | exact ih0 _ _ _
      | exact laws_toIntS.mono _ _
      | exact LeO.none _
      | refine LeO.ite ?_ ?_
      | refine LeO.bind ?_ (fun _ => ?_)
set_option maxHeartbeats 8000000 in
set_option maxRecDepth 100000 in
theorem laws_toIntSS.calls (k : Nat) (A0 : Option Addr) (c0 : Nat) (l0 : List (List Int)) (r : List (List Int)) (w : World) (hr0 : Kd.C (Kd.slice 3 (Kd.int .i64)) w A0 l0.length l0) (hc0 : l0.length ≤ c0) (h : laws_toIntSS.f k l0 = some r) :
    Calls Tryd.prog 23 #[.slice A0 l0.length c0] w fun e w' => ∃ v0_ : Value, e = .returned (v0_) ∧ Kd.S (Kd.slice 3 (Kd.int .i64)) 32 w' w.heap.size (fun _ => True) v0_ r ∧ Below w.heap.size w w' := by
  have HR0 := Aside0.mk hr0
  have HC0 := Aside0.mk hc0
  clear hr0 hc0
  have HB := Aside0.mk (Below.refl w.heap.size w)
  have H : (if 0 ≤ (l0.length : Int) then (if ((l0.length : Int) : Int).toNat ≤ 11728124029610 then (laws_toIntSS.l0 k l0 (List.replicate ((l0.length : Int) : Int).toNat []) 0) else (none)) else (none)) = some r := h
  clear h
  by_cases c2 : 0 ≤ (l0.length : Int)
  · rw [if_pos c2] at H
    have c2b0 := eq_true c2
    have c2b1 : decide (0 ≤ (l0.length : Int)) = true := decide_eq_true c2
    clear c2
    by_cases c3 : ((l0.length : Int) : Int).toNat ≤ 11728124029610
    · rw [if_pos c3] at H
      have c3b0 := eq_true c3
      have c3b1 : decide (((l0.length : Int) : Int).toNat ≤ 11728124029610) = true := decide_eq_true c3
      clear c3
      obtain ⟨y197, hy197⟩ : ∃ y_ : List (List Int), y_ = (List.replicate ((l0.length : Int) : Int).toNat []) := ⟨_, rfl⟩
      replace H : (laws_toIntSS.l0 k l0 y197 0) = some r := by first | (rw [hy197]; with_reducible exact H) | (have H2_ := (Option.bind_some _ _).symm.trans H; rw [hy197]; with_reducible exact H2_) | (have H2_ := (Option.bind_some _ _).symm.trans H; with_reducible exact H2_) | with_reducible exact H | (rw [hy197]; exact H) | exact H
      have Ny197 := Aside0.mk hy197
      clear hy197
      have H' := Aside0.mk H
      clear H
      go_enter Tryd.func23, Tryd.ntmps23
      go_wp2_with (first | ((with_reducible refine gate_dst (N := 7) rfl ?_); refine Kd.S_make (Kd.slice 3 (Kd.int .i64)) _ 32 rfl (N := 7) rfl 22 _ _ rfl (l0.length : Int) rfl rfl Tryd.underlying22 (.slice none 0 0) 24 info32 rfl (by decide) (by omega) [] (ok := fun _ => True) (okp := fun _ => True) ⟨_, rfl, Kd.R_nil _ _ _ _ _⟩ (fun _ hk => hk) trivial (of_decide_eq_true (by first | (with_reducible assumption) | assumption)) (Nat.le_trans (Nat.mul_le_mul_right _ (of_decide_eq_true (by first | (with_reducible assumption) | assumption) : (l0.length : Int).toNat ≤ 11728124029610)) (by omega)) (Below.refl _ _) (Nat.le_refl _) ?_; intro v198 w4 ho5 hb hg_ hnew_; clear hg_ hnew_; (first | rw [← Ny197.out] at ho5 | (simp only [Int.reduceToNat] at ho5; rw [← Ny197.out] at ho5)); have n0_ := Aside0.mk (Kd.S_lower ho5 (below_size (by repeat (first | (with_reducible first | exact HB.out | apply below_alloc | apply pw_below_drewN | apply below_drew1) | exact HB.out)))); have n1_ := Aside0.mk (below_step (by repeat (first | (with_reducible first | exact HB.out | apply below_alloc | apply pw_below_drewN | apply below_drew1) | exact HB.out)) hb); clear HB; have HO199 := n0_; have HB := n1_; clear n0_ n1_; clear hb ho5))
      go_loopg [4] k (fun kq v4 w' => ∃ (x3_1 : List (List Int)) (x4_1 : Int), v4 = .int .i64 x4_1 ∧ Aside0 (laws_toIntSS.l0 kq l0 x3_1 x4_1 = some r) ∧ Aside0 (kq ≤ k) ∧ Aside0 (Kd.S (Kd.slice 3 (Kd.int .i64)) 32 w' w.heap.size (fun _ => True) v198 x3_1) ∧ Aside0 (Below w.heap.size w w'))
      case atStart => exact ⟨(y197), (0), (by first | rfl | (simp; done) | (simp [*]; done)), H', ⟨Nat.le_refl _⟩, ⟨by (with_reducible repeat (first | apply Kd.S_alloc | apply Kd.S_drewN | apply Kd.S_drew)); exact HO199.out⟩, ⟨by repeat (first | (with_reducible first | exact HB.out | apply below_alloc | apply pw_below_drewN | apply below_drew1) | exact HB.out)⟩⟩
      case round =>
        clear H'
        try clear c2
        try clear c2b0
        try clear c2b1
        try clear p2
        try clear c3
        try clear c3b0
        try clear c3b1
        obtain ⟨x3_1, x4_1, rfl, HA, HK1, HO_3, HB⟩ := hrel
        cases gk with
        | zero => exact absurd HA.out (by simp [laws_toIntSS.l0])
        | succ k1 =>
          have H := HA.out
          clear HA
          simp only [laws_toIntSS.l0] at H
          by_cases c6 : x4_1 < (l0.length : Int)
          · rw [if_pos c6] at H
            have c6b0 : decide (x4_1 < (l0.length : Int)) = true := decide_eq_true c6
            clear c6
            by_cases c7 : 0 ≤ x4_1
            · rw [if_pos c7] at H
              have c7b0 : decide (0 ≤ x4_1) = true := decide_eq_true c7
              clear c7
              replace H := Option.bind_eq_some_iff.mp H
              obtain ⟨t201, A80, H⟩ := H
              replace H : (if x4_1 < (x3_1.length : Int) then (laws_toIntSS.l0 k1 l0 (x3_1.set (x4_1 : Int).toNat t201) (wrap64 (x4_1 + 1))) else (none)) = some r := H
              have A8 := Aside0.mk A80
              clear A80
              by_cases c9 : x4_1 < (x3_1.length : Int)
              · rw [if_pos c9] at H
                have c9b0 : decide (x4_1 < (x3_1.length : Int)) = true := decide_eq_true c9
                clear c9
                obtain ⟨y204, hy204⟩ : ∃ y_ : List (List Int), y_ = (x3_1.set (x4_1 : Int).toNat t201) := ⟨_, rfl⟩
                replace H : (laws_toIntSS.l0 k1 l0 y204 (wrap64 (x4_1 + 1))) = some r := by first | (rw [hy204]; with_reducible exact H) | (have H2_ := (Option.bind_some _ _).symm.trans H; rw [hy204]; with_reducible exact H2_) | (have H2_ := (Option.bind_some _ _).symm.trans H; with_reducible exact H2_) | with_reducible exact H | (rw [hy204]; exact H) | exact H
                have Ny204 := Aside0.mk hy204
                clear hy204
                have H' := Aside0.mk H
                clear H
                have p200 : 0 ≤ (x4_1 : Int) := of_decide_eq_true (by first | (with_reducible assumption) | assumption)
                have q200 : x4_1 < (l0.length : Int) := of_decide_eq_true (by first | (with_reducible assumption) | assumption)
                obtain ⟨ad200, A200_0, c200_0, e200, hx200_0, hl200_0, hi200_0⟩ := at_L3 HR0.out x4_1 p200 q200
                cases e200
                replace hx200_0 := (HB.out.cell (World.block_lt_of_cell? w _ hx200_0)).trans hx200_0
                have HR200_0 := Aside0.mk hi200_0
                have HC200_0 := Aside0.mk hl200_0
                clear hi200_0 hl200_0
                replace p200 := eq_true p200
                replace q200 := eq_true q200
                go_wp2_with (first | ((with_reducible refine gate_callee (f := 31) rfl ?_); refine goesL_ (some 20) rfl rfl Tryd.func31 (by kernel_rfl) rfl #[.slice A200_0 (rd_L3 l0 x4_1).length c200_0] rfl (by (try simp only [List.map_toArray, List.map_cons, List.map_nil]); first | done | rfl | (simp only [List.length_drop, List.length_take]; rfl)) ?_; (with_reducible refine (laws_toIntS.calls k1 _ _ (rd_L3 l0 x4_1) t201 _ ?side1 ?side2 A8.out).mono ?_); (case side1 => repeat (first | exact (Kd.C_below HR200_0.out HB.out) | (with_reducible refine Kd.C_alloc ?_ _) | (with_reducible refine Kd.C_drewN ?_ _) | (with_reducible refine Kd.C_drew ?_))); (case side2 => exact HC200_0.out); rintro e w11 ⟨v202, rfl, ho0, hb⟩; refine ⟨_, rfl, ?_⟩; have n0_ := Aside0.mk (Kd.S_elder' (by (with_reducible repeat (first | apply Kd.S_alloc | apply Kd.S_drewN | apply Kd.S_drew)); exact HO_3.out) (Kd.R_base ho0) hb); have n1_ := Aside0.mk (Kd.R_lower ho0 (below_size (by repeat (first | (with_reducible first | exact HB.out | apply below_alloc | apply pw_below_drewN | apply below_drew1) | exact HB.out)))); have n2_ := Aside0.mk (below_step (by repeat (first | (with_reducible first | exact HB.out | apply below_alloc | apply pw_below_drewN | apply below_drew1) | exact HB.out)) hb); clear HO_3; clear HB; have HO_3 := n0_; have HO203 := n1_; have HB := n2_; clear n0_ n1_ n2_; (try clear hb); (try clear hb2); (try clear hk); (try clear hi); (try clear ho0); have p10 : 0 ≤ (x4_1 : Int) := of_decide_eq_true (by first | (with_reducible assumption) | assumption); have q10 : (x4_1 : Int) < ((x3_1.length : Int) : Int) := of_decide_eq_true (by first | (with_reducible assumption) | assumption); obtain ⟨go10, co10, eo10, gb10, gl10, cl10, HG10⟩ := Kd.S_form HO_3.out (by omega); (first | cases eo10 | (injection eo10 with ea_ en_ ec_; (first | subst ea_ | (injection ea_ with ea_; subst ea_)); subst ec_; clear en_)); have GB10 := Aside0.mk gb10; have GG10 := Aside0.mk HG10; clear gb10 gl10 HG10; obtain ⟨_, ce10, hcl10, hM10, hcc10, hfr10, _, _⟩ := Kd.S_elem HO_3.out [] (x4_1 : Int) p10 q10; obtain ⟨ve10_0, rfl, ge10_0⟩ := hM10; have hx10_0 := hcc10 0 _ rfl; have hf10_0 := hfr10 0; (try simp only [show ((Kd.slice 3 (Kd.int .i64))).sz = 1 from rfl, Nat.mul_one, Nat.add_zero] at hx10_0); (try simp only [show ((Kd.slice 3 (Kd.int .i64))).sz = 1 from rfl, Nat.mul_one, Nat.add_zero] at hf10_0); (try clear hcl10); (try clear hcc10); (try clear hfr10); (try clear hM10); replace p10 := eq_true p10; replace q10 := eq_true q10; obtain ⟨Ao12, co12, eo12⟩ := Kd.R_slice HO203.out; subst eo12; have n_ := Aside0.mk (Kd.S_mono (ok' := (fun k_ => some k_ ≠ (.slice Ao12 t201.length co12 : Value).ownBlock)) HO_3.out (fun k_ hk => hk.2)); clear HO_3; have HO_3 := n_; clear n_; have HX13 := Aside0.mk (show Kd.S (Kd.slice 3 (Kd.int .i64)) 32 w11 w.heap.size (fun k_ => ((fun _ => True)) k_ ∧ ¬ ((fun k_ => some k_ = (.slice Ao12 t201.length co12 : Value).ownBlock)) k_) (.slice (some ⟨go10, 0, none⟩) x3_1.length co10) x3_1 from (by (with_reducible repeat (first | apply Kd.S_alloc | apply Kd.S_drewN | apply Kd.S_drew)); exact Kd.S_mono HO_3.out (fun k_ hk => ⟨trivial, fun e_ => hk e_⟩))); obtain ⟨oki13, ce13, hcl13, hM13, hcc13, hfr13, hoki13, hH13⟩ := Kd.S_elem HX13.out [] (x4_1 : Int) (of_decide_eq_true (by first | (with_reducible assumption) | assumption)) (by have h_ : (x4_1 : Int) < ((x3_1.length : Int) : Int) := of_decide_eq_true (by first | (with_reducible assumption) | assumption); first | exact h_ | (have e_ := (Kd.S_reads' HO_3.out).1; omega) | simpa using h_); obtain ⟨ve13_0, rfl, ge13_0⟩ := hM13; have HP13 := Kd.S_seg hH13 (of_decide_eq_true (by first | (with_reducible assumption) | assumption)) (by have h_ : (x4_1 : Int) < ((x3_1.length : Int) : Int) := of_decide_eq_true (by first | (with_reducible assumption) | assumption); first | exact h_ | (have e_ := (Kd.S_reads' HO_3.out).1; omega) | simpa using h_) (seg := [.slice Ao12 t201.length co12]) (j := 0) (show 1 ≤ 1 from by decide) (x' := t201) (Kd.M_row (Kd.R_mono (Kd.R_tight rfl (Kd.R_mono (ok' := fun k_ => ((fun _ => True)) k_ ∧ k_ ≠ go10) (Kd.R_apart' (HO203.out) (Kd.S_typed HO_3.out) (by decide)) (fun k_ hk => ⟨trivial, fun e_ => (hk.2) (by rw [e_]; rfl)⟩))) (fun _ h_ => Or.inr (h_)))) (fun _ hk => hk) (fun k_ hk_ => ((Kd.R_mono (ok' := fun k_ => ((fun _ => True)) k_ ∧ k_ ≠ go10) (Kd.R_apart' (HO203.out) (Kd.S_typed HO_3.out) (by decide)) (fun k_ hk => ⟨trivial, fun e_ => (hk.2) (by rw [e_]; rfl)⟩))).1 k_ hk_.symm); have hx13_0 := hcc13 0 _ rfl; (try simp only [show ((Kd.slice 3 (Kd.int .i64))).sz = 1 from rfl, Nat.mul_one, Nat.add_zero] at hx13_0); have hf13_0 := hfr13 0; (try simp only [show ((Kd.slice 3 (Kd.int .i64))).sz = 1 from rfl, Nat.mul_one, Nat.add_zero] at hf13_0); (try clear hcl13); (try clear hcc13); (try clear hfr13); (try clear hM13); (try clear hoki13); (try clear hH13); (try simp only [show ((Kd.slice 3 (Kd.int .i64))).sz = 1 from rfl, Nat.mul_one, Nat.add_zero] at HP13)) | ((with_reducible refine gate_store (t := 32) (p := 21) rfl ?_); refine store_event (t := 32) (p := 21) (v := ?vo_w14) (w1 := (w11.setCell ⟨go10, (x4_1 : Int).toNat, none⟩ (.slice Ao12 t201.length co12))) ?hg ?ho ?hn ?hr ?_; (case ho => rfl); (case hg => rfl); (case hn => rfl); (case hr => first | (go_simp; done) | (go_simp; rfl)); intro w14 hw; have hg : w11.grownBy w14 (some go10) := (by rw [hw]; exact HP13.2); have hp_ : Kd.S (Kd.slice 3 (Kd.int .i64)) 32 w14 w.heap.size (fun _ => True) (.slice (some ⟨go10, 0, none⟩) x3_1.length co10) y204 := (by rw [hw, Ny204.out]; exact HP13.1); clear HP13; have n0_ := Aside0.mk (hp_); have n1_ := Aside0.mk ((by rw [hw]; exact below_set (HB.out) GB10.out : Below w.heap.size w w14)); clear HO_3; clear HB; clear HO203; have HO_3 := n0_; have HB := n1_; clear n0_ n1_; clear hg hw hp_))
                go_roundg k1
                case measure => have := HK1.out; omega
                case rel => exact ⟨(y204), (wrap64 (x4_1 + 1)), (by first | rfl | (simp; done) | (simp [*]; done)), H', ⟨by have := HK1.out; omega⟩, ⟨by (with_reducible repeat (first | apply Kd.S_alloc | apply Kd.S_drewN | apply Kd.S_drew)); exact HO_3.out⟩, ⟨by repeat (first | (with_reducible first | exact HB.out | apply below_alloc | apply pw_below_drewN | apply below_drew1) | exact HB.out)⟩⟩
              · rw [if_neg c9] at H
                exact absurd H (by simp)
            · rw [if_neg c7] at H
              exact absurd H (by simp)
          · rw [if_neg c6] at H
            have c6b0 : decide (x4_1 < (l0.length : Int)) = false := decide_eq_false c6
            clear c6
            obtain rfl := Option.some.inj H
            go_wp2
            go_ret
            exact ⟨_, by first | rfl | (simp [errW_none, errW_some] <;> rfl) | (simp [*, errW_none, errW_some] <;> rfl), by (with_reducible repeat (first | apply Kd.S_alloc | apply Kd.S_drewN | apply Kd.S_drew)); exact HO_3.out, by repeat (first | (with_reducible first | exact HB.out | apply below_alloc | apply pw_below_drewN | apply below_drew1) | exact HB.out)⟩
    · rw [if_neg c3] at H
      exact absurd H (by simp)
  · rw [if_neg c2] at H
    exact absurd H (by simp)


/-! ### laws_toGraph: function 8 -/
def laws_toGraph.f (k : Nat) (l0_0 : List (List Int)) : Option ((List (List Int))) := (laws_toIntSS.f k l0_0).bind fun t208 => (some t208)
theorem laws_toGraph.mono : ∀ a0 k, LeO (laws_toGraph.f k a0) (laws_toGraph.f (k + 1) a0) := by
  intro a0 k
  unfold laws_toGraph.f
  repeat' first
      | (with_reducible exact laws_toIntSS.mono _ _)
      | (with_reducible exact LeO.refl _)
      | (with_reducible exact LeO.none _)
      | (with_reducible refine LeO.ite ?_ ?_)
      | (with_reducible refine LeO.bind ?_ (fun _ => ?_))
      | exact laws_toIntSS.mono _ _
      | exact LeO.none _
      | refine LeO.ite ?_ ?_
      | refine LeO.bind ?_ (fun _ => ?_)
set_option maxHeartbeats 8000000 in
set_option maxRecDepth 100000 in
theorem laws_toGraph.calls (k : Nat) (A0_0 : Option Addr) (c0_0 : Nat) (l0_0 : List (List Int)) (r : List (List Int)) (w : World) (hr0_0 : Kd.C (Kd.slice 3 (Kd.int .i64)) w A0_0 l0_0.length l0_0) (hc0_0 : l0_0.length ≤ c0_0) (h : laws_toGraph.f k l0_0 = some r) :
    Calls Tryd.prog 8 #[.agg #[.slice A0_0 l0_0.length c0_0]] w fun e w' => ∃ v0_ : Value, e = .returned (.agg #[v0_]) ∧ Kd.S (Kd.slice 3 (Kd.int .i64)) 32 w' w.heap.size (fun _ => True) v0_ r ∧ Below w.heap.size w w' := by
  have hu24 := Tryd.underlying24
  have hu28 := Tryd.underlying28
  have HR0_0 := Aside0.mk hr0_0
  have HC0_0 := Aside0.mk hc0_0
  clear hr0_0 hc0_0
  have HB := Aside0.mk (Below.refl w.heap.size w)
  have H : ((laws_toIntSS.f k l0_0).bind fun t208 => (some t208)) = some r := h
  clear h
  replace H := Option.bind_eq_some_iff.mp H
  obtain ⟨t208, A20, H⟩ := H
  replace H : (some t208) = some r := H
  have A2 := Aside0.mk A20
  clear A20
  obtain rfl := Option.some.inj H
  go_enter Tryd.func8, Tryd.ntmps8
  go_wp2_with (first | ((with_reducible refine gate_dst (N := 1) rfl ?_); refine box_event ?hg (N := 1) ?hd (cs := #[.slice A0_0 l0_0.length c0_0]) (t := 24) ?hr ?_; (case hd => rfl); (case hg => rfl); (case hr => first | (go_simp; done) | (go_simp; rfl)); intro gb205 hg w3 hbox hb; have n0_ := Aside0.mk (below_step (by repeat (first | (with_reducible first | exact HB.out | apply below_alloc | apply pw_below_drewN | apply below_drew1) | exact HB.out)) hb); have n1_ := Aside0.mk (hbox); have n2_ := Aside0.mk ((by rw [hg]; exact (below_size (by repeat (first | (with_reducible first | exact HB.out | apply below_alloc | apply pw_below_drewN | apply below_drew1) | exact HB.out))) : w.heap.size ≤ gb205)); have n3_ := Aside0.mk ((by rw [hg]; exact (below_size (by repeat (first | (with_reducible first | exact HB.out | apply below_alloc | apply pw_below_drewN | apply below_drew1) | exact HB.out))) : w.heap.size ≤ gb205)); clear HB; have HB := n0_; have BK205 := n1_; have GW205 := n2_; have GE205 := n3_; clear n0_ n1_ n2_ n3_; clear hb hbox hg) | ((with_reducible refine gate_dst (N := 2) rfl ?_); refine box_event ?hg (N := 2) ?hd (cs := #[.slice none 0 0]) (t := 28) ?hr ?_; (case hd => rfl); (case hg => rfl); (case hr => first | (go_simp; done) | (go_simp; rfl)); intro gb206 hg w4 hbox hb; have n0_ := Aside0.mk (blk_below (g := gb205) (o := .cells #[.slice A0_0 l0_0.length c0_0] 24 (0, 0)) (by (with_reducible repeat (first | refine blk_drewN ?_ _ | refine blk_drew ?_ | refine blk_alloc ?_ _)); exact BK205.out) hb); have n1_ := Aside0.mk (below_step (by repeat (first | (with_reducible first | exact HB.out | apply below_alloc | apply pw_below_drewN | apply below_drew1 | refine below_set ?_ GE205.out) | exact HB.out)) hb); have n2_ := Aside0.mk (hbox); have n3_ := Aside0.mk ((by rw [hg]; exact (below_size (by repeat (first | (with_reducible first | exact HB.out | apply below_alloc | apply pw_below_drewN | apply below_drew1 | refine below_set ?_ GE205.out) | exact HB.out))) : w.heap.size ≤ gb206)); have n4_ := Aside0.mk ((by rw [hg]; exact (below_size (by repeat (first | (with_reducible first | exact HB.out | apply below_alloc | apply pw_below_drewN | apply below_drew1 | refine below_set ?_ GE205.out) | exact HB.out))) : w.heap.size ≤ gb206)); have n5_ := Aside0.mk ((by rw [hg]; exact Nat.ne_of_lt (blk_lt (g := gb205) (o := .cells #[.slice A0_0 l0_0.length c0_0] 24 (0, 0)) (by (with_reducible repeat (first | refine blk_drewN ?_ _ | refine blk_drew ?_ | refine blk_alloc ?_ _)); exact BK205.out)) : gb205 ≠ gb206)); have n6_ := Aside0.mk ((by rw [hg]; exact Nat.ne_of_gt (blk_lt (g := gb205) (o := .cells #[.slice A0_0 l0_0.length c0_0] 24 (0, 0)) (by (with_reducible repeat (first | refine blk_drewN ?_ _ | refine blk_drew ?_ | refine blk_alloc ?_ _)); exact BK205.out)) : gb206 ≠ gb205)); clear BK205; clear HB; have BK205 := n0_; have HB := n1_; have BK206 := n2_; have GW206 := n3_; have GE206 := n4_; have NB205_206 := n5_; have NB206_205 := n6_; clear n0_ n1_ n2_ n3_ n4_ n5_ n6_; clear hb hbox hg) | ((with_reducible refine gate_dst (N := 3) rfl ?_); refine box_event ?hg (N := 3) ?hd (cs := #[.slice none 0 0]) (t := 28) ?hr ?_; (case hd => rfl); (case hg => rfl); (case hr => first | (go_simp; done) | (go_simp; rfl)); intro gb207 hg w5 hbox hb; have n0_ := Aside0.mk (blk_below (g := gb205) (o := .cells #[.slice A0_0 l0_0.length c0_0] 24 (0, 0)) (by (with_reducible repeat (first | refine blk_drewN ?_ _ | refine blk_drew ?_ | refine blk_alloc ?_ _)); exact BK205.out) hb); have n1_ := Aside0.mk (blk_below (g := gb206) (o := .cells #[.slice none 0 0] 28 (0, 0)) (by (with_reducible repeat (first | refine blk_drewN ?_ _ | refine blk_drew ?_ | refine blk_alloc ?_ _)); exact BK206.out) hb); have n2_ := Aside0.mk (below_step (by repeat (first | (with_reducible first | exact HB.out | apply below_alloc | apply pw_below_drewN | apply below_drew1 | refine below_set ?_ GE205.out | refine below_set ?_ GE206.out) | exact HB.out)) hb); have n3_ := Aside0.mk (hbox); have n4_ := Aside0.mk ((by rw [hg]; exact (below_size (by repeat (first | (with_reducible first | exact HB.out | apply below_alloc | apply pw_below_drewN | apply below_drew1 | refine below_set ?_ GE205.out | refine below_set ?_ GE206.out) | exact HB.out))) : w.heap.size ≤ gb207)); have n5_ := Aside0.mk ((by rw [hg]; exact (below_size (by repeat (first | (with_reducible first | exact HB.out | apply below_alloc | apply pw_below_drewN | apply below_drew1 | refine below_set ?_ GE205.out | refine below_set ?_ GE206.out) | exact HB.out))) : w.heap.size ≤ gb207)); have n6_ := Aside0.mk ((by rw [hg]; exact Nat.ne_of_lt (blk_lt (g := gb205) (o := .cells #[.slice A0_0 l0_0.length c0_0] 24 (0, 0)) (by (with_reducible repeat (first | refine blk_drewN ?_ _ | refine blk_drew ?_ | refine blk_alloc ?_ _)); exact BK205.out)) : gb205 ≠ gb207)); have n7_ := Aside0.mk ((by rw [hg]; exact Nat.ne_of_gt (blk_lt (g := gb205) (o := .cells #[.slice A0_0 l0_0.length c0_0] 24 (0, 0)) (by (with_reducible repeat (first | refine blk_drewN ?_ _ | refine blk_drew ?_ | refine blk_alloc ?_ _)); exact BK205.out)) : gb207 ≠ gb205)); have n8_ := Aside0.mk ((by rw [hg]; exact Nat.ne_of_lt (blk_lt (g := gb206) (o := .cells #[.slice none 0 0] 28 (0, 0)) (by (with_reducible repeat (first | refine blk_drewN ?_ _ | refine blk_drew ?_ | refine blk_alloc ?_ _)); exact BK206.out)) : gb206 ≠ gb207)); have n9_ := Aside0.mk ((by rw [hg]; exact Nat.ne_of_gt (blk_lt (g := gb206) (o := .cells #[.slice none 0 0] 28 (0, 0)) (by (with_reducible repeat (first | refine blk_drewN ?_ _ | refine blk_drew ?_ | refine blk_alloc ?_ _)); exact BK206.out)) : gb207 ≠ gb206)); clear BK205; clear BK206; clear HB; have BK205 := n0_; have BK206 := n1_; have HB := n2_; have BK207 := n3_; have GW207 := n4_; have GE207 := n5_; have NB205_207 := n6_; have NB207_205 := n7_; have NB206_207 := n8_; have NB207_206 := n9_; clear n0_ n1_ n2_ n3_ n4_ n5_ n6_ n7_ n8_ n9_; clear hb hbox hg; have hnb6 := NB205_206.out; have hnc6 := NB206_205.out; have hnb7 := NB205_207.out; have hnc7 := NB207_205.out; have hcz8_0 : w5.cell? ⟨gb205, 0, none⟩ = some (.slice A0_0 l0_0.length c0_0) := (blk_cell BK205.out 0).trans rfl; have hfz8_0 := blk_frozen BK205.out 0) | ((with_reducible refine gate_callee (f := 23) rfl ?_); refine goesL_ (some 6) rfl rfl Tryd.func23 (by kernel_rfl) rfl #[.slice A0_0 l0_0.length c0_0] rfl (by (try simp only [List.map_toArray, List.map_cons, List.map_nil]); first | done | rfl | (simp only [List.length_drop, List.length_take]; rfl)) ?_; (with_reducible refine (laws_toIntSS.calls k _ _ l0_0 t208 _ ?side1 ?side2 A2.out).mono ?_); (case side1 => repeat (first | exact (Kd.C_below HR0_0.out HB.out) | (with_reducible refine Kd.C_alloc ?_ _) | (with_reducible refine Kd.C_drewN ?_ _) | (with_reducible refine Kd.C_drew ?_))); (case side2 => exact HC0_0.out); rintro e w9 ⟨v209, rfl, ho0, hb⟩; refine ⟨_, rfl, ?_⟩; have n0_ := Aside0.mk (Kd.S_lower ho0 (below_size (by repeat (first | (with_reducible first | exact HB.out | apply below_alloc | apply pw_below_drewN | apply below_drew1 | refine below_set ?_ GE205.out | refine below_set ?_ GE206.out | refine below_set ?_ GE207.out) | exact HB.out)))); have n1_ := Aside0.mk (blk_below (g := gb205) (o := .cells #[.slice A0_0 l0_0.length c0_0] 24 (0, 0)) (by (with_reducible repeat (first | refine blk_drewN ?_ _ | refine blk_drew ?_ | refine blk_alloc ?_ _)); exact BK205.out) hb); have n2_ := Aside0.mk (blk_below (g := gb206) (o := .cells #[.slice none 0 0] 28 (0, 0)) (by (with_reducible repeat (first | refine blk_drewN ?_ _ | refine blk_drew ?_ | refine blk_alloc ?_ _)); exact BK206.out) hb); have n3_ := Aside0.mk (blk_below (g := gb207) (o := .cells #[.slice none 0 0] 28 (0, 0)) (by (with_reducible repeat (first | refine blk_drewN ?_ _ | refine blk_drew ?_ | refine blk_alloc ?_ _)); exact BK207.out) hb); have n4_ := Aside0.mk (below_step (by repeat (first | (with_reducible first | exact HB.out | apply below_alloc | apply pw_below_drewN | apply below_drew1 | refine below_set ?_ GE205.out | refine below_set ?_ GE206.out | refine below_set ?_ GE207.out) | exact HB.out)) hb); clear BK205; clear BK206; clear BK207; clear HB; have HO210 := n0_; have BK205 := n1_; have BK206 := n2_; have BK207 := n3_; have HB := n4_; clear n0_ n1_ n2_ n3_ n4_; (try clear hb); (try clear hb2); (try clear hk); (try clear hi); (try clear ho0); obtain ⟨Ao10, co10, eo10⟩ := Kd.S_slice HO210.out; subst eo10; have hnb11 := NB207_206.out; have hnc11 := NB206_207.out; have hcz12_0 : w9.cell? ⟨gb207, 0, none⟩ = some (.slice none 0 0) := (blk_cell BK207.out 0).trans rfl; have hfz12_0 := blk_frozen BK207.out 0; have hcz13_0 : w9.cell? ⟨gb206, 0, none⟩ = some (.slice none 0 0) := (blk_cell BK206.out 0).trans rfl; have hfz13_0 := blk_frozen BK206.out 0))
  refine bodyPost_ret (results_cell_row rfl _ _ gb206 28 #[.slice Ao10 t208.length co10] (0, 0) _ rfl (by (with_reducible repeat (first | refine blk_drewN ?_ _ | refine blk_drew ?_ | refine blk_alloc ?_ _)); refine blk_put (cs := #[.slice none 0 0]) ?_ 0 _ rfl; (with_reducible repeat (first | refine blk_drewN ?_ _ | refine blk_drew ?_ | refine blk_alloc ?_ _)); refine blk_far ?_ NB206_207.out _; (with_reducible repeat (first | refine blk_drewN ?_ _ | refine blk_drew ?_ | refine blk_alloc ?_ _)); exact BK206.out) Tryd.underlying28 rfl (by kernel_rfl)) rfl ?_
  exact ⟨_, by first | rfl | (simp [errW_none, errW_some] <;> rfl) | (simp [*, errW_none, errW_some] <;> rfl), by (with_reducible repeat (first | apply Kd.S_alloc | apply Kd.S_drewN | apply Kd.S_drew)); exact Kd.S_mono (Kd.S_far (p := ⟨gb206, 0, none⟩) (Kd.S_far (p := ⟨gb207, 0, none⟩) (Kd.S_types (Kd.S_types HO210.out BK207.out (by decide)) BK206.out (by decide)) (fun _ hk => hk.1.2) (.slice Ao10 t208.length co10)) (fun _ hk => hk.2) (.slice Ao10 t208.length co10)) (fun _ hk => trivial), by repeat (first | (with_reducible first | exact HB.out | apply below_alloc | apply pw_below_drewN | apply below_drew1 | refine below_set ?_ GE205.out | refine below_set ?_ GE206.out | refine below_set ?_ GE207.out) | exact HB.out)⟩

end Go.Proofs.YtfeakndpkloofaaDoor.P
namespace Go.Proofs.YtfeakndpkloofaaDoor.M
open Go.RowKit Go.Proofs.YtfeakndpkloofaaDoor.P Go.Proofs.YtfeakndpkloofaaDoor.In Go.Proofs.YtfeakndpkloofaaDoorW.PrintWords Go.Proofs.YtfeakndpkloofaaDoorW.PrintLast
set_option linter.unusedVariables false
set_option linter.unusedSimpArgs false
/-! numbers -/
theorem wrap_id {x : Int} (h : -9223372036854775808 ≤ x ∧ x ≤ 9223372036854775807) : wrap64 x = x := by unfold wrap64; omega
theorem wrap_nat {n : Nat} (h : n < 9223372036854775807) : wrap64 ((n : Int) + 1) = ((n + 1 : Nat) : Int) := by unfold wrap64; omega
theorem rd_at {l : List Int} {n : Nat} (h : n < l.length) : rd l (n : Int) = l[n] := by simp [rd, h]
theorem rdL_at {l : List (List Int)} {n : Nat} (h : n < l.length) : rd_L3 l (n : Int) = l[n] := by simp [rd_L3, h]
theorem _root_.Go.Proofs.YtfeakndpkloofaaDoorW.PrintWords.Ev.val {α : Type} {g : Nat → Option α} {r r' : α} (h : Ev g r) (e : r = r') : Ev g r' := e ▸ h
theorem _root_.Go.Proofs.YtfeakndpkloofaaDoorW.PrintWords.Ev.const {α : Type} {g : Nat → Option α} {r : α} (h : ∀ k, g k = some r) : Ev g r := ⟨0, fun k _ => h k⟩
theorem _root_.Go.Proofs.YtfeakndpkloofaaDoorW.PrintWords.Ev.const1 {α : Type} {g : Nat → Option α} {r : α} (h : ∀ k, g (k + 1) = some r) : Ev g r := Ev.step (f := fun _ => some r) h (Ev.const fun _ => rfl)
theorem _root_.Go.Proofs.YtfeakndpkloofaaDoorW.PrintWords.Ev.succ {α : Type} {g : Nat → Option α} {r : α} (h : Ev (fun k => g (k + 1)) r) : Ev g r := Ev.step (f := fun k => g (k + 1)) (fun _ => rfl) h
theorem _root_.Go.Proofs.YtfeakndpkloofaaDoorW.PrintWords.Ev.uniq {α : Type} {g : Nat → Option α} {r r' : α} (h : Ev g r) (h' : Ev g r') : r = r' := by
  obtain ⟨K, hK⟩ := h
  obtain ⟨K', hK'⟩ := h'
  have := (hK (max K K') (Nat.le_max_left _ _)).symm.trans (hK' (max K K') (Nat.le_max_right _ _))
  exact Option.some.inj this
theorem _root_.Go.Proofs.YtfeakndpkloofaaDoorW.PrintWords.Ev.bind0 {α β : Type} {g : Option α} {f : Nat → α → Option β} {a : α} {r : β} (h : g = some a) (k : Ev (fun n => f n a) r) : Ev (fun n => g.bind (f n)) r := by
  subst h; exact k
theorem _root_.Go.Proofs.YtfeakndpkloofaaDoorW.PrintWords.Ev.pos {α : Type} {g f : Nat → Option α} {r : α} {c : Prop} [Decidable c] (h : c) (k : Ev g r) : Ev (fun n => if c then g n else f n) r := by
  simp only [if_pos h]; exact k
theorem _root_.Go.Proofs.YtfeakndpkloofaaDoorW.PrintWords.Ev.neg {α : Type} {g f : Nat → Option α} {r : α} {c : Prop} [Decidable c] (h : ¬ c) (k : Ev f r) : Ev (fun n => if c then g n else f n) r := by
  simp only [if_neg h]; exact k

/-! copies -/
theorem toIntS_l0 (l : List Int) (hl : l.length < 9223372036854775807) : ∀ (d i : Nat) (y : List Int), l.length - i = d → i ≤ l.length → y.length = l.length → y.take i = l.take i → Ev (fun k => laws_toIntS.l0 k l y i) l := by
  intro d
  induction d with
  | zero =>
    intro i y hd hi hy ht
    have : i = l.length := by omega
    subst this
    refine Ev.const1 (fun k => ?_)
    simp only [laws_toIntS.l0]
    rw [if_neg (by omega)]
    rw [List.take_of_length_le (by omega), List.take_of_length_le (by omega)] at ht
    rw [ht]
  | succ d ih =>
    intro i y hd hi hy ht
    have hlt : i < l.length := by omega
    refine Ev.step (f := fun k => laws_toIntS.l0 k l (y.set i l[i]) (i + 1 : Nat)) (fun k => ?_) (ih (i + 1) (y.set i l[i]) (by omega) (by omega) (by rw [List.length_set]; exact hy) ?_)
    · simp only [laws_toIntS.l0]
      rw [if_pos (by omega), if_pos (by omega), if_pos (by omega), wrap_nat (by omega), rd_at hlt, Int.toNat_natCast]
    · rw [List.take_succ_eq_append_getElem (by rw [List.length_set]; omega), List.take_succ_eq_append_getElem hlt, List.take_set_of_le (Nat.le_refl _), ht, List.getElem_set_self]
theorem toIntS (l : List Int) (hl : l.length ≤ 35184372088832) : Ev (fun k => laws_toIntS.f k l) l := by
  unfold laws_toIntS.f
  refine Ev.pos (by omega) (Ev.pos (by omega) ?_)
  exact toIntS_l0 l (by omega) l.length 0 _ (by omega) (by omega) (by simp) (by simp)
theorem toIntSS_l0 (l : List (List Int)) (hl : l.length < 9223372036854775807) (hr : ∀ row ∈ l, row.length ≤ 35184372088832) : ∀ (d i : Nat) (y : List (List Int)), l.length - i = d → i ≤ l.length → y.length = l.length → y.take i = l.take i → Ev (fun k => laws_toIntSS.l0 k l y i) l := by
  intro d
  induction d with
  | zero =>
    intro i y hd hi hy ht
    have : i = l.length := by omega
    subst this
    refine Ev.const1 (fun k => ?_)
    simp only [laws_toIntSS.l0]
    rw [if_neg (by omega)]
    rw [List.take_of_length_le (by omega), List.take_of_length_le (by omega)] at ht
    rw [ht]
  | succ d ih =>
    intro i y hd hi hy ht
    have hlt : i < l.length := by omega
    refine Ev.step (f := fun k => (laws_toIntS.f k l[i]).bind fun t => laws_toIntSS.l0 k l (y.set i t) (i + 1 : Nat)) (fun k => ?_) (Ev.bind (toIntS l[i] (hr _ (List.getElem_mem hlt))) (ih (i + 1) (y.set i l[i]) (by omega) (by omega) (by rw [List.length_set]; exact hy) ?_))
    · simp only [laws_toIntSS.l0]
      rw [if_pos (by omega), if_pos (by omega), wrap_nat (by omega), rdL_at hlt, Int.toNat_natCast]
      congr 1
      funext t
      rw [if_pos (by omega)]
    · rw [List.take_succ_eq_append_getElem (by rw [List.length_set]; omega), List.take_succ_eq_append_getElem hlt, List.take_set_of_le (Nat.le_refl _), ht, List.getElem_set_self]
theorem toIntSS (l : List (List Int)) (hl : l.length ≤ 11728124029610) (hr : ∀ row ∈ l, row.length ≤ 35184372088832) : Ev (fun k => laws_toIntSS.f k l) l := by
  unfold laws_toIntSS.f
  refine Ev.pos (by omega) (Ev.pos (by omega) ?_)
  exact toIntSS_l0 l (by omega) hr l.length 0 _ (by omega) (by omega) (by simp) (by simp)
/-- A graph that is small enough for a law to look at it. -/
def small (l : List (List Int)) : Prop := l.length ≤ 1048576 ∧ ∀ row ∈ l, row.length ≤ 1048576
theorem toGraph (l : List (List Int)) (h : small l) : Ev (fun k => laws_toGraph.f k l) l := by
  unfold laws_toGraph.f
  exact Ev.bind (toIntSS l (by have := h.1; omega) (fun row hr => by have := h.2 row hr; omega)) (Ev.now _)

/-! sizes -/
theorem szIntSS_l0 (l : List (List Int)) (hl : okSS l) : ∀ (d i : Nat) (a : Int), l.length - i = d → i ≤ l.length → 0 ≤ a → a ≤ 1048576 → ∃ r, Ev (fun k => laws_szIntSS.l0 k l a i) r ∧ r ≤ 1048576 ∧ (0 ≤ r → ∀ j (hj : j < l.length), i ≤ j → l[j].length ≤ 1048576) := by
  intro d
  induction d with
  | zero =>
    intro i a hd hi h0 h1
    refine ⟨a, Ev.const1 (fun k => ?_), h1, fun _ j hj hij => by omega⟩
    simp only [laws_szIntSS.l0]
    rw [if_neg (by omega)]
  | succ d ih =>
    intro i a hd hi h0 h1
    have hlt : i < l.length := by omega
    have hll := hl.1
    have hrow := (hl.2 _ (List.getElem_mem hlt)).1
    by_cases hneg : a - (l[i].length : Int) < 0
    · refine ⟨-1, Ev.const1 (fun k => ?_), by omega, fun h => by omega⟩
      simp only [laws_szIntSS.l0, laws_szIntS.f]
      rw [if_pos (by omega), if_pos (by omega), rdL_at hlt, if_pos (by rw [wrap_id (by omega)]; exact hneg)]
      rfl
    · obtain ⟨r, h2, h3, h4⟩ := ih (i + 1) (a - (l[i].length : Int)) (by omega) (by omega) (by omega) (by omega)
      refine ⟨r, Ev.step (fun k => ?_) h2, h3, fun h j hj hij => ?_⟩
      · simp only [laws_szIntSS.l0, laws_szIntS.f]
        rw [if_pos (by omega), if_pos (by omega), rdL_at hlt, wrap_id (by omega), if_neg hneg, wrap_nat (by omega)]
        simp only [Option.bind_some]
        rw [if_neg hneg]
      · by_cases e : j = i
        · subst e; omega
        · exact h4 h j hj (by omega)
theorem szGraph (l : List (List Int)) (hl : okSS l) : ∃ r, Ev (fun k => laws_szGraph.f k l 1048576) r ∧ r ≤ 1048576 ∧ (0 ≤ r → small l) := by
  have hll := hl.1
  unfold laws_szGraph.f laws_szIntSS.f
  rw [wrap_id (by omega)]
  by_cases h : (1048576 : Int) - (l.length : Int) < 0
  · exact ⟨-1, Ev.bind (Ev.pos h (Ev.now _)) (Ev.pos (by omega) (Ev.now _)), by omega, fun h => by omega⟩
  · obtain ⟨r, h2, h3, h4⟩ := szIntSS_l0 l hl l.length 0 (1048576 - (l.length : Int)) (by omega) (by omega) (by omega) (by omega)
    by_cases hr : r < 0
    · exact ⟨-1, Ev.bind (Ev.neg h h2) (Ev.pos hr (Ev.now _)), by omega, fun h => by omega⟩
    · refine ⟨r, Ev.bind (Ev.neg h h2) (Ev.neg hr (Ev.now _)), h3, fun h0 => ⟨by omega, fun row hrow => ?_⟩⟩
      obtain ⟨j, hj, rfl⟩ := List.getElem_of_mem hrow
      exact h4 h0 j hj (Nat.zero_le _)

/-! comparisons -/
theorem cons_dec {α : Type} [DecidableEq α] {a b : α} {l m : List α} (e : a = b) : decide (l = m) = decide (a :: l = b :: m) := by
  subst e; exact decide_eq_decide.mpr ⟨fun h => by rw [h], fun h => (List.cons.inj h).2⟩
theorem eqIntS_l0 (x y : List Int) (hl : x.length ≤ 9223372036854775807) (hxy : x.length = y.length) : ∀ (d i : Nat), x.length - i = d → i ≤ x.length → Ev (fun k => laws_eqIntS.l0 k x y i) (decide (x.drop i = y.drop i)) := by
  intro d
  induction d with
  | zero =>
    intro i hd hi
    refine Ev.const1 (fun k => ?_)
    simp only [laws_eqIntS.l0]
    rw [if_neg (by omega), List.drop_of_length_le (by omega), List.drop_of_length_le (by omega)]
    simp
  | succ d ih =>
    intro i hd hi
    have hlt : i < x.length := by omega
    have hlt2 : i < y.length := by omega
    rw [List.drop_eq_getElem_cons hlt, List.drop_eq_getElem_cons hlt2]
    by_cases e : x[i] = y[i]
    · refine Ev.step (f := fun k => laws_eqIntS.l0 k x y (i + 1 : Nat)) (fun k => ?_) ((ih (i + 1) (by omega) (by omega)).val (cons_dec e))
      simp only [laws_eqIntS.l0]
      rw [if_pos (by omega), if_pos (by omega), if_pos (by omega), rd_at hlt, rd_at hlt2, if_pos e, wrap_nat (by omega)]
    · refine Ev.const1 (fun k => ?_)
      simp only [laws_eqIntS.l0]
      rw [if_pos (by omega), if_pos (by omega), if_pos (by omega), rd_at hlt, rd_at hlt2, if_neg e, decide_eq_false (fun h => e (List.cons.inj h).1)]
theorem eqIntS (x y : List Int) (hl : x.length ≤ 9223372036854775807) : Ev (fun k => laws_eqIntS.f k x y) (decide (x = y)) := by
  unfold laws_eqIntS.f
  by_cases h : x.length = y.length
  · refine Ev.pos (by omega) ?_
    exact eqIntS_l0 x y hl h x.length 0 (by omega) (by omega)
  · refine Ev.neg (by omega) ?_
    exact (Ev.now _).val (by have : x ≠ y := fun e => h (by rw [e]); simp [this])
theorem eqIntSS_l0 (x y : List (List Int)) (hl : x.length ≤ 9223372036854775807) (hr : ∀ row ∈ x, row.length ≤ 9223372036854775807) (hxy : x.length = y.length) : ∀ (d i : Nat), x.length - i = d → i ≤ x.length → Ev (fun k => laws_eqIntSS.l0 k x y i) (decide (x.drop i = y.drop i)) := by
  intro d
  induction d with
  | zero =>
    intro i hd hi
    refine Ev.const1 (fun k => ?_)
    simp only [laws_eqIntSS.l0]
    rw [if_neg (by omega), List.drop_of_length_le (by omega), List.drop_of_length_le (by omega)]
    simp
  | succ d ih =>
    intro i hd hi
    have hlt : i < x.length := by omega
    have hlt2 : i < y.length := by omega
    rw [List.drop_eq_getElem_cons hlt, List.drop_eq_getElem_cons hlt2]
    refine Ev.step (f := fun k => (laws_eqIntS.f k x[i] y[i]).bind fun t => if t = true then laws_eqIntSS.l0 k x y (i + 1 : Nat) else some false) (fun k => ?_) ?_
    · simp only [laws_eqIntSS.l0]
      rw [if_pos (by omega), if_pos (by omega), if_pos (by omega), rdL_at hlt, rdL_at hlt2, wrap_nat (by omega)]
    · by_cases e : x[i] = y[i]
      · exact Ev.bind ((eqIntS x[i] y[i] (hr _ (List.getElem_mem hlt))).val (decide_eq_true e)) (Ev.pos rfl ((ih (i + 1) (by omega) (by omega)).val (cons_dec e)))
      · exact Ev.bind ((eqIntS x[i] y[i] (hr _ (List.getElem_mem hlt))).val (decide_eq_false e)) (Ev.neg (by simp) ((Ev.now _).val (decide_eq_false (fun h => e (List.cons.inj h).1)).symm))
theorem eqIntSS (x y : List (List Int)) (hl : x.length ≤ 9223372036854775807) (hr : ∀ row ∈ x, row.length ≤ 9223372036854775807) : Ev (fun k => laws_eqIntSS.f k x y) (decide (x = y)) := by
  unfold laws_eqIntSS.f
  by_cases h : x.length = y.length
  · refine Ev.pos (by omega) ?_
    exact eqIntSS_l0 x y hl hr h x.length 0 (by omega) (by omega)
  · refine Ev.neg (by omega) ?_
    exact (Ev.now _).val (by have : x ≠ y := fun e => h (by rw [e]); simp [this])
theorem eqGraph (x y : List (List Int)) (hl : x.length ≤ 9223372036854775807) (hr : ∀ row ∈ x, row.length ≤ 9223372036854775807) : Ev (fun k => laws_eqGraph.f k x y) (decide (x = y)) := by
  unfold laws_eqGraph.f
  refine Ev.bind (eqIntSS x y hl hr) ?_
  by_cases e : x = y
  · exact Ev.pos (decide_eq_true e) ((Ev.now _).val (decide_eq_true e).symm)
  · exact Ev.neg (by simp [e]) ((Ev.now _).val (decide_eq_false e).symm)
theorem small_eq (l : List (List Int)) (h : small l) : Ev (fun k => laws_eqGraph.f k l l) true := (eqGraph l l (by have := h.1; omega) (fun row hr => by have := h.2 row hr; omega)).val (decide_eq_true rfl)

/-! what a graph is -/
theorem l1In (a lo hi : Int) : spec_l1In.f a lo hi = some (decide (lo ≤ a) && decide (a ≤ hi)) := by
  unfold spec_l1In.f
  by_cases h : a ≥ lo
  · rw [if_pos h]; have : lo ≤ a := h; simp [this]
  · rw [if_neg h]; have : ¬ lo ≤ a := h; simp [this]
theorem implin (a lo hi : Int) : impl_in.f a lo hi = some (decide (lo ≤ a) && decide (a ≤ hi)) := by
  unfold impl_in.f
  by_cases h : lo ≤ a
  · rw [if_pos h]; simp [h]
  · rw [if_neg h]; simp [h]
theorem l1All_l0 (l : List Int) (lo hi : Int) (hl : l.length ≤ 9223372036854775807) : ∀ (d i : Nat), l.length - i = d → i ≤ l.length → Ev (fun k => spec_l1All.l0 k lo hi l l.length i) ((l.drop i).all fun x => decide (lo ≤ x) && decide (x ≤ hi)) := by
  intro d
  induction d with
  | zero =>
    intro i hd hi
    refine Ev.const1 (fun k => ?_)
    simp only [spec_l1All.l0]
    rw [if_neg (by omega), List.drop_of_length_le (by omega)]
    rfl
  | succ d ih =>
    intro i hd hi'
    have hlt : i < l.length := by omega
    rw [List.drop_eq_getElem_cons hlt, List.all_cons]
    by_cases e : (decide (lo ≤ l[i]) && decide (l[i] ≤ hi)) = true
    · refine Ev.step (f := fun k => spec_l1All.l0 k lo hi l l.length (i + 1 : Nat)) (fun k => ?_) ((ih (i + 1) (by omega) (by omega)).val (by rw [e]; simp))
      simp only [spec_l1All.l0, l1In]
      rw [if_pos (by omega), if_pos (by omega), if_pos (by omega), rd_at hlt, wrap_nat (by omega)]
      simp only [Option.bind_some]
      rw [if_pos e]
    · refine Ev.const1 (fun k => ?_)
      simp only [spec_l1All.l0, l1In]
      rw [if_pos (by omega), if_pos (by omega), if_pos (by omega), rd_at hlt]
      simp only [Option.bind_some]
      rw [if_neg e]
      simp only [Bool.not_eq_true] at e
      rw [e]; rfl
theorem l1All (l : List Int) (lo hi : Int) (hl : l.length ≤ 9223372036854775807) : Ev (fun k => spec_l1All.f k l lo hi) (l.all fun x => decide (lo ≤ x) && decide (x ≤ hi)) := by
  unfold spec_l1All.f
  exact l1All_l0 l lo hi hl l.length 0 (by omega) (by omega)
theorem grGood_l0 (l : List (List Int)) (hl : okSS l) : ∀ (d i : Nat), l.length - i = d → i ≤ l.length → Ev (fun k => spec_grGood.l0 k l.length l l.length i) ((l.drop i).all (goodRow l.length)) := by
  intro d
  induction d with
  | zero =>
    intro i hd hi
    refine Ev.const1 (fun k => ?_)
    simp only [spec_grGood.l0]
    rw [if_neg (by omega), List.drop_of_length_le (by omega)]
    rfl
  | succ d ih =>
    intro i hd hi'
    have hlt : i < l.length := by omega
    have hll := hl.1
    have hrow := (hl.2 _ (List.getElem_mem hlt)).1
    rw [List.drop_eq_getElem_cons hlt, List.all_cons]
    by_cases h5 : l[i].length ≤ 5
    · refine Ev.step (f := fun k => (spec_l1All.f k l[i] 0 ((l.length : Int) - 1)).bind fun t => if t = true then spec_grGood.l0 k l.length l l.length (i + 1 : Nat) else some false) (fun k => ?_) ?_
      · simp only [spec_grGood.l0]
        rw [if_pos (by omega), if_pos (by omega), if_pos (by omega), rdL_at hlt, if_neg (by omega), wrap_nat (by omega), wrap_id (by omega)]
      · by_cases e : (l[i].all fun x => decide (0 ≤ x) && decide (x ≤ (l.length : Int) - 1)) = true
        · exact Ev.bind ((l1All _ 0 _ hrow).val e) (Ev.pos rfl ((ih (i + 1) (by omega) (by omega)).val (by unfold goodRow; rw [e]; simp [h5])))
        · exact Ev.bind ((l1All _ 0 _ hrow).val (Bool.eq_false_iff.mpr e)) (Ev.neg (by simp) ((Ev.now _).val (by unfold goodRow; simp only [Bool.not_eq_true] at e; rw [e]; simp)))
    · refine Ev.const1 (fun k => ?_)
      simp only [spec_grGood.l0]
      rw [if_pos (by omega), if_pos (by omega), if_pos (by omega), rdL_at hlt, if_pos (by omega)]
      simp [goodRow, h5]
theorem grGood (l : List (List Int)) (hl : okSS l) : Ev (fun k => spec_grGood.f k l) (goodG l) := by
  unfold spec_grGood.f
  rw [l1In]
  simp only [Option.bind_some]
  by_cases h : 1 ≤ l.length ∧ l.length ≤ 8
  · have h1 : (1 : Int) ≤ l.length := by omega
    have h2 : (l.length : Int) ≤ 8 := by omega
    refine Ev.pos (by simp [h1, h2]) ?_
    exact (grGood_l0 l hl l.length 0 (by omega) (by omega)).val (by simp [goodG, h.1, h.2])
  · refine Ev.neg (by simp; omega) ((Ev.now _).val ?_)
    unfold goodG
    by_cases h1 : 1 ≤ l.length
    · have h2 : ¬ l.length ≤ 8 := by omega
      simp [h1, h2]
    · simp [h1]
theorem ok_small {l : List (List Int)} (h : okSS l) : l.length ≤ 9223372036854775807 ∧ ∀ row ∈ l, row.length ≤ 9223372036854775807 := ⟨h.1, fun row hr => (h.2 row hr).1⟩
theorem good_iff {l : List (List Int)} (h : goodG l = true) : (1 ≤ l.length ∧ l.length ≤ 8) ∧ ∀ row ∈ l, row.length ≤ 5 ∧ ∀ q ∈ row, 0 ≤ q ∧ q < (l.length : Int) := by
  simp only [goodG, goodRow, Bool.and_eq_true, decide_eq_true_eq, List.all_eq_true] at h
  refine ⟨⟨h.1, h.2.1⟩, fun row hr => ⟨(h.2.2 row hr).1, fun q hq => ?_⟩⟩
  have := (h.2.2 row hr).2 q hq
  omega
def marks (a : Int) : Nat → List Int
  | 0 => []
  | n + 1 => a :: marks (a + 1) n
theorem marks_len (a : Int) (n : Nat) : (marks a n).length = n := by
  induction n generalizing a with
  | zero => rfl
  | succ n ih => simp [marks, ih]
theorem markIntS_l0 (n : Nat) (hn : n ≤ 4611686018427387904) : ∀ (d i : Nat) (x : List Int) (a : Int), x.length = n → n - i = d → i ≤ n → 0 ≤ a → a + d ≤ 4611686018427387904 → Ev (fun k => laws_markIntS.l0 k x a i) (a + d, x.take i ++ marks a d) := by
  intro d
  induction d with
  | zero =>
    intro i x a hx hd hi h0 h1
    refine Ev.succ ?_
    simp only [laws_markIntS.l0]
    refine Ev.neg (by omega) ((Ev.now _).val ?_)
    rw [List.take_of_length_le (by omega)]; simp [marks]
  | succ d ih =>
    intro i x a hx hd hi h0 h1
    refine Ev.succ ?_
    simp only [laws_markIntS.l0]
    refine Ev.pos (by omega) (Ev.pos (by omega) ?_)
    rw [wrap_id (x := a + 1) (by omega), wrap_nat (by omega), Int.toNat_natCast]
    refine (ih (i + 1) (x.set i a) (a + 1) (by rw [List.length_set]; exact hx) (by omega) (by omega) (by omega) (by omega)).val ?_
    rw [List.take_succ_eq_append_getElem (by rw [List.length_set]; omega), List.take_set_of_le (Nat.le_refl _), List.getElem_set_self]
    simp only [marks, List.append_assoc, List.singleton_append]
    congr 1; omega
theorem markIntS (x : List Int) (a : Int) (hn : x.length ≤ 4611686018427387904) (h0 : 0 ≤ a) (h1 : a + x.length ≤ 4611686018427387904) : Ev (fun k => laws_markIntS.f k x a) (a + x.length, marks a x.length) := by
  have := markIntS_l0 x.length hn x.length 0 x a rfl (by omega) (by omega) h0 h1
  unfold laws_markIntS.f
  simpa using this
theorem heldIntS_l0 (n : Nat) (hn : n ≤ 4611686018427387904) (y : List Int) (hy : y.length = n) : ∀ (d i : Nat) (a : Int), n - i = d → i ≤ n → 0 ≤ a → a + d ≤ 4611686018427387904 → y.drop i = marks a d → Ev (fun k => laws_heldIntS.l0 k y a i) (a + d) := by
  intro d
  induction d with
  | zero =>
    intro i a hd hi h0 h1 he
    refine Ev.succ ?_
    simp only [laws_heldIntS.l0]
    exact Ev.neg (by omega) ((Ev.now _).val (by simp))
  | succ d ih =>
    intro i a hd hi h0 h1 he
    have hlt : i < y.length := by omega
    rw [List.drop_eq_getElem_cons hlt] at he
    simp only [marks, List.cons.injEq] at he
    refine Ev.succ ?_
    simp only [laws_heldIntS.l0]
    refine Ev.pos (by omega) (Ev.pos (by omega) (Ev.pos (by rw [rd_at hlt]; exact he.1) ?_))
    rw [wrap_id (x := a + 1) (by omega), wrap_nat (by omega)]
    exact (ih (i + 1) (a + 1) (by omega) (by omega) (by omega) (by omega) he.2).val (by omega)
theorem heldIntS (a : Int) (n : Nat) (h0 : 0 ≤ a) (h1 : a + n ≤ 4611686018427387904) : Ev (fun k => laws_heldIntS.f k (marks a n) a) (a + n) :=
  heldIntS_l0 n (by omega) _ (marks_len a n) n 0 a (by omega) (by omega) h0 h1 (by simp)
theorem markR (r : List Int) (h : r.length ≤ 1048576) : ∃ q r', Ev (fun k => laws_markIntS.f k r 1) (q, r') ∧ 0 ≤ q ∧ Ev (fun k => laws_heldIntS.f k r' 1) q ∧ True :=
  ⟨_, _, markIntS r 1 (by omega) (by omega) (by omega), by omega, heldIntS 1 r.length (by omega) (by omega), trivial⟩
def markRows (a : Int) : List (List Int) → Int × List (List Int)
  | [] => (a, [])
  | row :: rest => ((markRows (a + row.length) rest).1, marks a row.length :: (markRows (a + row.length) rest).2)
theorem markIntSS_l0 (n : Nat) (hn : n ≤ 1048576) : ∀ (d i : Nat) (x : List (List Int)) (a : Int), x.length = n → (∀ row ∈ x.drop i, row.length ≤ 1048576) → n - i = d → i ≤ n → 0 ≤ a → a + 1048576 * d ≤ 4611686018427387904 → Ev (fun k => laws_markIntSS.l0 k x a i) ((markRows a (x.drop i)).1, x.take i ++ (markRows a (x.drop i)).2) ∧ a ≤ (markRows a (x.drop i)).1 ∧ (markRows a (x.drop i)).1 ≤ a + 1048576 * d := by
  intro d
  induction d with
  | zero =>
    intro i x a hx hr hd hi h0 h1
    rw [List.drop_of_length_le (by omega)]
    refine ⟨?_, by simp [markRows], by simp [markRows]⟩
    refine Ev.succ ?_
    simp only [laws_markIntSS.l0]
    refine Ev.neg (by omega) ((Ev.now _).val ?_)
    rw [List.take_of_length_le (by omega)]; simp [markRows]
  | succ d ih =>
    intro i x a hx hr hd hi h0 h1
    have hlt : i < x.length := by omega
    have hrow := hr x[i] (by rw [List.drop_eq_getElem_cons hlt]; exact List.mem_cons_self)
    have hdrop : (x.set i (marks a x[i].length)).drop (i + 1) = x.drop (i + 1) := List.drop_set_of_lt (by omega)
    obtain ⟨e1, e2, e3⟩ := ih (i + 1) (x.set i (marks a x[i].length)) (a + x[i].length) (by rw [List.length_set]; exact hx) (fun row hm => hr row (by rw [hdrop] at hm; rw [List.drop_eq_getElem_cons hlt]; exact List.mem_cons_of_mem _ hm)) (by omega) (by omega) (by omega) (by omega)
    rw [hdrop] at e1 e2 e3
    rw [List.drop_eq_getElem_cons hlt]
    simp only [markRows]
    refine ⟨?_, by omega, by omega⟩
    refine Ev.succ ?_
    simp only [laws_markIntSS.l0]
    refine Ev.pos (by omega) (Ev.pos (by omega) ?_)
    rw [rdL_at hlt]
    refine Ev.bind (markIntS x[i] a (by omega) h0 (by omega)) ?_
    rw [wrap_nat (by omega), Int.toNat_natCast]
    refine e1.val ?_
    rw [List.take_succ_eq_append_getElem (by rw [List.length_set]; omega), List.take_set_of_le (Nat.le_refl _), List.getElem_set_self]
    simp
theorem markIntSS (x : List (List Int)) (hx : small x) (a : Int) (h0 : 0 ≤ a) (h1 : a ≤ 1099511627776) : Ev (fun k => laws_markIntSS.f k x a) ((markRows a x).1, (markRows a x).2) ∧ a ≤ (markRows a x).1 ∧ (markRows a x).1 ≤ a + 1099511627776 := by
  have hl := hx.1
  obtain ⟨e1, e2, e3⟩ := markIntSS_l0 x.length hx.1 x.length 0 x a rfl (fun row hm => hx.2 row (by simpa using hm)) (by omega) (by omega) h0 (by omega)
  refine ⟨by unfold laws_markIntSS.f; simpa using e1, by simpa using e2, ?_⟩
  have : (markRows a x).1 ≤ a + 1048576 * x.length := by simpa using e3
  omega
theorem markG (x : List (List Int)) (hx : small x) : ∃ m x', Ev (fun k => laws_markGraph.f k x 1) (m, x') ∧ 0 ≤ m ∧ m ≤ 1099511627777 := by
  obtain ⟨e1, e2, e3⟩ := markIntSS x hx 1 (by omega) (by omega)
  exact ⟨_, _, e1, by omega, by omega⟩
theorem heldIntSS_l0 (n : Nat) (hn : n ≤ 1048576) (y : List (List Int)) (hy : y.length = n) : ∀ (d i : Nat) (x : List (List Int)) (a : Int), x.length = d → (∀ row ∈ x, row.length ≤ 1048576) → n - i = d → i ≤ n → 0 ≤ a → a + 1048576 * d ≤ 4611686018427387904 → y.drop i = (markRows a x).2 → Ev (fun k => laws_heldIntSS.l0 k y a i) (markRows a x).1 := by
  intro d
  induction d with
  | zero =>
    intro i x a hx hr hd hi h0 h1 he
    have : x = [] := List.length_eq_zero_iff.1 hx
    subst this
    refine Ev.succ ?_
    simp only [laws_heldIntSS.l0]
    exact Ev.neg (by omega) (Ev.now _)
  | succ d ih =>
    intro i x a hx hr hd hi h0 h1 he
    have hlt : i < y.length := by omega
    cases x with
    | nil => simp at hx
    | cons row rest =>
      rw [List.drop_eq_getElem_cons hlt] at he
      simp only [markRows, List.cons.injEq] at he
      have hrow := hr row List.mem_cons_self
      refine Ev.succ ?_
      simp only [laws_heldIntSS.l0]
      refine Ev.pos (by omega) (Ev.pos (by omega) ?_)
      rw [rdL_at hlt, he.1]
      refine Ev.bind (heldIntS a row.length h0 (by omega)) (Ev.neg (by omega) ?_)
      rw [wrap_nat (by omega)]
      exact ih (i + 1) rest (a + row.length) (by simpa using hx) (fun r hm => hr r (List.mem_cons_of_mem _ hm)) (by omega) (by omega) (by omega) (by omega) he.2
theorem markRows_len (a : Int) (x : List (List Int)) : (markRows a x).2.length = x.length := by
  induction x generalizing a with
  | nil => rfl
  | cons r x ih => simp [markRows, ih]
theorem heldIntSS (x : List (List Int)) (hx : small x) (a : Int) (h0 : 0 ≤ a) (h1 : a ≤ 1099511627776) : Ev (fun k => laws_heldIntSS.f k (markRows a x).2 a) (markRows a x).1 := by
  have hl := hx.1
  exact heldIntSS_l0 x.length hx.1 _ (markRows_len a x) x.length 0 x a rfl hx.2 (by omega) (by omega) h0 (by omega) (by simp)
theorem markRR (x : List (List Int)) (hx : small x) : ∃ q x', Ev (fun k => laws_markIntSS.f k x 1) (q, x') ∧ 0 ≤ q ∧ Ev (fun k => laws_heldIntSS.f k x' 1) q ∧ True := by
  obtain ⟨e1, e2, e3⟩ := markIntSS x hx 1 (by omega) (by omega)
  exact ⟨_, _, e1, by omega, heldIntSS x hx 1 (by omega) (by omega), trivial⟩
theorem markGG (x : List (List Int)) (hx : small x) : ∃ q x', Ev (fun k => laws_markGraph.f k x 1) (q, x') ∧ 0 ≤ q ∧ Ev (fun k => laws_heldGraph.f k x' 1) q ∧ True := by
  obtain ⟨e1, e2, e3⟩ := markIntSS x hx 1 (by omega) (by omega)
  refine ⟨_, _, e1, by omega, ?_, trivial⟩
  unfold laws_heldGraph.f
  exact Ev.bind (heldIntSS x hx 1 (by omega) (by omega)) (Ev.neg (by omega) (Ev.now _))
def mk (l : List UInt8) : ByteArray := ⟨l.toArray⟩
theorem mk_app (a b : List UInt8) : mk a ++ mk b = mk (a ++ b) := by
  apply ByteArray.ext; simp [mk]
theorem mk_size (a : List UInt8) : (mk a).size = a.length := by simp [mk, ByteArray.size]
theorem mk_list (a : List UInt8) : (mk a).data.toList = a := by simp [mk]
def dg1 (q : Int) : List UInt8 := [UInt8.ofNat (48 + q.toNat)]
theorem itoa_d {q : Int} (h0 : 0 ≤ q) (h1 : q < 10) : strconv_Itoa.f q = some (mk (dg1 q)) := by
  unfold strconv_Itoa.f
  rw [if_pos ⟨h0, by omega⟩, Lib.decDigits_one (by omega)]; rfl
theorem l1Num_d {q : Int} (h0 : 0 ≤ q) (h1 : q < 10) : Ev (fun k => spec_l1Num.f k q) (mk (dg1 q)) := by
  refine Ev.succ ?_
  simp only [spec_l1Num.f]
  refine Ev.pos h1 ((Ev.now _).val ?_)
  have e : wrap64 (48 + q) % 256 = 48 + q := by unfold wrap64; omega
  rw [e]
  unfold strOfNums mk dg1
  have e2 : (48 + q).toNat = 48 + q.toNat := by omega
  simp [e2]
theorem join_snoc (sep : List UInt8) : ∀ (l : List (List UInt8)) (x : List UInt8), Lib.join (l ++ [x]) sep = if l = [] then x else Lib.join l sep ++ sep ++ x
  | [], x => by simp [Lib.join_one]
  | [a], x => by simp [Lib.join, List.intercalate, List.intersperse]
  | a :: b :: t, x => by
    have ih := join_snoc sep (b :: t) x
    have e1 : Lib.join (a :: b :: (t ++ [x])) sep = a ++ sep ++ Lib.join (b :: (t ++ [x])) sep := by simp [Lib.join, List.intercalate, List.intersperse]
    have e2 : Lib.join (a :: b :: t) sep = a ++ sep ++ Lib.join (b :: t) sep := by simp [Lib.join, List.intercalate, List.intersperse]
    simp only [List.cons_append, if_neg (List.cons_ne_nil _ _)] at ih ⊢
    rw [e1, e2, ih]; simp [List.append_assoc]
theorem join_len (sep : List UInt8) (B : Nat) : ∀ (n : Nat) (l : List (List UInt8)), l.length = n → (∀ x ∈ l, x.length ≤ B) → (Lib.join l sep).length ≤ (B + sep.length) * n := by
  intro n
  induction n with
  | zero => intro l hl _; obtain rfl := List.length_eq_zero_iff.1 hl; simp [Lib.join]
  | succ n ih =>
    intro l hl hx
    have hne : l ≠ [] := fun h => by subst h; simp at hl
    have hd := List.dropLast_concat_getLast hne
    rw [← hd, join_snoc]
    have hlast := hx _ (List.getLast_mem hne)
    have hpre := ih l.dropLast (by simp; omega) (fun x hx' => hx x (List.dropLast_subset l hx'))
    rw [Nat.mul_succ]
    split
    · omega
    · simp only [List.length_append]; omega
theorem join_take (sep : List UInt8) (l : List (List UInt8)) {i : Nat} (hi : i < l.length) : Lib.join (l.take (i + 1)) sep = if i = 0 then l[i] else Lib.join (l.take i) sep ++ sep ++ l[i] := by
  rw [List.take_succ_eq_append_getElem hi, join_snoc]
  by_cases h : i = 0
  · subst h; simp
  · rw [if_neg (by simp; exact ⟨h, fun h2 => by subst h2; simp at hi⟩), if_neg h]
def commas (row : List Int) : List UInt8 := Lib.join (row.map dg1) [44]
theorem commas_len (row : List Int) : (commas row).length ≤ 2 * row.length := by
  have := join_len [44] 1 row.length (row.map dg1) (by simp) (fun x hx => by obtain ⟨q, _, rfl⟩ := List.mem_map.1 hx; simp [dg1])
  simpa [commas] using this
theorem commas_take (row : List Int) {i : Nat} (hi : i < row.length) : commas (row.take (i + 1)) = if i = 0 then dg1 row[i] else commas (row.take i) ++ [44] ++ dg1 row[i] := by
  unfold commas
  rw [List.map_take, List.map_take, join_take [44] (row.map dg1) (by simpa using hi)]
  simp
def rowT (row : List Int) : List UInt8 := if row = [] then [45] else commas row
theorem rowT_len (row : List Int) (h : row.length ≤ 8) : (rowT row).length ≤ 16 := by
  unfold rowT; split
  · simp
  · have := commas_len row; omega
theorem join_mk (l : List (List UInt8)) (sep : List UInt8) (h1 : l.length ≤ 140737488355328) (h2 : (Lib.join l sep).length ≤ 140737488355328) : strings_Join.f (l.map mk) (mk sep) = some (mk (Lib.join l sep)) := by
  unfold strings_Join.f
  have e : (l.map mk).map (·.data.toList) = l := by
    rw [List.map_map]; conv => rhs; rw [← List.map_id l]
    apply List.map_congr_left; intro a _; exact mk_list a
  rw [e, mk_list]
  rw [if_pos ⟨by simpa using h1, h2⟩]; rfl
/-- Digits alone. -/
def Digits (row : List Int) : Prop := row.length ≤ 8 ∧ ∀ q ∈ row, 0 ≤ q ∧ q < 10
theorem list_l0 {row : List Int} (h : Digits row) : ∀ (d i : Nat), row.length - i = d → i ≤ row.length → Ev (fun k => impl_listText.l0 k (((row.take i).map dg1).map mk) row row.length i) (mk (commas row)) := by
  have h8 := h.1
  intro d
  induction d with
  | zero =>
    intro i hd hi
    obtain rfl : i = row.length := by omega
    refine Ev.succ ?_
    simp only [impl_listText.l0]
    refine Ev.neg (by omega) ?_
    rw [List.take_length]
    have hl := commas_len row
    exact Ev.bind0 (join_mk (row.map dg1) [44] (by simp; omega) (by show (commas row).length ≤ _; omega)) (Ev.now _)
  | succ d ih =>
    intro i hd hi
    have hlt : i < row.length := by omega
    refine Ev.succ ?_
    simp only [impl_listText.l0]
    have hq := h.2 row[i] (List.getElem_mem _)
    refine Ev.pos (by omega) (Ev.pos (by omega) (Ev.pos (by omega) ?_))
    rw [rd_at hlt]
    refine Ev.bind0 (itoa_d hq.1 hq.2) (Ev.pos (by simp; omega) ?_)
    rw [wrap_nat (by omega)]
    have e : ((row.take i).map dg1).map mk ++ [mk (dg1 row[i])] = ((row.take (i + 1)).map dg1).map mk := by
      rw [List.take_succ_eq_append_getElem hlt, List.map_append, List.map_append]; rfl
    rw [e]
    exact ih (i + 1) (by omega) (by omega)
theorem listText_ev {row : List Int} (h : Digits row) : Ev (fun k => impl_listText.f k row) (mk (rowT row)) := by
  unfold impl_listText.f
  by_cases hn : row = []
  · subst hn
    exact Ev.pos (by simp) ((Ev.now _).val (by simp [rowT, mk]))
  · have : 0 < row.length := List.length_pos_iff.2 hn
    refine Ev.neg (by omega) ?_
    have e : rowT row = commas row := by unfold rowT; rw [if_neg hn]
    rw [e]
    exact list_l0 h row.length 0 (by omega) (by omega)
end Go.Proofs.YtfeakndpkloofaaDoor.M
namespace Go.Proofs.YtfeakndpkloofaaDoor.P
open Go.RowKit Go.Proofs.YtfeakndpkloofaaDoorW.PrintWords Go.Proofs.YtfeakndpkloofaaDoorW.PrintLast Go.Proofs.YtfeakndpkloofaaDoorW.PrintMore
attribute [local go_sem] max2_int min2_int max_two min_two max_three min_three max_four min_four   -- for this text's walks alone
set_option linter.unusedVariables false
set_option linter.unusedSimpArgs false

/-! ### impl_graphText: function 25 -/
def impl_graphText.l0 : Nat → List ByteArray → List (List Int) → Int → Int → Option (ByteArray)
  | 0, _, _, _, _ => none
  | k + 1, x3, x8, x9, x10 => if x10 < x9 then (if 0 ≤ x10 then (if x10 < (x8.length : Int) then ((impl_listText.f k (rd_L3 x8 x10)).bind fun t135 => (if x3.length < 8796093022208 then (impl_graphText.l0 k (x3 ++ [t135]) x8 x9 (wrap64 (x10 + 1))) else (none))) else (none)) else (none)) else ((strings_Join.f x3 (⟨#[59]⟩ : ByteArray)).bind fun t139 => (some t139))
def impl_graphText.f (k : Nat) (l0_0 : List (List Int)) : Option (ByteArray) := impl_graphText.l0 k (([] : List ByteArray)) l0_0 (l0_0.length : Int) 0
theorem impl_graphText.mono_l : ∀ k, (∀ y0 y1 y2 y3, LeO (impl_graphText.l0 k y0 y1 y2 y3) (impl_graphText.l0 (k + 1) y0 y1 y2 y3))
  | 0 => fun _ _ _ _ r h => by simp [impl_graphText.l0] at h
  | k + 1 => by
    have ih0 := impl_graphText.mono_l k
    · intro y0 y1 y2 y3
      unfold impl_graphText.l0
      repeat' first
      | (with_reducible exact ih0 _ _ _ _)
      | (with_reducible exact impl_listText.mono _ _)
      | (with_reducible exact LeO.refl _)
      | (with_reducible exact LeO.none _)
      | (with_reducible refine LeO.ite ?_ ?_)
      | (with_reducible refine LeO.bind ?_ (fun _ => ?_))
      | exact ih0 _ _ _ _
      | exact impl_listText.mono _ _
      | exact LeO.none _
      | refine LeO.ite ?_ ?_
      | refine LeO.bind ?_ (fun _ => ?_)
theorem impl_graphText.mono : ∀ a0 k, LeO (impl_graphText.f k a0) (impl_graphText.f (k + 1) a0) := by
  intro a0 k
  have ih0 := impl_graphText.mono_l k
  unfold impl_graphText.f
  repeat' first
      | (with_reducible exact ih0 _ _ _ _)
      | (with_reducible exact impl_listText.mono _ _)
      | (with_reducible exact LeO.refl _)
      | (with_reducible exact LeO.none _)
      | (with_reducible refine LeO.ite ?_ ?_)
      | (with_reducible refine LeO.bind ?_ (fun _ => ?_))
      | exact ih0 _ _ _ _
      | exact impl_listText.mono _ _
      | exact LeO.none _
      | refine LeO.ite ?_ ?_
      | refine LeO.bind ?_ (fun _ => ?_)
set_option maxHeartbeats 8000000 in
set_option maxRecDepth 100000 in
theorem impl_graphText.calls (k : Nat) (A0_0 : Option Addr) (c0_0 : Nat) (l0_0 : List (List Int)) (r : ByteArray) (w : World) (hr0_0 : Kd.C (Kd.slice 3 (Kd.int .i64)) w A0_0 l0_0.length l0_0) (hc0_0 : l0_0.length ≤ c0_0) (h : impl_graphText.f k l0_0 = some r) :
    Calls Tryd.prog 25 #[.agg #[.slice A0_0 l0_0.length c0_0]] w fun e w' => e = .returned (.string r) ∧ Below w.heap.size w w' := by
  have hu28 := Tryd.underlying28
  have HR0_0 := Aside0.mk hr0_0
  have HC0_0 := Aside0.mk hc0_0
  clear hr0_0 hc0_0
  have HB := Aside0.mk (Below.refl w.heap.size w)
  have H : (impl_graphText.l0 k (([] : List ByteArray)) l0_0 (l0_0.length : Int) 0) = some r := h
  clear h
  obtain ⟨y131, hy131⟩ : ∃ y_ : List ByteArray, y_ = (([] : List ByteArray)) := ⟨_, rfl⟩
  replace H : (impl_graphText.l0 k y131 l0_0 (l0_0.length : Int) 0) = some r := by first | (rw [hy131]; with_reducible exact H) | (have H2_ := (Option.bind_some _ _).symm.trans H; rw [hy131]; with_reducible exact H2_) | (have H2_ := (Option.bind_some _ _).symm.trans H; with_reducible exact H2_) | with_reducible exact H | (rw [hy131]; exact H) | exact H
  have Ny131 := Aside0.mk hy131
  clear hy131
  have H' := Aside0.mk H
  clear H
  go_enter Tryd.func25, Tryd.ntmps25
  go_wp2_with (first | ((with_reducible refine gate_dst (N := 1) rfl ?_); refine box_event ?hg (N := 1) ?hd (cs := #[.slice A0_0 l0_0.length c0_0]) (t := 28) ?hr ?_; (case hd => rfl); (case hg => rfl); (case hr => first | (go_simp; done) | (go_simp; rfl)); intro gb130 hg w2 hbox hb; have n0_ := Aside0.mk (below_step (by repeat (first | (with_reducible first | exact HB.out | apply below_alloc | apply pw_below_drewN | apply below_drew1) | exact HB.out)) hb); have n1_ := Aside0.mk (hbox); have n2_ := Aside0.mk ((by rw [hg]; exact (below_size (by repeat (first | (with_reducible first | exact HB.out | apply below_alloc | apply pw_below_drewN | apply below_drew1) | exact HB.out))) : w.heap.size ≤ gb130)); have n3_ := Aside0.mk ((by rw [hg]; exact (below_size (by repeat (first | (with_reducible first | exact HB.out | apply below_alloc | apply pw_below_drewN | apply below_drew1) | exact HB.out))) : w.heap.size ≤ gb130)); clear HB; have HB := n0_; have BK130 := n1_; have GW130 := n2_; have GE130 := n3_; clear n0_ n1_ n2_ n3_; clear hb hbox hg) | ((with_reducible refine gate_dst (N := 6) rfl ?_); refine Kd.R_lit Kd.string _ 9 ?hg (N := 6) ?hd (xs := ([] : List ByteArray)) (inner := []) (ok := fun _ => True) (okp := fun _ => True) ?hr ?hp (fun _ hk => hk) trivial (Below.refl _ _) (Nat.le_refl _) (by simp) ?_; (case hd => rfl); (case hg => rfl); (case hr => first | (go_simp; done) | (go_simp; rfl)); (case hp => exact (Reps.none _ _)); intro v132 w3 ho4 hb hg_ hnew_; clear hg_ hnew_; (first | rw [← Ny131.out] at ho4 | (simp only [Int.reduceToNat] at ho4; rw [← Ny131.out] at ho4)); have n0_ := Aside0.mk (Kd.R_lower ho4 (below_size (by repeat (first | (with_reducible first | exact HB.out | apply below_alloc | apply pw_below_drewN | apply below_drew1 | refine below_set ?_ GE130.out) | exact HB.out)))); have n1_ := Aside0.mk (blk_below (g := gb130) (o := .cells #[.slice A0_0 l0_0.length c0_0] 28 (0, 0)) (by (with_reducible repeat (first | refine blk_drewN ?_ _ | refine blk_drew ?_ | refine blk_alloc ?_ _)); exact BK130.out) hb); have n2_ := Aside0.mk (below_step (by repeat (first | (with_reducible first | exact HB.out | apply below_alloc | apply pw_below_drewN | apply below_drew1 | refine below_set ?_ GE130.out) | exact HB.out)) hb); clear BK130; clear HB; have HO133 := n0_; have BK130 := n1_; have HB := n2_; clear n0_ n1_ n2_; clear hb ho4; have hcz5_0 : w3.cell? ⟨gb130, 0, none⟩ = some (.slice A0_0 l0_0.length c0_0) := (blk_cell BK130.out 0).trans rfl; have hfz5_0 := blk_frozen BK130.out 0))
  go_loopg [3, 10] k (fun kq v3 v10 w' => ∃ (x3_1 : List ByteArray) (x10_1 : Int), v10 = .int .i64 x10_1 ∧ Aside0 (impl_graphText.l0 kq x3_1 l0_0 (l0_0.length : Int) x10_1 = some r) ∧ Aside0 (kq ≤ k) ∧ Aside0 (Kd.R Kd.string 9 w' w.heap.size (fun _ => True) v3 x3_1) ∧ Aside0 (w'.heap[gb130]? = some (.cells #[(.slice A0_0 l0_0.length c0_0)] 28 (0, 0))) ∧ Aside0 (Below w.heap.size w w'))
  case atStart => exact ⟨(y131), (0), (by first | rfl | (simp; done) | (simp [*]; done)), H', ⟨Nat.le_refl _⟩, ⟨by (with_reducible repeat (first | apply Kd.R_alloc | apply Kd.R_drewN | apply Kd.R_drew)); exact HO133.out⟩, ⟨by (with_reducible repeat (first | refine blk_drewN ?_ _ | refine blk_drew ?_ | refine blk_alloc ?_ _)); exact BK130.out⟩, ⟨by repeat (first | (with_reducible first | exact HB.out | apply below_alloc | apply pw_below_drewN | apply below_drew1 | refine below_set ?_ GE130.out) | exact HB.out)⟩⟩
  case round =>
    clear H'
    try clear c2
    try clear p2
    try clear hcz5_0
    try clear hfz5_0
    obtain ⟨x3_1, x10_1, rfl, HA, HK1, HO_3, BK130, HB⟩ := hrel
    cases gk with
    | zero => exact absurd HA.out (by simp [impl_graphText.l0])
    | succ k1 =>
      have H := HA.out
      clear HA
      simp only [impl_graphText.l0] at H
      by_cases c6 : x10_1 < (l0_0.length : Int)
      · rw [if_pos c6] at H
        have c6b0 : decide (x10_1 < (l0_0.length : Int)) = true := decide_eq_true c6
        clear c6
        by_cases c7 : 0 ≤ x10_1
        · rw [if_pos c7] at H
          have c7b0 : decide (0 ≤ x10_1) = true := decide_eq_true c7
          clear c7
          by_cases c8 : x10_1 < (l0_0.length : Int)
          · rw [if_pos c8] at H
            have c8b0 : decide (x10_1 < (l0_0.length : Int)) = true := decide_eq_true c8
            clear c8
            replace H := Option.bind_eq_some_iff.mp H
            obtain ⟨t135, A90, H⟩ := H
            replace H : (if x3_1.length < 8796093022208 then (impl_graphText.l0 k1 (x3_1 ++ [t135]) l0_0 (l0_0.length : Int) (wrap64 (x10_1 + 1))) else (none)) = some r := H
            have A9 := Aside0.mk A90
            clear A90
            by_cases c10 : x3_1.length < 8796093022208
            · rw [if_pos c10] at H
              have LMc10 := Aside0.mk c10
              clear c10
              obtain ⟨y136, hy136⟩ : ∃ y_ : List ByteArray, y_ = (x3_1 ++ [t135]) := ⟨_, rfl⟩
              replace H : (impl_graphText.l0 k1 y136 l0_0 (l0_0.length : Int) (wrap64 (x10_1 + 1))) = some r := by first | (rw [hy136]; with_reducible exact H) | (have H2_ := (Option.bind_some _ _).symm.trans H; rw [hy136]; with_reducible exact H2_) | (have H2_ := (Option.bind_some _ _).symm.trans H; with_reducible exact H2_) | with_reducible exact H | (rw [hy136]; exact H) | exact H
              have Ny136 := Aside0.mk hy136
              clear hy136
              have H' := Aside0.mk H
              clear H
              have p134 : 0 ≤ (x10_1 : Int) := of_decide_eq_true (by first | (with_reducible assumption) | assumption)
              have q134 : x10_1 < (l0_0.length : Int) := of_decide_eq_true (by first | (with_reducible assumption) | assumption)
              obtain ⟨ad134, A134_0, c134_0, e134, hx134_0, hl134_0, hi134_0⟩ := at_L3 HR0_0.out x10_1 p134 q134
              cases e134
              replace hx134_0 := (HB.out.cell (World.block_lt_of_cell? w _ hx134_0)).trans hx134_0
              have HR134_0 := Aside0.mk hi134_0
              have HC134_0 := Aside0.mk hl134_0
              clear hi134_0 hl134_0
              replace p134 := eq_true p134
              replace q134 := eq_true q134
              go_wp2_with (first | ((with_reducible refine gate_callee (f := 44) rfl ?_); refine goesL_ (some 16) rfl rfl Tryd.func44 (by kernel_rfl) rfl #[.slice A134_0 (rd_L3 l0_0 x10_1).length c134_0] rfl (by (try simp only [List.map_toArray, List.map_cons, List.map_nil]); first | done | rfl | (simp only [List.length_drop, List.length_take]; rfl)) ?_; (with_reducible refine (impl_listText.calls k1 _ _ (rd_L3 l0_0 x10_1) t135 _ ?side1 ?side2 A9.out).mono ?_); (case side1 => repeat (first | exact (Kd.C_below HR134_0.out HB.out) | (with_reducible refine Kd.C_alloc ?_ _) | (with_reducible refine Kd.C_drewN ?_ _) | (with_reducible refine Kd.C_drew ?_))); (case side2 => exact HC134_0.out); rintro e w11 ⟨rfl, hb⟩; refine ⟨_, rfl, ?_⟩; have n0_ := Aside0.mk (Kd.R_below (by (with_reducible repeat (first | apply Kd.R_alloc | apply Kd.R_drewN | apply Kd.R_drew)); exact HO_3.out) hb); have n1_ := Aside0.mk (blk_below (g := gb130) (o := .cells #[.slice (some ad134) l0_0.length c0_0] 28 (0, 0)) (by (with_reducible repeat (first | refine blk_drewN ?_ _ | refine blk_drew ?_ | refine blk_alloc ?_ _)); exact BK130.out) hb); have n2_ := Aside0.mk (below_step (by repeat (first | (with_reducible first | exact HB.out | apply below_alloc | apply pw_below_drewN | apply below_drew1 | refine below_set ?_ GE130.out) | exact HB.out)) hb); clear HO_3; clear BK130; clear HB; have HO_3 := n0_; have BK130 := n1_; have HB := n2_; clear n0_ n1_ n2_; (try clear hb); (try clear hb2); (try clear hk); (try clear hi)) | ((with_reducible refine gate_builtin (b := .append) (xs := #[.tmp 14, .tmp 17]) rfl ?_); at_builtin; refine Kd.R_append Kd.string (w0 := w) w.heap.size rfl (.tmp 14) (.tmp 17) 59 9 (.string ⟨#[]⟩) 16 rfl Tryd.underlying59 info9 rfl (by decide) (by omega) u3 x3_1 t135 [.string t135] (fun _ => True) (fun _ => False) rfl rfl ?aP (fun _ hk => hk.elim) ?aF ?aO ?aB ?aS ?aL ?_; (case aP => exact rfl); (case aB => exact (by repeat (first | (with_reducible first | exact HB.out | apply below_alloc | apply pw_below_drewN | apply below_drew1 | refine below_set ?_ GE130.out) | exact HB.out))); (case aF => exact (fun _ _ => trivial)); (case aO => exact (by (with_reducible repeat (first | apply Kd.R_alloc | apply Kd.R_drewN | apply Kd.R_drew)); first | exact HO_3.out | exact Kd.R_mono HO_3.out (fun _ hk => ⟨hk.2, hk.1⟩))); (case aS => exact (below_size (by repeat (first | (with_reducible first | exact HB.out | apply below_alloc | apply pw_below_drewN | apply below_drew1 | refine below_set ?_ GE130.out) | exact HB.out)))); (case aL => have := LMc10.out; omega); intro v137 w12 ho hb hg hat; rw [← Ny136.out] at ho; have n0_ := Aside0.mk (blk_grown (g := gb130) (o := .cells #[.slice (some ad134) l0_0.length c0_0] 28 (0, 0)) (by (with_reducible repeat (first | refine blk_drewN ?_ _ | refine blk_drew ?_ | refine blk_alloc ?_ _)); exact BK130.out) hg (Kd.R_ne HO_3.out BK130.out (by decide))); have n1_ := Aside0.mk (hb); have n2_ := Aside0.mk (ho); clear BK130; clear HB; clear HO_3; have BK130 := n0_; have HB := n1_; have HO138 := n2_; clear n0_ n1_ n2_; clear ho hb hg hat))
              go_roundg k1
              case measure => have := HK1.out; omega
              case rel => exact ⟨(y136), (wrap64 (x10_1 + 1)), (by first | rfl | (simp; done) | (simp [*]; done)), H', ⟨by have := HK1.out; omega⟩, ⟨by (with_reducible repeat (first | apply Kd.R_alloc | apply Kd.R_drewN | apply Kd.R_drew)); exact HO138.out⟩, ⟨by (with_reducible repeat (first | refine blk_drewN ?_ _ | refine blk_drew ?_ | refine blk_alloc ?_ _)); exact BK130.out⟩, ⟨by repeat (first | (with_reducible first | exact HB.out | apply below_alloc | apply pw_below_drewN | apply below_drew1 | refine below_set ?_ GE130.out) | exact HB.out)⟩⟩
            · rw [if_neg c10] at H
              exact absurd H (by simp)
          · rw [if_neg c8] at H
            exact absurd H (by simp)
        · rw [if_neg c7] at H
          exact absurd H (by simp)
      · rw [if_neg c6] at H
        have c6b0 : decide (x10_1 < (l0_0.length : Int)) = false := decide_eq_false c6
        clear c6
        replace H := Option.bind_eq_some_iff.mp H
        obtain ⟨t139, A130, H⟩ := H
        replace H : (some t139) = some r := H
        have A13 := Aside0.mk A130
        clear A130
        obtain rfl := Option.some.inj H
        obtain ⟨Ao14, co14, eo14⟩ := Kd.R_slice HO_3.out
        subst eo14
        go_wp2_with (first | ((with_reducible refine gate_callee (f := 45) rfl ?_); refine goesL_ (some 21) rfl rfl Tryd.func45 (by kernel_rfl) rfl #[.slice Ao14 x3_1.length co14, .string (⟨#[59]⟩ : ByteArray)] rfl (by (try simp only [List.map_toArray, List.map_cons, List.map_nil]); first | done | rfl | (simp only [List.length_drop, List.length_take]; rfl)) ?_; (with_reducible refine (strings_Join.calls _ _ x3_1 (⟨#[59]⟩ : ByteArray) t139 _ ?side1 ?side2 A13.out).mono ?_); (case side1 => repeat (first | exact (Kd.R_reads' HO_3.out).2.2 | (with_reducible refine Kd.C_alloc ?_ _) | (with_reducible refine Kd.C_drewN ?_ _) | (with_reducible refine Kd.C_drew ?_))); (case side2 => exact (Kd.R_reads' HO_3.out).2.1); rintro e w15 ⟨rfl, hb⟩; refine ⟨_, rfl, ?_⟩; have n0_ := Aside0.mk (Kd.R_below (by (with_reducible repeat (first | apply Kd.R_alloc | apply Kd.R_drewN | apply Kd.R_drew)); exact HO_3.out) hb); have n1_ := Aside0.mk (blk_below (g := gb130) (o := .cells #[.slice A0_0 l0_0.length c0_0] 28 (0, 0)) (by (with_reducible repeat (first | refine blk_drewN ?_ _ | refine blk_drew ?_ | refine blk_alloc ?_ _)); exact BK130.out) hb); have n2_ := Aside0.mk (below_step (by repeat (first | (with_reducible first | exact HB.out | apply below_alloc | apply pw_below_drewN | apply below_drew1 | refine below_set ?_ GE130.out) | exact HB.out)) hb); clear HO_3; clear BK130; clear HB; have HO_3 := n0_; have BK130 := n1_; have HB := n2_; clear n0_ n1_ n2_; (try clear hb); (try clear hb2); (try clear hk); (try clear hi)))
        go_ret
        exact ⟨by first | rfl | (simp [errW_none, errW_some] <;> rfl) | (simp [*, errW_none, errW_some] <;> rfl), by repeat (first | (with_reducible first | exact HB.out | apply below_alloc | apply pw_below_drewN | apply below_drew1 | refine below_set ?_ GE130.out) | exact HB.out)⟩

end Go.Proofs.YtfeakndpkloofaaDoor.P
namespace Go.Proofs.YtfeakndpkloofaaDoor.M
open Go.RowKit Go.Proofs.YtfeakndpkloofaaDoor.P Go.Proofs.YtfeakndpkloofaaDoor.In Go.Proofs.YtfeakndpkloofaaDoorW.PrintWords Go.Proofs.YtfeakndpkloofaaDoorW.PrintLast
set_option linter.unusedVariables false
set_option linter.unusedSimpArgs false
def GDigits (g : List (List Int)) : Prop := g.length ≤ 8 ∧ ∀ row ∈ g, Digits row
def semis (g : List (List Int)) : List UInt8 := Lib.join (g.map rowT) [59]
theorem semis_len {g : List (List Int)} (h : ∀ row ∈ g, Digits row) : (semis g).length ≤ 17 * g.length := by
  have := join_len [59] 16 g.length (g.map rowT) (by simp) (fun x hx => by obtain ⟨q, hq, rfl⟩ := List.mem_map.1 hx; exact rowT_len q (h q hq).1)
  simpa [semis] using this
theorem semis_take (g : List (List Int)) {i : Nat} (hi : i < g.length) : semis (g.take (i + 1)) = if i = 0 then rowT g[i] else semis (g.take i) ++ [59] ++ rowT g[i] := by
  unfold semis
  rw [List.map_take, List.map_take, join_take [59] (g.map rowT) (by simpa using hi)]
  simp
theorem semis_take_len {g : List (List Int)} (h : GDigits g) (i : Nat) : (semis (g.take i)).length ≤ 136 := by
  have h1 := semis_len (g := g.take i) (fun row hr => h.2 row (List.mem_of_mem_take hr))
  have h2 : (g.take i).length ≤ g.length := by simp; omega
  have := h.1
  omega
theorem graph_l0 {g : List (List Int)} (h : GDigits g) : ∀ (d i : Nat), g.length - i = d → i ≤ g.length → Ev (fun k => impl_graphText.l0 k (((g.take i).map rowT).map mk) g g.length i) (mk (semis g)) := by
  have h8 := h.1
  intro d
  induction d with
  | zero =>
    intro i hd hi
    obtain rfl : i = g.length := by omega
    refine Ev.succ ?_
    simp only [impl_graphText.l0]
    refine Ev.neg (by omega) ?_
    rw [List.take_length]
    have hl := semis_len h.2
    exact Ev.bind0 (join_mk (g.map rowT) [59] (by simp; omega) (by show (semis g).length ≤ _; omega)) (Ev.now _)
  | succ d ih =>
    intro i hd hi
    have hlt : i < g.length := by omega
    refine Ev.succ ?_
    simp only [impl_graphText.l0]
    have hq := h.2 g[i] (List.getElem_mem _)
    refine Ev.pos (by omega) (Ev.pos (by omega) (Ev.pos (by omega) ?_))
    rw [rdL_at hlt]
    refine Ev.bind (listText_ev hq) (Ev.pos (by simp; omega) ?_)
    rw [wrap_nat (by omega)]
    have e : ((g.take i).map rowT).map mk ++ [mk (rowT g[i])] = ((g.take (i + 1)).map rowT).map mk := by
      rw [List.take_succ_eq_append_getElem hlt, List.map_append, List.map_append]; rfl
    rw [e]
    exact ih (i + 1) (by omega) (by omega)
theorem spec_row {g : List (List Int)} {p : Nat} (hp : p < 8) {row : List Int} (h : Digits row) (pre : List UInt8) (hpre : pre.length ≤ 200) {R : ByteArray}
    (hnext : Ev (fun k => spec_grText.l0 k (mk (pre ++ commas row)) g g.length ((p + 1 : Nat) : Int)) R) :
    ∀ (d i : Nat), row.length - i = d → i ≤ row.length → Ev (fun k => spec_grText.l1 k (mk (pre ++ commas (row.take i))) g g.length p row row.length i) R := by
  have h8 := h.1
  have hbd : ∀ i, (commas (row.take i)).length ≤ 16 := fun i => by have := commas_len (row.take i); have h3 : (row.take i).length ≤ row.length := (by simp; omega); omega
  intro d
  induction d with
  | zero =>
    intro i hd hi
    obtain rfl : i = row.length := by omega
    refine Ev.succ ?_
    simp only [spec_grText.l1]
    rw [List.take_length]
    refine Ev.neg (by omega) ?_
    rw [wrap_nat (by omega)]; exact hnext
  | succ d ih =>
    intro i hd hi
    have hlt : i < row.length := by omega
    have hq := h.2 row[i] (List.getElem_mem _)
    have hb := hbd i
    refine Ev.succ ?_
    simp only [spec_grText.l1]
    refine Ev.pos (by omega) (Ev.pos (by omega) (Ev.pos (by omega) ?_))
    have hc := commas_take row hlt
    by_cases h0 : i = 0
    · subst h0
      refine Ev.neg (by omega) (Ev.bind (a := mk (dg1 row[0])) (by rw [rd_at hlt]; exact l1Num_d hq.1 hq.2) (Ev.pos (by rw [mk_size, mk_size]; simp [dg1, commas, Lib.join]; omega) ?_))
      rw [wrap_nat (by omega), mk_app]
      rw [if_pos rfl] at hc
      have := ih 1 (by omega) (by omega)
      rw [hc] at this
      simpa [commas, Lib.join] using this
    · refine Ev.pos (by omega) (Ev.pos (by rw [mk_size]; simp; omega) (Ev.bind (a := mk (dg1 row[i])) (by rw [rd_at hlt]; exact l1Num_d hq.1 hq.2) (Ev.pos ?_ ?_)))
      · show (mk (pre ++ commas (row.take i)) ++ mk [44]).size + (mk (dg1 row[i])).size ≤ _
        rw [mk_app, mk_size, mk_size]; simp [dg1]; omega
      · rw [wrap_nat (by omega)]
        show Ev (fun k => spec_grText.l1 k (mk (pre ++ commas (row.take i)) ++ mk [44] ++ mk (dg1 row[i])) g g.length p row row.length ((i + 1 : Nat) : Int)) _
        rw [mk_app, mk_app]
        rw [if_neg h0] at hc
        have := ih (i + 1) (by omega) (by omega)
        rw [hc] at this
        simpa [List.append_assoc] using this
theorem spec_j1 {g : List (List Int)} {p : Nat} (hp : p < 8) {row : List Int} (h : Digits row) (pre : List UInt8) (hpre : pre.length ≤ 180) {R : ByteArray}
    (hnext : Ev (fun k => spec_grText.l0 k (mk (pre ++ rowT row)) g g.length ((p + 1 : Nat) : Int)) R) : Ev (fun k => spec_grText.j1 k (mk pre) row g g.length p) R := by
  refine Ev.succ ?_
  simp only [spec_grText.j1]
  by_cases hn : row = []
  · subst hn
    refine Ev.pos (by simp) (Ev.pos (by rw [mk_size]; omega) ?_)
    refine Ev.succ ?_
    simp only [spec_grText.j2]
    have e : mk pre ++ (⟨#[45]⟩ : ByteArray) = mk (pre ++ [45] ++ commas (([] : List Int).take 0)) := by
      show mk pre ++ mk [45] = _
      rw [mk_app]; simp [commas, Lib.join]
    rw [e]
    refine spec_row hp h (pre ++ [45]) (by simp; omega) ?_ 0 0 rfl (Nat.le_refl _)
    have e2 : pre ++ [45] ++ commas [] = pre ++ rowT [] := by simp [commas, rowT, Lib.join]
    rw [e2]; exact hnext
  · have : 0 < row.length := List.length_pos_iff.2 hn
    refine Ev.neg (by omega) ?_
    refine Ev.succ ?_
    simp only [spec_grText.j2]
    have e : rowT row = commas row := by unfold rowT; rw [if_neg hn]
    rw [e] at hnext
    have := spec_row hp h pre (by omega) hnext row.length 0 (by omega) (by omega)
    simpa [commas, Lib.join] using this
theorem spec_g0 {g : List (List Int)} (h : GDigits g) : ∀ (d i : Nat), g.length - i = d → i ≤ g.length → Ev (fun k => spec_grText.l0 k (mk (semis (g.take i))) g g.length i) (mk (semis g)) := by
  have h8 := h.1
  intro d
  induction d with
  | zero =>
    intro i hd hi
    obtain rfl : i = g.length := by omega
    refine Ev.succ ?_
    simp only [spec_grText.l0]
    rw [List.take_length]
    exact Ev.neg (by omega) (Ev.now _)
  | succ d ih =>
    intro i hd hi
    have hlt : i < g.length := by omega
    have hq := h.2 g[i] (List.getElem_mem _)
    have hb := semis_take_len h i
    have hc := semis_take g hlt
    have hi' := ih (i + 1) (by omega) (by omega)
    rw [hc] at hi'
    refine Ev.succ ?_
    simp only [spec_grText.l0]
    refine Ev.pos (by omega) (Ev.pos (by omega) (Ev.pos (by omega) ?_))
    rw [rdL_at hlt]
    by_cases h0 : i = 0
    · subst h0
      refine Ev.neg (by omega) ?_
      rw [if_pos rfl] at hi'
      have e : semis (g.take 0) = [] := by simp [semis, Lib.join]
      rw [e]
      exact spec_j1 (p := 0) (by omega) hq [] (by simp) (by simpa using hi')
    · refine Ev.pos (by omega) (Ev.pos (by rw [mk_size]; omega) ?_)
      rw [if_neg h0] at hi'
      have e : mk (semis (g.take i)) ++ (⟨#[59]⟩ : ByteArray) = mk (semis (g.take i) ++ [59]) := mk_app _ [59]
      rw [e]
      exact spec_j1 (by omega) hq _ (by simp; omega) hi'
theorem good_digits {g : List (List Int)} (h : goodG g = true) : GDigits g :=
  ⟨(good_iff h).1.2, fun row hr => ⟨by have := ((good_iff h).2 row hr).1; omega, fun q hq => by have := ((good_iff h).2 row hr).2 q hq; have := (good_iff h).1.2; omega⟩⟩
theorem data_of (s : ByteArray) : s.toList = s.data.toList := ByteArray.toList_eq s
theorem mk_data (s : ByteArray) : mk s.data.toList = s := by
  apply ByteArray.ext; simp [mk]
def spl (c : UInt8) : List UInt8 → List (List UInt8)
  | [] => [[]]
  | b :: l => if b = c then [] :: spl c l else match spl c l with
    | w :: ws => (b :: w) :: ws
    | [] => [[b]]
theorem spl_ne (c : UInt8) : ∀ l, spl c l ≠ []
  | [] => by simp [spl]
  | b :: l => by
    unfold spl; split
    · simp
    · split <;> simp
theorem spl_none {c : UInt8} : ∀ {l : List UInt8}, c ∉ l → spl c l = [l]
  | [], _ => rfl
  | b :: l, h => by
    simp only [List.mem_cons, not_or] at h
    unfold spl
    rw [if_neg (fun e => h.1 e.symm), spl_none h.2]
theorem spl_hit {c : UInt8} : ∀ {pre : List UInt8} (post : List UInt8), c ∉ pre → spl c (pre ++ c :: post) = pre :: spl c post
  | [], post, _ => by simp [spl]
  | b :: pre, post, h => by
    simp only [List.mem_cons, not_or] at h
    have e : spl c (b :: (pre ++ c :: post)) = if b = c then [] :: spl c (pre ++ c :: post) else match spl c (pre ++ c :: post) with
      | w :: ws => (b :: w) :: ws
      | [] => [[b]] := rfl
    rw [List.cons_append, e, if_neg (fun e => h.1 e.symm), spl_hit post h.2]
theorem join_cons (w v : List UInt8) (ws : List (List UInt8)) (sep : List UInt8) : Lib.join (w :: v :: ws) sep = w ++ sep ++ Lib.join (v :: ws) sep := by
  simp [Lib.join, List.intercalate, List.intersperse]
theorem join_spl (c : UInt8) : ∀ l, Lib.join (spl c l) [c] = l
  | [] => by simp [spl, Lib.join]
  | b :: l => by
    have ih := join_spl c l
    unfold spl
    split
    · rename_i h
      subst h
      cases hs : spl b l with
      | nil => exact absurd hs (spl_ne b l)
      | cons w ws => rw [join_cons, ← hs, ih]; simp
    · cases hs : spl c l with
      | nil => exact absurd hs (spl_ne c l)
      | cons w ws =>
        rw [hs] at ih
        cases ws with
        | nil => simp only [Lib.join_one] at ih ⊢; rw [ih]
        | cons v ws => rw [join_cons] at ih ⊢; rw [← ih]; simp
theorem spl_join {c : UInt8} : ∀ (ws : List (List UInt8)), ws ≠ [] → (∀ w ∈ ws, c ∉ w) → spl c (Lib.join ws [c]) = ws
  | [], h, _ => absurd rfl h
  | [w], _, h => by rw [Lib.join_one]; exact spl_none (h w (by simp))
  | w :: v :: ws, _, h => by
    rw [join_cons]
    have e : w ++ [c] ++ Lib.join (v :: ws) [c] = w ++ c :: Lib.join (v :: ws) [c] := by simp
    rw [e, spl_hit _ (h w (by simp)), spl_join (v :: ws) (by simp) (fun x hx => h x (by simp [hx]))]
theorem index_at {c : UInt8} (pre post : List UInt8) (h : c ∉ pre) : Lib.index (pre ++ c :: post) [c] = (pre.length : Int) := by
  induction pre with
  | nil => simp [Lib.index]
  | cons b pre ih =>
    simp only [List.mem_cons, not_or] at h
    have ih := ih h.2
    simp only [List.cons_append]
    unfold Lib.index
    have hp : List.isPrefixOf [c] (b :: (pre ++ c :: post)) = false := by
      simp [List.isPrefixOf, h.1]
    rw [hp, ih]
    simp
theorem splitK_spl (c : UInt8) : ∀ (k : Nat) (l : List UInt8), l.count c = k → Lib.splitK [c] 0 k l = spl c l
  | 0, l, h => by
    have : c ∉ l := List.count_eq_zero.1 h
    rw [spl_none this]; rfl
  | k + 1, l, h => by
    have hm : c ∈ l := List.count_pos_iff.1 (by omega)
    obtain ⟨pre, post, rfl, hn⟩ := List.eq_append_cons_of_mem hm
    have hi := index_at pre post hn
    have hc : post.count c = k := by
      rw [List.count_append, List.count_cons_self, List.count_eq_zero.2 hn] at h; omega
    unfold Lib.splitK
    rw [hi, if_neg (by simp), spl_hit post hn, ← splitK_spl c k post hc]
    simp
theorem pieces_spl (s : ByteArray) (c : UInt8) : pieces s ⟨#[c]⟩ = (spl c s.data.toList).map mk := by
  have h1 : (pieces s ⟨#[c]⟩).map (·.data.toList) = spl c s.data.toList := by
    unfold pieces
    rw [Lib.splitB_data]
    have : Lib.countB s ⟨#[c]⟩ = s.data.toList.count c := Lib.count_one c _
    rw [this]
    exact splitK_spl c _ _ rfl
  rw [← h1, List.map_map]
  conv => lhs; rw [← List.map_id (pieces s ⟨#[c]⟩)]
  apply List.map_congr_left
  intro a _
  exact (mk_data a).symm
theorem itoa_one {q : Int} (h0 : 0 ≤ q) (h1 : q < 10) : Lib.itoa q = dg1 q := by
  unfold Lib.itoa
  rw [if_neg (by omega), Lib.decDigits_one (by omega)]; rfl
theorem atoi_one {q : Int} (h0 : 0 ≤ q) (h1 : q < 10) : Lib.atoiAll (dg1 q) = .ok q := by
  have : q = 0 ∨ q = 1 ∨ q = 2 ∨ q = 3 ∨ q = 4 ∨ q = 5 ∨ q = 6 ∨ q = 7 ∨ q = 8 ∨ q = 9 := by omega
  rcases this with rfl | rfl | rfl | rfl | rfl | rfl | rfl | rfl | rfl | rfl <;> rfl
theorem num_one {q : Int} (h0 : 0 ≤ q) (h1 : q < 10) : numW (mk (dg1 q)) = some q := by
  unfold numW
  rw [mk_list, atoi_one h0 h1]
  simp only
  rw [data_of, mk_list, itoa_one h0 h1, if_pos rfl]
theorem num_back {b : ByteArray} {v : Int} (h : numW b = some v) : b.data.toList = Lib.itoa v := by
  unfold numW at h
  split at h
  · split at h
    · rename_i h2
      injection h with h
      subst h
      rw [h2, data_of]
    · cases h
  · cases h
theorem read_back : ∀ (ws : List ByteArray) (acc l : List Int), readW ws acc = (l, true) → ∃ vs, l = acc ++ vs ∧ ws.map (·.data.toList) = vs.map Lib.itoa
  | [], acc, l, h => by
    injection h with h1 h2
    exact ⟨[], by simp [h1], rfl⟩
  | b :: bs, acc, l, h => by
    unfold readW at h
    cases hn : numW b with
    | none => rw [hn] at h; simp at h
    | some v =>
      rw [hn] at h
      obtain ⟨vs, h1, h2⟩ := read_back bs _ l h
      exact ⟨v :: vs, by simp [h1], by simp [h2, num_back hn]⟩
theorem read_fwd : ∀ (row : List Int), (∀ q ∈ row, 0 ≤ q ∧ q < 10) → ∀ acc, readW ((row.map dg1).map mk) acc = (acc ++ row, true)
  | [], _, acc => by simp [readW]
  | q :: row, h, acc => by
    simp only [List.map_cons]
    unfold readW
    rw [num_one (h q (by simp)).1 (h q (by simp)).2]
    simp only
    rw [read_fwd row (fun x hx => h x (by simp [hx])) (acc ++ [q])]
    simp
theorem rl_back {s : ByteArray} {l : List Int} (h : impl_readList.f s = some (l, true)) (hl : ∀ q ∈ l, 0 ≤ q ∧ q < 10) : s.data.toList = rowT l := by
  unfold impl_readList.f at h
  split at h
  · rename_i h1
    injection h with h
    injection h with h2 h3
    subst h2
    rw [← data_of, h1]; rfl
  · split at h
    · injection h with h
      obtain ⟨vs, h1, h2⟩ := read_back _ _ _ h
      rw [List.nil_append] at h1
      subst h1
      have h3 : spl 44 s.data.toList = l.map dg1 := by
        rw [pieces_spl, List.map_map] at h2
        have e : (spl 44 s.data.toList).map ((fun x : ByteArray => x.data.toList) ∘ mk) = spl 44 s.data.toList := by
          conv => rhs; rw [← List.map_id (spl 44 s.data.toList)]
          apply List.map_congr_left; intro a _; exact mk_list a
        rw [e] at h2
        rw [h2]
        apply List.map_congr_left
        intro q hq
        exact itoa_one (hl q hq).1 (hl q hq).2
      have hne : l ≠ [] := by
        rintro rfl
        exact spl_ne 44 _ h3
      unfold rowT
      rw [if_neg hne]
      unfold commas
      rw [← h3, join_spl]
    · cases h
theorem dg_ne {q : Int} (h0 : 0 ≤ q) (h1 : q < 10) (c : UInt8) (hc : c.toNat < 48 ∨ 57 < c.toNat) : c ∉ dg1 q := by
  intro hm
  have e : c = UInt8.ofNat (48 + q.toNat) := by simpa [dg1] using hm
  have : (UInt8.ofNat (48 + q.toNat)).toNat = 48 + q.toNat := by simp; omega
  rw [e, this] at hc
  omega
theorem rl_fwd {row : List Int} (h : Digits row) : impl_readList.f (mk (rowT row)) = some (row, true) := by
  unfold impl_readList.f
  rw [data_of, mk_list]
  by_cases hn : row = []
  · subst hn; rfl
  · have e : rowT row = commas row := by unfold rowT; rw [if_neg hn]
    have hsz := rowT_len row h.1
    have hs : spl 44 (commas row) = row.map dg1 := spl_join _ (by simpa using hn) (fun w hw => by
      obtain ⟨q, hq, rfl⟩ := List.mem_map.1 hw
      exact dg_ne (h.2 q hq).1 (h.2 q hq).2 44 (by decide))
    rw [if_neg, if_pos (by rw [mk_size]; omega), pieces_spl, mk_list, e, hs, read_fwd row h.2 []]
    · rfl
    · intro e2
      rw [e] at e2
      rw [e2] at hs
      obtain ⟨q, r, rfl⟩ : ∃ q r, row = q :: r := by cases row with | nil => exact absurd rfl hn | cons q r => exact ⟨q, r, rfl⟩
      have e3 : spl 44 [45] = [[45]] := by decide
      rw [e3] at hs
      simp only [List.map_cons] at hs
      injection hs with hs _
      exact dg_ne (h.2 q (by simp)).1 (h.2 q (by simp)).2 45 (by decide) (by rw [← hs]; simp)
def goW : List ByteArray → List (List Int) → List (List Int) × Bool
  | [], acc => if goodG acc = true then (acc, true) else ([], false)
  | b :: bs, acc => match impl_readList.f b with
    | some (l, true) => goW bs (acc ++ [l])
    | _ => ([], false)
theorem rl_some {s : ByteArray} (h : s.size < 4294967281) : ∃ r, impl_readList.f s = some r := by
  unfold impl_readList.f
  split
  · exact ⟨_, rfl⟩
  · first | exact ⟨_, rfl⟩ | (rw [if_pos h]; exact ⟨_, rfl⟩)
theorem go_ev {P : List ByteArray} (hP : P.length ≤ 4194304) (hs : ∀ b ∈ P, b.size < 4294967281) : ∀ (d i : Nat) (acc : List (List Int)), P.length - i = d → i ≤ P.length → acc.length ≤ i → Ev (fun k => impl_ParseGraph.l0 k P P.length i acc) (goW (P.drop i) acc) := by
  intro d
  induction d with
  | zero =>
    intro i acc hd hi ha
    have : P.drop i = [] := List.drop_eq_nil_of_le (by omega)
    rw [this]
    refine Ev.succ ?_
    simp only [impl_ParseGraph.l0]
    refine Ev.neg (by omega) ?_
    unfold goW
    have ht : impl_told.f acc = some (if goodG acc = true then (acc, true) else ([], false)) := by
      unfold impl_told.f
      rw [show impl_isGraph.f acc = some (goodG acc) from rfl]
      simp only [Option.bind_some]
      split <;> rfl
    exact Ev.bind0 ht (Ev.now _)
  | succ d ih =>
    intro i acc hd hi ha
    have hlt : i < P.length := by omega
    have e : rdOf ByteArray.empty P (i : Int) = P[i] := by simp [rdOf, hlt]
    obtain ⟨⟨l, b⟩, hr⟩ := rl_some (hs P[i] (List.getElem_mem _))
    refine Ev.succ ?_
    simp only [impl_ParseGraph.l0]
    refine Ev.pos (by omega) (Ev.pos (by omega) (Ev.pos (by omega) ?_))
    rw [e, List.drop_eq_getElem_cons hlt]
    unfold goW
    rw [hr]
    refine Ev.bind0 rfl ?_
    cases b with
    | true =>
      refine Ev.pos rfl (Ev.pos (by omega) ?_)
      rw [wrap_nat (by omega)]
      exact ih (i + 1) _ (by omega) (by omega) (by simp; omega)
    | false => exact Ev.neg (by simp) (Ev.now _)
theorem go_back : ∀ (bs : List ByteArray) (acc r : List (List Int)), goW bs acc = (r, true) → goodG r = true ∧ ∃ rows, r = acc ++ rows ∧ bs.map impl_readList.f = rows.map (fun l => some (l, true))
  | [], acc, r, h => by
    unfold goW at h
    split at h
    · rename_i hg
      injection h with h _
      subst h
      exact ⟨hg, [], by simp, rfl⟩
    · simp at h
  | b :: bs, acc, r, h => by
    unfold goW at h
    split at h
    · rename_i l hl
      obtain ⟨hg, rows, h1, h2⟩ := go_back bs _ r h
      exact ⟨hg, l :: rows, by simp [h1], by simp [h2, hl]⟩
    · simp at h
theorem go_fst : ∀ (bs : List ByteArray) (acc r : List (List Int)), goW bs acc = (r, false) → r = []
  | [], acc, r, h => by
    unfold goW at h
    split at h
    · simp at h
    · injection h with h _; exact h.symm
  | b :: bs, acc, r, h => by
    unfold goW at h
    split at h
    · exact go_fst bs _ r h
    · injection h with h _; exact h.symm
theorem go_fwd : ∀ (rows : List (List Int)), (∀ row ∈ rows, Digits row) → ∀ acc, goW ((rows.map rowT).map mk) acc = goW [] (acc ++ rows)
  | [], _, acc => by simp
  | row :: rows, h, acc => by
    simp only [List.map_cons]
    have e : goW (mk (rowT row) :: (rows.map rowT).map mk) acc = match impl_readList.f (mk (rowT row)) with
      | some (l, true) => goW ((rows.map rowT).map mk) (acc ++ [l])
      | _ => ([], false) := rfl
    rw [e, rl_fwd (h row (by simp))]
    simp only
    rw [go_fwd rows (fun x hx => h x (by simp [hx])) (acc ++ [row])]
    simp
def scan : List UInt8 → List Int → List (List Int) → List (List Int)
  | [], cur, acc => acc ++ [cur]
  | b :: r, cur, acc => if 48 ≤ b.toNat ∧ b.toNat ≤ 55 then scan r (cur ++ [(b.toNat : Int) - 48]) acc else if b.toNat = 59 then scan r [] (acc ++ [cur]) else scan r cur acc
theorem bt_list (s : ByteArray) {i : Nat} (h : i < s.data.toList.length) : bt s (i : Int) = (s.data.toList[i].toNat : Int) := by
  have h1 : i < s.size := h
  have := bt_at s (i : Int) (by simpa using h1)
  rw [← this]
  rfl
theorem scan_digit {q : Int} (h0 : 0 ≤ q) (h1 : q < 8) (r : List UInt8) (cur : List Int) (acc : List (List Int)) : scan (dg1 q ++ r) cur acc = scan r (cur ++ [q]) acc := by
  have e : (UInt8.ofNat (48 + q.toNat)).toNat = 48 + q.toNat := by simp; omega
  show scan (UInt8.ofNat (48 + q.toNat) :: r) cur acc = _
  show (if 48 ≤ (UInt8.ofNat (48 + q.toNat)).toNat ∧ (UInt8.ofNat (48 + q.toNat)).toNat ≤ 55 then scan r (cur ++ [((UInt8.ofNat (48 + q.toNat)).toNat : Int) - 48]) acc else _) = _
  rw [e, if_pos ⟨by omega, by omega⟩]
  have e2 : ((48 + q.toNat : Nat) : Int) - 48 = q := by omega
  rw [e2]
theorem scan_skip {b : UInt8} (hb : b.toNat = 44 ∨ b.toNat = 45) (r : List UInt8) (cur : List Int) (acc : List (List Int)) : scan (b :: r) cur acc = scan r cur acc := by
  show (if 48 ≤ b.toNat ∧ b.toNat ≤ 55 then _ else if b.toNat = 59 then _ else _) = _
  rw [if_neg (by omega), if_neg (by omega)]
theorem scan_row : ∀ (row : List Int), (∀ q ∈ row, 0 ≤ q ∧ q < 8) → ∀ (r : List UInt8) (cur : List Int) (acc : List (List Int)), scan (commas row ++ r) cur acc = scan r (cur ++ row) acc
  | [], _, r, cur, acc => by simp [commas, Lib.join]
  | [q], h, r, cur, acc => by
    have : commas [q] = dg1 q := by simp [commas, Lib.join_one]
    rw [this, scan_digit (h q (by simp)).1 (h q (by simp)).2]
  | q :: p :: t, h, r, cur, acc => by
    have e : commas (q :: p :: t) ++ r = dg1 q ++ (44 :: (commas (p :: t) ++ r)) := by
      unfold commas
      simp only [List.map_cons]
      rw [join_cons]; simp
    rw [e, scan_digit (h q (by simp)).1 (h q (by simp)).2, scan_skip (by left; rfl), scan_row (p :: t) (fun x hx => h x (by simp [hx]))]
    simp
theorem scan_rowT {row : List Int} (h : ∀ q ∈ row, 0 ≤ q ∧ q < 8) (r : List UInt8) (acc : List (List Int)) : scan (rowT row ++ r) [] acc = scan r row acc := by
  unfold rowT
  split
  · rename_i hn; subst hn
    exact scan_skip (by right; rfl) r [] acc
  · rw [scan_row row h]; simp
theorem scan_semis : ∀ (g : List (List Int)), g ≠ [] → (∀ row ∈ g, ∀ q ∈ row, 0 ≤ q ∧ q < 8) → ∀ acc, scan (semis g) [] acc = acc ++ g
  | [], h, _, _ => absurd rfl h
  | [row], _, h, acc => by
    have e : semis [row] = rowT row ++ [] := by simp [semis, Lib.join_one]
    rw [e, scan_rowT (h row (by simp))]
    rfl
  | row :: v :: t, _, h, acc => by
    have e : semis (row :: v :: t) = rowT row ++ (59 :: semis (v :: t)) := by
      unfold semis
      simp only [List.map_cons]
      rw [join_cons]; simp
    rw [e, scan_rowT (h row (by simp))]
    show (if 48 ≤ (59 : UInt8).toNat ∧ (59 : UInt8).toNat ≤ 55 then _ else if (59 : UInt8).toNat = 59 then scan (semis (v :: t)) [] (acc ++ [row]) else _) = _
    rw [if_neg (by decide), if_pos (by decide), scan_semis (v :: t) (by simp) (fun x hx => h x (by simp [hx]))]
    simp
/-- What the scan keeps: few, and small. -/
def Scanned (n : Nat) (cur : List Int) (acc : List (List Int)) : Prop := acc.length ≤ n ∧ cur.length ≤ n ∧ (∀ q ∈ cur, 0 ≤ q ∧ q ≤ 7) ∧ ∀ row ∈ acc, row.length ≤ n ∧ ∀ q ∈ row, 0 ≤ q ∧ q ≤ 7
open Classical in
theorem scan_ev (s : ByteArray) (h200 : s.data.toList.length ≤ 200) : ∀ (d i : Nat) (cur : List Int) (acc : List (List Int)), s.data.toList.length - i = d → i ≤ s.data.toList.length → Scanned i cur acc →
    Ev (fun k => spec_grParse.l0 k s cur i acc) (if goodG (scan (s.data.toList.drop i) cur acc) = true ∧ semis (scan (s.data.toList.drop i) cur acc) = s.data.toList then (scan (s.data.toList.drop i) cur acc, true) else ([], false)) := by
  have hsz : s.size = s.data.toList.length := rfl
  intro d
  induction d with
  | zero =>
    intro i cur acc hd hi hS
    obtain ⟨h1, h2, h3, h4⟩ := hS
    have : s.data.toList.drop i = [] := List.drop_eq_nil_of_le (by omega)
    rw [this]
    show Ev _ (if goodG (acc ++ [cur]) = true ∧ semis (acc ++ [cur]) = s.data.toList then (acc ++ [cur], true) else ([], false))
    have hok : okSS (acc ++ [cur]) := ⟨by simp; omega, fun row hr => by
      rcases List.mem_append.1 hr with h | h
      · exact ⟨by have := (h4 row h).1; omega, fun x hx => by have := (h4 row h).2 x hx; unfold okI; omega⟩
      · rw [List.mem_singleton.1 h]; exact ⟨by omega, fun x hx => by have := h3 x hx; unfold okI; omega⟩⟩
    refine Ev.succ ?_
    simp only [spec_grParse.l0]
    refine Ev.neg (by omega) (Ev.pos (by omega) (Ev.bind0 rfl (Ev.bind (grGood _ hok) ?_)))
    by_cases hg : goodG (acc ++ [cur]) = true
    · refine Ev.pos hg (Ev.bind (a := mk (semis (acc ++ [cur]))) ?_ ?_)
      · have hd := good_digits hg
        unfold spec_grText.f
        have := spec_g0 hd (acc ++ [cur]).length 0 (by omega) (by omega)
        have e : mk (semis ((acc ++ [cur]).take 0)) = (⟨#[]⟩ : ByteArray) := by simp [semis, Lib.join, mk]
        rw [e] at this; exact this
      · rw [data_of, data_of, mk_list]
        by_cases he : semis (acc ++ [cur]) = s.data.toList
        · refine (Ev.pos he (Ev.now _)).val ?_
          rw [if_pos ⟨hg, he⟩]
        · refine (Ev.neg he (Ev.now _)).val ?_
          rw [if_neg (fun h => he h.2)]
    · refine (Ev.neg hg (Ev.now _)).val ?_
      rw [if_neg (fun h => hg h.1)]
  | succ d ih =>
    intro i cur acc hd hi hS
    obtain ⟨h1, h2, h3, h4⟩ := hS
    have hlt : i < s.data.toList.length := by omega
    have hb := bt_list s hlt
    rw [List.drop_eq_getElem_cons hlt]
    generalize hbb : s.data.toList[i] = b at hb
    have hb8 : b.toNat < 256 := b.toNat_lt
    have step : ∀ (R : List (List Int) × Bool), (48 ≤ b.toNat ∧ b.toNat ≤ 55 → Ev (fun k => spec_grParse.l0 k s (cur ++ [(b.toNat : Int) - 48]) ((i + 1 : Nat) : Int) acc) R) → (¬ (48 ≤ b.toNat ∧ b.toNat ≤ 55) → b.toNat = 59 → Ev (fun k => spec_grParse.l0 k s [] ((i + 1 : Nat) : Int) (acc ++ [cur])) R) → (¬ (48 ≤ b.toNat ∧ b.toNat ≤ 55) → b.toNat ≠ 59 → Ev (fun k => spec_grParse.l0 k s cur ((i + 1 : Nat) : Int) acc) R) → Ev (fun k => spec_grParse.l0 k s cur i acc) R := by
      intro R r1 r2 r3
      have j1 : Ev (fun k => spec_grParse.j1 k s cur i (b.toNat : Int) (decide (48 ≤ b.toNat ∧ b.toNat ≤ 55)) acc) R := by
        refine Ev.succ ?_
        simp only [spec_grParse.j1]
        by_cases c1 : 48 ≤ b.toNat ∧ b.toNat ≤ 55
        · refine Ev.pos (decide_eq_true c1) (Ev.pos (by omega) ?_)
          rw [wrap_nat (by omega)]
          have e : ((b.toNat : Int) - 48) % 256 = (b.toNat : Int) - 48 := by omega
          rw [e]; exact r1 c1
        · refine Ev.neg (by simpa using c1) ?_
          by_cases c2 : b.toNat = 59
          · refine Ev.pos (by omega) (Ev.pos (by omega) ?_)
            rw [wrap_nat (by omega)]; exact r2 c1 c2
          · refine Ev.neg (by omega) ?_
            rw [wrap_nat (by omega)]; exact r3 c1 c2
      refine Ev.succ ?_
      simp only [spec_grParse.l0]
      rw [hb]
      refine Ev.pos (by omega) (Ev.pos (by omega) ?_)
      by_cases c1 : 48 ≤ b.toNat
      · refine Ev.pos (by omega) ?_
        have e : decide ((b.toNat : Int) ≤ 55) = decide (48 ≤ b.toNat ∧ b.toNat ≤ 55) := by
          rw [Bool.eq_iff_iff, decide_eq_true_iff, decide_eq_true_iff]; omega
        rw [e]; exact j1
      · refine Ev.neg (by omega) ?_
        have e : false = decide (48 ≤ b.toNat ∧ b.toNat ≤ 55) := by
          symm; rw [decide_eq_false_iff_not]; omega
        rw [e]; exact j1
    have hsc : scan (b :: s.data.toList.drop (i + 1)) cur acc = if 48 ≤ b.toNat ∧ b.toNat ≤ 55 then scan (s.data.toList.drop (i + 1)) (cur ++ [(b.toNat : Int) - 48]) acc else if b.toNat = 59 then scan (s.data.toList.drop (i + 1)) [] (acc ++ [cur]) else scan (s.data.toList.drop (i + 1)) cur acc := rfl
    refine step _ (fun c1 => ?_) (fun c1 c2 => ?_) (fun c1 c2 => ?_)
    · rw [hsc, if_pos c1]
      refine ih (i + 1) _ _ (by omega) (by omega) ⟨by omega, by simp; omega, fun q hq => ?_, fun row hr => ⟨by have := (h4 row hr).1; omega, (h4 row hr).2⟩⟩
      rcases List.mem_append.1 hq with h | h
      · exact h3 q h
      · rw [List.mem_singleton.1 h]; omega
    · rw [hsc, if_neg c1, if_pos c2]
      refine ih (i + 1) _ _ (by omega) (by omega) ⟨by simp; omega, by simp, by simp, fun row hr => ?_⟩
      rcases List.mem_append.1 hr with h | h
      · exact ⟨by have := (h4 row h).1; omega, (h4 row h).2⟩
      · rw [List.mem_singleton.1 h]; exact ⟨by omega, h3⟩
    · rw [hsc, if_neg c1, if_neg c2]
      exact ih (i + 1) _ _ (by omega) (by omega) ⟨by omega, by omega, h3, fun row hr => ⟨by have := (h4 row hr).1; omega, (h4 row hr).2⟩⟩
end Go.Proofs.YtfeakndpkloofaaDoor.M
namespace Go.Proofs.YtfeakndpkloofaaDoor.Pure
open Go.RowKit Go.Proofs.YtfeakndpkloofaaDoor.P Go.Proofs.YtfeakndpkloofaaDoor.In Go.Proofs.YtfeakndpkloofaaDoor.M Go.Proofs.YtfeakndpkloofaaDoorW.PrintWords Go.Proofs.YtfeakndpkloofaaDoorW.PrintLast
set_option linter.unusedVariables false
set_option linter.unusedSimpArgs false
theorem not_join {c : UInt8} {sep : List UInt8} (hs : c ∉ sep) : ∀ (ws : List (List UInt8)), (∀ w ∈ ws, c ∉ w) → c ∉ Lib.join ws sep
  | [], _ => by simp [Lib.join]
  | [w], h => by rw [Lib.join_one]; exact h w (by simp)
  | w :: v :: t, h => by
    rw [join_cons]
    simp only [List.mem_append, not_or]
    exact ⟨⟨h w (by simp), hs⟩, not_join hs (v :: t) (fun x hx => h x (by simp [hx]))⟩
theorem not_row {row : List Int} (h : Digits row) : (59 : UInt8) ∉ rowT row := by
  unfold rowT
  split
  · decide
  · exact not_join (by decide) _ (fun w hw => by
      obtain ⟨q, hq, rfl⟩ := List.mem_map.1 hw
      exact dg_ne (h.2 q hq).1 (h.2 q hq).2 59 (by decide))
/-- The text is a good graph's. -/
def IsText (s : ByteArray) : Prop := ∃ g, goodG g = true ∧ semis g = s.data.toList
theorem good_small {g : List (List Int)} (h : goodG g = true) : small g := ⟨by have := (good_iff h).1.2; omega, fun row hr => by have := ((good_iff h).2 row hr).1; omega⟩
theorem parse_both (s : ByteArray) (hs : s.size ≤ 1048576) : ∃ (v : List (List Int)) (b : Bool), Ev (fun k => spec_ParseGraph.f k s) (v, b) ∧ Ev (fun k => impl_ParseGraph.f k s) (v, b) ∧ small v := by
  have hlen : s.data.toList.length = s.size := rfl
  have hsp : strings_Split.f s ⟨#[59]⟩ = some (pieces s ⟨#[59]⟩) := by
    unfold strings_Split.f
    rw [if_pos ⟨by omega, by decide⟩]
  have hPl : (pieces s ⟨#[59]⟩).length ≤ 4194304 := by
    rw [pieces_len s _ (by decide)]; have := count_le s ⟨#[59]⟩ (by decide); omega
  have hPs : ∀ b ∈ pieces s ⟨#[59]⟩, b.size < 4294967281 := fun b hb => by have := splitB_size _ _ _ b hb; omega
  have hgo := go_ev hPl hPs (pieces s ⟨#[59]⟩).length 0 [] (by omega) (by omega) (by simp)
  rw [List.drop_zero] at hgo
  have hI : Ev (fun k => impl_ParseGraph.f k s) (goW (pieces s ⟨#[59]⟩) []) := by
    unfold impl_ParseGraph.f
    exact Ev.bind0 hsp hgo
  by_cases hT : IsText s
  · obtain ⟨g, hg, ht⟩ := hT
    have hd := good_digits hg
    have hne : g ≠ [] := by rintro rfl; have := (good_iff hg).1.1; simp at this
    have h8 : ∀ row ∈ g, ∀ q ∈ row, 0 ≤ q ∧ q < 8 := fun row hr q hq => by have := ((good_iff hg).2 row hr).2 q hq; have := (good_iff hg).1.2; omega
    have hl := semis_len hd.2
    have hg8 := hd.1
    have h200 : s.data.toList.length ≤ 200 := by rw [← ht]; omega
    refine ⟨g, true, ?_, ?_, good_small hg⟩
    · unfold spec_ParseGraph.f
      refine Ev.bind (a := (g, true)) ?_ (Ev.now _)
      unfold spec_grParse.f
      refine Ev.neg (by omega) ((scan_ev s h200 s.data.toList.length 0 [] [] (by omega) (by omega) ⟨by simp, by simp, by simp, by simp⟩).val ?_)
      rw [List.drop_zero]
      have hsc : scan s.data.toList [] [] = g := by rw [← ht, scan_semis g hne h8]; simp
      rw [hsc, if_pos ⟨hg, ht⟩]
    · refine hI.val ?_
      have e : pieces s ⟨#[59]⟩ = (g.map rowT).map mk := by
        rw [pieces_spl, ← ht]
        congr 1
        exact spl_join _ (by simpa using hne) (fun w hw => by
          obtain ⟨row, hr, rfl⟩ := List.mem_map.1 hw
          exact not_row (hd.2 row hr))
      rw [e, go_fwd g hd.2 []]
      unfold goW
      simp [hg]
  · refine ⟨[], false, ?_, ?_, ⟨by simp, by simp⟩⟩
    · unfold spec_ParseGraph.f
      refine Ev.bind (a := ([], false)) ?_ (Ev.now _)
      unfold spec_grParse.f
      by_cases h200 : s.data.toList.length ≤ 200
      · refine Ev.neg (by omega) ((scan_ev s h200 s.data.toList.length 0 [] [] (by omega) (by omega) ⟨by simp, by simp, by simp, by simp⟩).val ?_)
        rw [if_neg (fun h => hT ⟨_, h.1, h.2⟩)]
      · exact Ev.pos (by omega) (Ev.now _)
    · refine hI.val ?_
      cases hr : goW (pieces s ⟨#[59]⟩) [] with
      | mk r b =>
        cases b with
        | false => rw [go_fst _ _ _ hr]
        | true =>
          exfalso
          obtain ⟨hg, rows, h1, h2⟩ := go_back _ _ _ hr
          rw [List.nil_append] at h1
          subst h1
          have hd := good_digits hg
          apply hT
          refine ⟨r, hg, ?_⟩
          have h3 : (pieces s ⟨#[59]⟩).map (·.data.toList) = r.map rowT := by
            have hl : (pieces s ⟨#[59]⟩).length = r.length := by simpa using congrArg List.length h2
            apply List.ext_getElem
            · simpa using hl
            · intro j hj1 hj2
              simp only [List.length_map] at hj1 hj2
              simp only [List.getElem_map]
              have h4 : ((pieces s ⟨#[59]⟩).map impl_readList.f)[j]? = (r.map (fun l => some (l, true)))[j]? := by rw [h2]
              rw [List.getElem?_map, List.getElem?_map, List.getElem?_eq_getElem hj1, List.getElem?_eq_getElem hj2] at h4
              have h5 : impl_readList.f (pieces s ⟨#[59]⟩)[j] = some (r[j], true) := by simpa using h4
              exact rl_back h5 (fun q hq => (hd.2 r[j] (List.getElem_mem _)).2 q hq)
          rw [pieces_spl, List.map_map] at h3
          have e : (spl 59 s.data.toList).map ((fun x : ByteArray => x.data.toList) ∘ mk) = spl 59 s.data.toList := by
            conv => rhs; rw [← List.map_id (spl 59 s.data.toList)]
            apply List.map_congr_left; intro a _; exact mk_list a
          rw [e] at h3
          unfold semis
          rw [← h3, join_spl]
theorem FnExactParseGraph (s : ByteArray) : laws_FnExactParseGraph.f s = some true := by
  unfold laws_FnExactParseGraph.f
  rw [if_pos]
  unfold laws_FnExactParseGraph.Good
  intro hb
  obtain ⟨v, b, hS, hI, hv⟩ := parse_both s (by omega)
  exact ⟨v, b, hS, hI, small_eq v hv, markGG v hv⟩
end Go.Proofs.YtfeakndpkloofaaDoor.Pure
namespace Go.Proofs.YtfeakndpkloofaaDoor.G
open Go.ChangeShapes Go.WideShapes Go.RowKit
theorem gML : Tryd.prog.globalNamed "internal/bytealg.MaxLen" = some 0 := by kernel_rfl
theorem gES : Tryd.prog.globalNamed "strconv.ErrSyntax" = some 1 := by kernel_rfl
theorem gER : Tryd.prog.globalNamed "strconv.ErrRange" = some 2 := by kernel_rfl
theorem gPT : Tryd.prog.globalNamed "internal/strconv.uint64pow10" = some 3 := by kernel_rfl
theorem tES : (Tryd.prog.globals[1]?).map (·.type) = some 70 := by kernel_rfl
theorem tER : (Tryd.prog.globals[2]?).map (·.type) = some 70 := by kernel_rfl
theorem tPT : (Tryd.prog.globals[3]?).map (·.type) = some 111 := by kernel_rfl
theorem star : "*" ++ "errors.errorString" = "*errors.errorString" := by decide
theorem row122 (u : TypeId) (h : Tryd.prog.typeName? 3 u = some "*errors.errorString") : u = 122 :=
  typeName_ptr_named (nm := "errors.errorString") (by rw [star]; kernel_rfl) (by kernel_rfl) (by decide) u (by rw [star]; exact h)
theorem c124 : Tryd.prog.cellsOf 124 = 1 := by kernel_rfl
theorem c9 : Tryd.prog.cellsOf 9 = 1 := by kernel_rfl
theorem glb_of {W : World} (hsh : W.ShapedOpen Tryd.prog) (hL : laidMetH Tryd.prog Rows.fnExactParseGraphRow.laid W) : P.Glb W := by
  rw [MakeChecks.laidMetH_plain _ _ _ (by kernel_rfl)] at hL
  have h3 := hL.tail.tail
  have htab := Lib.tabIs_of_head (k := .u64) (zs := Lib.pow10Tab) (n := 20) (e := 97) gPT tPT (by kernel_rfl) (by kernel_rfl) (by kernel_rfl) (by kernel_rfl) h3
  have h5 := h3.tail.tail
  obtain ⟨a1, s1, hv1, -, -, -⟩ := laid_sentinel h5 gER tER Tryd.underlying70 row122 Tryd.underlying122 Tryd.underlying124 rfl rfl Tryd.underlying9 c124 c9
  obtain ⟨a0, s0, hv0, -, -, -⟩ := laid_sentinel h5.tail gES tES Tryd.underlying70 row122 Tryd.underlying122 Tryd.underlying124 rfl rfl Tryd.underlying9 c124 c9
  refine ⟨cell_of_shapedOpen_int (t := 3) (zero := #[.int .i64 0]) hsh (of_decide_eq_true (by kernel_rfl)) (by kernel_rfl) rfl (by kernel_rfl) (by kernel_rfl) (by kernel_rfl), ⟨_, by have h0 := World.var?_cell gES hv0 0; simpa using h0, .inr ⟨_, _, rfl⟩⟩, ⟨_, by have h0 := World.var?_cell gER hv1 0; simpa using h0, .inr ⟨_, _, rfl⟩⟩, htab⟩
/-- The wrap of a row that lists variables, and keeps the world's shape. -/
theorem wrap {H : Type} {enc : TypeId × Value → H} {a : Assume} {C : Checked} {os : Os} {f : FuncId} {fn : Func} {s : ChangeSpec} {conds : List PathCond} {apart fresh handsOn again : Bool} {X : World → Array Value → Prop}
    (hX : ∀ (w w' : World) (args : Array Value), w.heap = w'.heap → X w args → X w' args)
    (own : ownKnob C.prog.godebug = none) (started : os.Started) (noInit : C.prog.inits.idxOf? f = none) (hfn : C.prog.funcs[f]? = some fn)
    (witness : ∃ (w : World) (tape : Tape) (i : Input), w.os = os ∧ (w.forCall tape i).Shaped C.prog ∧ i.vars = [] ∧ Input.okWide C.prog (w.forCall tape i) .any w.heap.size f i ∧
      ((s.pre enc C.prog fn conds apart (w.forCall tape i).memory i.args ∧ X (w.forCall tape i).memory i.args) ∧ sizedMet enc C.prog fn (OpenSpec.ofChange s) apart (w.forCall tape i).memory i.args) ∧ a.holds C.prog (lone (Frame.enter C.prog f i.args .normal) [] (w.forCall tape i)))
    (contract : ∀ (W : World) (base : Nat) (args : Array Value) (ds gs : List (DataW H)) (before : List MemPlace),
      (∀ (j : Nat) t v, fn.params[j]? = some t → args[j]? = some v → Value.okWide C.prog W .any base t v) →
      DataW.Whole enc C.prog fn.params.toList s.vars apart W args.toList ds gs before →
      conds.all (PathCond.test C.prog ⟨fn.params.toList, ds, s.plain.varTypes C.prog, gs⟩) = true →
      X W args → W.ShapedOpen C.prog →
      a.holds C.prog (lone (Frame.enter C.prog f args .normal) [] W) →
      Calls C.prog f args W fun e W' => ∃ v, e = .returned v ∧ s.post enc C.prog fn apart fresh handsOn again W args v W') :
    ReturnsInHanded a C os f .any (fun w args => (s.pre enc C.prog fn conds apart w args ∧ X w args) ∧ sizedMet enc C.prog fn (OpenSpec.ofChange s) apart w args) (s.post enc C.prog fn apart fresh handsOn again) := by
  refine returnsInHanded_of_calls own started noInit witness ?_
  intro w tape i _ hsh _ hok hpre hholds
  obtain ⟨_, _, _, fn', hfn', _, _, _, _, hval⟩ := hok
  have e : fn' = fn := Option.some.inj (hfn'.symm.trans hfn)
  subst e
  obtain ⟨⟨⟨ds, gs, before, hw, hc⟩, hx⟩, hz⟩ := hpre
  have hw' := DataW.Whole.of_heap (w' := w.forCall tape i) (by rfl) hw
  refine (contract (w.forCall tape i) w.heap.size i.args ds gs before hval hw' hc (hX _ _ _ (by rfl) hx) hsh hholds).mono fun e W' ⟨v, he, hp⟩ => ?_
  subst he
  exact ChangeSpec.post_blind hp
end Go.Proofs.YtfeakndpkloofaaDoor.G
namespace Go.Proofs.YtfeakndpkloofaaDoor.fnExactParseGraph
open Go.ChangeShapes Go.WideShapes Go.ChangeAt Go.RowKit
open Go.ChangeMaps (open_string shut_string)
open Go.Proofs.YtfeakndpkloofaaDoor.In Go.Proofs.YtfeakndpkloofaaDoor.P
set_option linter.unusedVariables false
theorem own : ownKnob Tryd.prog.godebug = none := by kernel_rfl
theorem laidOut : laidOutB Tryd.prog = true := by kernel_rfl
set_option maxRecDepth 100000 in
theorem lifted (os : Os) (started : os.Started) (H : Type) (enc : TypeId × Value → H) :
    ReturnsInHanded {} Tryd.checked os 5 .any (fun w args => (Rows.fnExactParseGraphSpec.pre enc Tryd.prog Tryd.f5 Rows.fnExactParseGraphRow.domain false w args ∧ laidMetH Tryd.prog Rows.fnExactParseGraphRow.laid w) ∧ sizedMet enc Tryd.prog Tryd.f5 (OpenSpec.ofChange Rows.fnExactParseGraphSpec) false w args) (Rows.fnExactParseGraphSpec.post enc Tryd.prog Tryd.f5 false true false false) := by
  refine G.wrap (C := Tryd.checked) (X := fun w _ => laidMetH Tryd.prog Rows.fnExactParseGraphRow.laid w) (fun _ _ _ hh h => h.of_heap hh) own started (by kernel_rfl) Tryd.func5
    (ChangeSpec.witness_shaped (enc := enc) (C := Tryd.checked) (os := os) (X := fun w _ => laidMetH Tryd.prog Rows.fnExactParseGraphRow.laid w) false (World.laidAll Tryd.prog os Rows.fnExactParseGraphRow.laid) #[.string ByteArray.empty] 8 (World.laidAll_os _ _ _)
      (World.shaped_of_ZipB (by kernel_rfl) (by kernel_rfl)) (by kernel_rfl) (by kernel_rfl) (by kernel_rfl)
      (by rw [MakeChecks.laidMetH_plain _ _ _ (by kernel_rfl)]; exact laidMet_laidAll _ (by kernel_rfl) (by kernel_rfl))) ?_
  intro W base args ds gs before hval0 hW hcnd hL hsh _
  have hval : ∀ (j : Nat) t v, Tryd.f5.params[j]? = some t → args[j]? = some v → Value.okWide Tryd.prog W .any base t v := hval0
  have hW' := hW
  obtain ⟨p, q, hA0, hV, rfl, hfz, hnd⟩ := hW
  have hA : DataW.TrodAll enc Tryd.prog W 0 (fun _ => true) true Tryd.f5.params.toList args.toList ds p := hA0
  rw [Tryd.params5] at hA hval
  obtain ⟨v0, vs0, d0, ds0, p0, q0, hargs, rfl, rfl, h0, r0⟩ := trodAll_cons hA
  obtain ⟨rfl, rfl, rfl⟩ := trodAll_nil r0
  obtain rfl : args = #[v0] := by cases args; simp_all
  obtain ⟨rfl, rfl⟩ := trodVars_none hV
  obtain ⟨a0, rfl, rfl, rfl, y0⟩ := open_string Tryd.underlying9 (hval 0 9 v0 rfl rfl) h0
  clear hA0 hval0
  have h := Pure.FnExactParseGraph a0
  refine (laws_FnExactParseGraph.calls a0 true W (G.glb_of hsh hL) h).mono fun e W' ⟨he, bel0⟩ => ?_
  have bel : Below W.heap.size W W' := bel0
  subst he
  exact ⟨_, rfl, _, _, _, [], _, [], hW', trodAll_mk1 (shut_bool Tryd.underlying4 _), (trodAll_cons_mk (shut_string Tryd.underlying9 y0) trodAll_mk0), rfl, bel.frame _, fun h => by cases h⟩
theorem over : Rows.fnExactParseGraphRow.holds Tryd.pinned (OpenSpec.ofChange Rows.fnExactParseGraphSpec) :=
  OpenClaim.holds_of_wide 5 Tryd.f5 rfl rfl rfl rfl rfl rfl rfl ⟨rfl, rfl, rfl, rfl, rfl⟩ rfl rfl rfl rfl rfl (by kernel_rfl) Tryd.func5 (by kernel_rfl)
    (of_decide_eq_true (by kernel_rfl)) (by unfold Func.isWrapper; first | (rw [if_pos (by decide +kernel)]; kernel_rfl) | (rw [if_neg (by decide +kernel)]; exact ⟨rfl, rfl⟩))
    (fun os started H enc _ => lifted os started H enc)
theorem proved : Rows.FnExactParseGraphCardSaid :=
  Claim7.holds_tied_plain_at .later [] [.data, .data, .data, .data, .sentinel, .sentinel, .pinned] true (true, "6dd617f53bc5e5f470b36abe0570af0fc6226b431b4bcad3563bc66e9b3d87bb") true over (fun _ h => by cases h) (by kernel_rfl) (fun _ h => by cases h) fnExactParseGraph_row_tie rfl ⟨rfl, rfl⟩ (by kernel_rfl) rfl
    (fun f fn hf hfn => by
      obtain rfl : f = 5 := Option.some.inj ((show Tryd.prog.funcNamed "loop.example/g01162/laws.FnExactParseGraph" = some 5 by kernel_rfl).symm.trans hf) |>.symm
      obtain rfl : fn = Tryd.f5 := (Option.some.inj (Tryd.func5.symm.trans hfn)).symm
      exact ⟨by kernel_rfl, fun j t ht => by
        rw [Tryd.params5] at ht
        have hm : t ∈ [9] := by simpa using Array.mem_of_getElem? ht
        have hall : ([9].all fun u => !Tryd.prog.wantsStandIn u) = true := by kernel_rfl
        exact (show Tryd.prog.wantsStandIn t = false by simpa using List.all_eq_true.1 hall t hm)⟩)
    (by kernel_rfl)
end Go.Proofs.YtfeakndpkloofaaDoor.fnExactParseGraph
namespace Go.Proofs.YtfeakndpkloofaaDoor
/-- The law, under a short name, for the claim. -/
theorem fnExactParseGraph_holds : Rows.FnExactParseGraphCardSaid := fnExactParseGraph.proved
#print axioms fnExactParseGraph_holds
end Go.Proofs.YtfeakndpkloofaaDoor
