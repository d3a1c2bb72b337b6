/- The law FnExactTopplePlace holds for every input: the program returns what the reference returns (or what the law says), for all arguments. -/
import Derived.Test.YtcmfcleeohcgaabCFnExactTopplePlaceb
import Derived.Test.YtcmfcleeohcgaabPlawsmarkIntS
import Derived.Test.YtcmfcleeohcgaabPlawsheldIntS
import Derived.Test.YtcmfcleeohcgaabPlawsmarkIntSS
import Derived.Test.YtcmfcleeohcgaabPlawsmarkGraph
import Derived.Test.YtcmfcleeohcgaabPimplTopplePlace
import Derived.Test.YtcmfcleeohcgaabRows
import Derived.WalkKit
import Derived.ProofKit
import Derived.OpenShut
import Derived.ShutString
import Derived.ChangeOld
import Derived.Below
import Derived.SizedLaws
import Derived.Deep.Matrix
import Derived.Lib.SmallJoins
namespace Go.Proofs.Ytcmfcleeohcgaab.M
open Go.RowKit Go.Proofs.Ytcmfcleeohcgaab.P Go.Proofs.Ytcmfcleeohcgaab.In Go.Proofs.YtcmfcleeohcgaabW.PrintWords Go.Proofs.YtcmfcleeohcgaabW.PrintLast
set_option linter.unusedVariables false
set_option linter.unusedSimpArgs false
def marks (a : Int) : Nat → List Int
  | 0 => []
  | n + 1 => a :: marks (a + 1) n
theorem marks_len (a : Int) (n : Nat) : (marks a n).length = n := by
  induction n generalizing a with
  | zero => rfl
  | succ n ih => simp [marks, ih]
theorem markIntS_l0 (n : Nat) (hn : n ≤ 4611686018427387904) : ∀ (d i : Nat) (x : List Int) (a : Int), x.length = n → n - i = d → i ≤ n → 0 ≤ a → a + d ≤ 4611686018427387904 → Ev (fun k => laws_markIntS.l0 k x a i) (a + d, x.take i ++ marks a d) := by
  intro d
  induction d with
  | zero =>
    intro i x a hx hd hi h0 h1
    refine Ev.succ ?_
    simp only [laws_markIntS.l0]
    refine Ev.neg (by omega) ((Ev.now _).val ?_)
    rw [List.take_of_length_le (by omega)]; simp [marks]
  | succ d ih =>
    intro i x a hx hd hi h0 h1
    refine Ev.succ ?_
    simp only [laws_markIntS.l0]
    refine Ev.pos (by omega) (Ev.pos (by omega) ?_)
    rw [wrap_id (x := a + 1) (by omega), wrap_nat (by omega), Int.toNat_natCast]
    refine (ih (i + 1) (x.set i a) (a + 1) (by rw [List.length_set]; exact hx) (by omega) (by omega) (by omega) (by omega)).val ?_
    rw [List.take_succ_eq_append_getElem (by rw [List.length_set]; omega), List.take_set_of_le (Nat.le_refl _), List.getElem_set_self]
    simp only [marks, List.append_assoc, List.singleton_append]
    congr 1; omega
theorem markIntS (x : List Int) (a : Int) (hn : x.length ≤ 4611686018427387904) (h0 : 0 ≤ a) (h1 : a + x.length ≤ 4611686018427387904) : Ev (fun k => laws_markIntS.f k x a) (a + x.length, marks a x.length) := by
  have := markIntS_l0 x.length hn x.length 0 x a rfl (by omega) (by omega) h0 h1
  unfold laws_markIntS.f
  simpa using this
theorem heldIntS_l0 (n : Nat) (hn : n ≤ 4611686018427387904) (y : List Int) (hy : y.length = n) : ∀ (d i : Nat) (a : Int), n - i = d → i ≤ n → 0 ≤ a → a + d ≤ 4611686018427387904 → y.drop i = marks a d → Ev (fun k => laws_heldIntS.l0 k y a i) (a + d) := by
  intro d
  induction d with
  | zero =>
    intro i a hd hi h0 h1 he
    refine Ev.succ ?_
    simp only [laws_heldIntS.l0]
    exact Ev.neg (by omega) ((Ev.now _).val (by simp))
  | succ d ih =>
    intro i a hd hi h0 h1 he
    have hlt : i < y.length := by omega
    rw [List.drop_eq_getElem_cons hlt] at he
    simp only [marks, List.cons.injEq] at he
    refine Ev.succ ?_
    simp only [laws_heldIntS.l0]
    refine Ev.pos (by omega) (Ev.pos (by omega) (Ev.pos (by rw [rd_at hlt]; exact he.1) ?_))
    rw [wrap_id (x := a + 1) (by omega), wrap_nat (by omega)]
    exact (ih (i + 1) (a + 1) (by omega) (by omega) (by omega) (by omega) he.2).val (by omega)
theorem heldIntS (a : Int) (n : Nat) (h0 : 0 ≤ a) (h1 : a + n ≤ 4611686018427387904) : Ev (fun k => laws_heldIntS.f k (marks a n) a) (a + n) :=
  heldIntS_l0 n (by omega) _ (marks_len a n) n 0 a (by omega) (by omega) h0 h1 (by simp)
theorem markR (r : List Int) (h : r.length ≤ 1048576) : ∃ q r', Ev (fun k => laws_markIntS.f k r 1) (q, r') ∧ 0 ≤ q ∧ Ev (fun k => laws_heldIntS.f k r' 1) q ∧ True :=
  ⟨_, _, markIntS r 1 (by omega) (by omega) (by omega), by omega, heldIntS 1 r.length (by omega) (by omega), trivial⟩
end Go.Proofs.Ytcmfcleeohcgaab.M
namespace Go.Proofs.Ytcmfcleeohcgaab.M
open Go.RowKit Go.Proofs.Ytcmfcleeohcgaab.P Go.Proofs.Ytcmfcleeohcgaab.In Go.Proofs.YtcmfcleeohcgaabW.PrintWords Go.Proofs.YtcmfcleeohcgaabW.PrintLast
set_option linter.unusedVariables false
set_option linter.unusedSimpArgs false
def markRows (a : Int) : List (List Int) → Int × List (List Int)
  | [] => (a, [])
  | row :: rest => ((markRows (a + row.length) rest).1, marks a row.length :: (markRows (a + row.length) rest).2)
theorem markIntSS_l0 (n : Nat) (hn : n ≤ 1048576) : ∀ (d i : Nat) (x : List (List Int)) (a : Int), x.length = n → (∀ row ∈ x.drop i, row.length ≤ 1048576) → n - i = d → i ≤ n → 0 ≤ a → a + 1048576 * d ≤ 4611686018427387904 → Ev (fun k => laws_markIntSS.l0 k x a i) ((markRows a (x.drop i)).1, x.take i ++ (markRows a (x.drop i)).2) ∧ a ≤ (markRows a (x.drop i)).1 ∧ (markRows a (x.drop i)).1 ≤ a + 1048576 * d := by
  intro d
  induction d with
  | zero =>
    intro i x a hx hr hd hi h0 h1
    rw [List.drop_of_length_le (by omega)]
    refine ⟨?_, by simp [markRows], by simp [markRows]⟩
    refine Ev.succ ?_
    simp only [laws_markIntSS.l0]
    refine Ev.neg (by omega) ((Ev.now _).val ?_)
    rw [List.take_of_length_le (by omega)]; simp [markRows]
  | succ d ih =>
    intro i x a hx hr hd hi h0 h1
    have hlt : i < x.length := by omega
    have hrow := hr x[i] (by rw [List.drop_eq_getElem_cons hlt]; exact List.mem_cons_self)
    have hdrop : (x.set i (marks a x[i].length)).drop (i + 1) = x.drop (i + 1) := List.drop_set_of_lt (by omega)
    obtain ⟨e1, e2, e3⟩ := ih (i + 1) (x.set i (marks a x[i].length)) (a + x[i].length) (by rw [List.length_set]; exact hx) (fun row hm => hr row (by rw [hdrop] at hm; rw [List.drop_eq_getElem_cons hlt]; exact List.mem_cons_of_mem _ hm)) (by omega) (by omega) (by omega) (by omega)
    rw [hdrop] at e1 e2 e3
    rw [List.drop_eq_getElem_cons hlt]
    simp only [markRows]
    refine ⟨?_, by omega, by omega⟩
    refine Ev.succ ?_
    simp only [laws_markIntSS.l0]
    refine Ev.pos (by omega) (Ev.pos (by omega) ?_)
    rw [rdL_at hlt]
    refine Ev.bind (markIntS x[i] a (by omega) h0 (by omega)) ?_
    rw [wrap_nat (by omega), Int.toNat_natCast]
    refine e1.val ?_
    rw [List.take_succ_eq_append_getElem (by rw [List.length_set]; omega), List.take_set_of_le (Nat.le_refl _), List.getElem_set_self]
    simp
theorem markIntSS (x : List (List Int)) (hx : small x) (a : Int) (h0 : 0 ≤ a) (h1 : a ≤ 1099511627776) : Ev (fun k => laws_markIntSS.f k x a) ((markRows a x).1, (markRows a x).2) ∧ a ≤ (markRows a x).1 ∧ (markRows a x).1 ≤ a + 1099511627776 := by
  have hl := hx.1
  obtain ⟨e1, e2, e3⟩ := markIntSS_l0 x.length hx.1 x.length 0 x a rfl (fun row hm => hx.2 row (by simpa using hm)) (by omega) (by omega) h0 (by omega)
  refine ⟨by unfold laws_markIntSS.f; simpa using e1, by simpa using e2, ?_⟩
  have : (markRows a x).1 ≤ a + 1048576 * x.length := by simpa using e3
  omega
theorem markG (x : List (List Int)) (hx : small x) : ∃ m x', Ev (fun k => laws_markGraph.f k x 1) (m, x') ∧ 0 ≤ m ∧ m ≤ 1099511627777 := by
  obtain ⟨e1, e2, e3⟩ := markIntSS x hx 1 (by omega) (by omega)
  exact ⟨_, _, e1, by omega, by omega⟩
end Go.Proofs.Ytcmfcleeohcgaab.M
namespace Go.Proofs.Ytcmfcleeohcgaab.Pure
open Go.RowKit Go.Proofs.Ytcmfcleeohcgaab.P Go.Proofs.Ytcmfcleeohcgaab.In Go.Proofs.Ytcmfcleeohcgaab.M Go.Proofs.YtcmfcleeohcgaabW.PrintWords Go.Proofs.YtcmfcleeohcgaabW.PrintLast
set_option linter.unusedVariables false
set_option linter.unusedSimpArgs false
def toppB (g : List (List Int)) (sink : Int) (c : List Int) (p : Int) : Bool := (topp g sink c p).all fun x => decide (0 ≤ x) && decide (x ≤ 20)
def toppR (g : List (List Int)) (sink : Int) (c : List Int) (p : Int) : List Int × Bool := if toppB g sink c p = true then (topp g sink c p, true) else ([], false)
theorem toppI {g : List (List Int)} (hg : goodG g = true) (sink : Int) {c : List Int} (hc : c.length = g.length) {p : Int} (h0 : 0 ≤ p) (h1 : p < (g.length : Int)) : Ev (fun k => impl_TopplePlace.j0 k sink c p false g) (toppR g sink c p) := by
  have h8 := (good_iff hg).1.2
  refine Ev.succ ?_
  simp only [impl_TopplePlace.j0]
  refine Ev.neg (by simp) (Ev.bind0 (clone_ev c (by omega)) (Ev.bind (topple_ev hg sink hc h0 h1) (Ev.bind0 (show impl_areChips.f g (topp g sink c p) = some (decide ((topp g sink c p).length = g.length) && (topp g sink c p).all (fun q => decide (0 ≤ q) && decide (q ≤ 20))) from rfl) ?_)))
  rw [topp_len, decide_eq_true hc, Bool.true_and]
  unfold toppR toppB
  by_cases h : ((topp g sink c p).all fun x => decide (0 ≤ x) && decide (x ≤ 20)) = true
  · exact Ev.pos h ((Ev.now _).val (by rw [if_pos h]))
  · exact Ev.neg h ((Ev.now _).val (by rw [if_neg h]))
theorem toppS {g : List (List Int)} (hg : goodG g = true) (sink : Int) {c : List Int} (hc : c.length = g.length) {p : Int} (h0 : 0 ≤ p) (h1 : p < (g.length : Int)) : Ev (fun k => spec_TopplePlace.j0 k sink c p false g) (toppR g sink c p) := by
  have h8 := (good_iff hg).1.2
  refine Ev.succ ?_
  simp only [spec_TopplePlace.j0]
  refine Ev.neg (by simp) (Ev.bind0 (own_ev c (by omega)) (Ev.bind (chTopple_ev hg sink hc h0 h1) (Ev.bind (l1All (topp g sink c p) 0 20 (by rw [topp_len]; omega)) ?_)))
  unfold toppR toppB
  by_cases h : ((topp g sink c p).all fun x => decide (0 ≤ x) && decide (x ≤ 20)) = true
  · exact Ev.pos h ((Ev.now _).val (by rw [if_pos h]))
  · exact Ev.neg h ((Ev.now _).val (by rw [if_neg h]))
theorem toppI0 (g : List (List Int)) (sink : Int) (c : List Int) (p : Int) : Ev (fun k => impl_TopplePlace.j0 k sink c p true g) ([], false) := by
  refine Ev.succ ?_
  simp only [impl_TopplePlace.j0]
  exact Ev.pos (by simp) (Ev.now _)
theorem toppS0 (g : List (List Int)) (sink : Int) (c : List Int) (p : Int) : Ev (fun k => spec_TopplePlace.j0 k sink c p true g) ([], false) := by
  refine Ev.succ ?_
  simp only [spec_TopplePlace.j0]
  exact Ev.pos (by simp) (Ev.now _)
theorem topplePlace_both (g : List (List Int)) (hl : okSS g) (sink : Int) (c : List Int) (hcc : okIs c) (p : Int) :
    ∃ (v : List Int) (b : Bool), Ev (fun k => spec_TopplePlace.f k g sink c p) (v, b) ∧ Ev (fun k => impl_TopplePlace.f k g sink c p) (v, b) ∧ v.length ≤ 1048576 := by
  by_cases hh : heapB g sink c = true
  · obtain ⟨hs, hc, _⟩ := heap_iff hh
    have hg := (place_iff (sunk_iff hs).1).1
    have h8 := (good_iff hg).1.2
    by_cases hp : placeB g p = true
    · obtain ⟨_, h0, h1⟩ := place_iff hp
      by_cases hb : canB g sink c p = true
      · refine ⟨(toppR g sink c p).1, (toppR g sink c p).2, ?_, ?_, ?_⟩
        · unfold spec_TopplePlace.f
          have hne : p ≠ sink ∧ rd c p ≥ ((rd_L1 g p).length : Int) := by unfold canB at hb; simpa using hb
          refine Ev.bind (chHeap_ev g hl sink c hcc) (Ev.pos hh (Ev.bind (grPlace g p hl) (Ev.pos hp (Ev.neg hne.1 (Ev.pos h0 (Ev.pos (by omega) (Ev.pos h1 ?_)))))))
          rw [decide_eq_false (by omega)]
          exact toppS hg sink hc h0 h1
        · unfold impl_TopplePlace.f
          refine Ev.bind (isHeap_ev g sink c) (Ev.pos hh (Ev.bind0 (has1 g p) (Ev.pos hp (Ev.bind0 (canTopple h0 (by omega) h1) ?_))))
          rw [hb]
          exact toppI hg sink hc h0 h1
        · unfold toppR; split
          · simp only []; rw [topp_len]; omega
          · simp
      · refine ⟨[], false, ?_, ?_, by simp⟩
        · unfold spec_TopplePlace.f
          refine Ev.bind (chHeap_ev g hl sink c hcc) (Ev.pos hh (Ev.bind (grPlace g p hl) (Ev.pos hp ?_)))
          by_cases he : p = sink
          · exact Ev.pos he (toppS0 g sink c p)
          · refine Ev.neg he (Ev.pos h0 (Ev.pos (by omega) (Ev.pos h1 ?_)))
            have : rd c p < ((rd_L1 g p).length : Int) := by
              unfold canB at hb; simp [he] at hb; omega
            rw [decide_eq_true this]
            exact toppS0 g sink c p
        · unfold impl_TopplePlace.f
          refine Ev.bind (isHeap_ev g sink c) (Ev.pos hh (Ev.bind0 (has1 g p) (Ev.pos hp (Ev.bind0 (canTopple h0 (by omega) h1) ?_))))
          rw [Bool.eq_false_iff.mpr hb]
          exact toppI0 g sink c p
    · refine ⟨[], false, ?_, ?_, by simp⟩
      · unfold spec_TopplePlace.f
        exact Ev.bind (chHeap_ev g hl sink c hcc) (Ev.pos hh (Ev.bind (grPlace g p hl) (Ev.neg hp (toppS0 g sink c p))))
      · unfold impl_TopplePlace.f
        exact Ev.bind (isHeap_ev g sink c) (Ev.pos hh (Ev.bind0 (has1 g p) (Ev.neg hp (toppI0 g sink c p))))
  · refine ⟨[], false, ?_, ?_, by simp⟩
    · unfold spec_TopplePlace.f
      exact Ev.bind (chHeap_ev g hl sink c hcc) (Ev.neg hh (toppS0 g sink c p))
    · unfold impl_TopplePlace.f
      exact Ev.bind (isHeap_ev g sink c) (Ev.neg hh (toppI0 g sink c p))
theorem FnExactTopplePlace (l : List (List Int)) (hl : okSS l) (p : Int) (hp : okI p) (ch : List Int) (hch : okIs ch) (q : Int) (hq : okI q) : laws_FnExactTopplePlace.f l p ch q = some true := by
  unfold laws_FnExactTopplePlace.f
  rw [if_pos]
  unfold laws_FnExactTopplePlace.Good
  intro hlen
  obtain ⟨r, hr, _, hs⟩ := szGraph l hl
  refine ⟨r, hr, fun h => ?_⟩
  have sm := hs h
  obtain ⟨v, b, hS, hI, hv⟩ := topplePlace_both l hl p ch hch q
  obtain ⟨m, l', hm, hm0, hm1⟩ := markG l sm
  exact ⟨toGraph l sm, toIntS ch (by omega), v, b, hS, hI, (eqIntS v v (by omega)).val (decide_eq_true rfl), small_eq l sm, (eqIntS ch ch (by omega)).val (decide_eq_true rfl), m, l', hm, hm0, _, _, markIntS ch m (by omega) hm0 (by omega), by omega, markR v hv⟩
end Go.Proofs.Ytcmfcleeohcgaab.Pure
namespace Go.Proofs.Ytcmfcleeohcgaab.fnExactTopplePlace
open Go.ChangeShapes Go.WideShapes Go.ChangeAt Go.RowKit
open Go.ChangeMaps (open_string shut_string)
open Go.Proofs.Ytcmfcleeohcgaab.In Go.Proofs.Ytcmfcleeohcgaab.P
set_option linter.unusedVariables false
theorem own : ownKnob Try.prog.godebug = none := by kernel_rfl
theorem laidOut : laidOutB Try.prog = true := by kernel_rfl
set_option maxRecDepth 100000 in
theorem lifted (os : Os) (started : os.Started) (H : Type) (enc : TypeId × Value → H) :
    ReturnsInHanded {} Try.checked os 5 .any (Rows.fnExactTopplePlaceSpec.pre6 enc Try.prog Try.f5 Rows.fnExactTopplePlaceRow.domain false) (Rows.fnExactTopplePlaceSpec.post enc Try.prog Try.f5 false true false false) := by
  refine returnsInHanded_of_change_sized (C := Try.checked) own started (by kernel_rfl) Try.func5
    (ChangeSpec.witness6 (enc := enc) (C := Try.checked) false ⟨#[], #[.agg #[.slice none 0 0], .int .i64 0, .slice none 0 0, .int .i64 0], []⟩ 8 (by kernel_rfl) (by kernel_rfl) (by kernel_rfl) (by kernel_rfl)) ?_
  intro W base args ds gs before hval0 hW hcnd hsz0 _
  have hsz : (DataW.weightsEach Try.prog (Try.f5.params.toList ++ Rows.fnExactTopplePlaceSpec.plain.varTypes Try.prog) (ds ++ gs)).all (· ≤ reachBytes) = true := hsz0
  have hval : ∀ (j : Nat) t v, Try.f5.params[j]? = some t → args[j]? = some v → Value.okWide Try.prog W .any base t v := hval0
  have hW' := hW
  obtain ⟨p, q, hA0, hV, rfl, hfz, hnd⟩ := hW
  have hA : DataW.TrodAll enc Try.prog W 0 (fun _ => true) true Try.f5.params.toList args.toList ds p := hA0
  rw [Try.params5] at hA hval hsz
  obtain ⟨v0, vs0, d0, ds0, p0, q0, hargs, rfl, rfl, h0, r0⟩ := trodAll_cons hA
  obtain ⟨v1, vs1, d1, ds1, p1, q1, rfl, rfl, rfl, h1, r1⟩ := trodAll_cons r0
  obtain ⟨v2, vs2, d2, ds2, p2, q2, rfl, rfl, rfl, h2, r2⟩ := trodAll_cons r1
  obtain ⟨v3, vs3, d3, ds3, p3, q3, rfl, rfl, rfl, h3, r3⟩ := trodAll_cons r2
  obtain ⟨rfl, rfl, rfl⟩ := trodAll_nil r3
  obtain rfl : args = #[v0, v1, v2, v3] := by cases args; simp_all
  obtain ⟨rfl, rfl⟩ := trodVars_none hV
  have k0 := h0
  have lt0 : ∀ x ∈ p0, x.block < W.heap.size := by obtain ⟨m, hm⟩ := k0; exact DataW.trod_lt m _ _ _ hm
  obtain ⟨A0, l0, cap0, rfl, hl0, hc0, hw0⟩ := in_graph (q := 3) Try.underlying24 (by kernel_rfl) (by kernel_rfl) rfl Try.underlying22 Try.underlying25 Try.underlying3 (by kernel_rfl) (by kernel_rfl) (hval 0 24 v0 rfl rfl) h0
  obtain ⟨a1, rfl, rfl, rfl, w1⟩ := open_int Try.underlying3 (hval 1 3 v1 rfl rfl) h1
  have k2 := h2
  have lt2 : ∀ x ∈ p2, x.block < W.heap.size := by obtain ⟨m, hm⟩ := k2; exact DataW.trod_lt m _ _ _ hm
  obtain ⟨A2, l2, cap2, rfl, hl2, hc2, hw2⟩ := in_slice (q := 3) Try.underlying25 Try.underlying3 (by kernel_rfl) (hval 2 25 v2 rfl rfl) h2
  obtain ⟨a3, rfl, rfl, rfl, w3⟩ := open_int Try.underlying3 (hval 3 3 v3 rfl rfl) h3
  clear hA0 hval0 hsz0 hsz
  have h := Pure.FnExactTopplePlace l0 (okSS_wf hc0 hw0) a1 (okI_wf w1) l2 (okIs_wf hw2) a3 (okI_wf w3)
  refine (laws_FnExactTopplePlace.calls _ _ l0 a1 _ _ l2 a3 true W hc0 hl0 hc2 hl2 h).mono fun e W' ⟨he, bel0⟩ => ?_
  have bel : Below W.heap.size W W' := bel0
  subst he
  exact ⟨_, rfl, _, _, _, [], _, [], hW', trodAll_mk1 (shut_bool Try.underlying4 _), (trodAll_cons_mk (Below.trod laidOut (by kernel_rfl) (of_decide_eq_true (by kernel_rfl)) k0 bel lt0) (trodAll_cons_mk (shut_int Try.underlying3 w1) (trodAll_cons_mk (Below.trod laidOut (by kernel_rfl) (of_decide_eq_true (by kernel_rfl)) k2 bel lt2) (trodAll_cons_mk (shut_int Try.underlying3 w3) trodAll_mk0)))), rfl, bel.frame _, fun h => by cases h⟩
theorem over : Rows.fnExactTopplePlaceRow.holds Try.pinned (OpenSpec.ofChange Rows.fnExactTopplePlaceSpec) :=
  OpenClaim.holds_of_wide 5 Try.f5 rfl rfl rfl rfl rfl rfl rfl ⟨rfl, rfl, rfl, rfl, rfl⟩ rfl rfl rfl rfl rfl (by kernel_rfl) Try.func5 (by kernel_rfl)
    (of_decide_eq_true (by kernel_rfl)) (by unfold Func.isWrapper; first | (rw [if_pos (by decide +kernel)]; kernel_rfl) | (rw [if_neg (by decide +kernel)]; exact ⟨rfl, rfl⟩))
    (fun os started H enc _ => lifted os started H enc)
theorem proved : Rows.FnExactTopplePlaceSaid := over
end Go.Proofs.Ytcmfcleeohcgaab.fnExactTopplePlace
namespace Go.Proofs.Ytcmfcleeohcgaab
/-- The law, under a short name, for the claim. -/
theorem fnExactTopplePlace_holds : Rows.FnExactTopplePlaceSaid := fnExactTopplePlace.proved
#print axioms fnExactTopplePlace_holds
end Go.Proofs.Ytcmfcleeohcgaab
