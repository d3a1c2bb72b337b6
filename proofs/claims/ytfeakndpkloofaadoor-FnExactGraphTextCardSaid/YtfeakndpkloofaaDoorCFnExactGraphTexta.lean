/- The law FnExactGraphText holds for every input: the program returns what the reference returns (or what the law says), for all arguments. -/
import Derived.Test.YtfeakndpkloofaaDoorPlawsFnExactGraphText
import Derived.Test.YtfeakndpkloofaaDoorPimplGraphText
import Derived.Test.YtfeakndpkloofaaDoorPspecGraphText
import Derived.Test.YtfeakndpkloofaaDoorPimplgraphText
import Derived.Test.YtfeakndpkloofaaDoorPspecgrText
import Derived.Test.YtfeakndpkloofaaDoorMBase
import Derived.Test.YtfeakndpkloofaaDoorMGood
import Derived.Test.YtfeakndpkloofaaDoorMTxt
import Derived.Test.YtfeakndpkloofaaDoorRIn
import Derived.Test.YtfeakndpkloofaaDoorRows
import Derived.Test.YtfeakndpkloofaaDoorCards
import Derived.Test.YtfeakndpkloofaaDoorTie
import Derived.WalkKit
import Derived.ProofKit
import Derived.OpenShut
import Derived.ShutString
import Derived.ChangeOld
import Derived.Below
import Derived.SizedLaws
import Derived.LaidLaws
import Derived.LaidMore
import Derived.Lay
import Derived.SevenTiedAt
import Derived.Stop.Joined
import Derived.Deep.Matrix
import Derived.Lib.SmallJoins
namespace Go.Proofs.YtfeakndpkloofaaDoor.Pure
open Go.RowKit Go.Proofs.YtfeakndpkloofaaDoor.P Go.Proofs.YtfeakndpkloofaaDoor.In Go.Proofs.YtfeakndpkloofaaDoor.M Go.Proofs.YtfeakndpkloofaaDoorW.PrintWords Go.Proofs.YtfeakndpkloofaaDoorW.PrintLast
set_option linter.unusedVariables false
set_option linter.unusedSimpArgs false
def GDigits (g : List (List Int)) : Prop := g.length ≤ 8 ∧ ∀ row ∈ g, Digits row
def semis (g : List (List Int)) : List UInt8 := Lib.join (g.map rowT) [59]
theorem semis_len {g : List (List Int)} (h : ∀ row ∈ g, Digits row) : (semis g).length ≤ 17 * g.length := by
  have := join_len [59] 16 g.length (g.map rowT) (by simp) (fun x hx => by obtain ⟨q, hq, rfl⟩ := List.mem_map.1 hx; exact rowT_len q (h q hq).1)
  simpa [semis] using this
theorem semis_take (g : List (List Int)) {i : Nat} (hi : i < g.length) : semis (g.take (i + 1)) = if i = 0 then rowT g[i] else semis (g.take i) ++ [59] ++ rowT g[i] := by
  unfold semis
  rw [List.map_take, List.map_take, join_take [59] (g.map rowT) (by simpa using hi)]
  simp
theorem semis_take_len {g : List (List Int)} (h : GDigits g) (i : Nat) : (semis (g.take i)).length ≤ 136 := by
  have h1 := semis_len (g := g.take i) (fun row hr => h.2 row (List.mem_of_mem_take hr))
  have h2 : (g.take i).length ≤ g.length := by simp; omega
  have := h.1
  omega
theorem graph_l0 {g : List (List Int)} (h : GDigits g) : ∀ (d i : Nat), g.length - i = d → i ≤ g.length → Ev (fun k => impl_graphText.l0 k (((g.take i).map rowT).map mk) g g.length i) (mk (semis g)) := by
  have h8 := h.1
  intro d
  induction d with
  | zero =>
    intro i hd hi
    obtain rfl : i = g.length := by omega
    refine Ev.succ ?_
    simp only [impl_graphText.l0]
    refine Ev.neg (by omega) ?_
    rw [List.take_length]
    have hl := semis_len h.2
    exact Ev.bind0 (join_mk (g.map rowT) [59] (by simp; omega) (by show (semis g).length ≤ _; omega)) (Ev.now _)
  | succ d ih =>
    intro i hd hi
    have hlt : i < g.length := by omega
    refine Ev.succ ?_
    simp only [impl_graphText.l0]
    have hq := h.2 g[i] (List.getElem_mem _)
    refine Ev.pos (by omega) (Ev.pos (by omega) (Ev.pos (by omega) ?_))
    rw [rdL_at hlt]
    refine Ev.bind (listText_ev hq) (Ev.pos (by simp; omega) ?_)
    rw [wrap_nat (by omega)]
    have e : ((g.take i).map rowT).map mk ++ [mk (rowT g[i])] = ((g.take (i + 1)).map rowT).map mk := by
      rw [List.take_succ_eq_append_getElem hlt, List.map_append, List.map_append]; rfl
    rw [e]
    exact ih (i + 1) (by omega) (by omega)
theorem spec_row {g : List (List Int)} {p : Nat} (hp : p < 8) {row : List Int} (h : Digits row) (pre : List UInt8) (hpre : pre.length ≤ 200) {R : ByteArray}
    (hnext : Ev (fun k => spec_grText.l0 k (mk (pre ++ commas row)) g g.length ((p + 1 : Nat) : Int)) R) :
    ∀ (d i : Nat), row.length - i = d → i ≤ row.length → Ev (fun k => spec_grText.l1 k (mk (pre ++ commas (row.take i))) g g.length p row row.length i) R := by
  have h8 := h.1
  have hbd : ∀ i, (commas (row.take i)).length ≤ 16 := fun i => by have := commas_len (row.take i); have h3 : (row.take i).length ≤ row.length := (by simp; omega); omega
  intro d
  induction d with
  | zero =>
    intro i hd hi
    obtain rfl : i = row.length := by omega
    refine Ev.succ ?_
    simp only [spec_grText.l1]
    rw [List.take_length]
    refine Ev.neg (by omega) ?_
    rw [wrap_nat (by omega)]; exact hnext
  | succ d ih =>
    intro i hd hi
    have hlt : i < row.length := by omega
    have hq := h.2 row[i] (List.getElem_mem _)
    have hb := hbd i
    refine Ev.succ ?_
    simp only [spec_grText.l1]
    refine Ev.pos (by omega) (Ev.pos (by omega) (Ev.pos (by omega) ?_))
    have hc := commas_take row hlt
    by_cases h0 : i = 0
    · subst h0
      refine Ev.neg (by omega) (Ev.bind (a := mk (dg1 row[0])) (by rw [rd_at hlt]; exact l1Num_d hq.1 hq.2) (Ev.pos (by rw [mk_size, mk_size]; simp [dg1, commas, Lib.join]; omega) ?_))
      rw [wrap_nat (by omega), mk_app]
      rw [if_pos rfl] at hc
      have := ih 1 (by omega) (by omega)
      rw [hc] at this
      simpa [commas, Lib.join] using this
    · refine Ev.pos (by omega) (Ev.pos (by rw [mk_size]; simp; omega) (Ev.bind (a := mk (dg1 row[i])) (by rw [rd_at hlt]; exact l1Num_d hq.1 hq.2) (Ev.pos ?_ ?_)))
      · show (mk (pre ++ commas (row.take i)) ++ mk [44]).size + (mk (dg1 row[i])).size ≤ _
        rw [mk_app, mk_size, mk_size]; simp [dg1]; omega
      · rw [wrap_nat (by omega)]
        show Ev (fun k => spec_grText.l1 k (mk (pre ++ commas (row.take i)) ++ mk [44] ++ mk (dg1 row[i])) g g.length p row row.length ((i + 1 : Nat) : Int)) _
        rw [mk_app, mk_app]
        rw [if_neg h0] at hc
        have := ih (i + 1) (by omega) (by omega)
        rw [hc] at this
        simpa [List.append_assoc] using this
theorem spec_j1 {g : List (List Int)} {p : Nat} (hp : p < 8) {row : List Int} (h : Digits row) (pre : List UInt8) (hpre : pre.length ≤ 180) {R : ByteArray}
    (hnext : Ev (fun k => spec_grText.l0 k (mk (pre ++ rowT row)) g g.length ((p + 1 : Nat) : Int)) R) : Ev (fun k => spec_grText.j1 k (mk pre) row g g.length p) R := by
  refine Ev.succ ?_
  simp only [spec_grText.j1]
  by_cases hn : row = []
  · subst hn
    refine Ev.pos (by simp) (Ev.pos (by rw [mk_size]; omega) ?_)
    refine Ev.succ ?_
    simp only [spec_grText.j2]
    have e : mk pre ++ (⟨#[45]⟩ : ByteArray) = mk (pre ++ [45] ++ commas (([] : List Int).take 0)) := by
      show mk pre ++ mk [45] = _
      rw [mk_app]; simp [commas, Lib.join]
    rw [e]
    refine spec_row hp h (pre ++ [45]) (by simp; omega) ?_ 0 0 rfl (Nat.le_refl _)
    have e2 : pre ++ [45] ++ commas [] = pre ++ rowT [] := by simp [commas, rowT, Lib.join]
    rw [e2]; exact hnext
  · have : 0 < row.length := List.length_pos_iff.2 hn
    refine Ev.neg (by omega) ?_
    refine Ev.succ ?_
    simp only [spec_grText.j2]
    have e : rowT row = commas row := by unfold rowT; rw [if_neg hn]
    rw [e] at hnext
    have := spec_row hp h pre (by omega) hnext row.length 0 (by omega) (by omega)
    simpa [commas, Lib.join] using this
theorem spec_g0 {g : List (List Int)} (h : GDigits g) : ∀ (d i : Nat), g.length - i = d → i ≤ g.length → Ev (fun k => spec_grText.l0 k (mk (semis (g.take i))) g g.length i) (mk (semis g)) := by
  have h8 := h.1
  intro d
  induction d with
  | zero =>
    intro i hd hi
    obtain rfl : i = g.length := by omega
    refine Ev.succ ?_
    simp only [spec_grText.l0]
    rw [List.take_length]
    exact Ev.neg (by omega) (Ev.now _)
  | succ d ih =>
    intro i hd hi
    have hlt : i < g.length := by omega
    have hq := h.2 g[i] (List.getElem_mem _)
    have hb := semis_take_len h i
    have hc := semis_take g hlt
    have hi' := ih (i + 1) (by omega) (by omega)
    rw [hc] at hi'
    refine Ev.succ ?_
    simp only [spec_grText.l0]
    refine Ev.pos (by omega) (Ev.pos (by omega) (Ev.pos (by omega) ?_))
    rw [rdL_at hlt]
    by_cases h0 : i = 0
    · subst h0
      refine Ev.neg (by omega) ?_
      rw [if_pos rfl] at hi'
      have e : semis (g.take 0) = [] := by simp [semis, Lib.join]
      rw [e]
      exact spec_j1 (p := 0) (by omega) hq [] (by simp) (by simpa using hi')
    · refine Ev.pos (by omega) (Ev.pos (by rw [mk_size]; omega) ?_)
      rw [if_neg h0] at hi'
      have e : mk (semis (g.take i)) ++ (⟨#[59]⟩ : ByteArray) = mk (semis (g.take i) ++ [59]) := mk_app _ [59]
      rw [e]
      exact spec_j1 (by omega) hq _ (by simp; omega) hi'
theorem good_digits {g : List (List Int)} (h : goodG g = true) : GDigits g :=
  ⟨(good_iff h).1.2, fun row hr => ⟨by have := ((good_iff h).2 row hr).1; omega, fun q hq => by have := ((good_iff h).2 row hr).2 q hq; have := (good_iff h).1.2; omega⟩⟩
theorem text_both (g : List (List Int)) (hl : okSS g) : ∃ (t : ByteArray) (b : Bool), Ev (fun k => spec_GraphText.f k g) (t, b) ∧ Ev (fun k => impl_GraphText.f k g) (t, b) := by
  by_cases hg : goodG g = true
  · have hd := good_digits hg
    refine ⟨mk (semis g), true, ?_, ?_⟩
    · unfold spec_GraphText.f
      refine Ev.bind (grGood g hl) (Ev.pos hg (Ev.bind (a := mk (semis g)) ?_ (Ev.now _)))
      unfold spec_grText.f
      have := spec_g0 hd g.length 0 (by omega) (by omega)
      have e : mk (semis (g.take 0)) = (⟨#[]⟩ : ByteArray) := by simp [semis, Lib.join, mk]
      rw [e] at this; exact this
    · unfold impl_GraphText.f
      refine Ev.bind0 (show impl_isGraph.f g = some (goodG g) from rfl) (Ev.pos hg (Ev.bind (a := mk (semis g)) ?_ (Ev.now _)))
      unfold impl_graphText.f
      exact graph_l0 hd g.length 0 (by omega) (by omega)
  · refine ⟨⟨#[]⟩, false, ?_, ?_⟩
    · unfold spec_GraphText.f
      exact Ev.bind (grGood g hl) (Ev.neg hg (Ev.now _))
    · unfold impl_GraphText.f
      exact Ev.bind0 (show impl_isGraph.f g = some (goodG g) from rfl) (Ev.neg hg (Ev.now _))
theorem FnExactGraphText (l : List (List Int)) (hl : okSS l) : ∃ k, laws_FnExactGraphText.f k l = some true := by
  suffices h : Ev (fun k => laws_FnExactGraphText.f k l) true by obtain ⟨K, hK⟩ := h; exact ⟨K, hK K (Nat.le_refl _)⟩
  unfold laws_FnExactGraphText.f
  obtain ⟨r, hr, _, hs⟩ := szGraph l hl
  refine Ev.bind hr ?_
  by_cases h : r < 0
  · exact Ev.pos h (Ev.now _)
  · have sm := hs (by omega)
    obtain ⟨t, b, hS, hI⟩ := text_both l hl
    refine Ev.neg h (Ev.bind (toGraph l sm) (Ev.bind hS (Ev.bind (toGraph l sm) (Ev.bind hI (Ev.pos rfl ?_)))))
    refine Ev.succ ?_
    simp only [laws_FnExactGraphText.j0]
    exact Ev.neg (by simp) (Ev.bind (toGraph l sm) (Ev.bind (small_eq l sm) (Ev.pos rfl (Ev.now _))))
end Go.Proofs.YtfeakndpkloofaaDoor.Pure
namespace Go.Proofs.YtfeakndpkloofaaDoor.fnExactGraphText
open Go.ChangeShapes Go.WideShapes Go.ChangeAt Go.RowKit
open Go.ChangeMaps (open_string shut_string)
open Go.Proofs.YtfeakndpkloofaaDoor.In Go.Proofs.YtfeakndpkloofaaDoor.P
set_option linter.unusedVariables false
theorem own : ownKnob Tryd.prog.godebug = none := by kernel_rfl
theorem laidOut : laidOutB Tryd.prog = true := by kernel_rfl
set_option maxRecDepth 100000 in
theorem lifted (os : Os) (started : os.Started) (H : Type) (enc : TypeId × Value → H) :
    ReturnsInHanded {} Tryd.checked os 3 .any (fun w args => (Rows.fnExactGraphTextSpec.pre enc Tryd.prog Tryd.f3 Rows.fnExactGraphTextRow.domain false w args ∧ laidMetH Tryd.prog Rows.fnExactGraphTextRow.laid w) ∧ sizedMet enc Tryd.prog Tryd.f3 (OpenSpec.ofChange Rows.fnExactGraphTextSpec) false w args) (Rows.fnExactGraphTextSpec.post enc Tryd.prog Tryd.f3 false true false false) := by
  refine returnsInHanded_of_change_and (C := Tryd.checked) (X := fun w _ => laidMetH Tryd.prog Rows.fnExactGraphTextRow.laid w) (fun _ _ _ hh h => h.of_heap hh) own started (by kernel_rfl) Tryd.func3
    (ChangeSpec.witness_shaped (enc := enc) (C := Tryd.checked) (os := os) (X := fun w _ => laidMetH Tryd.prog Rows.fnExactGraphTextRow.laid w) false (World.laidAll Tryd.prog os Rows.fnExactGraphTextRow.laid) #[.agg #[.slice none 0 0]] 8 (World.laidAll_os _ _ _)
      (World.shaped_of_ZipB (by kernel_rfl) (by kernel_rfl)) (by kernel_rfl) (by kernel_rfl) (by kernel_rfl)
      (by rw [MakeChecks.laidMetH_plain _ _ _ (by kernel_rfl)]; exact laidMet_laidAll _ (by kernel_rfl) (by kernel_rfl))) ?_
  intro W base args ds gs before hval0 hW hcnd _ hL hsz0
  have hval : ∀ (j : Nat) t v, Tryd.f3.params[j]? = some t → args[j]? = some v → Value.okWide Tryd.prog W .any base t v := hval0
  have hW' := hW
  obtain ⟨p, q, hA0, hV, rfl, hfz, hnd⟩ := hW
  have hA : DataW.TrodAll enc Tryd.prog W 0 (fun _ => true) true Tryd.f3.params.toList args.toList ds p := hA0
  rw [Tryd.params3] at hA hval
  obtain ⟨v0, vs0, d0, ds0, p0, q0, hargs, rfl, rfl, h0, r0⟩ := trodAll_cons hA
  obtain ⟨rfl, rfl, rfl⟩ := trodAll_nil r0
  obtain rfl : args = #[v0] := by cases args; simp_all
  obtain ⟨rfl, rfl⟩ := trodVars_none hV
  have k0 := h0
  have lt0 : ∀ x ∈ p0, x.block < W.heap.size := by obtain ⟨m, hm⟩ := k0; exact DataW.trod_lt m _ _ _ hm
  obtain ⟨A0, l0, cap0, rfl, hl0, hc0, hw0⟩ := in_graph (q := 3) Tryd.underlying24 (by kernel_rfl) (by kernel_rfl) rfl Tryd.underlying22 Tryd.underlying32 Tryd.underlying3 (by kernel_rfl) (by kernel_rfl) (hval 0 24 v0 rfl rfl) h0
  clear hA0 hval0
  obtain ⟨k, h⟩ := Pure.FnExactGraphText l0 (okSS_wf hc0 hw0)
  refine (laws_FnExactGraphText.calls k _ _ l0 true W hc0 hl0 h).mono fun e W' ⟨he, bel0⟩ => ?_
  have bel : Below W.heap.size W W' := bel0
  subst he
  exact ⟨_, rfl, _, _, _, [], _, [], hW', trodAll_mk1 (shut_bool Tryd.underlying4 _), (trodAll_cons_mk (Below.trod laidOut (by kernel_rfl) (of_decide_eq_true (by kernel_rfl)) k0 bel lt0) trodAll_mk0), rfl, bel.frame _, fun h => by cases h⟩
theorem over : Rows.fnExactGraphTextRow.holds Tryd.pinned (OpenSpec.ofChange Rows.fnExactGraphTextSpec) :=
  OpenClaim.holds_of_wide 3 Tryd.f3 rfl rfl rfl rfl rfl rfl rfl ⟨rfl, rfl, rfl, rfl, rfl⟩ rfl rfl rfl rfl rfl (by kernel_rfl) Tryd.func3 (by kernel_rfl)
    (of_decide_eq_true (by kernel_rfl)) (by unfold Func.isWrapper; first | (rw [if_pos (by decide +kernel)]; kernel_rfl) | (rw [if_neg (by decide +kernel)]; exact ⟨rfl, rfl⟩))
    (fun os started H enc _ => lifted os started H enc)
theorem proved : Rows.FnExactGraphTextCardSaid :=
  Claim7.holds_tied_plain_at .later [] [.data, .data, .data] true (true, "6dd617f53bc5e5f470b36abe0570af0fc6226b431b4bcad3563bc66e9b3d87bb") true over (fun _ h => by cases h) (by kernel_rfl) (fun _ h => by cases h) fnExactGraphText_row_tie rfl ⟨rfl, rfl⟩ (by kernel_rfl) rfl
    (fun f fn hf hfn => by
      obtain rfl : f = 3 := Option.some.inj ((show Tryd.prog.funcNamed "loop.example/g01162/laws.FnExactGraphText" = some 3 by kernel_rfl).symm.trans hf) |>.symm
      obtain rfl : fn = Tryd.f3 := (Option.some.inj (Tryd.func3.symm.trans hfn)).symm
      exact ⟨by kernel_rfl, fun j t ht => by
        rw [Tryd.params3] at ht
        have hm : t ∈ [24] := by simpa using Array.mem_of_getElem? ht
        have hall : ([24].all fun u => !Tryd.prog.wantsStandIn u) = true := by kernel_rfl
        exact (show Tryd.prog.wantsStandIn t = false by simpa using List.all_eq_true.1 hall t hm)⟩)
    (by kernel_rfl)
end Go.Proofs.YtfeakndpkloofaaDoor.fnExactGraphText
namespace Go.Proofs.YtfeakndpkloofaaDoor
/-- The law, under a short name, for the claim. -/
theorem fnExactGraphText_holds : Rows.FnExactGraphTextCardSaid := fnExactGraphText.proved
#print axioms fnExactGraphText_holds
end Go.Proofs.YtfeakndpkloofaaDoor
