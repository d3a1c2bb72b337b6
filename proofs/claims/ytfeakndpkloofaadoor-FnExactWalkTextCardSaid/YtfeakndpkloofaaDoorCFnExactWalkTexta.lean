/- The law FnExactWalkText holds for every input: the program returns what the reference returns (or what the law says), for all arguments. -/
import Derived.Test.YtfeakndpkloofaaDoorPlawsFnExactWalkText
import Derived.Test.YtfeakndpkloofaaDoorPimplWalkText
import Derived.Test.YtfeakndpkloofaaDoorPspecWalkText
import Derived.Test.YtfeakndpkloofaaDoorPimplwalkText
import Derived.Test.YtfeakndpkloofaaDoorPlawsszWalk
import Derived.Test.YtfeakndpkloofaaDoorPlawstoWalk
import Derived.Test.YtfeakndpkloofaaDoorPlawseqWalk
import Derived.Test.YtfeakndpkloofaaDoorMBase
import Derived.Test.YtfeakndpkloofaaDoorMSzS
import Derived.Test.YtfeakndpkloofaaDoorMTxt
import Derived.Test.YtfeakndpkloofaaDoorRIn
import Derived.Test.YtfeakndpkloofaaDoorRows
import Derived.Test.YtfeakndpkloofaaDoorCards
import Derived.Test.YtfeakndpkloofaaDoorTie
import Derived.WalkKit
import Derived.ProofKit
import Derived.OpenShut
import Derived.ShutString
import Derived.ChangeOld
import Derived.Below
import Derived.SizedLaws
import Derived.LaidLaws
import Derived.LaidMore
import Derived.Lay
import Derived.SevenTiedAt
import Derived.Stop.Joined
import Derived.Deep.Matrix
import Derived.Lib.SmallJoins
namespace Go.Proofs.YtfeakndpkloofaaDoor.Pure
open Go.RowKit Go.Proofs.YtfeakndpkloofaaDoor.P Go.Proofs.YtfeakndpkloofaaDoor.In Go.Proofs.YtfeakndpkloofaaDoor.M Go.Proofs.YtfeakndpkloofaaDoorW.PrintWords Go.Proofs.YtfeakndpkloofaaDoorW.PrintLast
set_option linter.unusedVariables false
set_option linter.unusedSimpArgs false
def goodW (l : List Int) (a : Int) : Prop := (1 ≤ l.length ∧ l.length ≤ 8) ∧ (0 ≤ a ∧ a ≤ (l.length : Int) - 1) ∧ ∀ q ∈ l, 0 ≤ q ∧ q ≤ 4
theorem goodW.digits {l : List Int} {a : Int} (h : goodW l a) : Digits l := ⟨h.1.2, fun q hq => by have := h.2.2 q hq; omega⟩
def walkT (l : List Int) (a : Int) : List UInt8 := dg1 a ++ [58] ++ commas l
theorem bound {l : List Int} (h : Digits l) : (commas l).length ≤ 16 := by have := commas_len l; have := h.1; omega
theorem impl_walk {l : List Int} {a : Int} (h : goodW l a) : Ev (fun k => impl_walkText.f k l a) (mk (walkT l a)) := by
  obtain ⟨⟨h1, h8⟩, ⟨ha0, ha1⟩, hl⟩ := h
  have hd : Digits l := ⟨h8, fun q hq => by have := hl q hq; omega⟩
  have hne : l ≠ [] := fun e => by subst e; simp at h1
  have e : rowT l = commas l := by unfold rowT; rw [if_neg hne]
  have hb := bound hd
  unfold impl_walkText.f
  refine Ev.bind0 (itoa_d ha0 (by omega)) (Ev.pos (by rw [mk_size]; simp [dg1]) (Ev.bind (listText_ev hd) (Ev.pos ?_ ((Ev.now _).val ?_))))
  · rw [e]
    show (mk (dg1 a) ++ mk [58]).size + (mk (commas l)).size ≤ _
    rw [mk_app, mk_size, mk_size]; simp [dg1]; omega
  · rw [e]
    show mk (dg1 a) ++ mk [58] ++ mk (commas l) = _
    rw [mk_app, mk_app]; rfl
theorem spec_walk_l0 {l : List Int} (h : Digits l) (pre : List UInt8) (hp : pre.length ≤ 16) : ∀ (d i : Nat), l.length - i = d → i ≤ l.length → Ev (fun k => spec_WalkText.l0 k (mk (pre ++ commas (l.take i))) l l.length i) (mk (pre ++ commas l), true) := by
  have h8 := h.1
  have hbd : ∀ i, (commas (l.take i)).length ≤ 16 := fun i => by have := commas_len (l.take i); have := List.length_take_le i l; have h3 : (l.take i).length ≤ l.length := (by simp; omega); omega
  intro d
  induction d with
  | zero =>
    intro i hd hi
    obtain rfl : i = l.length := by omega
    refine Ev.succ ?_
    simp only [spec_WalkText.l0]
    rw [List.take_length]
    exact Ev.neg (by omega) (Ev.now _)
  | succ d ih =>
    intro i hd hi
    have hlt : i < l.length := by omega
    have hq := h.2 l[i] (List.getElem_mem _)
    have hb := hbd i
    refine Ev.succ ?_
    simp only [spec_WalkText.l0]
    refine Ev.pos (by omega) (Ev.pos (by omega) (Ev.pos (by omega) ?_))
    have hc := commas_take l hlt
    by_cases h0 : i = 0
    · subst h0
      refine Ev.neg (by omega) (Ev.bind (a := mk (dg1 l[0])) (by rw [rd_at hlt]; exact l1Num_d hq.1 hq.2) (Ev.pos (by rw [mk_size, mk_size]; simp [dg1, commas, Lib.join]; omega) ?_))
      rw [wrap_nat (by omega), mk_app]
      rw [if_pos rfl] at hc
      have := ih 1 (by omega) (by omega)
      rw [hc] at this
      simpa [commas, Lib.join] using this
    · refine Ev.pos (by omega) (Ev.pos (by rw [mk_size]; simp; omega) (Ev.bind (a := mk (dg1 l[i])) (by rw [rd_at hlt]; exact l1Num_d hq.1 hq.2) (Ev.pos ?_ ?_)))
      · show (mk (pre ++ commas (l.take i)) ++ mk [44]).size + (mk (dg1 l[i])).size ≤ _
        rw [mk_app, mk_size, mk_size]; simp [dg1]; omega
      · rw [wrap_nat (by omega)]
        show Ev (fun k => spec_WalkText.l0 k (mk (pre ++ commas (l.take i)) ++ mk [44] ++ mk (dg1 l[i])) l l.length ((i + 1 : Nat) : Int)) _
        rw [mk_app, mk_app]
        rw [if_neg h0] at hc
        have := ih (i + 1) (by omega) (by omega)
        rw [hc] at this
        simpa [List.append_assoc] using this
open Classical in
theorem walk_both (l : List Int) (a : Int) (hl : okIs l) (ha : okI a) : ∃ (t : ByteArray) (b : Bool), Ev (fun k => spec_WalkText.f k l a) (t, b) ∧ Ev (fun k => impl_WalkText.f k l a) (t, b) := by
  have hlen := hl.1
  by_cases hg : goodW l a
  · refine ⟨mk (walkT l a), true, ?_, ?_⟩
    · obtain ⟨⟨h1, h8⟩, ⟨ha0, ha1⟩, hr⟩ := hg
      have hd : Digits l := ⟨h8, fun q hq => by have := hr q hq; omega⟩
      have hw : wrap64 ((l.length : Int) - 1) = (l.length : Int) - 1 := by unfold wrap64; omega
      unfold spec_WalkText.f
      refine Ev.bind0 (l1In _ _ _) (Ev.pos (by simp; omega) (Ev.bind0 (l1In _ _ _) (Ev.pos (by rw [hw]; simp; omega) (Ev.bind (l1All l 0 4 (by omega)) ?_))))
      have hall : (l.all fun x => decide (0 ≤ x) && decide (x ≤ 4)) = true := by
        rw [List.all_eq_true]; intro x hx; have := hr x hx; simp; omega
      rw [hall]
      refine Ev.succ ?_
      simp only [spec_WalkText.j0]
      refine Ev.neg (by simp) (Ev.bind (l1Num_d ha0 (by omega)) (Ev.pos (by rw [mk_size]; simp [dg1]) ?_))
      have := spec_walk_l0 hd (dg1 a ++ [58]) (by simp [dg1]) l.length 0 (by omega) (by omega)
      have e : mk (dg1 a) ++ (⟨#[58]⟩ : ByteArray) = mk (dg1 a ++ [58] ++ commas (l.take 0)) := by
        show mk (dg1 a) ++ mk [58] = _
        rw [mk_app]; simp [commas, Lib.join]
      rw [e]; exact this
    · unfold impl_WalkText.f
      have e : (lenW l && atW l a && !anyW l) = true := by
        obtain ⟨⟨h1, h8⟩, ⟨ha0, ha1⟩, hr⟩ := hg
        have hw : wrap64 ((l.length : Int) - 1) = (l.length : Int) - 1 := by unfold wrap64; omega
        simp only [lenW, atW, anyW, hw, Bool.and_eq_true, decide_eq_true_eq, Bool.not_eq_true', List.any_eq_false]
        refine ⟨⟨⟨h1, h8⟩, ha0, ha1⟩, fun q hq => ?_⟩
        have := hr q hq
        simp; omega
      exact Ev.pos e (Ev.bind (impl_walk hg) (Ev.now _))
  · refine ⟨⟨#[]⟩, false, ?_, ?_⟩
    · have out : ∀ k : Nat, spec_WalkText.j0 (k + 1) true l a = some (⟨#[]⟩, false) := fun k => by simp only [spec_WalkText.j0]; rw [if_pos trivial]
      unfold spec_WalkText.f
      refine Ev.bind0 (l1In _ _ _) ?_
      by_cases h1 : 1 ≤ l.length ∧ l.length ≤ 8
      · have hw : wrap64 ((l.length : Int) - 1) = (l.length : Int) - 1 := by unfold wrap64; omega
        refine Ev.pos (by simp; omega) (Ev.bind0 (l1In _ _ _) ?_)
        rw [hw]
        by_cases h2 : 0 ≤ a ∧ a ≤ (l.length : Int) - 1
        · refine Ev.pos (by simp; omega) (Ev.bind (l1All l 0 4 (by omega)) ?_)
          have hall : (l.all fun x => decide (0 ≤ x) && decide (x ≤ 4)) = false := by
            rw [Bool.eq_false_iff]; intro h3
            refine hg ⟨h1, h2, fun q hq => ?_⟩
            have := List.all_eq_true.1 h3 q hq
            simpa using this
          rw [hall]
          exact Ev.const1 out
        · exact Ev.neg (by simp; omega) (Ev.const1 out)
      · exact Ev.neg (by simp; omega) (Ev.const1 out)
    · unfold impl_WalkText.f
      refine Ev.neg (fun e => hg ?_) (Ev.now _)
      simp only [lenW, atW, anyW, Bool.and_eq_true, decide_eq_true_eq, Bool.not_eq_true', List.any_eq_false] at e
      obtain ⟨⟨⟨h1, h8⟩, ha0, ha1⟩, hr⟩ := e
      have hw : wrap64 ((l.length : Int) - 1) = (l.length : Int) - 1 := by unfold wrap64; omega
      rw [hw] at ha1
      refine ⟨⟨h1, h8⟩, ⟨ha0, ha1⟩, fun q hq => ?_⟩
      have := hr q hq
      simp at this; omega
theorem FnExactWalkText (l : List Int) (a : Int) (hl : okIs l) (ha : okI a) : ∃ k, laws_FnExactWalkText.f k l a = some true := by
  suffices h : Ev (fun k => laws_FnExactWalkText.f k l a) true by obtain ⟨K, hK⟩ := h; exact ⟨K, hK K (Nat.le_refl _)⟩
  unfold laws_FnExactWalkText.f
  obtain ⟨r, hr, _, hs⟩ := szIntS l hl 1048576 (by omega) (by omega)
  have hsz : ∃ x, laws_szWalk.f l a 1048576 = some x ∧ (0 ≤ x → l.length ≤ 1048576) := by
    unfold laws_szWalk.f
    rw [hr]
    by_cases h : r < 0
    · exact ⟨-1, by simp [h], fun h => by omega⟩
    · exact ⟨r, by simp [h], hs⟩
  obtain ⟨x, hx, hb⟩ := hsz
  refine Ev.bind0 hx ?_
  by_cases h : x < 0
  · exact Ev.pos h (Ev.now _)
  · have sm := hb (by omega)
    have hto : Ev (fun k => laws_toWalk.f k l a) (l, a) := by
      unfold laws_toWalk.f
      exact Ev.bind (toIntS l (by omega)) (Ev.now _)
    obtain ⟨t, b, hS, hI⟩ := walk_both l a hl ha
    refine Ev.neg h (Ev.bind hto (Ev.bind hS (Ev.bind hto (Ev.bind hI (Ev.pos rfl ?_)))))
    refine Ev.succ ?_
    simp only [laws_FnExactWalkText.j0]
    refine Ev.neg (by simp) (Ev.bind hto (Ev.bind (a := true) ?_ (Ev.pos rfl (Ev.now _))))
    unfold laws_eqWalk.f
    exact Ev.bind ((eqIntS l l (by omega)).val (decide_eq_true rfl)) (Ev.pos rfl (Ev.pos rfl (Ev.now _)))
end Go.Proofs.YtfeakndpkloofaaDoor.Pure
namespace Go.Proofs.YtfeakndpkloofaaDoor.fnExactWalkText
open Go.ChangeShapes Go.WideShapes Go.ChangeAt Go.RowKit
open Go.ChangeMaps (open_string shut_string)
open Go.Proofs.YtfeakndpkloofaaDoor.In Go.Proofs.YtfeakndpkloofaaDoor.P
set_option linter.unusedVariables false
theorem own : ownKnob Tryd.prog.godebug = none := by kernel_rfl
theorem laidOut : laidOutB Tryd.prog = true := by kernel_rfl
set_option maxRecDepth 100000 in
theorem lifted (os : Os) (started : os.Started) (H : Type) (enc : TypeId × Value → H) :
    ReturnsInHanded {} Tryd.checked os 4 .any (fun w args => (Rows.fnExactWalkTextSpec.pre enc Tryd.prog Tryd.f4 Rows.fnExactWalkTextRow.domain false w args ∧ laidMetH Tryd.prog Rows.fnExactWalkTextRow.laid w) ∧ sizedMet enc Tryd.prog Tryd.f4 (OpenSpec.ofChange Rows.fnExactWalkTextSpec) false w args) (Rows.fnExactWalkTextSpec.post enc Tryd.prog Tryd.f4 false true false false) := by
  refine returnsInHanded_of_change_and (C := Tryd.checked) (X := fun w _ => laidMetH Tryd.prog Rows.fnExactWalkTextRow.laid w) (fun _ _ _ hh h => h.of_heap hh) own started (by kernel_rfl) Tryd.func4
    (ChangeSpec.witness_shaped (enc := enc) (C := Tryd.checked) (os := os) (X := fun w _ => laidMetH Tryd.prog Rows.fnExactWalkTextRow.laid w) false (World.laidAll Tryd.prog os Rows.fnExactWalkTextRow.laid) #[.agg #[.slice none 0 0, .int .i64 0]] 8 (World.laidAll_os _ _ _)
      (World.shaped_of_ZipB (by kernel_rfl) (by kernel_rfl)) (by kernel_rfl) (by kernel_rfl) (by kernel_rfl)
      (by rw [MakeChecks.laidMetH_plain _ _ _ (by kernel_rfl)]; exact laidMet_laidAll _ (by kernel_rfl) (by kernel_rfl))) ?_
  intro W base args ds gs before hval0 hW hcnd _ hL hsz0
  have hval : ∀ (j : Nat) t v, Tryd.f4.params[j]? = some t → args[j]? = some v → Value.okWide Tryd.prog W .any base t v := hval0
  have hW' := hW
  obtain ⟨p, q, hA0, hV, rfl, hfz, hnd⟩ := hW
  have hA : DataW.TrodAll enc Tryd.prog W 0 (fun _ => true) true Tryd.f4.params.toList args.toList ds p := hA0
  rw [Tryd.params4] at hA hval
  obtain ⟨v0, vs0, d0, ds0, p0, q0, hargs, rfl, rfl, h0, r0⟩ := trodAll_cons hA
  obtain ⟨rfl, rfl, rfl⟩ := trodAll_nil r0
  obtain rfl : args = #[v0] := by cases args; simp_all
  obtain ⟨rfl, rfl⟩ := trodVars_none hV
  have k0 := h0
  have lt0 : ∀ x ∈ p0, x.block < W.heap.size := by obtain ⟨m, hm⟩ := k0; exact DataW.trod_lt m _ _ _ hm
  obtain ⟨A0, l0, cap0, x0, rfl, hl0, hc0, hw0, hx0⟩ := in_walk (q := 3) Tryd.underlying34 (by kernel_rfl) (by kernel_rfl) rfl rfl Tryd.underlying32 Tryd.underlying3 Tryd.underlying3 (by kernel_rfl) (hval 0 34 v0 rfl rfl) h0
  clear hA0 hval0
  obtain ⟨k, h⟩ := Pure.FnExactWalkText l0 x0 (okIs_wf hw0) (okI_wf hx0)
  refine (laws_FnExactWalkText.calls k _ _ l0 x0 true W hc0 hl0 h).mono fun e W' ⟨he, bel0⟩ => ?_
  have bel : Below W.heap.size W W' := bel0
  subst he
  exact ⟨_, rfl, _, _, _, [], _, [], hW', trodAll_mk1 (shut_bool Tryd.underlying4 _), (trodAll_cons_mk (Below.trod laidOut (by kernel_rfl) (of_decide_eq_true (by kernel_rfl)) k0 bel lt0) trodAll_mk0), rfl, bel.frame _, fun h => by cases h⟩
theorem over : Rows.fnExactWalkTextRow.holds Tryd.pinned (OpenSpec.ofChange Rows.fnExactWalkTextSpec) :=
  OpenClaim.holds_of_wide 4 Tryd.f4 rfl rfl rfl rfl rfl rfl rfl ⟨rfl, rfl, rfl, rfl, rfl⟩ rfl rfl rfl rfl rfl (by kernel_rfl) Tryd.func4 (by kernel_rfl)
    (of_decide_eq_true (by kernel_rfl)) (by unfold Func.isWrapper; first | (rw [if_pos (by decide +kernel)]; kernel_rfl) | (rw [if_neg (by decide +kernel)]; exact ⟨rfl, rfl⟩))
    (fun os started H enc _ => lifted os started H enc)
theorem proved : Rows.FnExactWalkTextCardSaid :=
  Claim7.holds_tied_plain_at .later [] [.data, .data, .data] true (true, "6dd617f53bc5e5f470b36abe0570af0fc6226b431b4bcad3563bc66e9b3d87bb") true over (fun _ h => by cases h) (by kernel_rfl) (fun _ h => by cases h) fnExactWalkText_row_tie rfl ⟨rfl, rfl⟩ (by kernel_rfl) rfl
    (fun f fn hf hfn => by
      obtain rfl : f = 4 := Option.some.inj ((show Tryd.prog.funcNamed "loop.example/g01162/laws.FnExactWalkText" = some 4 by kernel_rfl).symm.trans hf) |>.symm
      obtain rfl : fn = Tryd.f4 := (Option.some.inj (Tryd.func4.symm.trans hfn)).symm
      exact ⟨by kernel_rfl, fun j t ht => by
        rw [Tryd.params4] at ht
        have hm : t ∈ [34] := by simpa using Array.mem_of_getElem? ht
        have hall : ([34].all fun u => !Tryd.prog.wantsStandIn u) = true := by kernel_rfl
        exact (show Tryd.prog.wantsStandIn t = false by simpa using List.all_eq_true.1 hall t hm)⟩)
    (by kernel_rfl)
end Go.Proofs.YtfeakndpkloofaaDoor.fnExactWalkText
namespace Go.Proofs.YtfeakndpkloofaaDoor
/-- The law, under a short name, for the claim. -/
theorem fnExactWalkText_holds : Rows.FnExactWalkTextCardSaid := fnExactWalkText.proved
#print axioms fnExactWalkText_holds
end Go.Proofs.YtfeakndpkloofaaDoor
