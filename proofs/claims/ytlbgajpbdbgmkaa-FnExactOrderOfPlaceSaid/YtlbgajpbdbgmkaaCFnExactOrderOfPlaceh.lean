/- The law FnExactOrderOfPlace holds for every input: the program returns what the reference returns (or what the law says), for all arguments. -/
import Derived.Test.YtlbgajpbdbgmkaaCFnExactOrderOfPlaceg
import Derived.Test.YtlbgajpbdbgmkaaCFnExactOrderOfPlacef
import Derived.Test.YtlbgajpbdbgmkaaCFnExactOrderOfPlacec
import Derived.Test.YtlbgajpbdbgmkaaCFnExactOrderOfPlaced
import Derived.Test.YtlbgajpbdbgmkaaRows
import Derived.WalkKit
import Derived.ProofKit
import Derived.OpenShut
import Derived.ShutString
import Derived.ChangeOld
import Derived.Below
import Derived.SizedLaws
import Derived.Deep.Matrix
import Derived.Lib.SmallJoins
namespace Go.Proofs.Ytlbgajpbdbgmkaa.M
open Go.RowKit Go.Proofs.Ytlbgajpbdbgmkaa.P Go.Proofs.Ytlbgajpbdbgmkaa.In Go.Proofs.YtlbgajpbdbgmkaaW.PrintWords Go.Proofs.YtlbgajpbdbgmkaaW.PrintLast
set_option linter.unusedVariables false
set_option linter.unusedSimpArgs false
theorem nodup_le {α : Type} [DecidableEq α] : ∀ (a b : List α), a.Nodup → (∀ x, x ∈ a → x ∈ b) → a.length ≤ b.length := by
 intro a
 induction a with
 | nil => intro b _ _; exact Nat.zero_le _
 | cons x a ih =>
  intro b hn hs
  rw [List.nodup_cons] at hn
  have hx := hs x (by simp)
  have := ih (b.erase x) hn.2 (fun y hy => by
   have hne : y ≠ x := fun e => hn.1 (e ▸ hy)
   exact (List.mem_erase_of_ne hne).2 (hs y (by simp [hy])))
  have h2 := List.length_erase_of_mem hx
  have h3 : 0 < b.length := List.length_pos_of_mem hx
  rw [List.length_cons]; omega
theorem lexL_sink {g : List (List Int)} {s : Int} (hs : 0 ≤ s) : ∀ (d p : Nat) (r r2 : List Int), p + d = r.length → r2 ∈ lexL g s d p r → rd r2 s = rd r s := by
 intro d
 induction d with
 | zero => intro p r r2 _ h; simp only [lexL, List.mem_singleton] at h; rw [h]
 | succ d ih =>
  intro p r r2 hp h
  simp only [lexL] at h
  by_cases hps : (p : Int) = s
  ·rw [if_pos hps] at h; exact ih (p + 1) r r2 (by omega) h
  ·rw [if_neg hps, List.mem_flatMap] at h
   obtain ⟨k, _, h⟩ := h
   rw [ih (p + 1) _ r2 (by simp; omega) h, rd_set_nat (by omega) hs, if_neg (fun e => hps e.symm)]
section
variable {l : List (List Int)} {s p : Int}
theorem treeOK_mk {r : List Int} (hr : Rot l r) (h0 : 0 ≤ s) (h1 : s < (l.length : Int)) (hz : rd r s = 0) (ht : treeB l r s = true) : treeOK l s r = true := by
 unfold treeOK sinkB placeB
 rw [hr.good, decide_eq_true h0, decide_eq_true (show s ≤ (l.length : Int) - 1 by omega), decide_eq_true hr.len, hr.rb, hz, ht]
 rfl
theorem tree_mem {r : List Int} (h : treeOK l s r = true) : r ∈ treesOf l s := by
 obtain ⟨hr, h0, h1, hz, ht⟩ := treeOK_iff h
 unfold treesOf
 rw [← filter_lexL h0 h1 l.length 0 _ (by omega) (rot0 hr.good) (inv0 l s _), List.mem_filter]
 refine ⟨in_lexL l.length 0 _ r (by omega) (by simp) hr (fun i hi => ?_) (fun i hi => by omega), ht⟩
 rw [hi, hz]
 have : rd (List.replicate l.length (0 : Int)) ((i : Nat) : Int) = 0 := by rw [rd_at (by simp; omega)]; simp
 rw [← hi]; exact this.symm
theorem mem_tree (hg : goodG l = true) (h0 : 0 ≤ s) (h1 : s < (l.length : Int)) {r : List Int} (h : r ∈ treesOf l s) : treeOK l s r = true := by
 unfold treesOf at h
 rw [← filter_lexL h0 h1 l.length 0 _ (by omega) (rot0 hg) (inv0 l s _), List.mem_filter] at h
 have hr := (mem_lexL s l.length 0 _ r (by omega) (rot0 hg) h.1).1
 refine treeOK_mk hr h0 h1 ?_ h.2
 rw [lexL_sink h0 l.length 0 _ r (by simp) h.1]
 have : rd (List.replicate l.length (0 : Int)) ((s.toNat : Nat) : Int) = 0 := by rw [rd_at (by simp; omega)]; simp
 rw [Int.toNat_of_nonneg h0] at this
 exact this
theorem act_tree {r : List Int} (h : treeOK l s r = true) (p0 : 0 ≤ p) (p1 : p < (l.length : Int)) (hok : (actT l s p r).2.2 = true) : treeOK l s (actT l s p r).1 = true := by
 obtain ⟨hr, h0, h1, hz, ht⟩ := treeOK_iff h
 have lv := Live.of_tree hr h0 h1 ht
 unfold actT at hok ⊢
 obtain ⟨m, hm⟩ := runW_steps 4000 r p [p] hok
 have u := Steps.uni lv p0 p1 m (uni_start lv hr ht p0 p1) hm
 exact treeOK_mk u.rot h0 h1 (by rw [runW_sink lv 4000 r p [p] hr p0 p1, hz]) (uni_end lv p0 p1 u)
theorem act_inj {r r' : List Int} (h : treeOK l s r = true) (h' : treeOK l s r' = true) (p0 : 0 ≤ p) (p1 : p < (l.length : Int)) (hok : (actT l s p r).2.2 = true) (hok' : (actT l s p r').2.2 = true) (he : (actT l s p r).1 = (actT l s p r').1) : r = r' := by
 obtain ⟨hr, h0, h1, hz, ht⟩ := treeOK_iff h
 obtain ⟨hr', _, _, _, ht'⟩ := treeOK_iff h'
 have lv := Live.of_tree hr h0 h1 ht
 unfold actT at hok hok' he
 obtain ⟨m, hm⟩ := runW_steps 4000 r p [p] hok
 obtain ⟨m', hm'⟩ := runW_steps 4000 r' p [p] hok'
 rw [he] at hm
 rcases Nat.le_total m m' with h2 | h2
 ·exact Steps.back lv p0 p1 hr hr' ht ht' m m' h2 hm hm'
 ·exact (Steps.back lv p0 p1 hr' hr ht' ht m' m h2 hm' hm).symm
structure OrbI (l : List (List Int)) (s p : Int) (r0 : List Int) (out : List (List Int)) : Prop where
 ok : ∀ r, r ∈ out → treeOK l s r = true
 nd : out.Nodup
 pos : 0 < out.length
 hd : ∀ h : 0 < out.length, out[0] = r0
 nx : ∀ (i : Nat) (h : i + 1 < out.length), (actT l s p (out[i]'(by omega))).2.2 = true ∧ (actT l s p (out[i]'(by omega))).1 = out[i + 1]
theorem OrbI.snoc {r0 : List Int} {out : List (List Int)} (o : OrbI l s p r0 out) (p0 : 0 ≤ p) (p1 : p < (l.length : Int)) {r : List Int} (hr : out[out.length - 1]'(by have := o.pos; omega) = r) (hok : (actT l s p r).2.2 = true) (hne : (actT l s p r).1 ≠ r0) : OrbI l s p r0 (out ++ [(actT l s p r).1]) := by
 have hpos := o.pos
 have hrm : r ∈ out := by rw [← hr]; exact List.getElem_mem _
 have ht := act_tree (o.ok r hrm) p0 p1 hok
 refine ⟨fun x hx => ?_, ?_, by simp, fun h => ?_, fun i h => ?_⟩
 ·rcases List.mem_append.1 hx with h | h
  ·exact o.ok x h
  ·simp only [List.mem_singleton] at h; rw [h]; exact ht
 ·rw [List.nodup_append]
  refine ⟨o.nd, by simp, fun a ha b hb e => ?_⟩
  simp only [List.mem_singleton] at hb
  subst hb
  subst e
  obtain ⟨i, hi, he⟩ := List.mem_iff_getElem.1 ha
  cases i with
  | zero => exact hne (by rw [← he]; exact o.hd hpos)
  | succ i =>
   obtain ⟨a1, a2⟩ := o.nx i hi
   have := act_inj (o.ok _ (List.getElem_mem _)) (o.ok r hrm) p0 p1 a1 hok (by rw [a2, he])
   have h2 : out[i]'(by omega) = out[out.length - 1]'(by omega) := by rw [this, hr]
   have h3 := (List.getElem_inj o.nd).1 h2
   omega
 ·rw [List.getElem_append_left hpos]; exact o.hd hpos
 ·rw [List.length_append, List.length_singleton] at h
  by_cases hlt : i + 1 < out.length
  ·rw [List.getElem_append_left hlt]
   simp only [List.getElem_append_left (show i < out.length by omega)]
   exact o.nx i hlt
  ·have hi : i = out.length - 1 := by omega
   subst hi
   simp only [List.getElem_append_left (show out.length - 1 < out.length by omega)]
   rw [hr, List.getElem_append_right (by omega)]
   refine ⟨hok, ?_⟩
   simp [show out.length - 1 + 1 - out.length = 0 by omega]
theorem orbit_both (hg : gateB l s = true) {r0 : List Int} (p0 : 0 ≤ p) (p1 : p < (l.length : Int)) (h0 : treeOK l s r0 = true) : ∀ (d : Nat) (out : List (List Int)), out.length + d = 61 → OrbI l s p r0 out →
  ∃ v : List (List Int), Ev (fun k => orbL l s r0 p k out) (v, decide (0 < v.length)) ∧ Ev (fun k => spec_acOrbit.l0 k s r0 p out l) v ∧ v.length ≤ 61 ∧ ∀ row, row ∈ v → row.length ≤ 8 := by
 have hmany : (treesOf l s).length ≤ 60 := by
  unfold gateB at hg
  simp only [Bool.and_eq_true, decide_eq_true_eq] at hg
  exact hg.2
 intro d
 induction d with
 | zero =>
  intro out hd o
  have := nodup_le out (treesOf l s) o.nd (fun x hx => tree_mem (o.ok x hx))
  omega
 | succ d ih =>
  intro out hd o
  have hpos := o.pos
  have hw : wrap64 ((out.length : Int) - 1) = ((out.length - 1 : Nat) : Int) := by unfold wrap64; omega
  obtain ⟨r, hr⟩ : ∃ r, out[out.length - 1]'(by omega) = r := ⟨_, rfl⟩
  have hrd : rd_L1 out ((out.length - 1 : Nat) : Int) = r := by rw [rdL_at (by omega)]; exact hr
  have hrm : r ∈ out := by rw [← hr]; exact List.getElem_mem _
  have hok := o.ok r hrm
  obtain ⟨hrot, s0, s1, _, ht⟩ := treeOK_iff hok
  obtain ⟨hrot0, _⟩ := treeOK_iff h0
  have lv := Live.of_tree hrot s0 s1 ht
  have h8 := (good_iff hrot.good).1.2
  have hl := hrot.len
  have hl0 := hrot0.len
  have eI := one_ev lv hrot p0 p1
  have eS := acRun_ev lv hrot p0 p1
  have hlen := runW_len (l := l) (s := s) 4000 r p [p]
  have hat : actT l s p r = runW l s 4000 r p [p] := rfl
  rw [← hat] at hlen
  have hs := fun (a : (actT l s p r).2.2 = true) (b : (actT l s p r).1 ≠ r0) => o.snoc p0 p1 hr a b
  obtain ⟨t1, t2, t3, hT⟩ : ∃ t1 t2 t3, actT l s p r = (t1, t2, t3) := ⟨_, _, _, rfl⟩
  rw [hT] at eI eS hlen hs
  cases t3 with
  | false =>
   refine ⟨[], ?_, ?_, by simp, by simp⟩
   ·refine Ev.succ ?_
    simp only [orbL]
    rw [hw, hrd]
    refine Ev.pos (by omega) (Ev.pos (by omega) (Ev.bind eI ?_))
    exact Ev.neg (by simp) ((Ev.now _).val (by simp))
   ·refine Ev.succ ?_
    simp only [spec_acOrbit.l0]
    rw [hw, hrd]
    refine Ev.pos (by omega) (Ev.pos (by omega) (Ev.bind eS ?_))
    exact Ev.pos (by simp [spR]) (Ev.now _)
  | true =>
   have h9 : 1 ≤ t2.length := hlen.2.2 rfl
   have h10 : t1.length = r.length := hlen.1
   have eq1 : Ev (fun k => slices_Equal_int_int.f k t1 r0) (decide (t1 = r0)) := equal_ev t1 r0 (by omega)
   have eq2 : Ev (fun k => spec_l1Same.f k t1 r0) (decide (t1 = r0)) := same_ev t1 r0 (by omega)
   by_cases he : t1 = r0
   ·rw [decide_eq_true he] at eq1 eq2
    refine ⟨out, ?_, ?_, by omega, fun row hrow => by have := (treeOK_iff (o.ok row hrow)).1.len; omega⟩
    ·refine Ev.succ ?_
     simp only [orbL]
     rw [hw, hrd]
     refine Ev.pos (by omega) (Ev.pos (by omega) (Ev.bind eI ?_))
     exact Ev.pos (by simp) (Ev.bind eq1 (Ev.pos rfl ((Ev.now _).val (by rw [decide_eq_true hpos]))))
    ·refine Ev.succ ?_
     simp only [spec_acOrbit.l0]
     rw [hw, hrd]
     refine Ev.pos (by omega) (Ev.pos (by omega) (Ev.bind eS ?_))
     exact Ev.neg (by simp only [spR]; omega) (Ev.bind eq2 (Ev.pos rfl (Ev.now _)))
   ·rw [decide_eq_false he] at eq1 eq2
    obtain ⟨v, a, b, c, e⟩ := ih (out ++ [t1]) (by simp; omega) (hs rfl he)
    refine ⟨v, ?_, ?_, c, e⟩
    ·refine Ev.succ ?_
     simp only [orbL]
     rw [hw, hrd]
     refine Ev.pos (by omega) (Ev.pos (by omega) (Ev.bind eI ?_))
     exact Ev.pos (by simp) (Ev.bind eq1 (Ev.neg (by simp) (Ev.pos (by omega) a)))
    ·refine Ev.succ ?_
     simp only [spec_acOrbit.l0]
     rw [hw, hrd]
     refine Ev.pos (by omega) (Ev.pos (by omega) (Ev.bind eS ?_))
     exact Ev.neg (by simp only [spR]; omega) (Ev.bind eq2 (Ev.neg (by simp) (Ev.pos (by omega) b)))
theorem orbit_ev (hg : gateB l s = true) {r0 : List Int} (p0 : 0 ≤ p) (p1 : p < (l.length : Int)) (h0 : treeOK l s r0 = true) :
  ∃ v : List (List Int), Ev (fun k => impl_actor_orbit.f k l s r0 p) (v, decide (0 < v.length)) ∧ Ev (fun k => spec_acOrbit.f k l s r0 p) v ∧ v.length ≤ 61 ∧ ∀ row, row ∈ v → row.length ≤ 8 := by
 obtain ⟨hrot, s0, s1, _, ht⟩ := treeOK_iff h0
 have h8 := (good_iff hrot.good).1.2
 have hl := hrot.len
 obtain ⟨v, a, b, c, e⟩ := orbit_both hg p0 p1 h0 60 [r0] rfl ⟨fun r hr => by simp only [List.mem_singleton] at hr; rw [hr]; exact h0, by simp, by simp, fun _ => rfl, fun i h => by simp at h⟩
 have hcl : slices_Clone_int_int.f r0 = some r0 := by unfold slices_Clone_int_int.f; rw [if_pos (by omega)]
 refine ⟨v, ?_, ?_, c, e⟩
 ·unfold impl_actor_orbit.f
  exact Ev.bind0 hcl a
 ·unfold spec_acOrbit.f
  exact Ev.bind0 (own_a r0 (by omega)) b
end
end Go.Proofs.Ytlbgajpbdbgmkaa.M
namespace Go.Proofs.Ytlbgajpbdbgmkaa.Pure
open Go.RowKit Go.Proofs.Ytlbgajpbdbgmkaa.P Go.Proofs.Ytlbgajpbdbgmkaa.In Go.Proofs.Ytlbgajpbdbgmkaa.M Go.Proofs.YtlbgajpbdbgmkaaW.PrintWords Go.Proofs.YtlbgajpbdbgmkaaW.PrintLast
set_option linter.unusedVariables false
set_option linter.unusedSimpArgs false
theorem FnExactOrderOfPlace (l : List (List Int)) (hl : okSS l) (s : Int) (hs : okI s) (p : Int) (hp : okI p) : ∃ k, laws_FnExactOrderOfPlace.f k l s p = some true := by
 refine Ev.rounds (g := fun k => laws_FnExactOrderOfPlace.f k l s p) ?_
 unfold laws_FnExactOrderOfPlace.f
 obtain ⟨r, hr, hr1, hsz⟩ := szGraph l hl
 refine Ev.bind hr ?_
 by_cases h : r < 0
 ·exact Ev.pos h (Ev.now _)
 ·have sm := hsz (by omega)
  obtain ⟨v, hS, hI⟩ : ∃ v : Int × Bool, Ev (fun k => spec_OrderOfPlace.f k l s p) v ∧ Ev (fun k => impl_OrderOfPlace.f k l s p) v := by
   obtain ⟨t, hA, hT⟩ := acAll_ev l hl s
   by_cases hg : gateB l s = true
   ·have ht := hT hg
    subst ht
    have hg2 := hg
    unfold gateB at hg2
    simp only [Bool.and_eq_true, decide_eq_true_eq] at hg2
    obtain ⟨hpls, hle⟩ := sunk_iff hg2.1
    obtain ⟨hgood, s0, s1⟩ := place_iff hpls
    have hne := trL_some hgood s0 s1 hle
    have hlen : 0 < (treesOf l s).length := List.length_pos_iff.2 hne
    have h0 : treeOK l s (rd_L1 (treesOf l s) 0) = true := by
     refine mem_tree hgood s0 s1 ?_
     have : rd_L1 (treesOf l s) ((0 : Nat) : Int) ∈ treesOf l s := by rw [rdL_at hlen]; exact List.getElem_mem _
     exact this
    by_cases hpl : placeB l p = true
    ·obtain ⟨_, p0, p1⟩ := place_iff hpl
     obtain ⟨v, a, b, c, e⟩ := orbit_ev hg p0 p1 h0
     have hall : Ev (fun k => impl_allTrees.f k l s 61) (treesOf l s) := (allTrees_ev hgood s0 s1 61 (by omega) (by omega)).val (List.take_of_length_le (by have := hg2.2; unfold treesOf at this; omega))
     refine ⟨((v.length : Int), decide (0 < v.length)), ?_, ?_⟩
     ·unfold spec_OrderOfPlace.f
      refine Ev.bind hA (Ev.pos hg (Ev.bind (grPlace l p hl) (Ev.pos hpl (Ev.pos (show (0 : Int) < ((treesOf l s).length : Int) by omega) (Ev.bind b ((Ev.now _).val ?_))))))
      congr 1
      by_cases h0 : 0 < v.length
      ·rw [decide_eq_true h0, decide_eq_true (by omega)]
      ·rw [decide_eq_false h0, decide_eq_false (by omega)]
     ·unfold impl_OrderOfPlace.f
      exact Ev.bind (actorL_ev l s) (Ev.pos hg (Ev.bind0 (has1 l p) (Ev.pos hpl (Ev.bind hall (Ev.pos hlen (Ev.bind a (Ev.now _)))))))
    ·refine ⟨(0, false), ?_, ?_⟩
     ·unfold spec_OrderOfPlace.f
      exact Ev.bind hA (Ev.pos hg (Ev.bind (grPlace l p hl) (Ev.neg hpl (Ev.now _))))
     ·unfold impl_OrderOfPlace.f
      exact Ev.bind (actorL_ev l s) (Ev.pos hg (Ev.bind0 (has1 l p) (Ev.neg hpl (Ev.now _))))
   ·refine ⟨(0, false), ?_, ?_⟩
    ·unfold spec_OrderOfPlace.f
     exact Ev.bind hA (Ev.neg hg (Ev.now _))
    ·unfold impl_OrderOfPlace.f
     exact Ev.bind (actorL_ev l s) (Ev.neg hg (Ev.now _))
  refine Ev.neg h (Ev.bind (toGraph l sm) (Ev.bind hS (Ev.bind (toGraph l sm) (Ev.bind hI (Ev.pos rfl ?_)))))
  refine Ev.succ ?_
  simp only [laws_FnExactOrderOfPlace.j0]
  exact Ev.neg (by simp) (Ev.bind (toGraph l sm) (Ev.bind (small_eq l sm) (Ev.pos rfl (Ev.now _))))
end Go.Proofs.Ytlbgajpbdbgmkaa.Pure
namespace Go.Proofs.Ytlbgajpbdbgmkaa.fnExactOrderOfPlace
open Go.ChangeShapes Go.WideShapes Go.ChangeAt Go.RowKit
open Go.ChangeMaps (open_string shut_string)
open Go.Proofs.Ytlbgajpbdbgmkaa.In Go.Proofs.Ytlbgajpbdbgmkaa.P
set_option linter.unusedVariables false
theorem own : ownKnob Try.prog.godebug = none := by kernel_rfl
theorem laidOut : laidOutB Try.prog = true := by kernel_rfl
set_option maxRecDepth 100000 in
theorem lifted (os : Os) (started : os.Started) (H : Type) (enc : TypeId × Value → H) :
  ReturnsInHanded {} Try.checked os 6 .any (Rows.fnExactOrderOfPlaceSpec.pre6 enc Try.prog Try.f6 Rows.fnExactOrderOfPlaceRow.domain false) (Rows.fnExactOrderOfPlaceSpec.post enc Try.prog Try.f6 false true false false) := by
 refine returnsInHanded_of_change_sized (C := Try.checked) own started (by kernel_rfl) Try.func6
  (ChangeSpec.witness6 (enc := enc) (C := Try.checked) false ⟨#[], #[.agg #[.slice none 0 0], .int .i64 0, .int .i64 0], []⟩ 8 (by kernel_rfl) (by kernel_rfl) (by kernel_rfl) (by kernel_rfl)) ?_
 intro W base args ds gs before hval0 hW hcnd hsz0 _
 have hsz : (DataW.weightsEach Try.prog (Try.f6.params.toList ++ Rows.fnExactOrderOfPlaceSpec.plain.varTypes Try.prog) (ds ++ gs)).all (· ≤ reachBytes) = true := hsz0
 have hval : ∀ (j : Nat) t v, Try.f6.params[j]? = some t → args[j]? = some v → Value.okWide Try.prog W .any base t v := hval0
 have hW' := hW
 obtain ⟨p, q, hA0, hV, rfl, hfz, hnd⟩ := hW
 have hA : DataW.TrodAll enc Try.prog W 0 (fun _ => true) true Try.f6.params.toList args.toList ds p := hA0
 rw [Try.params6] at hA hval hsz
 obtain ⟨v0, vs0, d0, ds0, p0, q0, hargs, rfl, rfl, h0, r0⟩ := trodAll_cons hA
 obtain ⟨v1, vs1, d1, ds1, p1, q1, rfl, rfl, rfl, h1, r1⟩ := trodAll_cons r0
 obtain ⟨v2, vs2, d2, ds2, p2, q2, rfl, rfl, rfl, h2, r2⟩ := trodAll_cons r1
 obtain ⟨rfl, rfl, rfl⟩ := trodAll_nil r2
 obtain rfl : args = #[v0, v1, v2] := by cases args; simp_all
 obtain ⟨rfl, rfl⟩ := trodVars_none hV
 have k0 := h0
 have lt0 : ∀ x ∈ p0, x.block < W.heap.size := by obtain ⟨m, hm⟩ := k0; exact DataW.trod_lt m _ _ _ hm
 obtain ⟨A0, l0, cap0, rfl, hl0, hc0, hw0⟩ := in_graph (q := 3) Try.underlying24 (by kernel_rfl) (by kernel_rfl) rfl Try.underlying22 Try.underlying25 Try.underlying3 (by kernel_rfl) (by kernel_rfl) (hval 0 24 v0 rfl rfl) h0
 obtain ⟨a1, rfl, rfl, rfl, w1⟩ := open_int Try.underlying3 (hval 1 3 v1 rfl rfl) h1
 obtain ⟨a2, rfl, rfl, rfl, w2⟩ := open_int Try.underlying3 (hval 2 3 v2 rfl rfl) h2
 clear hA0 hval0 hsz0 hsz
 obtain ⟨k, h⟩ := Pure.FnExactOrderOfPlace l0 (okSS_wf hc0 hw0) a1 (okI_wf w1) a2 (okI_wf w2)
 refine (laws_FnExactOrderOfPlace.calls k _ _ l0 a1 a2 true W hc0 hl0 h).mono fun e W' ⟨he, bel0⟩ => ?_
 have bel : Below W.heap.size W W' := bel0
 subst he
 exact ⟨_, rfl, _, _, _, [], _, [], hW', trodAll_mk1 (shut_bool Try.underlying4 _), (trodAll_cons_mk (Below.trod laidOut (by kernel_rfl) (of_decide_eq_true (by kernel_rfl)) k0 bel lt0) (trodAll_cons_mk (shut_int Try.underlying3 w1) (trodAll_cons_mk (shut_int Try.underlying3 w2) trodAll_mk0))), rfl, bel.frame _, fun h => by cases h⟩
theorem over : Rows.fnExactOrderOfPlaceRow.holds Try.pinned (OpenSpec.ofChange Rows.fnExactOrderOfPlaceSpec) :=
 OpenClaim.holds_of_wide 6 Try.f6 rfl rfl rfl rfl rfl rfl rfl ⟨rfl, rfl, rfl, rfl, rfl⟩ rfl rfl rfl rfl rfl (by kernel_rfl) Try.func6 (by kernel_rfl)
  (of_decide_eq_true (by kernel_rfl)) (by unfold Func.isWrapper; first | (rw [if_pos (by decide +kernel)]; kernel_rfl) | (rw [if_neg (by decide +kernel)]; exact ⟨rfl, rfl⟩))
  (fun os started H enc _ => lifted os started H enc)
theorem proved : Rows.FnExactOrderOfPlaceSaid := over
end Go.Proofs.Ytlbgajpbdbgmkaa.fnExactOrderOfPlace
namespace Go.Proofs.Ytlbgajpbdbgmkaa
theorem fnExactOrderOfPlace_holds : Rows.FnExactOrderOfPlaceSaid := fnExactOrderOfPlace.proved
#print axioms fnExactOrderOfPlace_holds
end Go.Proofs.Ytlbgajpbdbgmkaa
