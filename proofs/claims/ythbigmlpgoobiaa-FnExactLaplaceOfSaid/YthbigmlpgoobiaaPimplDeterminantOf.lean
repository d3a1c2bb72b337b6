-- Printed by a program of this session (pp.sh), out of the translation; Lean checks it.
import Derived.Test.YthbigmlpgoobiaaP0
import Derived.Test.YthbigmlpgoobiaaPimplin
import Derived.Test.YthbigmlpgoobiaaPimpldeterminant
namespace Go.Proofs.Ythbigmlpgoobiaa.P
open Go.RowKit Go.Proofs.YthbigmlpgoobiaaW.PrintWords Go.Proofs.YthbigmlpgoobiaaW.PrintLast Go.Proofs.YthbigmlpgoobiaaW.PrintMore
attribute [local go_sem] max2_int min2_int max_two min_two max_three min_three max_four min_four   -- for this text's walks alone
set_option linter.unusedVariables false
set_option linter.unusedSimpArgs false

/-! ### impl_DeterminantOf: function 10 -/
/-- A test that is called: it answers p, and leaves what was. -/
def PredK (g : Nat) (lb : Array Value) (p : Int → Bool) (w : World) : Prop :=
  ∀ (W : World) (x : Int), Below w.heap.size w W → Calls Try.prog g (#[.int .i64 x] ++ lb) W fun e w' => e = .returned (.bool (p x)) ∧ Below W.heap.size W w'

/-- The first place from i on. -/
def idxF (p : Int → Bool) : List Int → Int → Int
  | [], _ => -1
  | x :: l, i => if p x then i else idxF p l (i + 1)
theorem idxF_any (p : Int → Bool) (l : List Int) : ∀ i : Int, 0 ≤ i → decide (0 ≤ idxF p l i) = l.any p := by
  induction l with
  | nil => intro i h; simp [idxF]
  | cons x l ih =>
    intro i h
    simp only [idxF, List.any_cons]
    by_cases hp : p x = true
    · simp [hp, h]
    · simp [hp, ih (i + 1) (by omega)]


set_option maxHeartbeats 8000000 in
set_option maxRecDepth 100000 in
theorem slices_IndexFunc.calls (p : Int → Bool) (g : Nat) (lb : Array Value) (eg : ∀ args w, (callFunc g args).run Try.prog w = .ok (.enter g args) w) (A0 : Option Addr) (c0 : Nat) (l0 : List Int) (w : World) (hr0 : Kd.C (Kd.int .i64) w A0 l0.length l0) (hc0 : l0.length ≤ c0) (hb : l0.length ≤ 9223372036854775807) (hp : PredK g lb p w) :
    Calls Try.prog 44 #[.slice A0 l0.length c0, .func (.func g) #[] lb] w fun e w' => e = .returned (.int .i64 (idxF p l0 0)) ∧ Below w.heap.size w w' := by
  have HR0 := Aside0.mk hr0
  have HC0 := Aside0.mk hc0
  clear hr0 hc0
  have HB := Aside0.mk (Below.refl w.heap.size w)
  have HP := Aside0.mk hp
  clear hp
  go_enter Try.func44, Try.ntmps44
  go_wp2
  go_loopg [5, 8] l0.length (fun kq _ v8 w' => ∃ j : Nat, v8 = .int .i64 j ∧ j ≤ l0.length ∧ l0.length - j ≤ kq ∧ Aside0 (idxF p l0 0 = idxF p (l0.drop j) j) ∧ Aside0 (Below w.heap.size w w'))
  case atStart => exact ⟨0, rfl, Nat.zero_le _, by omega, ⟨rfl⟩, ⟨HB.out⟩⟩
  case round =>
    obtain ⟨j, rfl, hj, hg, HA, HB⟩ := hrel
    by_cases hlt : j < l0.length
    · have hltz : (j : Int) < (l0.length : Int) := by omega
      have c0b := decide_eq_true hltz
      obtain ⟨ad101, e101, hx101_0⟩ := Kd.at_int HR0.out (j : Int) (by omega) hltz
      cases e101
      replace hx101_0 := (HB.out.cell (World.block_lt_of_cell? w _ hx101_0)).trans hx101_0
      rw [Int.toNat_natCast] at hx101_0
      have hcall := HP.out wr (rd l0 j) HB.out
      have hd : l0.drop j = rd l0 j :: l0.drop (j + 1) := by
        rw [List.drop_eq_getElem_cons hlt]; congr 1; simp [rd, hlt]
      have HD := Aside0.mk hd
      clear hd
      cases hq : p (rd l0 j) with
      | true =>
        rw [hq] at hcall
        have HQ := Aside0.mk hq
        clear hq
        go_wp2_with (fail)
        refine hcall.mono ?_
        rintro e w' ⟨rfl, hb'⟩
        go_wp2
        go_ret
        refine ⟨?_, HB.out.trans (hb'.mono HB.out.size)⟩
        rw [HA.out, HD.out]; simp only [idxF, HQ.out, if_true]; rfl
      | false =>
        rw [hq] at hcall
        have HQ := Aside0.mk hq
        clear hq
        go_wp2_with (fail)
        refine hcall.mono ?_
        rintro e w' ⟨rfl, hb'⟩
        go_wp2
        go_roundg (l0.length - (j + 1))
        case measure => omega
        case rel =>
          refine ⟨j + 1, by go_num, by omega, by omega, ⟨?_⟩, ⟨HB.out.trans (hb'.mono HB.out.size)⟩⟩
          rw [HA.out, HD.out]; simp only [idxF, HQ.out]; simp
    · have hltz : ¬ (j : Int) < (l0.length : Int) := by omega
      have : j = l0.length := by omega
      subst this
      go_wp2
      go_ret
      refine ⟨?_, HB.out⟩
      rw [HA.out, List.drop_length]; rfl

set_option maxHeartbeats 8000000 in
set_option maxRecDepth 100000 in
theorem slices_ContainsFunc.calls (p : Int → Bool) (g : Nat) (lb : Array Value) (eg : ∀ args w, (callFunc g args).run Try.prog w = .ok (.enter g args) w) (A0 : Option Addr) (c0 : Nat) (l0 : List Int) (w : World) (hr0 : Kd.C (Kd.int .i64) w A0 l0.length l0) (hc0 : l0.length ≤ c0) (hb : l0.length ≤ 9223372036854775807) (hp : PredK g lb p w) :
    Calls Try.prog 28 #[.slice A0 l0.length c0, .func (.func g) #[] lb] w fun e w' => e = .returned (.bool (l0.any p)) ∧ Below w.heap.size w w' := by
  rw [← idxF_any p l0 0 (by omega)]
  go_enter Try.func28, Try.ntmps28
  go_wp2_with (go_at_call 44; refine (slices_IndexFunc.calls p g lb eg A0 c0 l0 _ hr0 hc0 hb hp).mono ?_; rintro e w' ⟨rfl, hb'⟩)
  go_ret
  exact ⟨rfl, hb'⟩


set_option maxHeartbeats 8000000 in
set_option maxRecDepth 100000 in
theorem detOf_1.calls (q : Int) (w : World) :
    Calls Try.prog 29 #[.int .i64 q] w fun e w' => e = .returned (.bool (!decide (-10 ≤ q) || !decide (q ≤ 10))) ∧ Below w.heap.size w w' := by
  have hi : impl_in.f q (-10) 10 = some (decide (-10 ≤ q) && decide (q ≤ 10)) := by
    unfold impl_in.f; split
    · simp [*]
    · simp [*]
  have HI := Aside0.mk hi
  clear hi
  go_enter Try.func29, Try.ntmps29
  go_wp2_with (go_at_call 30; refine (impl_in.calls _ _ _ _ _ HI.out).mono ?_; rintro e w' ⟨rfl, ⟨nd, rfl⟩⟩)
  go_ret
  exact ⟨by first | rfl | (simp; done), by repeat (first | exact Below.refl _ _ | apply below_alloc | apply pw_below_drewN | apply below_drew1)⟩
def detRow (n : Nat) (row : List Int) : Bool := decide (row.length = n) && row.all (fun q => decide (-10 ≤ q) && decide (q ≤ 10))
theorem detRow_any (n : Nat) (row : List Int) : detRow n row = (decide (row.length = n) && !row.any (fun q => !decide (-10 ≤ q) || !decide (q ≤ 10))) := by
  unfold detRow; congr 1; rw [List.all_eq_not_any_not]; simp only [Bool.not_and]
def impl_DeterminantOf.f (k : Nat) (l0 : List (List Int)) : Option (Int × Bool) := if l0.length ≤ 7 then (if l0.all (detRow l0.length) = true then ((impl_determinant.f k l0).bind fun t => (some (t, true))) else (some (0, false))) else (some (0, false))
theorem impl_DeterminantOf.mono : ∀ a0 k, LeO (impl_DeterminantOf.f k a0) (impl_DeterminantOf.f (k + 1) a0) := by
  intro a0 k
  unfold impl_DeterminantOf.f
  refine LeO.ite ?_ (LeO.refl _)
  refine LeO.ite ?_ (LeO.refl _)
  exact LeO.bind (impl_determinant.mono _ _) (fun _ => LeO.refl _)
set_option maxHeartbeats 8000000 in
set_option maxRecDepth 100000 in
theorem impl_DeterminantOf.calls (k : Nat) (A0 : Option Addr) (c0 : Nat) (l0 : List (List Int)) (r1 : Int) (r2 : Bool) (w : World) (hr0 : Kd.C (Kd.slice 3 (Kd.int .i64)) w A0 l0.length l0) (hc0 : l0.length ≤ c0) (h : impl_DeterminantOf.f k l0 = some (r1, r2)) :
    Calls Try.prog 10 #[.slice A0 l0.length c0] w fun e w' => e = .returned (.tuple #[.int .i64 r1, .bool r2]) ∧ Below w.heap.size w w' := by
  have HR0 := Aside0.mk hr0
  have HC0 := Aside0.mk hc0
  clear hr0 hc0
  have hpred : ∀ W : World, PredK 29 #[] (fun q => !decide (-10 ≤ q) || !decide (q ≤ 10)) W := fun W V q hV => detOf_1.calls q V
  have HPR := Aside0.mk hpred
  clear hpred
  unfold impl_DeterminantOf.f at h
  by_cases h1 : l0.length ≤ 7
  · rw [if_pos h1] at h
    have H := Aside0.mk h
    clear h
    have c1b0 : decide (7 < (l0.length : Int)) = false := decide_eq_false (by omega)
    have c1b1 : decide (7 < l0.length) = false := decide_eq_false (by omega)
    have H1 := Aside0.mk h1
    clear h1
    go_enter Try.func10, Try.ntmps10
    go_wp2
    clear c1b0 c1b1
    go_loopg [2, 3, 11] l0.length (fun kq v2 v3 v11 w' => ∃ j : Nat, v2 = .int .i64 0 ∧ v3 = .bool false ∧ v11 = .int .i64 j ∧ j ≤ l0.length ∧ l0.length - j ≤ kq ∧ Aside0 (l0.all (detRow l0.length) = (l0.drop j).all (detRow l0.length)) ∧ Aside0 (Below w.heap.size w w'))
    case atStart => exact ⟨0, rfl, rfl, rfl, Nat.zero_le _, by omega, ⟨by simp⟩, ⟨by repeat (first | exact Below.refl _ _ | apply below_alloc | apply pw_below_drewN | apply below_drew1)⟩⟩
    case round =>
      obtain ⟨j, rfl, rfl, rfl, hj, hg, HA, HB⟩ := hrel
      by_cases hlt : j < l0.length
      · have hltz : (j : Int) < (l0.length : Int) := by omega
        have c0b := decide_eq_true hltz
        obtain ⟨ad101, A1, c1, e101, hx101_0, hl1, hi1⟩ := at_L1 HR0.out (j : Int) (by omega) hltz
        cases e101
        replace hx101_0 := (HB.out.cell (World.block_lt_of_cell? w _ hx101_0)).trans hx101_0
        rw [Int.toNat_natCast] at hx101_0
        have hd : l0.drop j = rd_L1 l0 j :: l0.drop (j + 1) := by
          rw [List.drop_eq_getElem_cons hlt]; congr 1; simp [rd_L1, hlt]
        have HD := Aside0.mk hd
        have HI1 := Aside0.mk hi1
        have HL1 := Aside0.mk hl1
        clear hd hi1 hl1
        generalize hrow : rd_L1 l0 j = row at hx101_0 HD HI1 HL1
        clear hrow
        have hbig : row.length ≤ 9223372036854775807 := HI1.out.2.1
        have HBIG := Aside0.mk hbig
        clear hbig
        by_cases h5 : row.length = l0.length
        · have c9b0 : ((row.length : Int) == (l0.length : Int)) = true := beq_iff_eq.mpr (by omega)
          have c9b1 : ((row.length : Int) != (l0.length : Int)) = false := bne_eq_false_iff_eq.mpr (by omega)
          have H5 := Aside0.mk h5
          clear h5
          cases hq : row.any (fun q => !decide (-10 ≤ q) || !decide (q ≤ 10)) with
          | true =>
            have HQ := Aside0.mk hq
            clear hq
            go_wp2_with (go_at_call 28; refine (slices_ContainsFunc.calls _ 29 _ (fun args w => rfl) A1 c1 row _ (Kd.C_below HI1.out HB.out) HL1.out HBIG.out (HPR.out _)).mono ?_; rw [HQ.out]; rintro e w' ⟨rfl, hb'⟩)
            go_ret2
            have hh := H.out
            rw [HA.out, HD.out, List.all_cons, detRow_any, HQ.out] at hh
            simp at hh
            obtain ⟨rfl, rfl⟩ := hh
            exact ⟨rfl, HB.out.trans (hb'.mono HB.out.size)⟩
          | false =>
            have HQ := Aside0.mk hq
            clear hq
            go_wp2_with (go_at_call 28; refine (slices_ContainsFunc.calls _ 29 _ (fun args w => rfl) A1 c1 row _ (Kd.C_below HI1.out HB.out) HL1.out HBIG.out (HPR.out _)).mono ?_; rw [HQ.out]; rintro e w' ⟨rfl, hb'⟩)
            go_roundg (l0.length - (j + 1))
            case measure => omega
            case rel =>
              have h1 := H1.out
              refine ⟨j + 1, rfl, rfl, congrArg (Value.int .i64) (by unfold wrap64; omega), by omega, by omega, ⟨?_⟩, ⟨HB.out.trans (hb'.mono HB.out.size)⟩⟩
              rw [HA.out, HD.out, List.all_cons, detRow_any, HQ.out]
              simp [H5.out]
        · have c9b0 : ((row.length : Int) == (l0.length : Int)) = false := beq_eq_false_iff_ne.mpr (by omega)
          have c9b1 : ((row.length : Int) != (l0.length : Int)) = true := bne_iff_ne.mpr (by omega)
          have H5 := Aside0.mk h5
          clear h5
          go_wp2
          go_ret2
          have hh := H.out
          rw [HA.out, HD.out, List.all_cons, detRow, decide_eq_false H5.out] at hh
          simp at hh
          obtain ⟨rfl, rfl⟩ := hh
          exact ⟨rfl, HB.out⟩
      · have hltz : ¬ (j : Int) < (l0.length : Int) := by omega
        have : j = l0.length := by omega
        subst this
        have hh := H.out
        rw [HA.out, List.drop_length, List.all_nil, if_pos rfl] at hh
        obtain ⟨t, ht, hh⟩ := Option.bind_eq_some_iff.mp hh
        simp only [Option.some.injEq, Prod.mk.injEq] at hh
        obtain ⟨rfl, rfl⟩ := hh
        have HT := Aside0.mk ht
        clear ht
        go_wp2_with (go_at_call 31; refine (impl_determinant.calls k A0 c0 l0 t _ (Kd.C_below HR0.out HB.out) HC0.out HT.out).mono ?_; rintro e w' ⟨rfl, hb'⟩)
        go_ret2
        exact ⟨rfl, HB.out.trans (hb'.mono HB.out.size)⟩
  · rw [if_neg h1] at h
    simp only [Option.some.injEq, Prod.mk.injEq] at h
    obtain ⟨rfl, rfl⟩ := h
    have c1b0 : decide (7 < (l0.length : Int)) = true := decide_eq_true (by omega)
    have c1b1 : decide (7 < l0.length) = true := decide_eq_true (by omega)
    go_enter Try.func10, Try.ntmps10
    go_wp2
    go_ret2
    exact ⟨rfl, by repeat (first | exact Below.refl _ _ | apply below_alloc | apply pw_below_drewN | apply below_drew1)⟩


end Go.Proofs.Ythbigmlpgoobiaa.P
