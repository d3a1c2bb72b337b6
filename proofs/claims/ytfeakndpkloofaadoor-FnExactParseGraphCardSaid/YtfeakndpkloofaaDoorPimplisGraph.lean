-- Printed by a program of this session (pp.sh), out of the translation; Lean checks it.
import Derived.Test.YtfeakndpkloofaaDoorP0
import Derived.Test.YtfeakndpkloofaaDoorPimplin
import Derived.Test.YtfeakndpkloofaaDoorPimplWalkText
namespace Go.Proofs.YtfeakndpkloofaaDoor.P
open Go.RowKit Go.Proofs.YtfeakndpkloofaaDoorW.PrintWords Go.Proofs.YtfeakndpkloofaaDoorW.PrintLast Go.Proofs.YtfeakndpkloofaaDoorW.PrintMore
attribute [local go_sem] max2_int min2_int max_two min_two max_three min_three max_four min_four   -- for this text's walks alone
set_option linter.unusedVariables false
set_option linter.unusedSimpArgs false

/-! ### impl_isGraph: function 24 -/
set_option maxHeartbeats 8000000 in
set_option maxRecDepth 100000 in
theorem isGraph_1.calls (a : Addr) (n q : Int) (w : World) (hc : w.cell? a = some (.int .i64 n)) :
    Calls Tryd.prog 43 #[.int .i64 q, .pointer (some a)] w fun e w' => e = .returned (.bool (!decide (0 ≤ q) || !decide (q ≤ wrap64 (n - 1)))) ∧ Below w.heap.size w w' := by
  have hi : impl_in.f q 0 (wrap64 (n - 1)) = some (decide (0 ≤ q) && decide (q ≤ wrap64 (n - 1))) := by
    unfold impl_in.f; split
    · simp [*]
    · simp [*]
  have HI := Aside0.mk hi
  clear hi
  go_enter Tryd.func43, Tryd.ntmps43
  go_wp2_with (go_at_call 32; refine (impl_in.calls _ _ _ _ _ HI.out).mono ?_; rintro e w' ⟨rfl, ⟨nd, rfl⟩⟩)
  go_ret
  exact ⟨rfl, by repeat (first | exact Below.refl _ _ | apply below_alloc | apply pw_below_drewN | apply below_drew1)⟩

def goodRow (n : Int) (row : List Int) : Bool := decide (row.length ≤ 5) && row.all (fun q => decide (0 ≤ q) && decide (q ≤ n - 1))
theorem goodRow_any (n : Int) (row : List Int) : goodRow n row = (decide (row.length ≤ 5) && !row.any (fun q => !decide (0 ≤ q) || !decide (q ≤ n - 1))) := by
  unfold goodRow; congr 1; rw [List.all_eq_not_any_not]; simp only [Bool.not_and]
def goodG (l : List (List Int)) : Bool := decide (1 ≤ l.length) && (decide (l.length ≤ 8) && l.all (goodRow l.length))
def impl_isGraph.f (l0_0 : List (List Int)) : Option Bool := some (goodG l0_0)
set_option maxHeartbeats 8000000 in
set_option maxRecDepth 100000 in
theorem impl_isGraph.calls (A0_0 : Option Addr) (c0_0 : Nat) (l0_0 : List (List Int)) (r : Bool) (w : World) (hr0_0 : Kd.C (Kd.slice 3 (Kd.int .i64)) w A0_0 l0_0.length l0_0) (hc0_0 : l0_0.length ≤ c0_0) (h : impl_isGraph.f l0_0 = some r) :
    Calls Tryd.prog 24 #[.agg #[.slice A0_0 l0_0.length c0_0]] w fun e w' => e = .returned (.bool r) ∧ Below w.heap.size w w' := by
  have hu28 := Tryd.underlying28
  have HR0_0 := Aside0.mk hr0_0
  have HC0_0 := Aside0.mk hc0_0
  clear hr0_0 hc0_0
  obtain rfl := Option.some.inj h
  by_cases h1 : l0_0.length ≤ 8
  · have c1 : impl_in.f (l0_0.length : Int) 1 8 = some (decide (1 ≤ (l0_0.length : Int))) := by
      unfold impl_in.f; split <;> simp [*] <;> omega
    have C1 := Aside0.mk c1
    clear c1
    by_cases h2 : 1 ≤ (l0_0.length : Int)
    · have h2b := decide_eq_true h2
      go_enter Tryd.func24, Tryd.ntmps24
      go_wp2_with (go_at_call 32; refine (impl_in.calls _ _ _ _ _ C1.out).mono ?_; rintro e w' ⟨rfl, ⟨nd, rfl⟩⟩)
      go_loopg [2, 15] l0_0.length (fun kq v2 v15 w' => ∃ j : Nat, v2 = .bool false ∧ v15 = .int .i64 j ∧ j ≤ l0_0.length ∧ l0_0.length - j ≤ kq ∧ Aside0 (goodG l0_0 = (l0_0.drop j).all (goodRow l0_0.length)) ∧ Aside0 (Below w.heap.size w w') ∧ w'.cell? ⟨w.heap.size + 1, 0, none⟩ = some (.int .i64 l0_0.length))
      case atStart => exact ⟨0, rfl, rfl, Nat.zero_le _, by omega, ⟨by simp [goodG, h1]; omega⟩, ⟨by repeat (first | exact Below.refl _ _ | apply below_alloc | apply pw_below_drewN | apply below_drew1)⟩, by simp⟩
      case round =>
        obtain ⟨j, rfl, rfl, hj, hg, HA, HB, hcn⟩ := hrel
        clear C1
        by_cases hlt : j < l0_0.length
        · have hltz : (j : Int) < (l0_0.length : Int) := by omega
          have c0b := decide_eq_true hltz
          obtain ⟨ad101, A1, c1, e101, hx101_0, hl1, hi1⟩ := at_L3 HR0_0.out (j : Int) (by omega) hltz
          cases e101
          replace hx101_0 := (HB.out.cell (World.block_lt_of_cell? w _ hx101_0)).trans hx101_0
          rw [Int.toNat_natCast] at hx101_0
          have hd : l0_0.drop j = rd_L3 l0_0 j :: l0_0.drop (j + 1) := by
            rw [List.drop_eq_getElem_cons hlt]; congr 1; simp [rd_L3, hlt]
          have HD := Aside0.mk hd
          have HI1 := Aside0.mk hi1
          have HL1 := Aside0.mk hl1
          clear hd hi1 hl1
          generalize hrow : rd_L3 l0_0 j = row at hx101_0 HD HI1 HL1
          clear hrow
          by_cases h5 : row.length ≤ 5
          · have c9b0 : decide (5 < (row.length : Int)) = false := decide_eq_false (by omega)
            have c9b1 : decide (5 < row.length) = false := decide_eq_false (by omega)
            have hpred : ∀ W : World, Below wr.heap.size wr W → PredK 43 #[.pointer (some ⟨w.heap.size + 1, 0, none⟩)] (fun q => !decide (0 ≤ q) || !decide (q ≤ (l0_0.length : Int) - 1)) W := by
              intro W hW V q hV
              have hw1 : wrap64 ((l0_0.length : Int) - 1) = (l0_0.length : Int) - 1 := by unfold wrap64; omega
              have := isGraph_1.calls ⟨w.heap.size + 1, 0, none⟩ l0_0.length q V ?_
              · rw [hw1] at this; exact this
              have hlt := World.block_lt_of_cell? wr _ hcn
              exact (hV.cell (p := ⟨w.heap.size + 1, 0, none⟩) (Nat.lt_of_lt_of_le hlt hW.size)).trans ((hW.cell hlt).trans hcn)
            have HPR := Aside0.mk hpred
            clear hpred
            cases hq : row.any (fun q => !decide (0 ≤ q) || !decide (q ≤ (l0_0.length : Int) - 1)) with
            | true =>
              have HQ := Aside0.mk hq
              clear hq
              go_wp2_with (go_at_call 33; refine (slices_ContainsFunc.calls _ 43 _ (fun args w => rfl) A1 c1 row _ (Kd.C_below HI1.out HB.out) HL1.out (by omega) (HPR.out _ (Below.refl _ _))).mono ?_; rw [HQ.out]; rintro e w' ⟨rfl, hb'⟩)
              go_ret
              refine ⟨?_, HB.out.trans (hb'.mono HB.out.size)⟩
              rw [HA.out, HD.out, List.all_cons, goodRow_any, HQ.out]
              simp
            | false =>
              have HQ := Aside0.mk hq
              clear hq
              go_wp2_with (go_at_call 33; refine (slices_ContainsFunc.calls _ 43 _ (fun args w => rfl) A1 c1 row _ (Kd.C_below HI1.out HB.out) HL1.out (by omega) (HPR.out _ (Below.refl _ _))).mono ?_; rw [HQ.out]; rintro e w' ⟨rfl, hb'⟩)
              go_roundg (l0_0.length - (j + 1))
              case measure => omega
              case rel =>
                have hlt := World.block_lt_of_cell? wr _ hcn
                refine ⟨j + 1, rfl, by go_num, by omega, by omega, ⟨?_⟩, ⟨HB.out.trans (hb'.mono HB.out.size)⟩, (hb'.cell hlt).trans hcn⟩
                rw [HA.out, HD.out, List.all_cons, goodRow_any, HQ.out]
                simp [h5]
          · have c9b0 : decide (5 < (row.length : Int)) = true := decide_eq_true (by omega)
            have c9b1 : decide (5 < row.length) = true := decide_eq_true (by omega)
            go_wp2
            go_ret
            refine ⟨?_, HB.out⟩
            rw [HA.out, HD.out]; simp [goodRow, h5]
        · have hltz : ¬ (j : Int) < (l0_0.length : Int) := by omega
          have : j = l0_0.length := by omega
          subst this
          go_wp2
          go_ret
          refine ⟨?_, HB.out⟩
          rw [HA.out, List.drop_length]; rfl
    · have h2b := decide_eq_false h2
      go_enter Tryd.func24, Tryd.ntmps24
      go_wp2_with (go_at_call 32; refine (impl_in.calls _ _ _ _ _ C1.out).mono ?_; rintro e w' ⟨rfl, ⟨nd, rfl⟩⟩)
      go_ret
      refine ⟨?_, by repeat (first | exact Below.refl _ _ | apply below_alloc | apply pw_below_drewN | apply below_drew1)⟩
      have : ¬ 1 ≤ l0_0.length := by omega
      simp [goodG, this]
  · have c1 : impl_in.f (l0_0.length : Int) 1 8 = some false := by
      unfold impl_in.f; split <;> simp [*] <;> omega
    have C1 := Aside0.mk c1
    clear c1
    go_enter Tryd.func24, Tryd.ntmps24
    go_wp2_with (go_at_call 32; refine (impl_in.calls _ _ _ _ _ C1.out).mono ?_; rintro e w' ⟨rfl, ⟨nd, rfl⟩⟩)
    go_ret
    refine ⟨?_, by repeat (first | exact Below.refl _ _ | apply below_alloc | apply pw_below_drewN | apply below_drew1)⟩
    simp [goodG, h1]


end Go.Proofs.YtfeakndpkloofaaDoor.P
