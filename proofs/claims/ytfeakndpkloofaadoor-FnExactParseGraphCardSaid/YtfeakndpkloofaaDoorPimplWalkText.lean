-- Printed by a program of this session (pp.sh), out of the translation; Lean checks it.
import Derived.Test.YtfeakndpkloofaaDoorP0
import Derived.Test.YtfeakndpkloofaaDoorPimplin
import Derived.Test.YtfeakndpkloofaaDoorPimplwalkText
namespace Go.Proofs.YtfeakndpkloofaaDoor.P
open Go.RowKit Go.Proofs.YtfeakndpkloofaaDoorW.PrintWords Go.Proofs.YtfeakndpkloofaaDoorW.PrintLast Go.Proofs.YtfeakndpkloofaaDoorW.PrintMore
attribute [local go_sem] max2_int min2_int max_two min_two max_three min_three max_four min_four   -- for this text's walks alone
set_option linter.unusedVariables false
set_option linter.unusedSimpArgs false

/-! ### impl_WalkText: function 14 -/
/-- A test that is called: it answers p, and leaves what was. -/
def PredK (g : Nat) (lb : Array Value) (p : Int → Bool) (w : World) : Prop :=
  ∀ (W : World) (x : Int), Below w.heap.size w W → Calls Tryd.prog g (#[.int .i64 x] ++ lb) W fun e w' => e = .returned (.bool (p x)) ∧ Below W.heap.size W w'

/-- The first place from i on. -/
def idxF (p : Int → Bool) : List Int → Int → Int
  | [], _ => -1
  | x :: l, i => if p x then i else idxF p l (i + 1)
theorem idxF_any (p : Int → Bool) (l : List Int) : ∀ i : Int, 0 ≤ i → decide (0 ≤ idxF p l i) = l.any p := by
  induction l with
  | nil => intro i h; simp [idxF]
  | cons x l ih =>
    intro i h
    simp only [idxF, List.any_cons]
    by_cases hp : p x = true
    · simp [hp, h]
    · simp [hp, ih (i + 1) (by omega)]


set_option maxHeartbeats 8000000 in
set_option maxRecDepth 100000 in
theorem slices_IndexFunc.calls (p : Int → Bool) (g : Nat) (lb : Array Value) (eg : ∀ args w, (callFunc g args).run Tryd.prog w = .ok (.enter g args) w) (A0 : Option Addr) (c0 : Nat) (l0 : List Int) (w : World) (hr0 : Kd.C (Kd.int .i64) w A0 l0.length l0) (hc0 : l0.length ≤ c0) (hb : l0.length ≤ 9223372036854775807) (hp : PredK g lb p w) :
    Calls Tryd.prog 46 #[.slice A0 l0.length c0, .func (.func g) #[] lb] w fun e w' => e = .returned (.int .i64 (idxF p l0 0)) ∧ Below w.heap.size w w' := by
  have HR0 := Aside0.mk hr0
  have HC0 := Aside0.mk hc0
  clear hr0 hc0
  have HB := Aside0.mk (Below.refl w.heap.size w)
  have HP := Aside0.mk hp
  clear hp
  go_enter Tryd.func46, Tryd.ntmps46
  go_wp2
  go_loopg [5, 8] l0.length (fun kq _ v8 w' => ∃ j : Nat, v8 = .int .i64 j ∧ j ≤ l0.length ∧ l0.length - j ≤ kq ∧ Aside0 (idxF p l0 0 = idxF p (l0.drop j) j) ∧ Aside0 (Below w.heap.size w w'))
  case atStart => exact ⟨0, rfl, Nat.zero_le _, by omega, ⟨rfl⟩, ⟨HB.out⟩⟩
  case round =>
    obtain ⟨j, rfl, hj, hg, HA, HB⟩ := hrel
    by_cases hlt : j < l0.length
    · have hltz : (j : Int) < (l0.length : Int) := by omega
      have c0b := decide_eq_true hltz
      obtain ⟨ad101, e101, hx101_0⟩ := Kd.at_int HR0.out (j : Int) (by omega) hltz
      cases e101
      replace hx101_0 := (HB.out.cell (World.block_lt_of_cell? w _ hx101_0)).trans hx101_0
      rw [Int.toNat_natCast] at hx101_0
      have hcall := HP.out wr (rd l0 j) HB.out
      have hd : l0.drop j = rd l0 j :: l0.drop (j + 1) := by
        rw [List.drop_eq_getElem_cons hlt]; congr 1; simp [rd, hlt]
      have HD := Aside0.mk hd
      clear hd
      cases hq : p (rd l0 j) with
      | true =>
        rw [hq] at hcall
        have HQ := Aside0.mk hq
        clear hq
        go_wp2_with (fail)
        refine hcall.mono ?_
        rintro e w' ⟨rfl, hb'⟩
        go_wp2
        go_ret
        refine ⟨?_, HB.out.trans (hb'.mono HB.out.size)⟩
        rw [HA.out, HD.out]; simp only [idxF, HQ.out, if_true]; rfl
      | false =>
        rw [hq] at hcall
        have HQ := Aside0.mk hq
        clear hq
        go_wp2_with (fail)
        refine hcall.mono ?_
        rintro e w' ⟨rfl, hb'⟩
        go_wp2
        go_roundg (l0.length - (j + 1))
        case measure => omega
        case rel =>
          refine ⟨j + 1, by go_num, by omega, by omega, ⟨?_⟩, ⟨HB.out.trans (hb'.mono HB.out.size)⟩⟩
          rw [HA.out, HD.out]; simp only [idxF, HQ.out]; simp
    · have hltz : ¬ (j : Int) < (l0.length : Int) := by omega
      have : j = l0.length := by omega
      subst this
      go_wp2
      go_ret
      refine ⟨?_, HB.out⟩
      rw [HA.out, List.drop_length]; rfl

set_option maxHeartbeats 8000000 in
set_option maxRecDepth 100000 in
theorem slices_ContainsFunc.calls (p : Int → Bool) (g : Nat) (lb : Array Value) (eg : ∀ args w, (callFunc g args).run Tryd.prog w = .ok (.enter g args) w) (A0 : Option Addr) (c0 : Nat) (l0 : List Int) (w : World) (hr0 : Kd.C (Kd.int .i64) w A0 l0.length l0) (hc0 : l0.length ≤ c0) (hb : l0.length ≤ 9223372036854775807) (hp : PredK g lb p w) :
    Calls Tryd.prog 33 #[.slice A0 l0.length c0, .func (.func g) #[] lb] w fun e w' => e = .returned (.bool (l0.any p)) ∧ Below w.heap.size w w' := by
  rw [← idxF_any p l0 0 (by omega)]
  go_enter Tryd.func33, Tryd.ntmps33
  go_wp2_with (go_at_call 46; refine (slices_IndexFunc.calls p g lb eg A0 c0 l0 _ hr0 hc0 hb hp).mono ?_; rintro e w' ⟨rfl, hb'⟩)
  go_ret
  exact ⟨rfl, hb'⟩


set_option maxHeartbeats 8000000 in
set_option maxRecDepth 100000 in
theorem walkText_1.calls (q : Int) (w : World) :
    Calls Tryd.prog 34 #[.int .i64 q] w fun e w' => e = .returned (.bool (!decide (0 ≤ q) || !decide (q ≤ 4))) ∧ Below w.heap.size w w' := by
  have hi : impl_in.f q 0 4 = some (decide (0 ≤ q) && decide (q ≤ 4)) := by
    unfold impl_in.f; split
    · simp [*]
    · simp [*]
  have HI := Aside0.mk hi
  clear hi
  go_enter Tryd.func34, Tryd.ntmps34
  go_wp2_with (go_at_call 32; refine (impl_in.calls _ _ _ _ _ HI.out).mono ?_; rintro e w' ⟨rfl, ⟨nd, rfl⟩⟩)
  go_ret
  exact ⟨by first | rfl | (simp; done), by repeat (first | exact Below.refl _ _ | apply below_alloc | apply pw_below_drewN | apply below_drew1)⟩
def lenW (l : List Int) : Bool := decide (1 ≤ l.length) && decide (l.length ≤ 8)
def atW (l : List Int) (a : Int) : Bool := decide (0 ≤ a) && decide (a ≤ wrap64 ((l.length : Int) - 1))
def anyW (l : List Int) : Bool := l.any (fun q => !decide (0 ≤ q) || !decide (q ≤ 4))
def impl_WalkText.f (k : Nat) (l0_0 : List Int) (a0_1 : Int) : Option (ByteArray × Bool) := if (lenW l0_0 && atW l0_0 a0_1 && !anyW l0_0) = true then (impl_walkText.f k l0_0 a0_1).bind fun t => some (t, true) else some (⟨#[]⟩, false)
theorem impl_WalkText.mono : ∀ a0 a1 k, LeO (impl_WalkText.f k a0 a1) (impl_WalkText.f (k + 1) a0 a1) := by
  intro a0 a1 k
  unfold impl_WalkText.f
  exact LeO.ite (LeO.bind (impl_walkText.mono _ _ _) (fun _ => LeO.refl _)) (LeO.refl _)
set_option maxHeartbeats 8000000 in
set_option maxRecDepth 100000 in
theorem impl_WalkText.calls (k : Nat) (A0_0 : Option Addr) (c0_0 : Nat) (l0_0 : List Int) (a0_1 : Int) (r1 : ByteArray) (r2 : Bool) (w : World) (hr0_0 : Kd.C (Kd.int .i64) w A0_0 l0_0.length l0_0) (hc0_0 : l0_0.length ≤ c0_0) (h : impl_WalkText.f k l0_0 a0_1 = some (r1, r2)) :
    Calls Tryd.prog 14 #[.agg #[.slice A0_0 l0_0.length c0_0, .int .i64 a0_1]] w fun e w' => e = .returned (.tuple #[.string r1, .bool r2]) ∧ Below w.heap.size w w' := by
  have huW := Tryd.underlying37
  have HBIG := Aside0.mk (show l0_0.length ≤ 9223372036854775807 from hr0_0.2.1)
  have HR := Aside0.mk hr0_0
  have HC := Aside0.mk hc0_0
  clear hr0_0 hc0_0
  have hI1 : impl_in.f (l0_0.length : Int) 1 8 = some (lenW l0_0) := by
    unfold impl_in.f lenW; split
    · rename_i h1; have h2 : 1 ≤ l0_0.length := by omega
      simp [h2]; omega
    · rename_i h1; have h2 : ¬ 1 ≤ l0_0.length := by omega
      simp [h2]
  have hI2 : impl_in.f a0_1 0 (wrap64 ((l0_0.length : Int) - 1)) = some (atW l0_0 a0_1) := by
    unfold impl_in.f atW; split
    · simp [*]
    · simp [*]
  have H1 := Aside0.mk hI1
  have H2 := Aside0.mk hI2
  clear hI1 hI2
  cases e1 : lenW l0_0 with
  | false =>
    have hr : (⟨#[]⟩, false) = (r1, r2) := by
      unfold impl_WalkText.f at h; rw [e1] at h; simpa using h
    injection hr with hr1 hr2
    subst hr1
    subst hr2
    rw [e1] at H1
    clear h e1 H2
    go_enter Tryd.func14, Tryd.ntmps14
    go_wp2_with (go_at_call 32; with_reducible refine (impl_in.calls (l0_0.length : Int) 1 8 _ _ H1.out).mono ?_; rintro e w' ⟨rfl, ⟨nd, rfl⟩⟩)
    go_ret2
    exact ⟨rfl, by repeat (first | exact Below.refl _ _ | apply below_alloc | apply pw_below_drewN | apply below_drew1)⟩
  | true =>
    rw [e1] at H1
    cases e2 : atW l0_0 a0_1 with
    | false =>
      have hr : (⟨#[]⟩, false) = (r1, r2) := by
        unfold impl_WalkText.f at h; rw [e1, e2] at h; simpa using h
      injection hr with hr1 hr2
      subst hr1
      subst hr2
      rw [e2] at H2
      clear h e1 e2
      go_enter Tryd.func14, Tryd.ntmps14
      go_wp2_with (first | (go_at_call 32; with_reducible refine (impl_in.calls (l0_0.length : Int) 1 8 _ _ H1.out).mono ?_; rintro e w' ⟨rfl, ⟨nd, rfl⟩⟩) | (go_at_call 32; with_reducible refine (impl_in.calls a0_1 0 (wrap64 ((l0_0.length : Int) - 1)) _ _ H2.out).mono ?_; rintro e w' ⟨rfl, ⟨nd2, rfl⟩⟩))
      go_ret2
      exact ⟨rfl, by repeat (first | exact Below.refl _ _ | apply below_alloc | apply pw_below_drewN | apply below_drew1)⟩
    | true =>
      rw [e2] at H2
      cases e3 : anyW l0_0 with
      | true =>
        have hr : (⟨#[]⟩, false) = (r1, r2) := by
          unfold impl_WalkText.f at h; rw [e1, e2, e3] at h; simpa using h
        injection hr with hr1 hr2
        subst hr1
        subst hr2
        have HA := Aside0.mk (show l0_0.any (fun q => !decide (0 ≤ q) || !decide (q ≤ 4)) = true from e3)
        clear h e1 e2 e3
        go_enter Tryd.func14, Tryd.ntmps14
        go_wp2_with (first | (go_at_call 32; with_reducible refine (impl_in.calls (l0_0.length : Int) 1 8 _ _ H1.out).mono ?_; rintro e w' ⟨rfl, ⟨nd, rfl⟩⟩) | (go_at_call 32; with_reducible refine (impl_in.calls a0_1 0 (wrap64 ((l0_0.length : Int) - 1)) _ _ H2.out).mono ?_; rintro e w' ⟨rfl, ⟨nd2, rfl⟩⟩))
        refine (slices_ContainsFunc.calls (fun q => !decide (0 ≤ q) || !decide (q ≤ 4)) 34 _ (fun args w => rfl) A0_0 c0_0 l0_0 _ ?hr HC.out HBIG.out ?hp).mono ?_
        case hr =>
          with_reducible repeat (first | apply Kd.C_alloc | apply Kd.C_drewN | apply Kd.C_drew)
          exact HR.out
        case hp =>
          intro V q hV
          exact walkText_1.calls q V
        rintro e w3 ⟨rfl, hb3⟩
        have HB3 := Aside0.mk (show Below w.heap.size w w3 from below_step (by repeat (first | exact Below.refl _ _ | apply below_alloc | apply pw_below_drewN | apply below_drew1)) hb3)
        clear hb3
        rw [HA.out]
        go_wp2
        go_ret2
        exact ⟨rfl, HB3.out⟩
      | false =>
        have hr : ∃ t, impl_walkText.f k l0_0 a0_1 = some t ∧ t = r1 ∧ true = r2 := by
          unfold impl_WalkText.f at h; rw [e1, e2, e3] at h
          obtain ⟨t, ht, h⟩ := Option.bind_eq_some_iff.mp (show (impl_walkText.f k l0_0 a0_1).bind (fun t => some (t, true)) = some (r1, r2) from h)
          injection h with h
          injection h with h1 h2
          exact ⟨t, ht, h1, h2⟩
        obtain ⟨t, ht, rfl, rfl⟩ := hr
        have HT := Aside0.mk ht
        have HA := Aside0.mk (show l0_0.any (fun q => !decide (0 ≤ q) || !decide (q ≤ 4)) = false from e3)
        clear h e1 e2 e3 ht
        go_enter Tryd.func14, Tryd.ntmps14
        go_wp2_with (first | (go_at_call 32; with_reducible refine (impl_in.calls (l0_0.length : Int) 1 8 _ _ H1.out).mono ?_; rintro e w' ⟨rfl, ⟨nd, rfl⟩⟩) | (go_at_call 32; with_reducible refine (impl_in.calls a0_1 0 (wrap64 ((l0_0.length : Int) - 1)) _ _ H2.out).mono ?_; rintro e w' ⟨rfl, ⟨nd2, rfl⟩⟩))
        refine (slices_ContainsFunc.calls (fun q => !decide (0 ≤ q) || !decide (q ≤ 4)) 34 _ (fun args w => rfl) A0_0 c0_0 l0_0 _ ?hr HC.out HBIG.out ?hp).mono ?_
        case hr =>
          with_reducible repeat (first | apply Kd.C_alloc | apply Kd.C_drewN | apply Kd.C_drew)
          exact HR.out
        case hp =>
          intro V q hV
          exact walkText_1.calls q V
        rintro e w3 ⟨rfl, hb3⟩
        have HB3 := Aside0.mk (show Below w.heap.size w w3 from below_step (by repeat (first | exact Below.refl _ _ | apply below_alloc | apply pw_below_drewN | apply below_drew1)) hb3)
        have hx0 : w3.cell? ⟨w.heap.size, 0, none⟩ = some (.slice A0_0 l0_0.length c0_0) := (hb3.cell (by simp)).trans (by simp [World.cell?_alloc_new])
        have hx1 : w3.cell? ⟨w.heap.size, 1, none⟩ = some (.int .i64 a0_1) := (hb3.cell (by simp)).trans (by simp [World.cell?_alloc_new])
        clear hb3
        rw [HA.out]
        go_wp2_with (go_at_call 35; refine (impl_walkText.calls k A0_0 c0_0 l0_0 a0_1 t _ (Kd.C_below HR.out HB3.out) HC.out HT.out).mono ?_; rintro e w4 ⟨rfl, hb4⟩; have HB4 := Aside0.mk (below_step HB3.out hb4); clear hb4)
        go_ret2
        exact ⟨rfl, HB4.out⟩


end Go.Proofs.YtfeakndpkloofaaDoor.P
