/- Texts of this session on the way to the law FnExactOrbitOfTree, part 2: words of the print, walks, plain laws; only what the law's proof uses. -/
import Derived.Test.YtlbgajpbdbgmkaaCFnExactOrbitOfTreea
namespace Go.Proofs.Ytlbgajpbdbgmkaa.P
set_option maxHeartbeats 8000000
set_option maxRecDepth 100000
open Go.RowKit Go.Proofs.YtlbgajpbdbgmkaaW.PrintWords Go.Proofs.YtlbgajpbdbgmkaaW.PrintLast Go.Proofs.YtlbgajpbdbgmkaaW.PrintMore
attribute [local go_sem] zw0 zv0 zz0 zy0 zs0 zq0 zu0 zx0
set_option linter.unusedVariables false
set_option linter.unusedSimpArgs false
def PredK (g : Nat) (lb : Array Value) (p : Int → Bool) (w : World) : Prop :=
 ∀ (W : World) (x : Int), Below w.heap.size w W → Calls Try.prog g (#[.int .i64 x] ++ lb) W fun e w' => e = .returned (.bool (p x)) ∧ Below W.heap.size W w'
def idxF (p : Int → Bool) : List Int → Int → Int
 | [], _ => -1
 | x :: l, i => if p x then i else idxF p l (i + 1)
theorem idxF_any (p : Int → Bool) (l : List Int) : ∀ i : Int, 0 ≤ i → decide (0 ≤ idxF p l i) = l.any p := by
 induction l with
 | nil => intro i h; simp [idxF]
 | cons x l ih =>
  intro i h
  simp only [idxF, List.any_cons]
  by_cases hp : p x = true
  ·simp [hp, h]
  simp [hp, ih (i + 1) (by omega)]
theorem yn2.calls (p : Int → Bool) (g : Nat) (lb : Array Value) (eg : ∀ args w, (callFunc g args).run Try.prog w = .ok (.enter g args) w) (A0 : Option Addr) (c0 : Nat) (l0 : List Int) (w : World) (hr0 : Kd.C (Kd.int .i64) w A0 l0.length l0) (hc0 : l0.length ≤ c0) (hb : l0.length ≤ 9223372036854775807) (hp : PredK g lb p w) :
  Calls Try.prog 72 #[.slice A0 l0.length c0, .func (.func g) #[] lb] w fun e w' => e = .returned (.int .i64 (idxF p l0 0)) ∧ Below w.heap.size w w' := by
 have HR0 := za0.mk hr0
 have HC0 := za0.mk hc0
 clear hr0 hc0
 have HB := za0.mk (Below.refl w.heap.size w)
 have HP := za0.mk hp
 clear hp
 go_enter Try.func72, Try.ntmps72
 go_wp2
 go_loopg [5, 8] l0.length (fun kq _ v8 w' => ∃ j : Nat, v8 = .int .i64 j ∧ j ≤ l0.length ∧ l0.length - j ≤ kq ∧ za0 (idxF p l0 0 = idxF p (l0.drop j) j) ∧ za0 (Below w.heap.size w w'))
 case atStart => exact ⟨0, rfl, Nat.zero_le _, by omega, ⟨rfl⟩, ⟨HB.1⟩⟩
 case round =>
  obtain ⟨j, rfl, hj, hg, HA, HB⟩ := hrel
  by_cases hlt : j < l0.length
  rotate_left
  ·have hltz : ¬ (j : Int) < (l0.length : Int) := by omega
   have : j = l0.length := by omega
   subst this
   go_wp2
   go_ret
   refine ⟨?_, HB.1⟩
   rw [HA.1, List.drop_length]; rfl
  have hltz : (j : Int) < (l0.length : Int) := by omega
  have c0b := decide_eq_true hltz
  obtain ⟨ad101, e101, hx101_0⟩ := Kd.at_int HR0.1 (j : Int) (by omega) hltz
  cases e101
  replace hx101_0 := (HB.1.cell (World.block_lt_of_cell? w _ hx101_0)).trans hx101_0
  rw [Int.toNat_natCast] at hx101_0
  have hcall := HP.1 wr (rd l0 j) HB.1
  have hd : l0.drop j = rd l0 j :: l0.drop (j + 1) := by
   rw [List.drop_eq_getElem_cons hlt]; congr 1; simp [rd, hlt]
  have HD := za0.mk hd
  clear hd
  cases hq : p (rd l0 j) with
  | true =>
   rw [hq] at hcall
   have HQ := za0.mk hq
   clear hq
   go_wp2_with (fail)
   refine hcall.mono ?_
   rintro e w' ⟨rfl, hb'⟩
   go_wp2
   go_ret
   refine ⟨?_, HB.1.trans (hb'.mono HB.1.size)⟩
   rw [HA.1, HD.1]; simp only [idxF, HQ.1, if_true]; rfl
  | false =>
   rw [hq] at hcall
   have HQ := za0.mk hq
   clear hq
   go_wp2_with (fail)
   refine hcall.mono ?_
   rintro e w' ⟨rfl, hb'⟩
   go_wp2
   go_roundg (l0.length - (j + 1))
   case measure => omega
   case rel =>
    refine ⟨j + 1, by go_num, by omega, by omega, ⟨?_⟩, ⟨HB.1.trans (hb'.mono HB.1.size)⟩⟩
    rw [HA.1, HD.1]; simp only [idxF, HQ.1]; simp
theorem yj2.calls (p : Int → Bool) (g : Nat) (lb : Array Value) (eg : ∀ args w, (callFunc g args).run Try.prog w = .ok (.enter g args) w) (A0 : Option Addr) (c0 : Nat) (l0 : List Int) (w : World) (hr0 : Kd.C (Kd.int .i64) w A0 l0.length l0) (hc0 : l0.length ≤ c0) (hb : l0.length ≤ 9223372036854775807) (hp : PredK g lb p w) :
  Calls Try.prog 52 #[.slice A0 l0.length c0, .func (.func g) #[] lb] w fun e w' => e = .returned (.bool (l0.any p)) ∧ Below w.heap.size w w' := by
 rw [← idxF_any p l0 0 (by omega)]
 go_enter Try.func52, Try.ntmps52
 go_wp2_with (go_at_call 72; refine (yn2.calls p g lb eg A0 c0 l0 _ hr0 hc0 hb hp).mono ?_; rintro e w' ⟨rfl, hb'⟩)
 go_ret
 exact ⟨rfl, hb'⟩
theorem isGraph_1.calls (a : Addr) (n q : Int) (w : World) (hc : w.cell? a = some (.int .i64 n)) :
  Calls Try.prog 71 #[.int .i64 q, .pointer (some a)] w fun e w' => e = .returned (.bool (!decide (0 ≤ q) || !decide (q ≤ wrap64 (n - 1)))) ∧ Below w.heap.size w w' := by
 have hi : yc1.f q 0 (wrap64 (n - 1)) = some (decide (0 ≤ q) && decide (q ≤ wrap64 (n - 1))) := by
  unfold yc1.f; split
  ·simp [*]
  ·simp [*]
 have HI := za0.mk hi
 clear hi
 go_enter Try.func71, Try.ntmps71
 go_wp2_with (go_at_call 54; refine (yc1.calls _ _ _ _ _ HI.1).mono ?_; rintro e w' ⟨rfl, ⟨nd, rfl⟩⟩)
 go_ret
 exact ⟨rfl, by repeat (first | exact Below.refl _ _ | apply zc0 | apply zb0 | apply zd0)⟩
def goodRow (n : Int) (row : List Int) : Bool := decide (row.length ≤ 5) && row.all (fun q => decide (0 ≤ q) && decide (q ≤ n - 1))
theorem goodRow_any (n : Int) (row : List Int) : goodRow n row = (decide (row.length ≤ 5) && !row.any (fun q => !decide (0 ≤ q) || !decide (q ≤ n - 1))) := by
 unfold goodRow; congr 1; rw [List.all_eq_not_any_not]; simp only [Bool.not_and]
def goodG (l : List (List Int)) : Bool := decide (1 ≤ l.length) && (decide (l.length ≤ 8) && l.all (goodRow l.length))
def yb2.f (l0_0 : List (List Int)) : Option Bool := some (goodG l0_0)
theorem yb2.calls (A0_0 : Option Addr) (c0_0 : Nat) (l0_0 : List (List Int)) (r : Bool) (w : World) (hr0_0 : Kd.C (Kd.slice 3 (Kd.int .i64)) w A0_0 l0_0.length l0_0) (hc0_0 : l0_0.length ≤ c0_0) (h : yb2.f l0_0 = some r) :
  Calls Try.prog 51 #[.agg #[.slice A0_0 l0_0.length c0_0]] w fun e w' => e = .returned (.bool r) ∧ Below w.heap.size w w' := by
 have hu29 := Try.underlying29
 have HR0_0 := za0.mk hr0_0
 have HC0_0 := za0.mk hc0_0
 clear hr0_0 hc0_0
 obtain rfl := Option.some.inj h
 by_cases h1 : l0_0.length ≤ 8
 rotate_left
 ·have c1 : yc1.f (l0_0.length : Int) 1 8 = some false := by
   unfold yc1.f; split <;> simp [*] <;> omega
  have C1 := za0.mk c1
  clear c1
  go_enter Try.func51, Try.ntmps51
  go_wp2_with (go_at_call 54; refine (yc1.calls _ _ _ _ _ C1.1).mono ?_; rintro e w' ⟨rfl, ⟨nd, rfl⟩⟩)
  go_ret
  refine ⟨?_, by repeat (first | exact Below.refl _ _ | apply zc0 | apply zb0 | apply zd0)⟩
  simp [goodG, h1]
 have c1 : yc1.f (l0_0.length : Int) 1 8 = some (decide (1 ≤ (l0_0.length : Int))) := by
  unfold yc1.f; split <;> simp [*] <;> omega
 have C1 := za0.mk c1
 clear c1
 by_cases h2 : 1 ≤ (l0_0.length : Int)
 rotate_left
 ·have h2b := decide_eq_false h2
  go_enter Try.func51, Try.ntmps51
  go_wp2_with (go_at_call 54; refine (yc1.calls _ _ _ _ _ C1.1).mono ?_; rintro e w' ⟨rfl, ⟨nd, rfl⟩⟩)
  go_ret
  refine ⟨?_, by repeat (first | exact Below.refl _ _ | apply zc0 | apply zb0 | apply zd0)⟩
  have : ¬ 1 ≤ l0_0.length := by omega
  simp [goodG, this]
 have h2b := decide_eq_true h2
 go_enter Try.func51, Try.ntmps51
 go_wp2_with (go_at_call 54; refine (yc1.calls _ _ _ _ _ C1.1).mono ?_; rintro e w' ⟨rfl, ⟨nd, rfl⟩⟩)
 go_loopg [2, 15] l0_0.length (fun kq v2 v15 w' => ∃ j : Nat, v2 = .bool false ∧ v15 = .int .i64 j ∧ j ≤ l0_0.length ∧ l0_0.length - j ≤ kq ∧ za0 (goodG l0_0 = (l0_0.drop j).all (goodRow l0_0.length)) ∧ za0 (Below w.heap.size w w') ∧ w'.cell? ⟨w.heap.size + 1, 0, none⟩ = some (.int .i64 l0_0.length))
 case atStart => exact ⟨0, rfl, rfl, Nat.zero_le _, by omega, ⟨by simp [goodG, h1]; omega⟩, ⟨by repeat (first | exact Below.refl _ _ | apply zc0 | apply zb0 | apply zd0)⟩, by simp⟩
 case round =>
  obtain ⟨j, rfl, rfl, hj, hg, HA, HB, hcn⟩ := hrel
  clear C1
  by_cases hlt : j < l0_0.length
  rotate_left
  ·have hltz : ¬ (j : Int) < (l0_0.length : Int) := by omega
   have : j = l0_0.length := by omega
   subst this
   go_wp2
   go_ret
   refine ⟨?_, HB.1⟩
   rw [HA.1, List.drop_length]; rfl
  have hltz : (j : Int) < (l0_0.length : Int) := by omega
  have c0b := decide_eq_true hltz
  obtain ⟨ad101, A1, c1, e101, hx101_0, hl1, hi1⟩ := at_L1 HR0_0.1 (j : Int) (by omega) hltz
  cases e101
  replace hx101_0 := (HB.1.cell (World.block_lt_of_cell? w _ hx101_0)).trans hx101_0
  rw [Int.toNat_natCast] at hx101_0
  have hd : l0_0.drop j = rd_L1 l0_0 j :: l0_0.drop (j + 1) := by
   rw [List.drop_eq_getElem_cons hlt]; congr 1; simp [rd_L1, hlt]
  have HD := za0.mk hd
  have HI1 := za0.mk hi1
  have HL1 := za0.mk hl1
  clear hd hi1 hl1
  generalize hrow : rd_L1 l0_0 j = row at hx101_0 HD HI1 HL1
  clear hrow
  by_cases h5 : row.length ≤ 5
  rotate_left
  ·have c9b0 : decide (5 < (row.length : Int)) = true := decide_eq_true (by omega)
   have c9b1 : decide (5 < row.length) = true := decide_eq_true (by omega)
   go_wp2
   go_ret
   refine ⟨?_, HB.1⟩
   rw [HA.1, HD.1]; simp [goodRow, h5]
  have c9b0 : decide (5 < (row.length : Int)) = false := decide_eq_false (by omega)
  have c9b1 : decide (5 < row.length) = false := decide_eq_false (by omega)
  have hpred : ∀ W : World, Below wr.heap.size wr W → PredK 71 #[.pointer (some ⟨w.heap.size + 1, 0, none⟩)] (fun q => !decide (0 ≤ q) || !decide (q ≤ (l0_0.length : Int) - 1)) W := by
   intro W hW V q hV
   have hw1 : wrap64 ((l0_0.length : Int) - 1) = (l0_0.length : Int) - 1 := by unfold wrap64; omega
   have := isGraph_1.calls ⟨w.heap.size + 1, 0, none⟩ l0_0.length q V ?_
   ·rw [hw1] at this; exact this
   have hlt := World.block_lt_of_cell? wr _ hcn
   exact (hV.cell (p := ⟨w.heap.size + 1, 0, none⟩) (Nat.lt_of_lt_of_le hlt hW.size)).trans ((hW.cell hlt).trans hcn)
  have HPR := za0.mk hpred
  clear hpred
  cases hq : row.any (fun q => !decide (0 ≤ q) || !decide (q ≤ (l0_0.length : Int) - 1)) with
  | true =>
   have HQ := za0.mk hq
   clear hq
   go_wp2_with (go_at_call 52; refine (yj2.calls _ 71 _ (fun args w => rfl) A1 c1 row _ (Kd.C_below HI1.1 HB.1) HL1.1 (by omega) (HPR.1 _ (Below.refl _ _))).mono ?_; rw [HQ.1]; rintro e w' ⟨rfl, hb'⟩)
   go_ret
   refine ⟨?_, HB.1.trans (hb'.mono HB.1.size)⟩
   rw [HA.1, HD.1, List.all_cons, goodRow_any, HQ.1]
   simp
  | false =>
   have HQ := za0.mk hq
   clear hq
   go_wp2_with (go_at_call 52; refine (yj2.calls _ 71 _ (fun args w => rfl) A1 c1 row _ (Kd.C_below HI1.1 HB.1) HL1.1 (by omega) (HPR.1 _ (Below.refl _ _))).mono ?_; rw [HQ.1]; rintro e w' ⟨rfl, hb'⟩)
   go_roundg (l0_0.length - (j + 1))
   case measure => omega
   case rel =>
    have hlt := World.block_lt_of_cell? wr _ hcn
    refine ⟨j + 1, rfl, by go_num, by omega, by omega, ⟨?_⟩, ⟨HB.1.trans (hb'.mono HB.1.size)⟩, (hb'.cell hlt).trans hcn⟩
    rw [HA.1, HD.1, List.all_cons, goodRow_any, HQ.1]
    simp [h5]
theorem has_1.calls (b : Nat) (A : Option Addr) (n c : Nat) (q : Int) (w : World) (hc : w.cell? ⟨b, 0, none⟩ = some (.slice A n c)) :
  Calls Try.prog 53 #[.int .i64 q, .pointer (some ⟨b, 0, none⟩)] w fun e w' => e = .returned (.bool (!decide (0 ≤ q) || !decide (q ≤ wrap64 ((n : Int) - 1)))) ∧ Below w.heap.size w w' := by
 have hu := Try.underlying29
 have hi : yc1.f q 0 (wrap64 ((n : Int) - 1)) = some (decide (0 ≤ q) && decide (q ≤ wrap64 ((n : Int) - 1))) := by
  unfold yc1.f; split
  ·simp [*]
  ·simp [*]
 have HI := za0.mk hi
 clear hi
 go_enter Try.func53, Try.ntmps53
 go_wp2_with (go_at_call 54; refine (yc1.calls _ _ _ _ _ HI.1).mono ?_; rintro e w' ⟨rfl, ⟨nd, rfl⟩⟩)
 go_ret
 exact ⟨rfl, by repeat (first | exact Below.refl _ _ | apply zc0 | apply zb0 | apply zd0)⟩
def yb1.f (l0_0 : List (List Int)) (l1 : List Int) : Option Bool := some (goodG l0_0 && l1.all (fun q => decide (0 ≤ q) && decide (q ≤ (l0_0.length : Int) - 1)))
theorem has_any (n : Int) (l : List Int) : (l.all fun q => decide (0 ≤ q) && decide (q ≤ n - 1)) = !l.any (fun q => !decide (0 ≤ q) || !decide (q ≤ n - 1)) := by
 rw [List.all_eq_not_any_not]; simp only [Bool.not_and]
theorem yb1.calls (A0_0 : Option Addr) (c0_0 : Nat) (l0_0 : List (List Int)) (A1 : Option Addr) (c1 : Nat) (l1 : List Int) (r : Bool) (w : World) (hr0_0 : Kd.C (Kd.slice 3 (Kd.int .i64)) w A0_0 l0_0.length l0_0) (hc0_0 : l0_0.length ≤ c0_0) (hr1 : Kd.C (Kd.int .i64) w A1 l1.length l1) (hc1 : l1.length ≤ c1) (h : yb1.f l0_0 l1 = some r) :
  Calls Try.prog 32 #[.agg #[.slice A0_0 l0_0.length c0_0], .slice A1 l1.length c1] w fun e w' => e = .returned (.bool r) ∧ Below w.heap.size w w' := by
 have hu25 := Try.underlying29
 obtain rfl := Option.some.inj h
 clear h
 have hbig : l1.length ≤ 9223372036854775807 := hr1.2.1
 have HBIG := za0.mk hbig
 clear hbig
 have HR0_0 := za0.mk hr0_0
 have HC0_0 := za0.mk hc0_0
 have HR1 := za0.mk hr1
 have HC1 := za0.mk hc1
 clear hr0_0 hc0_0 hr1 hc1
 by_cases hg : goodG l0_0 = true
 rotate_left
 ·have hg' : goodG l0_0 = false := Bool.eq_false_iff.mpr hg
  have HG := za0.mk hg'
  clear hg hg'
  have hgr : yb2.f l0_0 = some false := by unfold yb2.f; rw [HG.1]
  have HGR := za0.mk hgr
  clear hgr
  go_enter Try.func32, Try.ntmps32
  go_wp2_with (fail)
  refine (yb2.calls A0_0 c0_0 l0_0 false _ (Kd.C_alloc HR0_0.1 _) HC0_0.1 HGR.1).mono ?_
  rintro e w1 ⟨rfl, hb1⟩
  have HB1 := za0.mk hb1
  clear hb1
  go_wp2
  go_ret
  refine ⟨?_, ?_⟩
  ·rw [HG.1]; rfl
  ·exact (zc0 (Below.refl _ _) _).trans (HB1.1.mono (by simp))
 have HG := za0.mk hg
 have hlen : 1 ≤ l0_0.length ∧ l0_0.length ≤ 8 := by
  simp only [goodG, Bool.and_eq_true, decide_eq_true_eq] at hg; exact ⟨hg.1, hg.2.1⟩
 have HW := za0.mk (show wrap64 ((l0_0.length : Int) - 1) = (l0_0.length : Int) - 1 by unfold wrap64; omega)
 clear hg hlen
 have HA : za0 (goodG l0_0 && l1.all (fun q => decide (0 ≤ q) && decide (q ≤ (l0_0.length : Int) - 1))) = za0 (!l1.any (fun q => !decide (0 ≤ q) || !decide (q ≤ (l0_0.length : Int) - 1))) := by
  rw [HG.1, Bool.true_and, has_any]
 have hres : (goodG l0_0 && l1.all (fun q => decide (0 ≤ q) && decide (q ≤ (l0_0.length : Int) - 1))) = !l1.any (fun q => !decide (0 ≤ q) || !decide (q ≤ (l0_0.length : Int) - 1)) := by
  rw [HG.1, Bool.true_and, has_any]
 clear HA
 have HRES := za0.mk hres
 clear hres
 have hgr : yb2.f l0_0 = some true := by unfold yb2.f; rw [HG.1]
 have HGR := za0.mk hgr
 clear hgr
 go_enter Try.func32, Try.ntmps32
 go_wp2_with (fail)
 refine (yb2.calls A0_0 c0_0 l0_0 true _ (Kd.C_alloc HR0_0.1 _) HC0_0.1 HGR.1).mono ?_
 rintro e w1 ⟨rfl, hb1⟩
 have HB1 := za0.mk hb1
 clear hb1
 go_wp2_with (fail)
 refine (yj2.calls (fun q => !decide (0 ≤ q) || !decide (q ≤ (l0_0.length : Int) - 1)) 53 _ (fun args w => rfl) A1 c1 l1 _ (Kd.C_below (Kd.C_alloc HR1.1 _) HB1.1) HC1.1 HBIG.1 ?hp).mono ?_
 case hp =>
  intro V q hV
  have h0 := has_1.calls w.heap.size A0_0 l0_0.length c0_0 q V ((hV.cell (p := ⟨w.heap.size, 0, none⟩) (by have := HB1.1.size; simp at this; simp; omega)).trans ((HB1.1.cell (p := ⟨w.heap.size, 0, none⟩) (by simp)).trans (by simp)))
  rw [HW.1] at h0; exact h0
 rintro e w2 ⟨rfl, hb2⟩
 have HB2 := za0.mk hb2
 clear hb2
 go_wp2
 go_ret
 refine ⟨?_, ?_⟩
 ·rw [HRES.1]; rfl
 ·exact (zc0 (Below.refl _ _) _).trans ((HB1.1.trans (HB2.1.mono HB1.1.size)).mono (by simp))
def yg2.f (a0 : Int) (a1 : Int) : Option (Int × Int) := some (IntKind.u64.wrap ((IntKind.u64.wrap ((IntKind.u64.wrap ((a0 / 4294967296) * (a1 / 4294967296))) + ((IntKind.u64.wrap ((IntKind.u64.wrap ((a0 / 4294967296) * (Go.bits .and .u64 a1 4294967295))) + ((IntKind.u64.wrap ((Go.bits .and .u64 a0 4294967295) * (Go.bits .and .u64 a1 4294967295))) / 4294967296))) / 4294967296))) + ((IntKind.u64.wrap ((Go.bits .and .u64 (IntKind.u64.wrap ((IntKind.u64.wrap ((a0 / 4294967296) * (Go.bits .and .u64 a1 4294967295))) + ((IntKind.u64.wrap ((Go.bits .and .u64 a0 4294967295) * (Go.bits .and .u64 a1 4294967295))) / 4294967296))) 4294967295) + (IntKind.u64.wrap ((Go.bits .and .u64 a0 4294967295) * (a1 / 4294967296))))) / 4294967296)), IntKind.u64.wrap (a0 * a1))
theorem yg2.calls (a0 : Int) (a1 : Int) (r1 : Int) (r2 : Int) (w : World) (h : yg2.f a0 a1 = some (r1, r2)) :
  Calls Try.prog 91 #[.int .u64 a0, .int .u64 a1] w fun e w' => e = .returned (.tuple #[.int .u64 r1, .int .u64 r2]) ∧ zt0 w w' := by
 have H : (some (IntKind.u64.wrap ((IntKind.u64.wrap ((IntKind.u64.wrap ((a0 / 4294967296) * (a1 / 4294967296))) + ((IntKind.u64.wrap ((IntKind.u64.wrap ((a0 / 4294967296) * (Go.bits .and .u64 a1 4294967295))) + ((IntKind.u64.wrap ((Go.bits .and .u64 a0 4294967295) * (Go.bits .and .u64 a1 4294967295))) / 4294967296))) / 4294967296))) + ((IntKind.u64.wrap ((Go.bits .and .u64 (IntKind.u64.wrap ((IntKind.u64.wrap ((a0 / 4294967296) * (Go.bits .and .u64 a1 4294967295))) + ((IntKind.u64.wrap ((Go.bits .and .u64 a0 4294967295) * (Go.bits .and .u64 a1 4294967295))) / 4294967296))) 4294967295) + (IntKind.u64.wrap ((Go.bits .and .u64 a0 4294967295) * (a1 / 4294967296))))) / 4294967296)), IntKind.u64.wrap (a0 * a1))) = some (r1, r2) := h
 clear h
 simp only [Option.some.injEq, Prod.mk.injEq] at H
 obtain ⟨rfl, rfl⟩ := H
 go_enter Try.func91, Try.ntmps91
 go_wp2
 go_ret2
 exact ⟨by first | rfl | (simp; done) | (simp [*]; done), by repeat (first | exact zt0.refl _ | apply zt0.step)⟩
def yi2.f (a0 : Int) (a1 : Int) : Option (Int × Int) := (yg2.f a0 a1).bind fun bt101 => (some (bt101.1, bt101.2))
theorem yi2.calls (a0 : Int) (a1 : Int) (r1 : Int) (r2 : Int) (w : World) (h : yi2.f a0 a1 = some (r1, r2)) :
  Calls Try.prog 89 #[.int .u64 a0, .int .u64 a1] w fun e w' => e = .returned (.tuple #[.int .u64 r1, .int .u64 r2]) ∧ zt0 w w' := by
 have H : ((yg2.f a0 a1).bind fun bt101 => (some (bt101.1, bt101.2))) = some (r1, r2) := h
 clear h
 replace H := Option.bind_eq_some_iff.mp H
 obtain ⟨⟨t101, t102⟩, A30, H⟩ := H
 replace H : (some (t101, t102)) = some (r1, r2) := H
 have A3 := za0.mk A30
 clear A30
 simp only [Option.some.injEq, Prod.mk.injEq] at H
 obtain ⟨rfl, rfl⟩ := H
 go_enter Try.func89, Try.ntmps89
 go_wp2_with (first | ((with_reducible refine zn0 (f := 91) rfl ?_); refine za1 (some 25) rfl rfl Try.func91 (by kernel_rfl) rfl #[.int .u64 a0, .int .u64 a1] rfl (by (try simp only [List.map_toArray, List.map_cons, List.map_nil]); first | done | rfl | (simp only [List.length_drop, List.length_take]; rfl)) ?_; (with_reducible refine (yg2.calls a0 a1 t101 t102 _ A3.1).mono ?_); rintro e w' ⟨rfl, ⟨nd, rfl⟩⟩; refine ⟨_, rfl, ?_⟩))
 go_ret2
 exact ⟨by first | rfl | (simp; done) | (simp [*]; done), by repeat (first | exact zt0.refl _ | apply zt0.step)⟩
def yt1.f (l0 : List Int) (a1 : Int) : Option (List Int) := if l0.length = 1 ∧ 1 ≤ a1 ∧ a1 ≤ 8 then some (List.replicate a1.toNat (l0.getD 0 0)) else none
theorem own_row {w : World} {b : Nat} {v : Value} {l : List Int} (h : Kd.R (Kd.int .i64) 3 w b (fun _ => True) v l) (hl : 0 < l.length) : ∃ (g cap : Nat) (cur : List Value), v = .slice (some ⟨g, 0, none⟩) l.length cap ∧ b ≤ g ∧ za0 (w.heap[g]? = some (.cells cur.toArray 3 (0, 0))) ∧ l.length ≤ cap ∧ cap ≤ maxLen ∧ cur.length = cap ∧ za0 (cur.take l.length = l.map (Value.int .i64)) := by
 obtain ⟨h1, h2⟩ := Kd.own_of_R h
 rcases h2 with ⟨_, h2⟩ | ⟨g, cap, cur, rfl, hg, hh, hn, hc, hs, ht⟩
 ·omega
 ·exact ⟨g, cap, cur.toList, rfl, hg, ⟨by simpa using hh⟩, hn, hc, by simpa using hs, ⟨by simpa [encs] using ht⟩⟩
theorem rep_at {f : Int → Value} {cu : List Value} {c n : Nat} {x z : Int} (h : cu.take n = (List.replicate c x ++ List.replicate (n - c) z).map f) {i : Nat} (hi : i < n) (hc : c ≤ n) : cu[i]? = some (f (if i < c then x else z)) := by
 have h1 : (cu.take n)[i]? = cu[i]? := by rw [List.getElem?_take, if_pos hi]
 rw [← h1, h, List.getElem?_map, List.getElem?_append, List.length_replicate]
 by_cases hic : i < c
 ·rw [if_pos hic, if_pos hic, List.getElem?_replicate, if_pos hic]; rfl
 rw [if_neg hic, if_neg hic, List.getElem?_replicate, if_pos (by omega)]; rfl
theorem splice_rep {f : Int → Value} (cu : List Value) (c m n : Nat) (x z : Int) (h : cu.take n = (List.replicate c x ++ List.replicate (n - c) z).map f) (hn : n ≤ cu.length) (h1 : m ≤ c) (h2 : c + m ≤ n) : (splice cu c (cu.take m)).take n = (List.replicate (c + m) x ++ List.replicate (n - (c + m)) z).map f := by
 have hl : (cu.take m).length = m := by rw [List.length_take]; omega
 apply List.ext_getElem?
 intro i
 by_cases hi : i < n
 rotate_left
 ·rw [List.getElem?_eq_none (by rw [List.length_take]; omega), List.getElem?_eq_none (by simp; omega)]
 rw [List.getElem?_take, if_pos hi, List.getElem?_map, List.getElem?_append (l₁ := List.replicate (c + m) x), List.length_replicate]
 unfold splice
 rw [hl, List.getElem?_append, List.length_take, Nat.min_eq_left (by omega)]
 by_cases a : i < c
 ·rw [if_pos a, List.getElem?_take, if_pos a, rep_at h hi (by omega), if_pos a, if_pos (by omega), List.getElem?_replicate, if_pos (by omega)]; rfl
 rw [if_neg a, List.getElem?_append, hl]
 by_cases b : i - c < m
 ·rw [if_pos b, List.getElem?_take, if_pos b, rep_at h (by omega) (by omega), if_pos (by omega), if_pos (by omega), List.getElem?_replicate, if_pos (by omega)]; rfl
 rw [if_neg b, List.getElem?_drop, show c + m + (i - c - m) = i by omega, rep_at h hi (by omega), if_neg a, if_neg (by omega), List.getElem?_replicate, if_pos (by omega)]; rfl
theorem copy_cell {w : World} {g t m : Nat} {cu : List Value} (h : w.heap[g]? = some (.cells cu.toArray t (0, 0))) {j : Nat} {v : Value} (hj : (cu.take m)[j]? = some v) : w.cell? (Addr.add ⟨g, 0, none⟩ j) = some v := by
 rw [List.getElem?_take] at hj
 split at hj
 ·rw [Addr.add_lit, Nat.zero_add, zl0 h j]; simpa using hj
 ·cases hj
theorem one_of_rep {cu : List Value} {c n m : Nat} {x z : Int} (h : cu.take n = (List.replicate c x ++ List.replicate (n - c) z).map (Value.int .i64)) (h1 : m ≤ c) (h2 : c ≤ n) {v : Value} (hv : v ∈ cu.take m) : v.oneCell' = true := by
 have h3 : v ∈ cu.take n := by
  have : cu.take m = (cu.take n).take m := by rw [List.take_take, Nat.min_eq_left (by omega)]
  rw [this] at hv
  exact List.mem_of_mem_take hv
 rw [h, List.mem_map] at h3
 obtain ⟨y, _, rfl⟩ := h3
 rfl
theorem mul_one_small (n : Int) (h : 1 ≤ n ∧ n ≤ 8) : yi2.f 1 n = some (0, n) := by
 have : n = 1 ∨ n = 2 ∨ n = 3 ∨ n = 4 ∨ n = 5 ∨ n = 6 ∨ n = 7 ∨ n = 8 := by omega
 rcases this with rfl | rfl | rfl | rfl | rfl | rfl | rfl | rfl <;> rfl
theorem yt1.calls (A0 : Option Addr) (c0 : Nat) (l0 : List Int) (a1 : Int) (r : List Int) (w : World) (hr0 : Kd.C (Kd.int .i64) w A0 l0.length l0) (hc0 : l0.length ≤ c0) (h : yt1.f l0 a1 = some r) :
  Calls Try.prog 88 #[.slice A0 l0.length c0, .int .i64 a1] w fun e w' => ∃ v0_ : Value, e = .returned (v0_) ∧ Kd.R (Kd.int .i64) 3 w' w.heap.size (fun _ => True) v0_ r ∧ Below w.heap.size w w' := by
 unfold yt1.f at h
 by_cases hc : l0.length = 1 ∧ 1 ≤ a1 ∧ a1 ≤ 8
 rotate_left
 ·rw [if_neg hc] at h
  cases h
 rw [if_pos hc] at h
 obtain rfl := Option.some.inj h
 clear h
 obtain ⟨h1, h2, h3⟩ := hc
 obtain ⟨x, rfl⟩ : ∃ x, l0 = [x] := by
  match l0, h1 with
  | [x], _ => exact ⟨x, rfl⟩
 have HM := za0.mk (mul_one_small a1 ⟨h2, h3⟩)
 obtain ⟨n, rfl⟩ : ∃ n : Nat, a1 = n := ⟨a1.toNat, by omega⟩
 have hneg : decide ((n : Int) < 0) = false := decide_eq_false (by omega)
 have HR0 := za0.mk hr0
 have HC0 := za0.mk hc0
 clear hr0 hc0 h1
 have HB := za0.mk (Below.refl w.heap.size w)
 go_enter Try.func88, Try.ntmps88
 obtain ⟨ad, eA, hx⟩ := Kd.at_int HR0.1 0 (by omega) (by simp)
 cases eA
 have HX := za0.mk (show w.cell? (ad.add 0) = some (.int .i64 x) from hx)
 clear hx
 go_wp2_with (fail)
 refine (yi2.calls 1 n 0 n _ HM.1).mono ?_
 rintro e w' ⟨rfl, ⟨nd, rfl⟩⟩
 have hgt : decide ((n : Int) > 9223372036854775807) = false := decide_eq_false (by omega)
 have hw1 : wrap64 (n : Int) = n := by unfold wrap64; omega
 have HW1 := za0.mk hw1
 clear hw1
 go_wp2_with (first | ((with_reducible refine zo0 (N := 30) rfl ?_); refine Kd.R_make (Kd.int .i64) _ 3 rfl (N := 30) rfl 25 _ _ rfl (n : Int) rfl rfl Try.underlying25 (.int .i64 0) 8 info3 rfl (by decide) (by omega) 0 (ok := fun _ => True) (okp := fun _ => True) rfl (fun _ hk => hk) trivial (by omega) (by omega) (Below.refl _ _) (Nat.le_refl _) ?_; intro v122 w4 ho5 hb hg_ hnew_; clear hg_ hnew_; obtain ⟨g, cap, cur, rfl, hbg, HCUR, hnc, hcm, hcs, hct⟩ := own_row ho5 (by simp; omega); have HB4 := za0.mk (show Below w.heap.size w w4 from (zb0 (Below.refl _ _) nd).trans (hb.mono (by simp))); have HG4 := za0.mk (show w.heap.size ≤ g from hbg); clear ho5 hb hbg; simp only [List.length_replicate, Int.toNat_natCast] at hnc hct ⊢) | ((with_reducible refine wpList_copy_splice rfl (.tmp 31) (.tmp 32) 25 25 rfl 3 Try.underlying25 ?isz (some ⟨g, 0, none⟩) (some ad) n cap 1 c0 rfl rfl g 0 cur 3 HCUR.1 [.int .i64 x] ?hn ?hpos ?hfit ?h1 w.heap.size w HB4.1 HG4.1 ?_); (case isz => rfl); (case hn => exact (Nat.min_eq_left (by omega : 1 ≤ n)).symm); (case hpos => (intro _; exact ⟨rfl, ad, rfl, fun j v hj => by (have hj0 : j = 0 := by (cases j with | zero => rfl | succ j => simp at hj)); subst hj0; obtain rfl := Option.some.inj hj; exact (HB4.1.cell (World.block_lt_of_cell? w _ HX.1)).trans HX.1⟩)); (case hfit => show 0 + 1 ≤ cur.length; omega); (case h1 => (intro v hv; obtain rfl := List.mem_singleton.1 hv; rfl)); intro w5 hc5 hb5; have HC5 := za0.mk hc5.out; have HB5 := za0.mk hb5; clear hc5 hb5 HCUR))
 obtain ⟨i0q, hi0q, _, hszq, _⟩ := info_parts info3
 have HI := za0.mk hi0q
 have HSZ := za0.mk hszq
 clear hi0q hszq
 have HISZ := za0.mk (show (Try.prog.info? 3).map (·.size) = some 1 by rw [HI.1]; simp [HSZ.1])
 have HST := za0.mk (show (splice cur 0 [Value.int .i64 x]).take n = (List.replicate 1 x ++ List.replicate (n - 1) 0).map (Value.int .i64) by
  have h0 := hct.out
  cases hcur : cur with
  | nil => rw [hcur] at hcs; simp at hcs; omega
  | cons y ys =>
   rw [hcur] at h0
   obtain ⟨m, rfl⟩ : ∃ m, n = m + 1 := ⟨n - 1, by omega⟩
   simp only [List.take_succ_cons, List.replicate_succ, List.map_cons] at h0
   injection h0 with h01 h02
   simp [splice, h02])
 have HLS := za0.mk (show (splice cur 0 [Value.int .i64 x]).length = cap by rw [length_splice _ _ _ (by show 0 + 1 ≤ cur.length; omega)]; exact hcs)
 go_loopg [8] n (fun kq v8 w' => ∃ (c : Nat) (cu : List Value), v8 = .int .i64 c ∧ 1 ≤ c ∧ c ≤ n ∧ n - c ≤ kq ∧ za0 (w'.heap[g]? = some (.cells cu.toArray 3 (0, 0))) ∧ za0 (cu.length = cap) ∧ za0 (cu.take n = (List.replicate c x ++ List.replicate (n - c) 0).map (Value.int .i64)) ∧ za0 (Below w.heap.size w w'))
 case atStart => exact ⟨1, _, rfl, Nat.le_refl _, by omega, by omega, ⟨HC5.1⟩, ⟨HLS.1⟩, ⟨HST.1⟩, ⟨HB5.1⟩⟩
 case round =>
  clear HC5 HLS HST HB5 hct HB4 HB
  obtain ⟨c, cu, rfl, hc1, hcn, hg, HC, HL, HT, HB⟩ := hrel
  by_cases hlt : c < n
  rotate_left
  ·have hcn' : c = n := by omega
   subst hcn'
   have hltz : ¬ (c : Int) < (c : Int) := by omega
   have hltb := decide_eq_false hltz
   go_wp2
   go_ret
   refine ⟨_, rfl, ?_, HB.1⟩
   refine Kd.R_of_own ⟨?_, .inr ⟨g, cap, cu.toArray, ?_, HG4.1, HC.1, ?_, ?_, ?_, ?_⟩⟩ (fun _ _ => trivial)
   ·simp [encs]
   ·simp
   ·exact by simpa using hnc
   ·exact hcm
   ·simpa using HL.1
   ·have := HT.1
    simpa [encs] using this
  have hltz : (c : Int) < (n : Int) := by omega
  have hltb := decide_eq_true hltz
  have hcutA := cut_from (P := Try.prog) 25 3 .i64 Try.underlying25 HI.1 1 HSZ.1 (some ⟨g, 0, none⟩) n cap (c : Int) (by omega) (by omega)
  have hcutB := cut_to (P := Try.prog) 25 3 .i64 Try.underlying25 HI.1 (some ⟨g, 0, none⟩) n cap (c : Int) (by omega) (by omega) hnc
  rw [if_neg (by simp; omega)] at hcutA
  simp only [Option.map_some, Int.toNat_natCast, Nat.mul_one, Addr.add_lit, Nat.zero_add] at hcutA hcutB
  obtain ⟨m, hm⟩ : ∃ m, m = min c (n - c) := ⟨_, rfl⟩
  have hm1 : 1 ≤ m := by omega
  have hm2 : m ≤ c := by omega
  have hm3 : c + m ≤ n := by omega
  have HMN := za0.mk (show (cu.take m).length = Nat.min c (n - c) by show _ = min c (n - c); rw [List.length_take, HL.1]; omega)
  have hmlen : (cu.take m).length = m := by rw [List.length_take, HL.1]; omega
  have HML := za0.mk hmlen
  have HWR := za0.mk (show IntKind.i64.wrap ((c : Int) + (m : Int)) = ((c + m : Nat) : Int) from (IntWalk.i64_in _ (by omega)).trans (by omega))
  clear hm hmlen
  have HT2 := za0.mk (splice_rep (f := Value.int .i64) cu c m n x 0 HT.1 (by rw [HL.1]; exact hnc) hm2 hm3)
  have HL2 := za0.mk (show (splice cu c (cu.take m)).length = cap by rw [length_splice _ _ _ (by rw [HML.1, HL.1]; omega)]; exact HL.1)
  go_wp2
  go_region_law (refine step_copy_splice rfl (.tmp 41) (.tmp 44) 25 25 rfl 3 Try.underlying25 HISZ.1 (some ⟨g, c, none⟩) (some ⟨g, 0, none⟩) (n - c) (cap - c) c cap (by go_simp) (by go_simp) g c cu 3 HC.1 (cu.take m) HMN.1 (fun _ => ⟨rfl, ⟨g, 0, none⟩, rfl, fun j v hj => copy_cell HC.1 hj⟩) (by rw [HML.1, HL.1]; omega) (fun v hv => one_of_rep HT.1 hm2 hcn hv) w.heap.size w (by repeat (first | exact HB.1 | apply zd0 | apply zb0)) HG4.1 ?_; intro w6 hc6 hb6; have HC6 := za0.mk hc6.out; have HB6 := za0.mk hb6; clear hc6 hb6; rw [HML.1])
  go_wp2
  go_roundg (n - (c + m))
  case measure => omega
  case rel => exact ⟨c + m, _, by rw [HWR.1], by omega, hm3, by omega, ⟨HC6.1⟩, ⟨HL2.1⟩, ⟨HT2.1⟩, ⟨HB6.1⟩⟩
mutual
def yc0.l0 : Nat → List Int → List Int → List (List Int) → Option (List Int)
 | 0, _, _, _ => none
 | k + 1, x5, x6, x104000 => if (x6.length : Int) > 0 then (if 0 < (x6.length : Int) then (if 0 ≤ (rd x6 0) then (if (rd x6 0) < (x104000.length : Int) then (yc0.l1 k x5 x6 (rd_L1 x104000 (rd x6 0)) ((rd_L1 x104000 (rd x6 0)).length : Int) 0 x104000) else (none)) else (none)) else (none)) else (some x5)
def yc0.l1 : Nat → List Int → List Int → List Int → Int → Int → List (List Int) → Option (List Int)
 | 0, _, _, _, _, _, _ => none
 | k + 1, x5, x6, x30, x31, x32, x104000 => if x32 < x31 then (if 0 ≤ x32 then (if x32 < (x30.length : Int) then (if 0 ≤ (rd x30 x32) then (if (rd x30 x32) < (x5.length : Int) then (if (rd x5 (rd x30 x32)) < 0 then (if 0 < (x6.length : Int) then (if 0 ≤ (rd x6 0) then (if (rd x6 0) < (x5.length : Int) then (if x6.length < 17592186044416 then (yc0.l1 k (x5.set ((rd x30 x32) : Int).toNat (wrap64 ((rd x5 (rd x6 0)) + 1))) (x6 ++ [rd x30 x32]) x30 x31 (wrap64 (x32 + 1)) x104000) else (none)) else (none)) else (none)) else (none)) else (yc0.l1 k x5 x6 x30 x31 (wrap64 (x32 + 1)) x104000)) else (none)) else (none)) else (none)) else (none)) else (if 1 ≤ (x6.length : Int) then (yc0.l0 k x5 (x6.drop (1 : Int).toNat) x104000) else (none))
end
def yc0.f (k : Nat) (l0_0 : List (List Int)) (a1 : Int) : Option (List Int) := (yt1.f (([(-1)] : List Int)) (l0_0.length : Int)).bind fun t107 => (if 0 ≤ a1 then (if a1 < (t107.length : Int) then (yc0.l0 k (t107.set (a1 : Int).toNat 0) (([a1] : List Int)) l0_0) else (none)) else (none))
theorem yc0.mono_l : ∀ k, (∀ y0 y1 y2, LeO (yc0.l0 k y0 y1 y2) (yc0.l0 (k + 1) y0 y1 y2)) ∧ (∀ y0 y1 y2 y3 y4 y5, LeO (yc0.l1 k y0 y1 y2 y3 y4 y5) (yc0.l1 (k + 1) y0 y1 y2 y3 y4 y5))
 | 0 => ⟨fun _ _ _ r h => by simp [yc0.l0] at h, fun _ _ _ _ _ _ r h => by simp [yc0.l1] at h⟩
 | k + 1 => by
  obtain ⟨ih0, ih1⟩ := yc0.mono_l k
  refine ⟨?_, ?_⟩
  ·intro y0 y1 y2
   unfold yc0.l0
   repeat' (with_reducible first | exact ih0 _ _ _ | exact ih1 _ _ _ _ _ _ | exact LeO.refl _ | exact LeO.none _ | refine LeO.ite ?_ ?_ | refine LeO.bind ?_ (fun _ => ?_))
  ·intro y0 y1 y2 y3 y4 y5
   unfold yc0.l1
   repeat' (with_reducible first | exact ih0 _ _ _ | exact ih1 _ _ _ _ _ _ | exact LeO.refl _ | exact LeO.none _ | refine LeO.ite ?_ ?_ | refine LeO.bind ?_ (fun _ => ?_))
theorem yc0.mono : ∀ a0 a1 k, LeO (yc0.f k a0 a1) (yc0.f (k + 1) a0 a1) := by
 intro a0 a1 k
 obtain ⟨ih0, ih1⟩ := yc0.mono_l k
 unfold yc0.f
 repeat' (with_reducible first | exact ih0 _ _ _ | exact ih1 _ _ _ _ _ _ | exact LeO.refl _ | exact LeO.none _ | refine LeO.ite ?_ ?_ | refine LeO.bind ?_ (fun _ => ?_))
theorem yc0.calls (k : Nat) (A0_0 : Option Addr) (c0_0 : Nat) (l0_0 : List (List Int)) (a1 : Int) (r : List Int) (w : World) (hr0_0 : Kd.C (Kd.slice 3 (Kd.int .i64)) w A0_0 l0_0.length l0_0) (hc0_0 : l0_0.length ≤ c0_0) (h : yc0.f k l0_0 a1 = some r) :
  Calls Try.prog 85 #[.agg #[.slice A0_0 l0_0.length c0_0], .int .i64 a1] w fun e w' => ∃ v0_ : Value, e = .returned (v0_) ∧ Kd.R (Kd.int .i64) 3 w' w.heap.size (fun _ => True) v0_ r ∧ Below w.heap.size w w' := by
 have hu29 := Try.underlying29
 have HR0_0 := za0.mk hr0_0
 have HC0_0 := za0.mk hc0_0
 clear hr0_0 hc0_0
 have HB := za0.mk (Below.refl w.heap.size w)
 have H : ((yt1.f (([(-1)] : List Int)) (l0_0.length : Int)).bind fun t107 => (if 0 ≤ a1 then (if a1 < (t107.length : Int) then (yc0.l0 k (t107.set (a1 : Int).toNat 0) (([a1] : List Int)) l0_0) else (none)) else (none))) = some r := h
 clear h
 obtain ⟨y104, hy104⟩ : ∃ y_ : List Int, y_ = (([(-1)] : List Int)) := ⟨_, rfl⟩
 replace H : ((yt1.f y104 (l0_0.length : Int)).bind fun t107 => (if 0 ≤ a1 then (if a1 < (t107.length : Int) then (yc0.l0 k (t107.set (a1 : Int).toNat 0) (([a1] : List Int)) l0_0) else (none)) else (none))) = some r := by first | (rw [hy104]; with_reducible exact H) | (have H2_ := (Option.bind_some _ _).symm.trans H; rw [hy104]; with_reducible exact H2_) | (have H2_ := (Option.bind_some _ _).symm.trans H; with_reducible exact H2_) | with_reducible exact H | (rw [hy104]; exact H) | exact H
 have Ny104 := za0.mk hy104
 clear hy104
 replace H := Option.bind_eq_some_iff.mp H
 obtain ⟨t107, A30, H⟩ := H
 replace H : (if 0 ≤ a1 then (if a1 < (t107.length : Int) then (yc0.l0 k (t107.set (a1 : Int).toNat 0) (([a1] : List Int)) l0_0) else (none)) else (none)) = some r := H
 have A3 := za0.mk A30
 clear A30
 by_cases c4 : 0 ≤ a1
 rotate_left
 ·rw [if_neg c4] at H
  exact absurd H (by simp)
 rw [if_pos c4] at H
 have c4b0 : decide (0 ≤ a1) = true := decide_eq_true c4
 clear c4
 by_cases c5 : a1 < (t107.length : Int)
 rotate_left
 ·rw [if_neg c5] at H
  exact absurd H (by simp)
 rw [if_pos c5] at H
 have c5b0 : decide (a1 < (t107.length : Int)) = true := decide_eq_true c5
 clear c5
 obtain ⟨y110, hy110⟩ : ∃ y_ : List Int, y_ = (t107.set (a1 : Int).toNat 0) := ⟨_, rfl⟩
 replace H : (yc0.l0 k y110 (([a1] : List Int)) l0_0) = some r := by first | (rw [hy110]; with_reducible exact H) | (have H2_ := (Option.bind_some _ _).symm.trans H; rw [hy110]; with_reducible exact H2_) | (have H2_ := (Option.bind_some _ _).symm.trans H; with_reducible exact H2_) | with_reducible exact H | (rw [hy110]; exact H) | exact H
 have Ny110 := za0.mk hy110
 clear hy110
 obtain ⟨y111, hy111⟩ : ∃ y_ : List Int, y_ = (([a1] : List Int)) := ⟨_, rfl⟩
 replace H : (yc0.l0 k y110 y111 l0_0) = some r := by first | (rw [hy111]; with_reducible exact H) | (have H2_ := (Option.bind_some _ _).symm.trans H; rw [hy111]; with_reducible exact H2_) | (have H2_ := (Option.bind_some _ _).symm.trans H; with_reducible exact H2_) | with_reducible exact H | (rw [hy111]; exact H) | exact H
 have Ny111 := za0.mk hy111
 clear hy111
 have H' := za0.mk H
 clear H
 go_enter Try.func85, Try.ntmps85
 go_wp2_with (first | ((with_reducible refine zo0 (N := 2) rfl ?_); refine zp0 ?hg (N := 2) ?hd (cs := #[.slice A0_0 l0_0.length c0_0]) (t := 29) ?hr ?_; (case hd | hg => rfl); (case hr => go_simp <;> rfl); intro gb103 hg w7 hbox hb; have n0_ := za0.mk (zi0 (by repeat (first | exact HB.1 | apply zc0 | apply zb0 | apply zd0)) hb); have n1_ := za0.mk (hbox); have n2_ := za0.mk ((by rw [hg]; exact (zh0 (by repeat (first | exact HB.1 | apply zc0 | apply zb0 | apply zd0))) : w.heap.size ≤ gb103)); have n3_ := za0.mk ((by rw [hg]; exact (zh0 (by repeat (first | exact HB.1 | apply zc0 | apply zb0 | apply zd0))) : w.heap.size ≤ gb103)); clear HB; have HB := n0_; have BK103 := n1_; have GW103 := n2_; have GE103 := n3_; clear n0_ n1_ n2_ n3_; clear hb hbox hg) | ((with_reducible refine zo0 (N := 9) rfl ?_); refine Kd.R_lit (Kd.int .i64) _ 3 ?hg (N := 9) ?hd (xs := ([(-1)] : List Int)) (inner := [.int .i64 (-1)]) (ok := fun _ => True) (okp := fun _ => True) ?hr ?hp (fun _ hk => hk) trivial (Below.refl _ _) (Nat.le_refl _) (by simp) ?_; (case hd | hg => rfl); (case hr => go_simp <;> rfl); (case hp => exact (Reps.one (show Kd.M (Kd.int .i64) _ _ _ (-1) [.int .i64 (-1)] from rfl) (Reps.none _ _))); intro v105 w8 ho9 hb hg_ hnew_; clear hg_ hnew_; (first | rw [← Ny104.1] at ho9 | (simp only [Int.reduceToNat] at ho9; rw [← Ny104.1] at ho9)); have n0_ := za0.mk (Kd.R_lower ho9 (zh0 (by repeat (first | exact HB.1 | apply zc0 | apply zb0 | apply zd0 | refine ze0 ?_ GE103.1)))); have n1_ := za0.mk (zm0 (g := gb103) (o := .cells #[.slice A0_0 l0_0.length c0_0] 29 (0, 0)) (by (with_reducible repeat (first | refine zg0 ?_ _ | refine zj0 ?_ | refine zf0 ?_ _)); exact BK103.1) hb); have n2_ := za0.mk (zi0 (by repeat (first | exact HB.1 | apply zc0 | apply zb0 | apply zd0 | refine ze0 ?_ GE103.1)) hb); clear BK103; clear HB; have HO106 := n0_; have BK103 := n1_; have HB := n2_; clear n0_ n1_ n2_; clear hb ho9; have hcz10_0 : w8.cell? ⟨gb103, 0, none⟩ = some (.slice A0_0 l0_0.length c0_0) := (zl0 BK103.1 0).trans rfl; have hfz10_0 := zk0 BK103.1 0; obtain ⟨Ao11, co11, eo11⟩ := Kd.R_slice HO106.1; subst eo11) | (go_at_call 88; (with_reducible refine (yt1.calls _ _ y104 (l0_0.length : Int) t107 _ ?side1 ?side2 A3.1).mono ?_); (case side1 => repeat (first | exact (Kd.R_reads' HO106.1).2.2 | (with_reducible refine Kd.C_alloc ?_ _) | (with_reducible refine Kd.C_drewN ?_ _) | (with_reducible refine Kd.C_drew ?_))); (case side2 => exact (Kd.R_reads' HO106.1).2.1); rintro e w12 ⟨v108, rfl, ho0, hb⟩; have n0_ := za0.mk (Kd.R_elder' (by (with_reducible repeat (first | apply Kd.R_alloc | apply Kd.R_drewN | apply Kd.R_drew)); exact HO106.1) (Kd.R_base ho0) hb); have n1_ := za0.mk (Kd.R_lower (Kd.R_new' ho0 (Kd.R_lt (by (with_reducible repeat (first | apply Kd.R_alloc | apply Kd.R_drewN | apply Kd.R_drew)); exact HO106.1))) (zh0 (by repeat (first | exact HB.1 | apply zc0 | apply zb0 | apply zd0 | refine ze0 ?_ GE103.1)))); have n2_ := za0.mk (zm0 (g := gb103) (o := .cells #[.slice A0_0 l0_0.length c0_0] 29 (0, 0)) (by (with_reducible repeat (first | refine zg0 ?_ _ | refine zj0 ?_ | refine zf0 ?_ _)); exact BK103.1) hb); have n3_ := za0.mk (zi0 (by repeat (first | exact HB.1 | apply zc0 | apply zb0 | apply zd0 | refine ze0 ?_ GE103.1)) hb); clear HO106; clear BK103; clear HB; have HO106 := n0_; have HO109 := n1_; have BK103 := n2_; have HB := n3_; clear n0_ n1_ n2_ n3_; (try clear hb); (try clear hb2); (try clear hk); (try clear hi); (try clear ho0); have p6 : 0 ≤ (a1 : Int) := of_decide_eq_true (by assumption); have q6 : (a1 : Int) < ((t107.length : Int) : Int) := of_decide_eq_true (by assumption); obtain ⟨go6, co6, eo6, gb6, gl6, cl6, HG6⟩ := Kd.R_form HO109.1 (by omega); (first | cases eo6 | (injection eo6 with ea_ en_ ec_; (first | subst ea_ | (injection ea_ with ea_; subst ea_)); subst ec_; clear en_)); have GB6 := za0.mk gb6; have GG6 := za0.mk HG6; clear gb6 gl6 HG6; obtain ⟨hx6_0, hf6_0⟩ := Kd.R_celln 0 HO109.1 (a1 : Int) p6 q6; replace p6 := eq_true p6; replace q6 := eq_true q6; have n_ := za0.mk (Kd.R_mono (ok' := (fun k_ => some k_ ≠ (.slice Ao11 y104.length co11 : Value).ownBlock)) HO109.1 (fun k_ hk => hk.2)); clear HO109; have HO109 := n_; clear n_; obtain ⟨hy13_, hz13_⟩ := Kd.R_celln 0 HO109.1 (a1 : Int) (of_decide_eq_true (by assumption)) (of_decide_eq_true (by assumption)); have HP13 := Kd.R_putg HO109.1 (a1 : Int) 0) | ((with_reducible refine gate_store (t := 3) (p := 16) rfl ?_); (try (rw [drewN_self w12]; generalize hq_ : World.drewN w12 _ = w12; have n0_ := za0.mk (Kd.R_at hq_ HO106.1); have n1_ := za0.mk (Kd.R_at hq_ HO109.1); have n2_ := za0.mk (blk_at hq_ BK103.1); have n3_ := za0.mk (below_at hq_ HB.1); clear hq_ HO106 HO109 BK103 HB; have HO106 := n0_; have HO109 := n1_; have BK103 := n2_; have HB := n3_; clear n0_ n1_ n2_ n3_; (try (have n_ := za0.mk (Kd.R_mono (ok' := (fun k_ => some k_ ≠ (.slice Ao11 y104.length co11 : Value).ownBlock)) HO109.1 (fun k_ hk => hk.2)); clear HO109; have HO109 := n_; clear n_)); (try (obtain ⟨hy13_, hz13_⟩ := Kd.R_celln 0 HO109.1 (a1 : Int) (of_decide_eq_true (by assumption)) (of_decide_eq_true (by assumption)))); (try (have HP13 := Kd.R_putg HO109.1 (a1 : Int) 0)))); refine store_event (t := 3) (p := 16) (v := ?vo_w14) (w1 := (w12.setCell ⟨go6, (a1 : Int).toNat, none⟩ (.int .i64 0))) ?hg ?ho ?hn ?hr ?_; (case ho => rfl); (case hg => rfl); (case hn => rfl); (case hr => go_simp <;> rfl); intro w14 hw; have hg : w12.grownBy w14 (some go6) := (by rw [hw]; exact HP13.2); have hp_ : Kd.R (Kd.int .i64) 3 w14 w.heap.size (fun k_ => some k_ ≠ (.slice Ao11 y104.length co11 : Value).ownBlock) (.slice (some ⟨go6, 0, none⟩) t107.length co6) y110 := (by rw [hw, Ny110.1]; exact HP13.1); clear HP13; have n0_ := za0.mk (blk_grown (g := gb103) (o := .cells #[.slice A0_0 l0_0.length c0_0] 29 (0, 0)) (by (with_reducible repeat (first | refine zg0 ?_ _ | refine zj0 ?_ | refine zf0 ?_ _)); exact BK103.1) hg (Kd.R_ne HO109.1 BK103.1 (by decide))); have n1_ := za0.mk (Kd.R_after (v := (.slice (some ⟨go6, 0, none⟩) t107.length co6)) (v1 := (.slice (some ⟨go6, 0, none⟩) t107.length co6)) (ok := (fun _ => True)) (by (with_reducible repeat (first | apply Kd.R_alloc | apply Kd.R_drewN | apply Kd.R_drew)); exact HO106.1) hg (.inl rfl)); have n2_ := za0.mk (hp_); have n3_ := za0.mk ((by rw [hw]; exact ze0 (HB.1) GB6.1 : Below w.heap.size w w14)); clear BK103; clear HO106; clear HO109; clear HB; have BK103 := n0_; have HO106 := n1_; have HO109 := n2_; have HB := n3_; clear n0_ n1_ n2_ n3_; clear hg hw hp_) | ((with_reducible refine zo0 (N := 18) rfl ?_); refine Kd.R_lit (Kd.int .i64) _ 3 ?hg (N := 18) ?hd (xs := ([a1] : List Int)) (inner := [.int .i64 a1]) (ok := fun _ => True) (okp := fun _ => True) ?hr ?hp (fun _ hk => hk) trivial (Below.refl _ _) (Nat.le_refl _) (by simp) ?_; (case hd | hg => rfl); (case hr => go_simp <;> rfl); (case hp => exact (Reps.one (show Kd.M (Kd.int .i64) _ _ _ a1 [.int .i64 a1] from rfl) (Reps.none _ _))); intro v112 w15 ho16 hb hg_ hnew_; clear hg_ hnew_; (first | rw [← Ny111.1] at ho16 | (simp only [Int.reduceToNat] at ho16; rw [← Ny111.1] at ho16)); have n0_ := za0.mk (Kd.R_elder' (by (with_reducible repeat (first | apply Kd.R_alloc | apply Kd.R_drewN | apply Kd.R_drew)); exact HO106.1) (Kd.R_base ho16) hb); have n1_ := za0.mk (Kd.R_elder' (by (with_reducible repeat (first | apply Kd.R_alloc | apply Kd.R_drewN | apply Kd.R_drew)); exact HO109.1) (Kd.R_base ho16) hb); have n2_ := za0.mk (Kd.R_lower (Kd.R_new' (Kd.R_new' ho16 (Kd.R_lt (by (with_reducible repeat (first | apply Kd.R_alloc | apply Kd.R_drewN | apply Kd.R_drew)); exact HO106.1))) (Kd.R_lt (by (with_reducible repeat (first | apply Kd.R_alloc | apply Kd.R_drewN | apply Kd.R_drew)); exact HO109.1))) (zh0 (by repeat (first | exact HB.1 | apply zc0 | apply zb0 | apply zd0 | refine ze0 ?_ GE103.1)))); have n3_ := za0.mk (zm0 (g := gb103) (o := .cells #[.slice A0_0 l0_0.length c0_0] 29 (0, 0)) (by (with_reducible repeat (first | refine zg0 ?_ _ | refine zj0 ?_ | refine zf0 ?_ _)); exact BK103.1) hb); have n4_ := za0.mk (zi0 (by repeat (first | exact HB.1 | apply zc0 | apply zb0 | apply zd0 | refine ze0 ?_ GE103.1)) hb); clear HO106; clear HO109; clear BK103; clear HB; have HO106 := n0_; have HO109 := n1_; have HO113 := n2_; have BK103 := n3_; have HB := n4_; clear n0_ n1_ n2_ n3_ n4_; clear hb ho16))
 repeat (go_quiet (first | ((with_reducible refine zo0 (N := 2) rfl ?_); refine zp0 ?hg (N := 2) ?hd (cs := #[.slice A0_0 l0_0.length c0_0]) (t := 29) ?hr ?_; (case hd | hg => rfl); (case hr => go_simp <;> rfl); intro gb103 hg w7 hbox hb; have n0_ := za0.mk (zi0 (by repeat (first | exact HB.1 | apply zc0 | apply zb0 | apply zd0)) hb); have n1_ := za0.mk (hbox); have n2_ := za0.mk ((by rw [hg]; exact (zh0 (by repeat (first | exact HB.1 | apply zc0 | apply zb0 | apply zd0))) : w.heap.size ≤ gb103)); have n3_ := za0.mk ((by rw [hg]; exact (zh0 (by repeat (first | exact HB.1 | apply zc0 | apply zb0 | apply zd0))) : w.heap.size ≤ gb103)); clear HB; have HB := n0_; have BK103 := n1_; have GW103 := n2_; have GE103 := n3_; clear n0_ n1_ n2_ n3_; clear hb hbox hg) | ((with_reducible refine zo0 (N := 9) rfl ?_); refine Kd.R_lit (Kd.int .i64) _ 3 ?hg (N := 9) ?hd (xs := ([(-1)] : List Int)) (inner := [.int .i64 (-1)]) (ok := fun _ => True) (okp := fun _ => True) ?hr ?hp (fun _ hk => hk) trivial (Below.refl _ _) (Nat.le_refl _) (by simp) ?_; (case hd | hg => rfl); (case hr => go_simp <;> rfl); (case hp => exact (Reps.one (show Kd.M (Kd.int .i64) _ _ _ (-1) [.int .i64 (-1)] from rfl) (Reps.none _ _))); intro v105 w8 ho9 hb hg_ hnew_; clear hg_ hnew_; (first | rw [← Ny104.1] at ho9 | (simp only [Int.reduceToNat] at ho9; rw [← Ny104.1] at ho9)); have n0_ := za0.mk (Kd.R_lower ho9 (zh0 (by repeat (first | exact HB.1 | apply zc0 | apply zb0 | apply zd0 | refine ze0 ?_ GE103.1)))); have n1_ := za0.mk (zm0 (g := gb103) (o := .cells #[.slice A0_0 l0_0.length c0_0] 29 (0, 0)) (by (with_reducible repeat (first | refine zg0 ?_ _ | refine zj0 ?_ | refine zf0 ?_ _)); exact BK103.1) hb); have n2_ := za0.mk (zi0 (by repeat (first | exact HB.1 | apply zc0 | apply zb0 | apply zd0 | refine ze0 ?_ GE103.1)) hb); clear BK103; clear HB; have HO106 := n0_; have BK103 := n1_; have HB := n2_; clear n0_ n1_ n2_; clear hb ho9; have hcz10_0 : w8.cell? ⟨gb103, 0, none⟩ = some (.slice A0_0 l0_0.length c0_0) := (zl0 BK103.1 0).trans rfl; have hfz10_0 := zk0 BK103.1 0; obtain ⟨Ao11, co11, eo11⟩ := Kd.R_slice HO106.1; subst eo11) | (go_at_call 88; (with_reducible refine (yt1.calls _ _ y104 (l0_0.length : Int) t107 _ ?side1 ?side2 A3.1).mono ?_); (case side1 => repeat (first | exact (Kd.R_reads' HO106.1).2.2 | (with_reducible refine Kd.C_alloc ?_ _) | (with_reducible refine Kd.C_drewN ?_ _) | (with_reducible refine Kd.C_drew ?_))); (case side2 => exact (Kd.R_reads' HO106.1).2.1); rintro e w12 ⟨v108, rfl, ho0, hb⟩; have n0_ := za0.mk (Kd.R_elder' (by (with_reducible repeat (first | apply Kd.R_alloc | apply Kd.R_drewN | apply Kd.R_drew)); exact HO106.1) (Kd.R_base ho0) hb); have n1_ := za0.mk (Kd.R_lower (Kd.R_new' ho0 (Kd.R_lt (by (with_reducible repeat (first | apply Kd.R_alloc | apply Kd.R_drewN | apply Kd.R_drew)); exact HO106.1))) (zh0 (by repeat (first | exact HB.1 | apply zc0 | apply zb0 | apply zd0 | refine ze0 ?_ GE103.1)))); have n2_ := za0.mk (zm0 (g := gb103) (o := .cells #[.slice A0_0 l0_0.length c0_0] 29 (0, 0)) (by (with_reducible repeat (first | refine zg0 ?_ _ | refine zj0 ?_ | refine zf0 ?_ _)); exact BK103.1) hb); have n3_ := za0.mk (zi0 (by repeat (first | exact HB.1 | apply zc0 | apply zb0 | apply zd0 | refine ze0 ?_ GE103.1)) hb); clear HO106; clear BK103; clear HB; have HO106 := n0_; have HO109 := n1_; have BK103 := n2_; have HB := n3_; clear n0_ n1_ n2_ n3_; (try clear hb); (try clear hb2); (try clear hk); (try clear hi); (try clear ho0); have p6 : 0 ≤ (a1 : Int) := of_decide_eq_true (by assumption); have q6 : (a1 : Int) < ((t107.length : Int) : Int) := of_decide_eq_true (by assumption); obtain ⟨go6, co6, eo6, gb6, gl6, cl6, HG6⟩ := Kd.R_form HO109.1 (by omega); (first | cases eo6 | (injection eo6 with ea_ en_ ec_; (first | subst ea_ | (injection ea_ with ea_; subst ea_)); subst ec_; clear en_)); have GB6 := za0.mk gb6; have GG6 := za0.mk HG6; clear gb6 gl6 HG6; obtain ⟨hx6_0, hf6_0⟩ := Kd.R_celln 0 HO109.1 (a1 : Int) p6 q6; replace p6 := eq_true p6; replace q6 := eq_true q6; have n_ := za0.mk (Kd.R_mono (ok' := (fun k_ => some k_ ≠ (.slice Ao11 y104.length co11 : Value).ownBlock)) HO109.1 (fun k_ hk => hk.2)); clear HO109; have HO109 := n_; clear n_; obtain ⟨hy13_, hz13_⟩ := Kd.R_celln 0 HO109.1 (a1 : Int) (of_decide_eq_true (by assumption)) (of_decide_eq_true (by assumption)); have HP13 := Kd.R_putg HO109.1 (a1 : Int) 0) | ((with_reducible refine gate_store (t := 3) (p := 16) rfl ?_); (try (rw [drewN_self w12]; generalize hq_ : World.drewN w12 _ = w12; have n0_ := za0.mk (Kd.R_at hq_ HO106.1); have n1_ := za0.mk (Kd.R_at hq_ HO109.1); have n2_ := za0.mk (blk_at hq_ BK103.1); have n3_ := za0.mk (below_at hq_ HB.1); clear hq_ HO106 HO109 BK103 HB; have HO106 := n0_; have HO109 := n1_; have BK103 := n2_; have HB := n3_; clear n0_ n1_ n2_ n3_; (try (have n_ := za0.mk (Kd.R_mono (ok' := (fun k_ => some k_ ≠ (.slice Ao11 y104.length co11 : Value).ownBlock)) HO109.1 (fun k_ hk => hk.2)); clear HO109; have HO109 := n_; clear n_)); (try (obtain ⟨hy13_, hz13_⟩ := Kd.R_celln 0 HO109.1 (a1 : Int) (of_decide_eq_true (by assumption)) (of_decide_eq_true (by assumption)))); (try (have HP13 := Kd.R_putg HO109.1 (a1 : Int) 0)))); refine store_event (t := 3) (p := 16) (v := ?vo_w14) (w1 := (w12.setCell ⟨go6, (a1 : Int).toNat, none⟩ (.int .i64 0))) ?hg ?ho ?hn ?hr ?_; (case ho => rfl); (case hg => rfl); (case hn => rfl); (case hr => go_simp <;> rfl); intro w14 hw; have hg : w12.grownBy w14 (some go6) := (by rw [hw]; exact HP13.2); have hp_ : Kd.R (Kd.int .i64) 3 w14 w.heap.size (fun k_ => some k_ ≠ (.slice Ao11 y104.length co11 : Value).ownBlock) (.slice (some ⟨go6, 0, none⟩) t107.length co6) y110 := (by rw [hw, Ny110.1]; exact HP13.1); clear HP13; have n0_ := za0.mk (blk_grown (g := gb103) (o := .cells #[.slice A0_0 l0_0.length c0_0] 29 (0, 0)) (by (with_reducible repeat (first | refine zg0 ?_ _ | refine zj0 ?_ | refine zf0 ?_ _)); exact BK103.1) hg (Kd.R_ne HO109.1 BK103.1 (by decide))); have n1_ := za0.mk (Kd.R_after (v := (.slice (some ⟨go6, 0, none⟩) t107.length co6)) (v1 := (.slice (some ⟨go6, 0, none⟩) t107.length co6)) (ok := (fun _ => True)) (by (with_reducible repeat (first | apply Kd.R_alloc | apply Kd.R_drewN | apply Kd.R_drew)); exact HO106.1) hg (.inl rfl)); have n2_ := za0.mk (hp_); have n3_ := za0.mk ((by rw [hw]; exact ze0 (HB.1) GB6.1 : Below w.heap.size w w14)); clear BK103; clear HO106; clear HO109; clear HB; have BK103 := n0_; have HO106 := n1_; have HO109 := n2_; have HB := n3_; clear n0_ n1_ n2_ n3_; clear hg hw hp_) | ((with_reducible refine zo0 (N := 18) rfl ?_); refine Kd.R_lit (Kd.int .i64) _ 3 ?hg (N := 18) ?hd (xs := ([a1] : List Int)) (inner := [.int .i64 a1]) (ok := fun _ => True) (okp := fun _ => True) ?hr ?hp (fun _ hk => hk) trivial (Below.refl _ _) (Nat.le_refl _) (by simp) ?_; (case hd | hg => rfl); (case hr => go_simp <;> rfl); (case hp => exact (Reps.one (show Kd.M (Kd.int .i64) _ _ _ a1 [.int .i64 a1] from rfl) (Reps.none _ _))); intro v112 w15 ho16 hb hg_ hnew_; clear hg_ hnew_; (first | rw [← Ny111.1] at ho16 | (simp only [Int.reduceToNat] at ho16; rw [← Ny111.1] at ho16)); have n0_ := za0.mk (Kd.R_elder' (by (with_reducible repeat (first | apply Kd.R_alloc | apply Kd.R_drewN | apply Kd.R_drew)); exact HO106.1) (Kd.R_base ho16) hb); have n1_ := za0.mk (Kd.R_elder' (by (with_reducible repeat (first | apply Kd.R_alloc | apply Kd.R_drewN | apply Kd.R_drew)); exact HO109.1) (Kd.R_base ho16) hb); have n2_ := za0.mk (Kd.R_lower (Kd.R_new' (Kd.R_new' ho16 (Kd.R_lt (by (with_reducible repeat (first | apply Kd.R_alloc | apply Kd.R_drewN | apply Kd.R_drew)); exact HO106.1))) (Kd.R_lt (by (with_reducible repeat (first | apply Kd.R_alloc | apply Kd.R_drewN | apply Kd.R_drew)); exact HO109.1))) (zh0 (by repeat (first | exact HB.1 | apply zc0 | apply zb0 | apply zd0 | refine ze0 ?_ GE103.1)))); have n3_ := za0.mk (zm0 (g := gb103) (o := .cells #[.slice A0_0 l0_0.length c0_0] 29 (0, 0)) (by (with_reducible repeat (first | refine zg0 ?_ _ | refine zj0 ?_ | refine zf0 ?_ _)); exact BK103.1) hb); have n4_ := za0.mk (zi0 (by repeat (first | exact HB.1 | apply zc0 | apply zb0 | apply zd0 | refine ze0 ?_ GE103.1)) hb); clear HO106; clear HO109; clear BK103; clear HB; have HO106 := n0_; have HO109 := n1_; have HO113 := n2_; have BK103 := n3_; have HB := n4_; clear n0_ n1_ n2_ n3_ n4_; clear hb ho16)); try go_wp2_with (first | ((with_reducible refine zo0 (N := 2) rfl ?_); refine zp0 ?hg (N := 2) ?hd (cs := #[.slice A0_0 l0_0.length c0_0]) (t := 29) ?hr ?_; (case hd | hg => rfl); (case hr => go_simp <;> rfl); intro gb103 hg w7 hbox hb; have n0_ := za0.mk (zi0 (by repeat (first | exact HB.1 | apply zc0 | apply zb0 | apply zd0)) hb); have n1_ := za0.mk (hbox); have n2_ := za0.mk ((by rw [hg]; exact (zh0 (by repeat (first | exact HB.1 | apply zc0 | apply zb0 | apply zd0))) : w.heap.size ≤ gb103)); have n3_ := za0.mk ((by rw [hg]; exact (zh0 (by repeat (first | exact HB.1 | apply zc0 | apply zb0 | apply zd0))) : w.heap.size ≤ gb103)); clear HB; have HB := n0_; have BK103 := n1_; have GW103 := n2_; have GE103 := n3_; clear n0_ n1_ n2_ n3_; clear hb hbox hg) | ((with_reducible refine zo0 (N := 9) rfl ?_); refine Kd.R_lit (Kd.int .i64) _ 3 ?hg (N := 9) ?hd (xs := ([(-1)] : List Int)) (inner := [.int .i64 (-1)]) (ok := fun _ => True) (okp := fun _ => True) ?hr ?hp (fun _ hk => hk) trivial (Below.refl _ _) (Nat.le_refl _) (by simp) ?_; (case hd | hg => rfl); (case hr => go_simp <;> rfl); (case hp => exact (Reps.one (show Kd.M (Kd.int .i64) _ _ _ (-1) [.int .i64 (-1)] from rfl) (Reps.none _ _))); intro v105 w8 ho9 hb hg_ hnew_; clear hg_ hnew_; (first | rw [← Ny104.1] at ho9 | (simp only [Int.reduceToNat] at ho9; rw [← Ny104.1] at ho9)); have n0_ := za0.mk (Kd.R_lower ho9 (zh0 (by repeat (first | exact HB.1 | apply zc0 | apply zb0 | apply zd0 | refine ze0 ?_ GE103.1)))); have n1_ := za0.mk (zm0 (g := gb103) (o := .cells #[.slice A0_0 l0_0.length c0_0] 29 (0, 0)) (by (with_reducible repeat (first | refine zg0 ?_ _ | refine zj0 ?_ | refine zf0 ?_ _)); exact BK103.1) hb); have n2_ := za0.mk (zi0 (by repeat (first | exact HB.1 | apply zc0 | apply zb0 | apply zd0 | refine ze0 ?_ GE103.1)) hb); clear BK103; clear HB; have HO106 := n0_; have BK103 := n1_; have HB := n2_; clear n0_ n1_ n2_; clear hb ho9; have hcz10_0 : w8.cell? ⟨gb103, 0, none⟩ = some (.slice A0_0 l0_0.length c0_0) := (zl0 BK103.1 0).trans rfl; have hfz10_0 := zk0 BK103.1 0; obtain ⟨Ao11, co11, eo11⟩ := Kd.R_slice HO106.1; subst eo11) | (go_at_call 88; (with_reducible refine (yt1.calls _ _ y104 (l0_0.length : Int) t107 _ ?side1 ?side2 A3.1).mono ?_); (case side1 => repeat (first | exact (Kd.R_reads' HO106.1).2.2 | (with_reducible refine Kd.C_alloc ?_ _) | (with_reducible refine Kd.C_drewN ?_ _) | (with_reducible refine Kd.C_drew ?_))); (case side2 => exact (Kd.R_reads' HO106.1).2.1); rintro e w12 ⟨v108, rfl, ho0, hb⟩; have n0_ := za0.mk (Kd.R_elder' (by (with_reducible repeat (first | apply Kd.R_alloc | apply Kd.R_drewN | apply Kd.R_drew)); exact HO106.1) (Kd.R_base ho0) hb); have n1_ := za0.mk (Kd.R_lower (Kd.R_new' ho0 (Kd.R_lt (by (with_reducible repeat (first | apply Kd.R_alloc | apply Kd.R_drewN | apply Kd.R_drew)); exact HO106.1))) (zh0 (by repeat (first | exact HB.1 | apply zc0 | apply zb0 | apply zd0 | refine ze0 ?_ GE103.1)))); have n2_ := za0.mk (zm0 (g := gb103) (o := .cells #[.slice A0_0 l0_0.length c0_0] 29 (0, 0)) (by (with_reducible repeat (first | refine zg0 ?_ _ | refine zj0 ?_ | refine zf0 ?_ _)); exact BK103.1) hb); have n3_ := za0.mk (zi0 (by repeat (first | exact HB.1 | apply zc0 | apply zb0 | apply zd0 | refine ze0 ?_ GE103.1)) hb); clear HO106; clear BK103; clear HB; have HO106 := n0_; have HO109 := n1_; have BK103 := n2_; have HB := n3_; clear n0_ n1_ n2_ n3_; (try clear hb); (try clear hb2); (try clear hk); (try clear hi); (try clear ho0); have p6 : 0 ≤ (a1 : Int) := of_decide_eq_true (by assumption); have q6 : (a1 : Int) < ((t107.length : Int) : Int) := of_decide_eq_true (by assumption); obtain ⟨go6, co6, eo6, gb6, gl6, cl6, HG6⟩ := Kd.R_form HO109.1 (by omega); (first | cases eo6 | (injection eo6 with ea_ en_ ec_; (first | subst ea_ | (injection ea_ with ea_; subst ea_)); subst ec_; clear en_)); have GB6 := za0.mk gb6; have GG6 := za0.mk HG6; clear gb6 gl6 HG6; obtain ⟨hx6_0, hf6_0⟩ := Kd.R_celln 0 HO109.1 (a1 : Int) p6 q6; replace p6 := eq_true p6; replace q6 := eq_true q6; have n_ := za0.mk (Kd.R_mono (ok' := (fun k_ => some k_ ≠ (.slice Ao11 y104.length co11 : Value).ownBlock)) HO109.1 (fun k_ hk => hk.2)); clear HO109; have HO109 := n_; clear n_; obtain ⟨hy13_, hz13_⟩ := Kd.R_celln 0 HO109.1 (a1 : Int) (of_decide_eq_true (by assumption)) (of_decide_eq_true (by assumption)); have HP13 := Kd.R_putg HO109.1 (a1 : Int) 0) | ((with_reducible refine gate_store (t := 3) (p := 16) rfl ?_); (try (rw [drewN_self w12]; generalize hq_ : World.drewN w12 _ = w12; have n0_ := za0.mk (Kd.R_at hq_ HO106.1); have n1_ := za0.mk (Kd.R_at hq_ HO109.1); have n2_ := za0.mk (blk_at hq_ BK103.1); have n3_ := za0.mk (below_at hq_ HB.1); clear hq_ HO106 HO109 BK103 HB; have HO106 := n0_; have HO109 := n1_; have BK103 := n2_; have HB := n3_; clear n0_ n1_ n2_ n3_; (try (have n_ := za0.mk (Kd.R_mono (ok' := (fun k_ => some k_ ≠ (.slice Ao11 y104.length co11 : Value).ownBlock)) HO109.1 (fun k_ hk => hk.2)); clear HO109; have HO109 := n_; clear n_)); (try (obtain ⟨hy13_, hz13_⟩ := Kd.R_celln 0 HO109.1 (a1 : Int) (of_decide_eq_true (by assumption)) (of_decide_eq_true (by assumption)))); (try (have HP13 := Kd.R_putg HO109.1 (a1 : Int) 0)))); refine store_event (t := 3) (p := 16) (v := ?vo_w14) (w1 := (w12.setCell ⟨go6, (a1 : Int).toNat, none⟩ (.int .i64 0))) ?hg ?ho ?hn ?hr ?_; (case ho => rfl); (case hg => rfl); (case hn => rfl); (case hr => go_simp <;> rfl); intro w14 hw; have hg : w12.grownBy w14 (some go6) := (by rw [hw]; exact HP13.2); have hp_ : Kd.R (Kd.int .i64) 3 w14 w.heap.size (fun k_ => some k_ ≠ (.slice Ao11 y104.length co11 : Value).ownBlock) (.slice (some ⟨go6, 0, none⟩) t107.length co6) y110 := (by rw [hw, Ny110.1]; exact HP13.1); clear HP13; have n0_ := za0.mk (blk_grown (g := gb103) (o := .cells #[.slice A0_0 l0_0.length c0_0] 29 (0, 0)) (by (with_reducible repeat (first | refine zg0 ?_ _ | refine zj0 ?_ | refine zf0 ?_ _)); exact BK103.1) hg (Kd.R_ne HO109.1 BK103.1 (by decide))); have n1_ := za0.mk (Kd.R_after (v := (.slice (some ⟨go6, 0, none⟩) t107.length co6)) (v1 := (.slice (some ⟨go6, 0, none⟩) t107.length co6)) (ok := (fun _ => True)) (by (with_reducible repeat (first | apply Kd.R_alloc | apply Kd.R_drewN | apply Kd.R_drew)); exact HO106.1) hg (.inl rfl)); have n2_ := za0.mk (hp_); have n3_ := za0.mk ((by rw [hw]; exact ze0 (HB.1) GB6.1 : Below w.heap.size w w14)); clear BK103; clear HO106; clear HO109; clear HB; have BK103 := n0_; have HO106 := n1_; have HO109 := n2_; have HB := n3_; clear n0_ n1_ n2_ n3_; clear hg hw hp_) | ((with_reducible refine zo0 (N := 18) rfl ?_); refine Kd.R_lit (Kd.int .i64) _ 3 ?hg (N := 18) ?hd (xs := ([a1] : List Int)) (inner := [.int .i64 a1]) (ok := fun _ => True) (okp := fun _ => True) ?hr ?hp (fun _ hk => hk) trivial (Below.refl _ _) (Nat.le_refl _) (by simp) ?_; (case hd | hg => rfl); (case hr => go_simp <;> rfl); (case hp => exact (Reps.one (show Kd.M (Kd.int .i64) _ _ _ a1 [.int .i64 a1] from rfl) (Reps.none _ _))); intro v112 w15 ho16 hb hg_ hnew_; clear hg_ hnew_; (first | rw [← Ny111.1] at ho16 | (simp only [Int.reduceToNat] at ho16; rw [← Ny111.1] at ho16)); have n0_ := za0.mk (Kd.R_elder' (by (with_reducible repeat (first | apply Kd.R_alloc | apply Kd.R_drewN | apply Kd.R_drew)); exact HO106.1) (Kd.R_base ho16) hb); have n1_ := za0.mk (Kd.R_elder' (by (with_reducible repeat (first | apply Kd.R_alloc | apply Kd.R_drewN | apply Kd.R_drew)); exact HO109.1) (Kd.R_base ho16) hb); have n2_ := za0.mk (Kd.R_lower (Kd.R_new' (Kd.R_new' ho16 (Kd.R_lt (by (with_reducible repeat (first | apply Kd.R_alloc | apply Kd.R_drewN | apply Kd.R_drew)); exact HO106.1))) (Kd.R_lt (by (with_reducible repeat (first | apply Kd.R_alloc | apply Kd.R_drewN | apply Kd.R_drew)); exact HO109.1))) (zh0 (by repeat (first | exact HB.1 | apply zc0 | apply zb0 | apply zd0 | refine ze0 ?_ GE103.1)))); have n3_ := za0.mk (zm0 (g := gb103) (o := .cells #[.slice A0_0 l0_0.length c0_0] 29 (0, 0)) (by (with_reducible repeat (first | refine zg0 ?_ _ | refine zj0 ?_ | refine zf0 ?_ _)); exact BK103.1) hb); have n4_ := za0.mk (zi0 (by repeat (first | exact HB.1 | apply zc0 | apply zb0 | apply zd0 | refine ze0 ?_ GE103.1)) hb); clear HO106; clear HO109; clear BK103; clear HB; have HO106 := n0_; have HO109 := n1_; have HO113 := n2_; have BK103 := n3_; have HB := n4_; clear n0_ n1_ n2_ n3_ n4_; clear hb ho16)))
 go_loopg [6] k (fun kq v6 w' => ∃ (x5_1 : List Int) (x6_1 : List Int), za0 (yc0.l0 kq x5_1 x6_1 l0_0 = some r) ∧ za0 (kq ≤ k) ∧ za0 (Kd.R (Kd.int .i64) 3 w' w.heap.size (fun k_ => some k_ ≠ (v6 : Value).ownBlock) (.slice (some ⟨go6, 0, none⟩) t107.length co6) x5_1) ∧ za0 (Kd.Q (Kd.int .i64) 3 w' w.heap.size (fun k_ => some k_ ≠ ((.slice (some ⟨go6, 0, none⟩) t107.length co6) : Value).ownBlock) v6 x6_1) ∧ za0 (w'.heap[gb103]? = some (.cells #[(.slice A0_0 l0_0.length c0_0)] 29 (0, 0))) ∧ za0 (Below w.heap.size w w'))
 case atStart => exact ⟨(y110), (y111), H', ⟨Nat.le_refl _⟩, ⟨by (with_reducible repeat (first | apply Kd.R_alloc | apply Kd.R_drewN | apply Kd.R_drew)); exact Kd.R_mono HO109.1 (fun _ hk => hk.2)⟩, ⟨Kd.Q_of_R (by (with_reducible repeat (first | apply Kd.R_alloc | apply Kd.R_drewN | apply Kd.R_drew)); exact Kd.R_mono HO113.1 (fun _ hk => hk.2))⟩, ⟨by (with_reducible repeat (first | refine zg0 ?_ _ | refine zj0 ?_ | refine zf0 ?_ _)); exact BK103.1⟩, ⟨by repeat (first | exact HB.1 | apply zc0 | apply zb0 | apply zd0 | refine ze0 ?_ GE103.1)⟩⟩
 case round =>
  clear H'
  try clear p2
  try clear c4
  try clear c4b0
  try clear c5
  try clear c5b0
  try clear p6
  try clear q6
  try clear hx6
  try clear hf6
  try clear c8
  try clear hcz10_0
  try clear hfz10_0
  try clear hx6_0
  try clear p6
  try clear q6
  obtain ⟨x5_1, x6_1, HA, HK1, HO_5, HO_6, BK103, HB⟩ := hrel
  have hl5_1 := (Kd.R_reads' HO_5.1).1
  rw [hl5_1] at HO_5
  (try simp only [hl5_1])
  (try simp only [hl5_1] at BK103)
  (try simp only [hl5_1] at HO_6)
  obtain _ | k1 := gk
  ·exact absurd HA.1 (by simp [yc0.l0])
  have H := HA.1
  clear HA
  simp only [yc0.l0] at H
  by_cases c17 : (x6_1.length : Int) > 0
  rotate_left
  ·rw [if_neg c17] at H
   have c17b0 : decide (0 < (x6_1.length : Int)) = false := decide_eq_false c17
   (try (have c17b0h := c17b0; simp only [hl5_1] at c17b0h))
   have c17b1 : decide (0 < x6_1.length) = false := decide_eq_false (by omega)
   (try (have c17b1h := c17b1; simp only [hl5_1] at c17b1h))
   clear c17
   obtain rfl := Option.some.inj H
   obtain ⟨Ao41, co41, eo41, _⟩ := Kd.Q_slice HO_6.1
   subst eo41
   go_wp2
   repeat (go_quiet (fail); try go_wp2)
   go_ret
   exact ⟨_, by first | rfl | (simp [errW_none, errW_some] <;> rfl) | (simp [*, errW_none, errW_some] <;> rfl), by (with_reducible repeat (first | apply Kd.R_alloc | apply Kd.R_drewN | apply Kd.R_drew)); exact Kd.R_mono HO_5.1 (fun _ hk => trivial), by repeat (first | exact HB.1 | apply zc0 | apply zb0 | apply zd0 | refine ze0 ?_ GE103.1)⟩
  rw [if_pos c17] at H
  have c17b0 : decide (0 < (x6_1.length : Int)) = true := decide_eq_true c17
  (try (have c17b0h := c17b0; simp only [hl5_1] at c17b0h))
  have c17b1 : decide (0 < x6_1.length) = true := decide_eq_true (by omega)
  (try (have c17b1h := c17b1; simp only [hl5_1] at c17b1h))
  clear c17
  by_cases c18 : 0 < (x6_1.length : Int)
  rotate_left
  ·rw [if_neg c18] at H
   exact absurd H (by simp)
  rw [if_pos c18] at H
  have c18b0 : decide (0 < (x6_1.length : Int)) = true := decide_eq_true c18
  (try (have c18b0h := c18b0; simp only [hl5_1] at c18b0h))
  have c18b1 : decide (0 < x6_1.length) = true := decide_eq_true (by omega)
  (try (have c18b1h := c18b1; simp only [hl5_1] at c18b1h))
  clear c18
  by_cases c19 : 0 ≤ (rd x6_1 0)
  rotate_left
  ·rw [if_neg c19] at H
   exact absurd H (by simp)
  rw [if_pos c19] at H
  have c19b0 : decide (0 ≤ (rd x6_1 0)) = true := decide_eq_true c19
  (try (have c19b0h := c19b0; simp only [hl5_1] at c19b0h))
  clear c19
  by_cases c20 : (rd x6_1 0) < (l0_0.length : Int)
  rotate_left
  ·rw [if_neg c20] at H
   exact absurd H (by simp)
  rw [if_pos c20] at H
  have c20b0 : decide ((rd x6_1 0) < (l0_0.length : Int)) = true := decide_eq_true c20
  (try (have c20b0h := c20b0; simp only [hl5_1] at c20b0h))
  clear c20
  have H' := za0.mk H
  clear H
  obtain ⟨Ao21, co21, eo21, _⟩ := Kd.Q_slice HO_6.1
  subst eo21
  have hcz22_0 : wr.cell? ⟨gb103, 0, none⟩ = some (.slice A0_0 l0_0.length c0_0) := (zl0 BK103.1 0).trans rfl
  have hfz22_0 := zk0 BK103.1 0
  have p114 : 0 ≤ (0 : Int) := (by omega)
  have q114 : 0 < (x6_1.length : Int) := of_decide_eq_true (by assumption)
  obtain ⟨ad114, e114, hx114_0⟩ := Kd.at_int (Kd.Q_reads' HO_6.1).2.2 0 p114 q114
  cases e114
  have qi114 : (0 < x6_1.length) = True := eq_true (by omega)
  (try rw [show ((0 : Int)).toNat = 0 from rfl] at hx114_0)
  (try rw [Addr.add_zero'] at hx114_0)
  replace p114 := eq_true p114
  replace q114 := eq_true q114
  have p115 : 0 ≤ ((rd x6_1 0) : Int) := of_decide_eq_true (by assumption)
  have q115 : (rd x6_1 0) < (l0_0.length : Int) := of_decide_eq_true (by assumption)
  obtain ⟨ad115, A115_0, c115_0, e115, hx115_0, hl115_0, hi115_0⟩ := at_L1 HR0_0.1 (rd x6_1 0) p115 q115
  cases e115
  replace hx115_0 := (HB.1.cell (World.block_lt_of_cell? w _ hx115_0)).trans hx115_0
  have HR115_0 := za0.mk hi115_0
  have HC115_0 := za0.mk hl115_0
  clear hi115_0 hl115_0
  replace p115 := eq_true p115
  replace q115 := eq_true q115
  go_wp2
  repeat (go_quiet (fail); try go_wp2)
  go_loopg [6, 32] k1 (fun kq v6 v32 w' => ∃ (x5_2 : List Int) (x6_2 : List Int) (x32_2 : Int), v32 = .int .i64 x32_2 ∧ za0 (yc0.l1 kq x5_2 x6_2 (rd_L1 l0_0 (rd x6_1 0)) ((rd_L1 l0_0 (rd x6_1 0)).length : Int) x32_2 l0_0 = some r) ∧ za0 (kq ≤ k1) ∧ za0 (Kd.R (Kd.int .i64) 3 w' w.heap.size (fun k_ => some k_ ≠ (v6 : Value).ownBlock) (.slice (some ⟨go6, 0, none⟩) x5_1.length co6) x5_2) ∧ za0 (Kd.Q (Kd.int .i64) 3 w' w.heap.size (fun k_ => some k_ ≠ ((.slice (some ⟨go6, 0, none⟩) x5_1.length co6) : Value).ownBlock) v6 x6_2) ∧ za0 (w'.heap[gb103]? = some (.cells #[(.slice (some ad115) l0_0.length c0_0)] 29 (0, 0))) ∧ za0 (Below w.heap.size w w'))
  case atStart => exact ⟨(x5_1), (x6_1), (0), (by first | rfl | (simp; done) | (simp [*]; done)), H', ⟨Nat.le_refl _⟩, ⟨by (try simp only [hl5_1]); (with_reducible repeat (first | apply Kd.R_alloc | apply Kd.R_drewN | apply Kd.R_drew)); exact HO_5.1⟩, ⟨by (try simp only [hl5_1]); (with_reducible repeat (first | apply Kd.Q_alloc | apply Kd.Q_drewN | apply Kd.Q_drew)); exact HO_6.1⟩, ⟨by (try simp only [hl5_1]); (with_reducible repeat (first | refine zg0 ?_ _ | refine zj0 ?_ | refine zf0 ?_ _)); exact BK103.1⟩, ⟨by repeat (first | exact HB.1 | apply zc0 | apply zb0 | apply zd0 | refine ze0 ?_ GE103.1)⟩⟩
  case round =>
   clear H'
   try clear c1
   try clear p1
   try clear q1
   try clear hx1
   try clear qi1
   try clear c2
   try clear p2
   try clear c4
   try clear c4b0
   try clear c5
   try clear c5b0
   try clear p6
   try clear q6
   try clear hx6
   try clear hf6
   try clear c8
   try clear c11
   try clear p11
   try clear q11
   try clear hx11
   try clear qi11
   try clear c17
   try clear c17b0
   try clear c17b1
   try clear c18
   try clear c18b0
   try clear c18b1
   try clear c19
   try clear c19b0
   try clear c20
   try clear c20b0
   try clear hcz10_0
   try clear hcz22_0
   try clear hfz10_0
   try clear hfz22_0
   try clear hx114_0
   try clear hx115_0
   try clear hx6_0
   try clear p114
   try clear p115
   try clear p2
   try clear p6
   try clear q114
   try clear q115
   try clear q6
   obtain ⟨x5_2, x6_2, x32_2, rfl, HA, HK2, HO_5, HO_6, BK103, HB⟩ := hrel
   have hl5_2 := (Kd.R_reads' HO_5.1).1
   rw [hl5_2] at HO_5
   (try simp only [hl5_2])
   (try simp only [hl5_2] at BK103)
   (try simp only [hl5_2] at HO_6)
   obtain _ | k2 := gk
   ·exact absurd HA.1 (by simp [yc0.l1])
   have H := HA.1
   clear HA
   simp only [yc0.l1] at H
   by_cases c23 : x32_2 < ((rd_L1 l0_0 (rd x6_1 0)).length : Int)
   rotate_left
   ·rw [if_neg c23] at H
    have c23b0 : decide (x32_2 < ((rd_L1 l0_0 (rd x6_1 0)).length : Int)) = false := decide_eq_false c23
    (try (have c23b0h := c23b0; simp only [hl5_1, hl5_2] at c23b0h))
    clear c23
    by_cases c38 : 1 ≤ (x6_2.length : Int)
    rotate_left
    ·rw [if_neg c38] at H
     exact absurd H (by simp)
    rw [if_pos c38] at H
    have c38b0 := eq_true c38
    have c38b1 : decide (1 ≤ (x6_2.length : Int)) = true := decide_eq_true c38
    clear c38
    obtain ⟨y124, hy124⟩ : ∃ y_ : List Int, y_ = (x6_2.drop (1 : Int).toNat) := ⟨_, rfl⟩
    replace H : (yc0.l0 k2 x5_2 y124 l0_0) = some r := by first | (rw [hy124]; with_reducible exact H) | (have H2_ := (Option.bind_some _ _).symm.trans H; rw [hy124]; with_reducible exact H2_) | (have H2_ := (Option.bind_some _ _).symm.trans H; with_reducible exact H2_) | with_reducible exact H | (rw [hy124]; exact H) | exact H
    have Ny124 := za0.mk hy124
    clear hy124
    have H' := za0.mk H
    clear H
    obtain ⟨Ao39, co39, eo39, _⟩ := Kd.Q_slice HO_6.1
    subst eo39
    have q40 : (1 : Int) ≤ ((x6_2.length : Int) : Int) := of_decide_eq_true (by assumption)
    obtain ⟨i040, hi040, _, hsz40, _⟩ := info_parts info3
    have hcut40 := cut_from (P := Try.prog) 25 3 .i64 Try.underlying25 hi040 1 hsz40 Ao39 x6_2.length co39 1 (by omega) q40
    have hr40 := Kd.Q_drop (k := (1 : Int).toNat) HO_6.1 (by omega)
    obtain ⟨A40, hA40⟩ : ∃ A1, A1 = (if co39 = (1 : Int).toNat then Ao39 else (Ao39 : Option Addr).map (·.add ((1 : Int).toNat * 1))) := ⟨_, rfl⟩
    obtain ⟨c40, hc40⟩ : ∃ c1, c1 = co39 - (1 : Int).toNat := ⟨_, rfl⟩
    have hy40 : y124.length = x6_2.length - (1 : Int).toNat := (by rw [Ny124.1, List.length_drop])
    rw [← Ny124.1] at hr40
    rw [← hy40, ← hA40, ← hc40] at hcut40
    replace hr40 : Kd.Q (Kd.int .i64) 3 wr w.heap.size (fun k_ => some k_ ≠ (.slice (some ⟨go6, 0, none⟩) x5_2.length co6 : Value).ownBlock) (.slice A40 y124.length c40) y124 := (by rw [hA40, hc40, hy40]; exact hr40)
    have HE40 : za0 ((Value.slice A40 y124.length c40).ownBlock = (.slice Ao39 x6_2.length co39 : Value).ownBlock) := ⟨by rw [hA40]; split <;> (cases (Ao39 : Option Addr) <;> first | rfl | (simp only [Option.map, Value.ownBlock, Addr.add]; split <;> rfl))⟩
    clear hy40 hi040 hsz40 HO_6 hA40 hc40
    have HO126 := za0.mk hr40
    clear hr40
    replace q40 := eq_true q40
    have n_ := za0.mk (Kd.R_mono (ok' := fun k_ => some k_ ≠ (.slice A40 y124.length c40 : Value).ownBlock) HO_5.1 (fun k_ hk => (by rw [HE40.1]; exact hk)))
    clear HO_5
    have HO_5 := n_
    clear n_
    go_wp2
    repeat (go_quiet (fail); try go_wp2)
    (try simp only [← hl5_1, ← hl5_2])
    go_roundg k2
    case measure => have := HK1.1; have := HK2.1; omega
    case rel => exact ⟨(x5_2), (y124), H', ⟨by have := HK1.1; have := HK2.1; omega⟩, ⟨by (try simp only [hl5_1]); (try simp only [hl5_2]); (with_reducible repeat (first | apply Kd.R_alloc | apply Kd.R_drewN | apply Kd.R_drew)); exact HO_5.1⟩, ⟨by (try simp only [hl5_1]); (try simp only [hl5_2]); (with_reducible repeat (first | apply Kd.Q_alloc | apply Kd.Q_drewN | apply Kd.Q_drew)); exact HO126.1⟩, ⟨by (try simp only [hl5_1]); (try simp only [hl5_2]); (with_reducible repeat (first | refine zg0 ?_ _ | refine zj0 ?_ | refine zf0 ?_ _)); exact BK103.1⟩, ⟨by repeat (first | exact HB.1 | apply zc0 | apply zb0 | apply zd0 | refine ze0 ?_ GE103.1)⟩⟩
   rw [if_pos c23] at H
   have c23b0 : decide (x32_2 < ((rd_L1 l0_0 (rd x6_1 0)).length : Int)) = true := decide_eq_true c23
   (try (have c23b0h := c23b0; simp only [hl5_1, hl5_2] at c23b0h))
   clear c23
   by_cases c24 : 0 ≤ x32_2
   rotate_left
   ·rw [if_neg c24] at H
    exact absurd H (by simp)
   rw [if_pos c24] at H
   have c24b0 : decide (0 ≤ x32_2) = true := decide_eq_true c24
   (try (have c24b0h := c24b0; simp only [hl5_1, hl5_2] at c24b0h))
   clear c24
   by_cases c25 : x32_2 < ((rd_L1 l0_0 (rd x6_1 0)).length : Int)
   rotate_left
   ·rw [if_neg c25] at H
    exact absurd H (by simp)
   rw [if_pos c25] at H
   have c25b0 : decide (x32_2 < ((rd_L1 l0_0 (rd x6_1 0)).length : Int)) = true := decide_eq_true c25
   (try (have c25b0h := c25b0; simp only [hl5_1, hl5_2] at c25b0h))
   clear c25
   by_cases c26 : 0 ≤ (rd (rd_L1 l0_0 (rd x6_1 0)) x32_2)
   rotate_left
   ·rw [if_neg c26] at H
    exact absurd H (by simp)
   rw [if_pos c26] at H
   have c26b0 : decide (0 ≤ (rd (rd_L1 l0_0 (rd x6_1 0)) x32_2)) = true := decide_eq_true c26
   (try (have c26b0h := c26b0; simp only [hl5_1, hl5_2] at c26b0h))
   clear c26
   by_cases c27 : (rd (rd_L1 l0_0 (rd x6_1 0)) x32_2) < (x5_2.length : Int)
   rotate_left
   ·rw [if_neg c27] at H
    exact absurd H (by simp)
   rw [if_pos c27] at H
   have c27b0 : decide ((rd (rd_L1 l0_0 (rd x6_1 0)) x32_2) < (x5_2.length : Int)) = true := decide_eq_true c27
   (try (have c27b0h := c27b0; simp only [hl5_1, hl5_2] at c27b0h))
   clear c27
   by_cases c28 : (rd x5_2 (rd (rd_L1 l0_0 (rd x6_1 0)) x32_2)) < 0
   rotate_left
   ·rw [if_neg c28] at H
    have c28b0 : decide ((rd x5_2 (rd (rd_L1 l0_0 (rd x6_1 0)) x32_2)) < 0) = false := decide_eq_false c28
    (try (have c28b0h := c28b0; simp only [hl5_1, hl5_2] at c28b0h))
    clear c28
    have H' := za0.mk H
    clear H
    have p116 : 0 ≤ (x32_2 : Int) := of_decide_eq_true (by assumption)
    have q116 : x32_2 < ((rd_L1 l0_0 (rd x6_1 0)).length : Int) := of_decide_eq_true (by assumption)
    obtain ⟨ad116, e116, hx116_0⟩ := Kd.at_int HR115_0.1 x32_2 p116 q116
    cases e116
    replace hx116_0 := (HB.1.cell (World.block_lt_of_cell? w _ hx116_0)).trans hx116_0
    replace p116 := eq_true p116
    replace q116 := eq_true q116
    have p117 : 0 ≤ ((rd (rd_L1 l0_0 (rd x6_1 0)) x32_2) : Int) := of_decide_eq_true (by assumption)
    have q117 : (rd (rd_L1 l0_0 (rd x6_1 0)) x32_2) < (x5_2.length : Int) := of_decide_eq_true (by assumption)
    obtain ⟨ad117, e117, hx117_0⟩ := Kd.at_int (Kd.R_reads' HO_5.1).2.2 (rd (rd_L1 l0_0 (rd x6_1 0)) x32_2) p117 q117
    obtain rfl : (⟨go6, 0, none⟩ : Addr) = ad117 := (by injection e117)
    (first | simp only [add_plain] at hx117_0 | simp only [add_at] at hx117_0 | simp only [Addr.add, Nat.zero_add] at hx117_0 | skip)
    replace p117 := eq_true p117
    replace q117 := eq_true q117
    go_wp2
    repeat (go_quiet (fail); try go_wp2)
    (try simp only [← hl5_2])
    go_roundg k2
    case measure => have := HK1.1; have := HK2.1; omega
    case rel => exact ⟨(x5_2), (x6_2), (wrap64 (x32_2 + 1)), (by first | rfl | (simp; done) | (simp [*]; done)), H', ⟨by have := HK1.1; have := HK2.1; omega⟩, ⟨by (try simp only [hl5_1]); (try simp only [hl5_2]); (with_reducible repeat (first | apply Kd.R_alloc | apply Kd.R_drewN | apply Kd.R_drew)); exact HO_5.1⟩, ⟨by (try simp only [hl5_1]); (try simp only [hl5_2]); (with_reducible repeat (first | apply Kd.Q_alloc | apply Kd.Q_drewN | apply Kd.Q_drew)); exact HO_6.1⟩, ⟨by (try simp only [hl5_1]); (try simp only [hl5_2]); (with_reducible repeat (first | refine zg0 ?_ _ | refine zj0 ?_ | refine zf0 ?_ _)); exact BK103.1⟩, ⟨by repeat (first | exact HB.1 | apply zc0 | apply zb0 | apply zd0 | refine ze0 ?_ GE103.1)⟩⟩
   rw [if_pos c28] at H
   have c28b0 : decide ((rd x5_2 (rd (rd_L1 l0_0 (rd x6_1 0)) x32_2)) < 0) = true := decide_eq_true c28
   (try (have c28b0h := c28b0; simp only [hl5_1, hl5_2] at c28b0h))
   clear c28
   by_cases c29 : 0 < (x6_2.length : Int)
   rotate_left
   ·rw [if_neg c29] at H
    exact absurd H (by simp)
   rw [if_pos c29] at H
   have c29b0 : decide (0 < (x6_2.length : Int)) = true := decide_eq_true c29
   (try (have c29b0h := c29b0; simp only [hl5_1, hl5_2] at c29b0h))
   have c29b1 : decide (0 < x6_2.length) = true := decide_eq_true (by omega)
   (try (have c29b1h := c29b1; simp only [hl5_1, hl5_2] at c29b1h))
   clear c29
   by_cases c30 : 0 ≤ (rd x6_2 0)
   rotate_left
   ·rw [if_neg c30] at H
    exact absurd H (by simp)
   rw [if_pos c30] at H
   have c30b0 : decide (0 ≤ (rd x6_2 0)) = true := decide_eq_true c30
   (try (have c30b0h := c30b0; simp only [hl5_1, hl5_2] at c30b0h))
   clear c30
   by_cases c31 : (rd x6_2 0) < (x5_2.length : Int)
   rotate_left
   ·rw [if_neg c31] at H
    exact absurd H (by simp)
   rw [if_pos c31] at H
   have c31b0 : decide ((rd x6_2 0) < (x5_2.length : Int)) = true := decide_eq_true c31
   (try (have c31b0h := c31b0; simp only [hl5_1, hl5_2] at c31b0h))
   clear c31
   obtain ⟨y120, hy120⟩ : ∃ y_ : List Int, y_ = (x5_2.set ((rd (rd_L1 l0_0 (rd x6_1 0)) x32_2) : Int).toNat (wrap64 ((rd x5_2 (rd x6_2 0)) + 1))) := ⟨_, rfl⟩
   replace H : (if x6_2.length < 17592186044416 then (yc0.l1 k2 y120 (x6_2 ++ [rd (rd_L1 l0_0 (rd x6_1 0)) x32_2]) (rd_L1 l0_0 (rd x6_1 0)) ((rd_L1 l0_0 (rd x6_1 0)).length : Int) (wrap64 (x32_2 + 1)) l0_0) else (none)) = some r := by first | (rw [hy120]; with_reducible exact H) | (have H2_ := (Option.bind_some _ _).symm.trans H; rw [hy120]; with_reducible exact H2_) | (have H2_ := (Option.bind_some _ _).symm.trans H; with_reducible exact H2_) | with_reducible exact H | (rw [hy120]; exact H) | exact H
   have Ny120 := za0.mk hy120
   clear hy120
   by_cases c33 : x6_2.length < 17592186044416
   rotate_left
   ·rw [if_neg c33] at H
    exact absurd H (by simp)
   rw [if_pos c33] at H
   have LMc33 := za0.mk c33
   clear c33
   obtain ⟨y121, hy121⟩ : ∃ y_ : List Int, y_ = (x6_2 ++ [rd (rd_L1 l0_0 (rd x6_1 0)) x32_2]) := ⟨_, rfl⟩
   replace H : (yc0.l1 k2 y120 y121 (rd_L1 l0_0 (rd x6_1 0)) ((rd_L1 l0_0 (rd x6_1 0)).length : Int) (wrap64 (x32_2 + 1)) l0_0) = some r := by first | (rw [hy121]; with_reducible exact H) | (have H2_ := (Option.bind_some _ _).symm.trans H; rw [hy121]; with_reducible exact H2_) | (have H2_ := (Option.bind_some _ _).symm.trans H; with_reducible exact H2_) | with_reducible exact H | (rw [hy121]; exact H) | exact H
   have Ny121 := za0.mk hy121
   clear hy121
   have H' := za0.mk H
   clear H
   have p116 : 0 ≤ (x32_2 : Int) := of_decide_eq_true (by assumption)
   have q116 : x32_2 < ((rd_L1 l0_0 (rd x6_1 0)).length : Int) := of_decide_eq_true (by assumption)
   obtain ⟨ad116, e116, hx116_0⟩ := Kd.at_int HR115_0.1 x32_2 p116 q116
   cases e116
   replace hx116_0 := (HB.1.cell (World.block_lt_of_cell? w _ hx116_0)).trans hx116_0
   replace p116 := eq_true p116
   replace q116 := eq_true q116
   have p117 : 0 ≤ ((rd (rd_L1 l0_0 (rd x6_1 0)) x32_2) : Int) := of_decide_eq_true (by assumption)
   have q117 : (rd (rd_L1 l0_0 (rd x6_1 0)) x32_2) < (x5_2.length : Int) := of_decide_eq_true (by assumption)
   obtain ⟨ad117, e117, hx117_0⟩ := Kd.at_int (Kd.R_reads' HO_5.1).2.2 (rd (rd_L1 l0_0 (rd x6_1 0)) x32_2) p117 q117
   obtain rfl : (⟨go6, 0, none⟩ : Addr) = ad117 := (by injection e117)
   (first | simp only [add_plain] at hx117_0 | simp only [add_at] at hx117_0 | simp only [Addr.add, Nat.zero_add] at hx117_0 | skip)
   replace p117 := eq_true p117
   replace q117 := eq_true q117
   obtain ⟨Ao34, co34, eo34, _⟩ := Kd.Q_slice HO_6.1
   subst eo34
   have p118 : 0 ≤ (0 : Int) := (by omega)
   have q118 : 0 < (x6_2.length : Int) := of_decide_eq_true (by assumption)
   obtain ⟨ad118, e118, hx118_0⟩ := Kd.at_int (Kd.Q_reads' HO_6.1).2.2 0 p118 q118
   cases e118
   have qi118 : (0 < x6_2.length) = True := eq_true (by omega)
   (try rw [show ((0 : Int)).toNat = 0 from rfl] at hx118_0)
   (try rw [Addr.add_zero'] at hx118_0)
   replace p118 := eq_true p118
   replace q118 := eq_true q118
   have p119 : 0 ≤ ((rd x6_2 0) : Int) := of_decide_eq_true (by assumption)
   have q119 : (rd x6_2 0) < (x5_2.length : Int) := of_decide_eq_true (by assumption)
   obtain ⟨ad119, e119, hx119_0⟩ := Kd.at_int (Kd.R_reads' HO_5.1).2.2 (rd x6_2 0) p119 q119
   obtain rfl : (⟨go6, 0, none⟩ : Addr) = ad119 := (by injection e119)
   (first | simp only [add_plain] at hx119_0 | simp only [add_at] at hx119_0 | simp only [Addr.add, Nat.zero_add] at hx119_0 | skip)
   replace p119 := eq_true p119
   replace q119 := eq_true q119
   have p32 : 0 ≤ ((rd (rd_L1 l0_0 (rd x6_1 0)) x32_2) : Int) := of_decide_eq_true (by assumption)
   have q32 : ((rd (rd_L1 l0_0 (rd x6_1 0)) x32_2) : Int) < ((x5_2.length : Int) : Int) := of_decide_eq_true (by assumption)
   obtain ⟨hx32_0, hf32_0⟩ := Kd.R_celln 0 HO_5.1 ((rd (rd_L1 l0_0 (rd x6_1 0)) x32_2) : Int) p32 q32
   replace p32 := eq_true p32
   replace q32 := eq_true q32
   have HP35 := Kd.R_putg HO_5.1 ((rd (rd_L1 l0_0 (rd x6_1 0)) x32_2) : Int) (wrap64 ((rd x5_2 (rd x6_2 0)) + 1))
   go_wp2_with (first | ((with_reducible refine gate_store (t := 3) (p := 50) rfl ?_); (try (rw [drewN_self wr]; generalize hq_ : World.drewN wr _ = wr; have n0_ := za0.mk (Kd.R_at hq_ HO_5.1); have n1_ := za0.mk (Kd.Q_at hq_ HO_6.1); have n2_ := za0.mk (blk_at hq_ BK103.1); have n3_ := za0.mk (below_at hq_ HB.1); clear hq_ HO_5 HO_6 BK103 HB; have HO_5 := n0_; have HO_6 := n1_; have BK103 := n2_; have HB := n3_; clear n0_ n1_ n2_ n3_; (try (have HP35 := Kd.R_putg HO_5.1 ((rd (rd_L1 l0_0 (rd x6_1 0)) x32_2) : Int) (wrap64 ((rd x5_2 (rd x6_2 0)) + 1)))))); refine store_event (t := 3) (p := 50) (v := ?vo_w36) (w1 := (wr.setCell ⟨go6, ((rd (rd_L1 l0_0 (rd x6_1 0)) x32_2) : Int).toNat, none⟩ (.int .i64 (wrap64 ((rd x5_2 (rd x6_2 0)) + 1))))) ?hg ?ho ?hn ?hr ?_; (case ho => rfl); (case hg => rfl); (case hn => rfl); (case hr => go_simp <;> rfl); intro w36 hw; have hg : wr.grownBy w36 (some go6) := (by rw [hw]; exact HP35.2); have hp_ : Kd.R (Kd.int .i64) 3 w36 w.heap.size (fun k_ => some k_ ≠ (.slice (some ad118) x6_2.length co34 : Value).ownBlock) (.slice (some ⟨go6, 0, none⟩) x5_2.length co6) y120 := (by rw [hw, Ny120.1]; exact HP35.1); clear HP35; have n0_ := za0.mk (hp_); have n1_ := za0.mk (Kd.Q_after (v := (.slice (some ⟨go6, 0, none⟩) x5_2.length co6)) (v1 := (.slice (some ⟨go6, 0, none⟩) x5_2.length co6)) (ok := (fun _ => True)) (by (with_reducible repeat (first | apply Kd.Q_alloc | apply Kd.Q_drewN | apply Kd.Q_drew)); exact Kd.Q_mono HO_6.1 (fun _ hk => ⟨trivial, hk⟩)) hg (.inl rfl)); have n2_ := za0.mk (blk_grown (g := gb103) (o := .cells #[.slice (some ad115) l0_0.length c0_0] 29 (0, 0)) (by (with_reducible repeat (first | refine zg0 ?_ _ | refine zj0 ?_ | refine zf0 ?_ _)); exact BK103.1) hg (Kd.R_ne HO_5.1 BK103.1 (by decide))); have n3_ := za0.mk ((by rw [hw]; exact ze0 (HB.1) GB6.1 : Below w.heap.size w w36)); clear HO_5; clear HO_6; clear BK103; clear HB; have HO_5 := n0_; have HO_6 := n1_; have BK103 := n2_; have HB := n3_; clear n0_ n1_ n2_ n3_; clear hg hw hp_) | ((with_reducible refine gate_builtin (b := .append) (xs := #[.tmp 51, .tmp 53]) rfl ?_); at_builtin; refine Kd.Q_append (Kd.int .i64) (w0 := w) w.heap.size rfl (.tmp 51) (.tmp 53) 25 3 (.int .i64 0) 8 rfl Try.underlying25 info3 rfl (by decide) (by omega) (.slice (some ad118) x6_2.length co34) x6_2 (rd (rd_L1 l0_0 (rd x6_1 0)) x32_2) [.int .i64 (rd (rd_L1 l0_0 (rd x6_1 0)) x32_2)] (fun k_ => some k_ ≠ (.slice (some ⟨go6, 0, none⟩) x5_2.length co6 : Value).ownBlock) (fun _ => False) rfl rfl ?aP (fun _ hk => hk.elim) ?aF ?aO ?aB ?aS ?aL ?_; (case aP => exact rfl); (case aB => exact (by repeat (first | exact HB.1 | apply zc0 | apply zb0 | apply zd0 | refine ze0 ?_ GE103.1))); (case aF => exact (fun k_ hk => Kd.fresh' (Kd.R_lt (by (with_reducible repeat (first | apply Kd.R_alloc | apply Kd.R_drewN | apply Kd.R_drew)); exact HO_5.1)) k_ hk)); (case aO => exact (by (with_reducible repeat (first | apply Kd.Q_alloc | apply Kd.Q_drewN | apply Kd.Q_drew)); exact Kd.Q_mono HO_6.1 (fun _ hk => hk.2))); (case aS => exact (zh0 (by repeat (first | exact HB.1 | apply zc0 | apply zb0 | apply zd0 | refine ze0 ?_ GE103.1)))); (case aL => have := LMc33.1; omega); intro v122 w37 ho hb hg hat; rw [← Ny121.1] at ho; have n0_ := za0.mk (Kd.R_after (ok := (fun _ => True)) (by (with_reducible repeat (first | apply Kd.R_alloc | apply Kd.R_drewN | apply Kd.R_drew)); exact Kd.R_mono HO_5.1 (fun _ hk => ⟨trivial, hk⟩)) hg hat); have n1_ := za0.mk (blk_grown (g := gb103) (o := .cells #[.slice (some ad115) l0_0.length c0_0] 29 (0, 0)) (by (with_reducible repeat (first | refine zg0 ?_ _ | refine zj0 ?_ | refine zf0 ?_ _)); exact BK103.1) hg (Kd.Q_ne HO_6.1 BK103.1 (by decide))); have n2_ := za0.mk (hb); have n3_ := za0.mk (ho); clear HO_5; clear BK103; clear HB; clear HO_6; have HO_5 := n0_; have BK103 := n1_; have HB := n2_; have HO123 := n3_; clear n0_ n1_ n2_ n3_; clear ho hb hg hat))
   repeat (go_quiet (first | ((with_reducible refine gate_store (t := 3) (p := 50) rfl ?_); (try (rw [drewN_self wr]; generalize hq_ : World.drewN wr _ = wr; have n0_ := za0.mk (Kd.R_at hq_ HO_5.1); have n1_ := za0.mk (Kd.Q_at hq_ HO_6.1); have n2_ := za0.mk (blk_at hq_ BK103.1); have n3_ := za0.mk (below_at hq_ HB.1); clear hq_ HO_5 HO_6 BK103 HB; have HO_5 := n0_; have HO_6 := n1_; have BK103 := n2_; have HB := n3_; clear n0_ n1_ n2_ n3_; (try (have HP35 := Kd.R_putg HO_5.1 ((rd (rd_L1 l0_0 (rd x6_1 0)) x32_2) : Int) (wrap64 ((rd x5_2 (rd x6_2 0)) + 1)))))); refine store_event (t := 3) (p := 50) (v := ?vo_w36) (w1 := (wr.setCell ⟨go6, ((rd (rd_L1 l0_0 (rd x6_1 0)) x32_2) : Int).toNat, none⟩ (.int .i64 (wrap64 ((rd x5_2 (rd x6_2 0)) + 1))))) ?hg ?ho ?hn ?hr ?_; (case ho => rfl); (case hg => rfl); (case hn => rfl); (case hr => go_simp <;> rfl); intro w36 hw; have hg : wr.grownBy w36 (some go6) := (by rw [hw]; exact HP35.2); have hp_ : Kd.R (Kd.int .i64) 3 w36 w.heap.size (fun k_ => some k_ ≠ (.slice (some ad118) x6_2.length co34 : Value).ownBlock) (.slice (some ⟨go6, 0, none⟩) x5_2.length co6) y120 := (by rw [hw, Ny120.1]; exact HP35.1); clear HP35; have n0_ := za0.mk (hp_); have n1_ := za0.mk (Kd.Q_after (v := (.slice (some ⟨go6, 0, none⟩) x5_2.length co6)) (v1 := (.slice (some ⟨go6, 0, none⟩) x5_2.length co6)) (ok := (fun _ => True)) (by (with_reducible repeat (first | apply Kd.Q_alloc | apply Kd.Q_drewN | apply Kd.Q_drew)); exact Kd.Q_mono HO_6.1 (fun _ hk => ⟨trivial, hk⟩)) hg (.inl rfl)); have n2_ := za0.mk (blk_grown (g := gb103) (o := .cells #[.slice (some ad115) l0_0.length c0_0] 29 (0, 0)) (by (with_reducible repeat (first | refine zg0 ?_ _ | refine zj0 ?_ | refine zf0 ?_ _)); exact BK103.1) hg (Kd.R_ne HO_5.1 BK103.1 (by decide))); have n3_ := za0.mk ((by rw [hw]; exact ze0 (HB.1) GB6.1 : Below w.heap.size w w36)); clear HO_5; clear HO_6; clear BK103; clear HB; have HO_5 := n0_; have HO_6 := n1_; have BK103 := n2_; have HB := n3_; clear n0_ n1_ n2_ n3_; clear hg hw hp_) | ((with_reducible refine gate_builtin (b := .append) (xs := #[.tmp 51, .tmp 53]) rfl ?_); at_builtin; refine Kd.Q_append (Kd.int .i64) (w0 := w) w.heap.size rfl (.tmp 51) (.tmp 53) 25 3 (.int .i64 0) 8 rfl Try.underlying25 info3 rfl (by decide) (by omega) (.slice (some ad118) x6_2.length co34) x6_2 (rd (rd_L1 l0_0 (rd x6_1 0)) x32_2) [.int .i64 (rd (rd_L1 l0_0 (rd x6_1 0)) x32_2)] (fun k_ => some k_ ≠ (.slice (some ⟨go6, 0, none⟩) x5_2.length co6 : Value).ownBlock) (fun _ => False) rfl rfl ?aP (fun _ hk => hk.elim) ?aF ?aO ?aB ?aS ?aL ?_; (case aP => exact rfl); (case aB => exact (by repeat (first | exact HB.1 | apply zc0 | apply zb0 | apply zd0 | refine ze0 ?_ GE103.1))); (case aF => exact (fun k_ hk => Kd.fresh' (Kd.R_lt (by (with_reducible repeat (first | apply Kd.R_alloc | apply Kd.R_drewN | apply Kd.R_drew)); exact HO_5.1)) k_ hk)); (case aO => exact (by (with_reducible repeat (first | apply Kd.Q_alloc | apply Kd.Q_drewN | apply Kd.Q_drew)); exact Kd.Q_mono HO_6.1 (fun _ hk => hk.2))); (case aS => exact (zh0 (by repeat (first | exact HB.1 | apply zc0 | apply zb0 | apply zd0 | refine ze0 ?_ GE103.1)))); (case aL => have := LMc33.1; omega); intro v122 w37 ho hb hg hat; rw [← Ny121.1] at ho; have n0_ := za0.mk (Kd.R_after (ok := (fun _ => True)) (by (with_reducible repeat (first | apply Kd.R_alloc | apply Kd.R_drewN | apply Kd.R_drew)); exact Kd.R_mono HO_5.1 (fun _ hk => ⟨trivial, hk⟩)) hg hat); have n1_ := za0.mk (blk_grown (g := gb103) (o := .cells #[.slice (some ad115) l0_0.length c0_0] 29 (0, 0)) (by (with_reducible repeat (first | refine zg0 ?_ _ | refine zj0 ?_ | refine zf0 ?_ _)); exact BK103.1) hg (Kd.Q_ne HO_6.1 BK103.1 (by decide))); have n2_ := za0.mk (hb); have n3_ := za0.mk (ho); clear HO_5; clear BK103; clear HB; clear HO_6; have HO_5 := n0_; have BK103 := n1_; have HB := n2_; have HO123 := n3_; clear n0_ n1_ n2_ n3_; clear ho hb hg hat)); try go_wp2_with (first | ((with_reducible refine gate_store (t := 3) (p := 50) rfl ?_); (try (rw [drewN_self wr]; generalize hq_ : World.drewN wr _ = wr; have n0_ := za0.mk (Kd.R_at hq_ HO_5.1); have n1_ := za0.mk (Kd.Q_at hq_ HO_6.1); have n2_ := za0.mk (blk_at hq_ BK103.1); have n3_ := za0.mk (below_at hq_ HB.1); clear hq_ HO_5 HO_6 BK103 HB; have HO_5 := n0_; have HO_6 := n1_; have BK103 := n2_; have HB := n3_; clear n0_ n1_ n2_ n3_; (try (have HP35 := Kd.R_putg HO_5.1 ((rd (rd_L1 l0_0 (rd x6_1 0)) x32_2) : Int) (wrap64 ((rd x5_2 (rd x6_2 0)) + 1)))))); refine store_event (t := 3) (p := 50) (v := ?vo_w36) (w1 := (wr.setCell ⟨go6, ((rd (rd_L1 l0_0 (rd x6_1 0)) x32_2) : Int).toNat, none⟩ (.int .i64 (wrap64 ((rd x5_2 (rd x6_2 0)) + 1))))) ?hg ?ho ?hn ?hr ?_; (case ho => rfl); (case hg => rfl); (case hn => rfl); (case hr => go_simp <;> rfl); intro w36 hw; have hg : wr.grownBy w36 (some go6) := (by rw [hw]; exact HP35.2); have hp_ : Kd.R (Kd.int .i64) 3 w36 w.heap.size (fun k_ => some k_ ≠ (.slice (some ad118) x6_2.length co34 : Value).ownBlock) (.slice (some ⟨go6, 0, none⟩) x5_2.length co6) y120 := (by rw [hw, Ny120.1]; exact HP35.1); clear HP35; have n0_ := za0.mk (hp_); have n1_ := za0.mk (Kd.Q_after (v := (.slice (some ⟨go6, 0, none⟩) x5_2.length co6)) (v1 := (.slice (some ⟨go6, 0, none⟩) x5_2.length co6)) (ok := (fun _ => True)) (by (with_reducible repeat (first | apply Kd.Q_alloc | apply Kd.Q_drewN | apply Kd.Q_drew)); exact Kd.Q_mono HO_6.1 (fun _ hk => ⟨trivial, hk⟩)) hg (.inl rfl)); have n2_ := za0.mk (blk_grown (g := gb103) (o := .cells #[.slice (some ad115) l0_0.length c0_0] 29 (0, 0)) (by (with_reducible repeat (first | refine zg0 ?_ _ | refine zj0 ?_ | refine zf0 ?_ _)); exact BK103.1) hg (Kd.R_ne HO_5.1 BK103.1 (by decide))); have n3_ := za0.mk ((by rw [hw]; exact ze0 (HB.1) GB6.1 : Below w.heap.size w w36)); clear HO_5; clear HO_6; clear BK103; clear HB; have HO_5 := n0_; have HO_6 := n1_; have BK103 := n2_; have HB := n3_; clear n0_ n1_ n2_ n3_; clear hg hw hp_) | ((with_reducible refine gate_builtin (b := .append) (xs := #[.tmp 51, .tmp 53]) rfl ?_); at_builtin; refine Kd.Q_append (Kd.int .i64) (w0 := w) w.heap.size rfl (.tmp 51) (.tmp 53) 25 3 (.int .i64 0) 8 rfl Try.underlying25 info3 rfl (by decide) (by omega) (.slice (some ad118) x6_2.length co34) x6_2 (rd (rd_L1 l0_0 (rd x6_1 0)) x32_2) [.int .i64 (rd (rd_L1 l0_0 (rd x6_1 0)) x32_2)] (fun k_ => some k_ ≠ (.slice (some ⟨go6, 0, none⟩) x5_2.length co6 : Value).ownBlock) (fun _ => False) rfl rfl ?aP (fun _ hk => hk.elim) ?aF ?aO ?aB ?aS ?aL ?_; (case aP => exact rfl); (case aB => exact (by repeat (first | exact HB.1 | apply zc0 | apply zb0 | apply zd0 | refine ze0 ?_ GE103.1))); (case aF => exact (fun k_ hk => Kd.fresh' (Kd.R_lt (by (with_reducible repeat (first | apply Kd.R_alloc | apply Kd.R_drewN | apply Kd.R_drew)); exact HO_5.1)) k_ hk)); (case aO => exact (by (with_reducible repeat (first | apply Kd.Q_alloc | apply Kd.Q_drewN | apply Kd.Q_drew)); exact Kd.Q_mono HO_6.1 (fun _ hk => hk.2))); (case aS => exact (zh0 (by repeat (first | exact HB.1 | apply zc0 | apply zb0 | apply zd0 | refine ze0 ?_ GE103.1)))); (case aL => have := LMc33.1; omega); intro v122 w37 ho hb hg hat; rw [← Ny121.1] at ho; have n0_ := za0.mk (Kd.R_after (ok := (fun _ => True)) (by (with_reducible repeat (first | apply Kd.R_alloc | apply Kd.R_drewN | apply Kd.R_drew)); exact Kd.R_mono HO_5.1 (fun _ hk => ⟨trivial, hk⟩)) hg hat); have n1_ := za0.mk (blk_grown (g := gb103) (o := .cells #[.slice (some ad115) l0_0.length c0_0] 29 (0, 0)) (by (with_reducible repeat (first | refine zg0 ?_ _ | refine zj0 ?_ | refine zf0 ?_ _)); exact BK103.1) hg (Kd.Q_ne HO_6.1 BK103.1 (by decide))); have n2_ := za0.mk (hb); have n3_ := za0.mk (ho); clear HO_5; clear BK103; clear HB; clear HO_6; have HO_5 := n0_; have BK103 := n1_; have HB := n2_; have HO123 := n3_; clear n0_ n1_ n2_ n3_; clear ho hb hg hat)))
   (try simp only [← hl5_2])
   go_roundg k2
   case measure => have := HK1.1; have := HK2.1; omega
   case rel => exact ⟨(y120), (y121), (wrap64 (x32_2 + 1)), (by first | rfl | (simp; done) | (simp [*]; done)), H', ⟨by have := HK1.1; have := HK2.1; omega⟩, ⟨by (try simp only [hl5_1]); (try simp only [hl5_2]); (with_reducible repeat (first | apply Kd.R_alloc | apply Kd.R_drewN | apply Kd.R_drew)); exact Kd.R_mono HO_5.1 (fun _ hk => hk.2)⟩, ⟨by (try simp only [hl5_1]); (try simp only [hl5_2]); (with_reducible repeat (first | apply Kd.Q_alloc | apply Kd.Q_drewN | apply Kd.Q_drew)); exact HO123.1⟩, ⟨by (try simp only [hl5_1]); (try simp only [hl5_2]); (with_reducible repeat (first | refine zg0 ?_ _ | refine zj0 ?_ | refine zf0 ?_ _)); exact BK103.1⟩, ⟨by repeat (first | exact HB.1 | apply zc0 | apply zb0 | apply zd0 | refine ze0 ?_ GE103.1)⟩⟩
def yt0.l0 : Nat → Int → Int → Int → List (List Int) → Option (Bool)
 | 0, _, _, _, _ => none
 | k + 1, x1, x8, x9, x128000 => if x9 < x8 then ((yc0.f k x128000 x9).bind fun t128 => (if 0 ≤ x1 then (if x1 < (t128.length : Int) then (if (rd t128 x1) < 0 then (some false) else (yt0.l0 k x1 x8 (wrap64 (x9 + 1)) x128000)) else (none)) else (none))) else (some true)
def yt0.f (k : Nat) (l0_0 : List (List Int)) (a1 : Int) : Option (Bool) := yt0.l0 k a1 (l0_0.length : Int) 0 l0_0
theorem yt0.mono_l : ∀ k, (∀ y0 y1 y2 y3, LeO (yt0.l0 k y0 y1 y2 y3) (yt0.l0 (k + 1) y0 y1 y2 y3))
 | 0 => fun _ _ _ _ r h => by simp [yt0.l0] at h
 | k + 1 => by
  have ih0 := yt0.mono_l k
  ·intro y0 y1 y2 y3
   unfold yt0.l0
   repeat' (with_reducible first | exact ih0 _ _ _ _ | exact yc0.mono _ _ _ | exact LeO.refl _ | exact LeO.none _ | refine LeO.ite ?_ ?_ | refine LeO.bind ?_ (fun _ => ?_))
theorem yt0.mono : ∀ a0 a1 k, LeO (yt0.f k a0 a1) (yt0.f (k + 1) a0 a1) := by
 intro a0 a1 k
 have ih0 := yt0.mono_l k
 unfold yt0.f
 repeat' (with_reducible first | exact ih0 _ _ _ _ | exact yc0.mono _ _ _ | exact LeO.refl _ | exact LeO.none _ | refine LeO.ite ?_ ?_ | refine LeO.bind ?_ (fun _ => ?_))
theorem yt0.calls (k : Nat) (A0_0 : Option Addr) (c0_0 : Nat) (l0_0 : List (List Int)) (a1 : Int) (r : Bool) (w : World) (hr0_0 : Kd.C (Kd.slice 3 (Kd.int .i64)) w A0_0 l0_0.length l0_0) (hc0_0 : l0_0.length ≤ c0_0) (h : yt0.f k l0_0 a1 = some r) :
  Calls Try.prog 75 #[.agg #[.slice A0_0 l0_0.length c0_0], .int .i64 a1] w fun e w' => e = .returned (.bool r) ∧ Below w.heap.size w w' := by
 have hu29 := Try.underlying29
 have HR0_0 := za0.mk hr0_0
 have HC0_0 := za0.mk hc0_0
 clear hr0_0 hc0_0
 have HB := za0.mk (Below.refl w.heap.size w)
 have H : (yt0.l0 k a1 (l0_0.length : Int) 0 l0_0) = some r := h
 clear h
 have H' := za0.mk H
 clear H
 go_enter Try.func75, Try.ntmps75
 go_wp2_with (first | ((with_reducible refine zo0 (N := 2) rfl ?_); refine zp0 ?hg (N := 2) ?hd (cs := #[.slice A0_0 l0_0.length c0_0]) (t := 29) ?hr ?_; (case hd | hg => rfl); (case hr => go_simp <;> rfl); intro gb127 hg w3 hbox hb; have n0_ := za0.mk (zi0 (by repeat (first | exact HB.1 | apply zc0 | apply zb0 | apply zd0)) hb); have n1_ := za0.mk (hbox); have n2_ := za0.mk ((by rw [hg]; exact (zh0 (by repeat (first | exact HB.1 | apply zc0 | apply zb0 | apply zd0))) : w.heap.size ≤ gb127)); have n3_ := za0.mk ((by rw [hg]; exact (zh0 (by repeat (first | exact HB.1 | apply zc0 | apply zb0 | apply zd0))) : w.heap.size ≤ gb127)); clear HB; have HB := n0_; have BK127 := n1_; have GW127 := n2_; have GE127 := n3_; clear n0_ n1_ n2_ n3_; clear hb hbox hg; have hcz4_0 : w3.cell? ⟨gb127, 0, none⟩ = some (.slice A0_0 l0_0.length c0_0) := (zl0 BK127.1 0).trans rfl; have hfz4_0 := zk0 BK127.1 0))
 go_loopg [9] k (fun kq v9 w' => ∃ (x9_1 : Int), v9 = .int .i64 x9_1 ∧ za0 (yt0.l0 kq a1 (l0_0.length : Int) x9_1 l0_0 = some r) ∧ za0 (kq ≤ k) ∧ za0 (w'.heap[gb127]? = some (.cells #[(.slice A0_0 l0_0.length c0_0)] 29 (0, 0))) ∧ za0 (Below w.heap.size w w'))
 case atStart => exact ⟨(0), (by first | rfl | (simp; done) | (simp [*]; done)), H', ⟨Nat.le_refl _⟩, ⟨by (with_reducible repeat (first | refine zg0 ?_ _ | refine zj0 ?_ | refine zf0 ?_ _)); exact BK127.1⟩, ⟨by repeat (first | exact HB.1 | apply zc0 | apply zb0 | apply zd0 | refine ze0 ?_ GE127.1)⟩⟩
 case round =>
  clear H'
  try clear p2
  try clear hcz4_0
  try clear hfz4_0
  obtain ⟨x9_1, rfl, HA, HK1, BK127, HB⟩ := hrel
  obtain _ | k1 := gk
  ·exact absurd HA.1 (by simp [yt0.l0])
  have H := HA.1
  clear HA
  simp only [yt0.l0] at H
  by_cases c5 : x9_1 < (l0_0.length : Int)
  rotate_left
  ·rw [if_neg c5] at H
   have c5b0 : decide (x9_1 < (l0_0.length : Int)) = false := decide_eq_false c5
   clear c5
   obtain rfl := Option.some.inj H
   go_wp2
   go_ret
   exact ⟨by first | rfl | (simp [errW_none, errW_some] <;> rfl) | (simp [*, errW_none, errW_some] <;> rfl), by repeat (first | exact HB.1 | apply zc0 | apply zb0 | apply zd0 | refine ze0 ?_ GE127.1)⟩
  rw [if_pos c5] at H
  have c5b0 : decide (x9_1 < (l0_0.length : Int)) = true := decide_eq_true c5
  clear c5
  replace H := Option.bind_eq_some_iff.mp H
  obtain ⟨t128, A60, H⟩ := H
  replace H : (if 0 ≤ a1 then (if a1 < (t128.length : Int) then (if (rd t128 a1) < 0 then (some false) else (yt0.l0 k1 a1 (l0_0.length : Int) (wrap64 (x9_1 + 1)) l0_0)) else (none)) else (none)) = some r := H
  have A6 := za0.mk A60
  clear A60
  by_cases c7 : 0 ≤ a1
  rotate_left
  ·rw [if_neg c7] at H
   exact absurd H (by simp)
  rw [if_pos c7] at H
  have c7b0 : decide (0 ≤ a1) = true := decide_eq_true c7
  clear c7
  by_cases c8 : a1 < (t128.length : Int)
  rotate_left
  ·rw [if_neg c8] at H
   exact absurd H (by simp)
  rw [if_pos c8] at H
  have c8b0 : decide (a1 < (t128.length : Int)) = true := decide_eq_true c8
  clear c8
  by_cases c9 : (rd t128 a1) < 0
  ·rw [if_pos c9] at H
   have c9b0 : decide ((rd t128 a1) < 0) = true := decide_eq_true c9
   clear c9
   obtain rfl := Option.some.inj H
   have hcz10_0 : wr.cell? ⟨gb127, 0, none⟩ = some (.slice A0_0 l0_0.length c0_0) := (zl0 BK127.1 0).trans rfl
   have hfz10_0 := zk0 BK127.1 0
   go_wp2_with (first | ((with_reducible refine zn0 (f := 85) rfl ?_); refine za1 (some 14) rfl rfl Try.func85 (by kernel_rfl) rfl #[.agg #[.slice A0_0 l0_0.length c0_0], .int .i64 x9_1] rfl (by (try simp only [List.map_toArray, List.map_cons, List.map_nil]); first | done | rfl | (simp only [List.length_drop, List.length_take]; rfl)) ?_; (with_reducible refine (yc0.calls k1 _ _ l0_0 x9_1 t128 _ ?side1 ?side2 A6.1).mono ?_); (case side1 => repeat (first | exact (Kd.C_below HR0_0.1 HB.1) | with_reducible first | refine Kd.C_alloc ?_ _ | refine Kd.C_drewN ?_ _ | refine Kd.C_drew ?_)); (case side2 => exact HC0_0.1); rintro e w11 ⟨v129, rfl, ho0, hb⟩; refine ⟨_, rfl, ?_⟩; have n0_ := za0.mk (Kd.R_lower ho0 (zh0 (by repeat (first | exact HB.1 | apply zc0 | apply zb0 | apply zd0 | refine ze0 ?_ GE127.1)))); have n1_ := za0.mk (zm0 (g := gb127) (o := .cells #[.slice A0_0 l0_0.length c0_0] 29 (0, 0)) (by (with_reducible repeat (first | refine zg0 ?_ _ | refine zj0 ?_ | refine zf0 ?_ _)); exact BK127.1) hb); have n2_ := za0.mk (zi0 (by repeat (first | exact HB.1 | apply zc0 | apply zb0 | apply zd0 | refine ze0 ?_ GE127.1)) hb); clear BK127; clear HB; have HO130 := n0_; have BK127 := n1_; have HB := n2_; clear n0_ n1_ n2_; (try clear hb); (try clear hb2); (try clear hk); (try clear hi); (try clear ho0); obtain ⟨Ao12, co12, eo12⟩ := Kd.R_slice HO130.1; subst eo12; have p131 : 0 ≤ (a1 : Int) := of_decide_eq_true (by assumption); have q131 : a1 < (t128.length : Int) := of_decide_eq_true (by assumption); obtain ⟨ad131, e131, hx131_0⟩ := Kd.at_int (Kd.R_reads' HO130.1).2.2 a1 p131 q131; cases e131; replace p131 := eq_true p131; replace q131 := eq_true q131))
   go_ret
   exact ⟨by first | rfl | (simp [errW_none, errW_some] <;> rfl) | (simp [*, errW_none, errW_some] <;> rfl), by repeat (first | exact HB.1 | apply zc0 | apply zb0 | apply zd0 | refine ze0 ?_ GE127.1)⟩
  rw [if_neg c9] at H
  have c9b0 : decide ((rd t128 a1) < 0) = false := decide_eq_false c9
  clear c9
  have H' := za0.mk H
  clear H
  have hcz13_0 : wr.cell? ⟨gb127, 0, none⟩ = some (.slice A0_0 l0_0.length c0_0) := (zl0 BK127.1 0).trans rfl
  have hfz13_0 := zk0 BK127.1 0
  go_wp2_with (first | ((with_reducible refine zn0 (f := 85) rfl ?_); refine za1 (some 14) rfl rfl Try.func85 (by kernel_rfl) rfl #[.agg #[.slice A0_0 l0_0.length c0_0], .int .i64 x9_1] rfl (by (try simp only [List.map_toArray, List.map_cons, List.map_nil]); first | done | rfl | (simp only [List.length_drop, List.length_take]; rfl)) ?_; (with_reducible refine (yc0.calls k1 _ _ l0_0 x9_1 t128 _ ?side1 ?side2 A6.1).mono ?_); (case side1 => repeat (first | exact (Kd.C_below HR0_0.1 HB.1) | with_reducible first | refine Kd.C_alloc ?_ _ | refine Kd.C_drewN ?_ _ | refine Kd.C_drew ?_)); (case side2 => exact HC0_0.1); rintro e w14 ⟨v129, rfl, ho0, hb⟩; refine ⟨_, rfl, ?_⟩; have n0_ := za0.mk (Kd.R_lower ho0 (zh0 (by repeat (first | exact HB.1 | apply zc0 | apply zb0 | apply zd0 | refine ze0 ?_ GE127.1)))); have n1_ := za0.mk (zm0 (g := gb127) (o := .cells #[.slice A0_0 l0_0.length c0_0] 29 (0, 0)) (by (with_reducible repeat (first | refine zg0 ?_ _ | refine zj0 ?_ | refine zf0 ?_ _)); exact BK127.1) hb); have n2_ := za0.mk (zi0 (by repeat (first | exact HB.1 | apply zc0 | apply zb0 | apply zd0 | refine ze0 ?_ GE127.1)) hb); clear BK127; clear HB; have HO130 := n0_; have BK127 := n1_; have HB := n2_; clear n0_ n1_ n2_; (try clear hb); (try clear hb2); (try clear hk); (try clear hi); (try clear ho0); obtain ⟨Ao15, co15, eo15⟩ := Kd.R_slice HO130.1; subst eo15; have p131 : 0 ≤ (a1 : Int) := of_decide_eq_true (by assumption); have q131 : a1 < (t128.length : Int) := of_decide_eq_true (by assumption); obtain ⟨ad131, e131, hx131_0⟩ := Kd.at_int (Kd.R_reads' HO130.1).2.2 a1 p131 q131; cases e131; replace p131 := eq_true p131; replace q131 := eq_true q131))
  go_roundg k1
  case measure => have := HK1.1; omega
  case rel => exact ⟨(wrap64 (x9_1 + 1)), (by first | rfl | (simp; done) | (simp [*]; done)), H', ⟨by have := HK1.1; omega⟩, ⟨by (with_reducible repeat (first | refine zg0 ?_ _ | refine zj0 ?_ | refine zf0 ?_ _)); exact BK127.1⟩, ⟨by repeat (first | exact HB.1 | apply zc0 | apply zb0 | apply zd0 | refine ze0 ?_ GE127.1)⟩⟩
def yn1.f (k : Nat) (l0_0 : List (List Int)) (a1 : Int) : Option (Bool) := (yb1.f l0_0 (([a1] : List Int))).bind fun t136 => (if t136 = true then ((yt0.f k l0_0 a1).bind fun t137 => (some t137)) else (some false))
theorem yn1.mono : ∀ a0 a1 k, LeO (yn1.f k a0 a1) (yn1.f (k + 1) a0 a1) := by
 intro a0 a1 k
 unfold yn1.f
 repeat' (with_reducible first | exact yt0.mono _ _ _ | exact LeO.refl _ | exact LeO.none _ | refine LeO.ite ?_ ?_ | refine LeO.bind ?_ (fun _ => ?_))
theorem yn1.calls (k : Nat) (A0_0 : Option Addr) (c0_0 : Nat) (l0_0 : List (List Int)) (a1 : Int) (r : Bool) (w : World) (hr0_0 : Kd.C (Kd.slice 3 (Kd.int .i64)) w A0_0 l0_0.length l0_0) (hc0_0 : l0_0.length ≤ c0_0) (h : yn1.f k l0_0 a1 = some r) :
  Calls Try.prog 61 #[.agg #[.slice A0_0 l0_0.length c0_0], .int .i64 a1] w fun e w' => e = .returned (.bool r) ∧ Below w.heap.size w w' := by
 have hu29 := Try.underlying29
 have HR0_0 := za0.mk hr0_0
 have HC0_0 := za0.mk hc0_0
 clear hr0_0 hc0_0
 have HB := za0.mk (Below.refl w.heap.size w)
 have H : ((yb1.f l0_0 (([a1] : List Int))).bind fun t136 => (if t136 = true then ((yt0.f k l0_0 a1).bind fun t137 => (some t137)) else (some false))) = some r := h
 clear h
 obtain ⟨y133, hy133⟩ : ∃ y_ : List Int, y_ = (([a1] : List Int)) := ⟨_, rfl⟩
 replace H : ((yb1.f l0_0 y133).bind fun t136 => (if t136 = true then ((yt0.f k l0_0 a1).bind fun t137 => (some t137)) else (some false))) = some r := by first | (rw [hy133]; with_reducible exact H) | (have H2_ := (Option.bind_some _ _).symm.trans H; rw [hy133]; with_reducible exact H2_) | (have H2_ := (Option.bind_some _ _).symm.trans H; with_reducible exact H2_) | with_reducible exact H | (rw [hy133]; exact H) | exact H
 have Ny133 := za0.mk hy133
 clear hy133
 replace H := Option.bind_eq_some_iff.mp H
 obtain ⟨t136, A30, H⟩ := H
 replace H : (if t136 = true then ((yt0.f k l0_0 a1).bind fun t137 => (some t137)) else (some false)) = some r := H
 have A3 := za0.mk A30
 clear A30
 by_cases c4 : t136 = true
 rotate_left
 ·replace c4 := Bool.eq_false_iff.mpr c4
  subst c4
  have H1 : (some false) = some r := by rw [if_neg (show ¬ (false = true) by decide)] at H; exact H
  clear H
  have H := H1
  clear H1
  obtain rfl := Option.some.inj H
  go_enter Try.func61, Try.ntmps61
  go_wp2_with (first | ((with_reducible refine zo0 (N := 2) rfl ?_); refine zp0 ?hg (N := 2) ?hd (cs := #[.slice A0_0 l0_0.length c0_0]) (t := 29) ?hr ?_; (case hd | hg => rfl); (case hr => go_simp <;> rfl); intro gb132 hg w14 hbox hb; have n0_ := za0.mk (zi0 (by repeat (first | exact HB.1 | apply zc0 | apply zb0 | apply zd0)) hb); have n1_ := za0.mk (hbox); have n2_ := za0.mk ((by rw [hg]; exact (zh0 (by repeat (first | exact HB.1 | apply zc0 | apply zb0 | apply zd0))) : w.heap.size ≤ gb132)); have n3_ := za0.mk ((by rw [hg]; exact (zh0 (by repeat (first | exact HB.1 | apply zc0 | apply zb0 | apply zd0))) : w.heap.size ≤ gb132)); clear HB; have HB := n0_; have BK132 := n1_; have GW132 := n2_; have GE132 := n3_; clear n0_ n1_ n2_ n3_; clear hb hbox hg; have hcz15_0 : w14.cell? ⟨gb132, 0, none⟩ = some (.slice A0_0 l0_0.length c0_0) := (zl0 BK132.1 0).trans rfl; have hfz15_0 := zk0 BK132.1 0) | ((with_reducible refine zo0 (N := 7) rfl ?_); refine Kd.R_lit (Kd.int .i64) _ 3 ?hg (N := 7) ?hd (xs := ([a1] : List Int)) (inner := [.int .i64 a1]) (ok := fun _ => True) (okp := fun _ => True) ?hr ?hp (fun _ hk => hk) trivial (Below.refl _ _) (Nat.le_refl _) (by simp) ?_; (case hd | hg => rfl); (case hr => go_simp <;> rfl); (case hp => exact (Reps.one (show Kd.M (Kd.int .i64) _ _ _ a1 [.int .i64 a1] from rfl) (Reps.none _ _))); intro v134 w16 ho17 hb hg_ hnew_; clear hg_ hnew_; (first | rw [← Ny133.1] at ho17 | (simp only [Int.reduceToNat] at ho17; rw [← Ny133.1] at ho17)); have n0_ := za0.mk (Kd.R_lower ho17 (zh0 (by repeat (first | exact HB.1 | apply zc0 | apply zb0 | apply zd0 | refine ze0 ?_ GE132.1)))); have n1_ := za0.mk (zm0 (g := gb132) (o := .cells #[.slice A0_0 l0_0.length c0_0] 29 (0, 0)) (by (with_reducible repeat (first | refine zg0 ?_ _ | refine zj0 ?_ | refine zf0 ?_ _)); exact BK132.1) hb); have n2_ := za0.mk (zi0 (by repeat (first | exact HB.1 | apply zc0 | apply zb0 | apply zd0 | refine ze0 ?_ GE132.1)) hb); clear BK132; clear HB; have HO135 := n0_; have BK132 := n1_; have HB := n2_; clear n0_ n1_ n2_; clear hb ho17; obtain ⟨Ao18, co18, eo18⟩ := Kd.R_slice HO135.1; subst eo18) | ((with_reducible refine zn0 (f := 32) rfl ?_); refine za1 (some 8) rfl rfl Try.func32 (by kernel_rfl) rfl #[.agg #[.slice A0_0 l0_0.length c0_0], .slice Ao18 y133.length co18] rfl (by (try simp only [List.map_toArray, List.map_cons, List.map_nil]); first | done | rfl | (simp only [List.length_drop, List.length_take]; rfl)) ?_; (with_reducible refine (yb1.calls _ _ l0_0 _ _ y133 false _ ?side1 ?side2 ?side3 ?side4 A3.1).mono ?_); (case side1 => repeat (first | exact (Kd.C_below HR0_0.1 HB.1) | with_reducible first | refine Kd.C_alloc ?_ _ | refine Kd.C_drewN ?_ _ | refine Kd.C_drew ?_)); (case side2 => exact HC0_0.1); (case side3 => repeat (first | exact (Kd.R_reads' HO135.1).2.2 | (with_reducible refine Kd.C_alloc ?_ _) | (with_reducible refine Kd.C_drewN ?_ _) | (with_reducible refine Kd.C_drew ?_))); (case side4 => exact (Kd.R_reads' HO135.1).2.1); rintro e w19 ⟨rfl, hb⟩; refine ⟨_, rfl, ?_⟩; have n0_ := za0.mk (Kd.R_below (by (with_reducible repeat (first | apply Kd.R_alloc | apply Kd.R_drewN | apply Kd.R_drew)); exact HO135.1) hb); have n1_ := za0.mk (zm0 (g := gb132) (o := .cells #[.slice A0_0 l0_0.length c0_0] 29 (0, 0)) (by (with_reducible repeat (first | refine zg0 ?_ _ | refine zj0 ?_ | refine zf0 ?_ _)); exact BK132.1) hb); have n2_ := za0.mk (zi0 (by repeat (first | exact HB.1 | apply zc0 | apply zb0 | apply zd0 | refine ze0 ?_ GE132.1)) hb); clear HO135; clear BK132; clear HB; have HO135 := n0_; have BK132 := n1_; have HB := n2_; clear n0_ n1_ n2_; (try clear hb); (try clear hb2); (try clear hk); (try clear hi)))
  go_ret
  exact ⟨by first | rfl | (simp [errW_none, errW_some] <;> rfl) | (simp [*, errW_none, errW_some] <;> rfl), by repeat (first | exact HB.1 | apply zc0 | apply zb0 | apply zd0 | refine ze0 ?_ GE132.1)⟩
 subst c4
 have H1 : ((yt0.f k l0_0 a1).bind fun t137 => (some t137)) = some r := by rw [if_pos rfl] at H; exact H
 clear H
 have H := H1
 clear H1
 replace H := Option.bind_eq_some_iff.mp H
 obtain ⟨t137, A50, H⟩ := H
 replace H : (some t137) = some r := H
 have A5 := za0.mk A50
 clear A50
 obtain rfl := Option.some.inj H
 go_enter Try.func61, Try.ntmps61
 go_wp2_with (first | ((with_reducible refine zo0 (N := 2) rfl ?_); refine zp0 ?hg (N := 2) ?hd (cs := #[.slice A0_0 l0_0.length c0_0]) (t := 29) ?hr ?_; (case hd | hg => rfl); (case hr => go_simp <;> rfl); intro gb132 hg w6 hbox hb; have n0_ := za0.mk (zi0 (by repeat (first | exact HB.1 | apply zc0 | apply zb0 | apply zd0)) hb); have n1_ := za0.mk (hbox); have n2_ := za0.mk ((by rw [hg]; exact (zh0 (by repeat (first | exact HB.1 | apply zc0 | apply zb0 | apply zd0))) : w.heap.size ≤ gb132)); have n3_ := za0.mk ((by rw [hg]; exact (zh0 (by repeat (first | exact HB.1 | apply zc0 | apply zb0 | apply zd0))) : w.heap.size ≤ gb132)); clear HB; have HB := n0_; have BK132 := n1_; have GW132 := n2_; have GE132 := n3_; clear n0_ n1_ n2_ n3_; clear hb hbox hg; have hcz7_0 : w6.cell? ⟨gb132, 0, none⟩ = some (.slice A0_0 l0_0.length c0_0) := (zl0 BK132.1 0).trans rfl; have hfz7_0 := zk0 BK132.1 0) | ((with_reducible refine zo0 (N := 7) rfl ?_); refine Kd.R_lit (Kd.int .i64) _ 3 ?hg (N := 7) ?hd (xs := ([a1] : List Int)) (inner := [.int .i64 a1]) (ok := fun _ => True) (okp := fun _ => True) ?hr ?hp (fun _ hk => hk) trivial (Below.refl _ _) (Nat.le_refl _) (by simp) ?_; (case hd | hg => rfl); (case hr => go_simp <;> rfl); (case hp => exact (Reps.one (show Kd.M (Kd.int .i64) _ _ _ a1 [.int .i64 a1] from rfl) (Reps.none _ _))); intro v134 w8 ho9 hb hg_ hnew_; clear hg_ hnew_; (first | rw [← Ny133.1] at ho9 | (simp only [Int.reduceToNat] at ho9; rw [← Ny133.1] at ho9)); have n0_ := za0.mk (Kd.R_lower ho9 (zh0 (by repeat (first | exact HB.1 | apply zc0 | apply zb0 | apply zd0 | refine ze0 ?_ GE132.1)))); have n1_ := za0.mk (zm0 (g := gb132) (o := .cells #[.slice A0_0 l0_0.length c0_0] 29 (0, 0)) (by (with_reducible repeat (first | refine zg0 ?_ _ | refine zj0 ?_ | refine zf0 ?_ _)); exact BK132.1) hb); have n2_ := za0.mk (zi0 (by repeat (first | exact HB.1 | apply zc0 | apply zb0 | apply zd0 | refine ze0 ?_ GE132.1)) hb); clear BK132; clear HB; have HO135 := n0_; have BK132 := n1_; have HB := n2_; clear n0_ n1_ n2_; clear hb ho9; obtain ⟨Ao10, co10, eo10⟩ := Kd.R_slice HO135.1; subst eo10) | ((with_reducible refine zn0 (f := 32) rfl ?_); refine za1 (some 8) rfl rfl Try.func32 (by kernel_rfl) rfl #[.agg #[.slice A0_0 l0_0.length c0_0], .slice Ao10 y133.length co10] rfl (by (try simp only [List.map_toArray, List.map_cons, List.map_nil]); first | done | rfl | (simp only [List.length_drop, List.length_take]; rfl)) ?_; (with_reducible refine (yb1.calls _ _ l0_0 _ _ y133 true _ ?side1 ?side2 ?side3 ?side4 A3.1).mono ?_); (case side1 => repeat (first | exact (Kd.C_below HR0_0.1 HB.1) | with_reducible first | refine Kd.C_alloc ?_ _ | refine Kd.C_drewN ?_ _ | refine Kd.C_drew ?_)); (case side2 => exact HC0_0.1); (case side3 => repeat (first | exact (Kd.R_reads' HO135.1).2.2 | (with_reducible refine Kd.C_alloc ?_ _) | (with_reducible refine Kd.C_drewN ?_ _) | (with_reducible refine Kd.C_drew ?_))); (case side4 => exact (Kd.R_reads' HO135.1).2.1); rintro e w11 ⟨rfl, hb⟩; refine ⟨_, rfl, ?_⟩; have n0_ := za0.mk (Kd.R_below (by (with_reducible repeat (first | apply Kd.R_alloc | apply Kd.R_drewN | apply Kd.R_drew)); exact HO135.1) hb); have n1_ := za0.mk (zm0 (g := gb132) (o := .cells #[.slice A0_0 l0_0.length c0_0] 29 (0, 0)) (by (with_reducible repeat (first | refine zg0 ?_ _ | refine zj0 ?_ | refine zf0 ?_ _)); exact BK132.1) hb); have n2_ := za0.mk (zi0 (by repeat (first | exact HB.1 | apply zc0 | apply zb0 | apply zd0 | refine ze0 ?_ GE132.1)) hb); clear HO135; clear BK132; clear HB; have HO135 := n0_; have BK132 := n1_; have HB := n2_; clear n0_ n1_ n2_; (try clear hb); (try clear hb2); (try clear hk); (try clear hi); have hcz12_0 : w11.cell? ⟨gb132, 0, none⟩ = some (.slice A0_0 l0_0.length c0_0) := (zl0 BK132.1 0).trans rfl; have hfz12_0 := zk0 BK132.1 0) | (go_at_call 75; (with_reducible refine (yt0.calls k _ _ l0_0 a1 t137 _ ?side1 ?side2 A5.1).mono ?_); (case side1 => repeat (first | exact (Kd.C_below HR0_0.1 HB.1) | with_reducible first | refine Kd.C_alloc ?_ _ | refine Kd.C_drewN ?_ _ | refine Kd.C_drew ?_)); (case side2 => exact HC0_0.1); rintro e w13 ⟨rfl, hb⟩; have n0_ := za0.mk (Kd.R_below (by (with_reducible repeat (first | apply Kd.R_alloc | apply Kd.R_drewN | apply Kd.R_drew)); exact HO135.1) hb); have n1_ := za0.mk (zm0 (g := gb132) (o := .cells #[.slice A0_0 l0_0.length c0_0] 29 (0, 0)) (by (with_reducible repeat (first | refine zg0 ?_ _ | refine zj0 ?_ | refine zf0 ?_ _)); exact BK132.1) hb); have n2_ := za0.mk (zi0 (by repeat (first | exact HB.1 | apply zc0 | apply zb0 | apply zd0 | refine ze0 ?_ GE132.1)) hb); clear HO135; clear BK132; clear HB; have HO135 := n0_; have BK132 := n1_; have HB := n2_; clear n0_ n1_ n2_; (try clear hb); (try clear hb2); (try clear hk); (try clear hi)))
 go_ret
 exact ⟨by first | rfl | (simp [errW_none, errW_some] <;> rfl) | (simp [*, errW_none, errW_some] <;> rfl), by repeat (first | exact HB.1 | apply zc0 | apply zb0 | apply zd0 | refine ze0 ?_ GE132.1)⟩
def yd2.f (l0 : List Int) (a1 a2 : Int) : Option (List Int) := if 0 ≤ a1 then (if a1 < (l0.length : Int) then (if a2 = a1 + 1 then (some (l0.eraseIdx a1.toNat)) else (none)) else (none)) else (none)
theorem slices_Delete_int_int_some {l0 : List Int} {a1 a2 : Int} {r : List Int} (h : yd2.f l0 a1 a2 = some r) : ∃ i : Nat, a1 = i ∧ i < l0.length ∧ a2 = ((i + 1 : Nat) : Int) ∧ r = l0.eraseIdx i := by
 unfold yd2.f at h
 by_cases h1 : 0 ≤ a1
 rotate_left
 ·rw [if_neg h1] at h; cases h
 rw [if_pos h1] at h
 by_cases h2 : a1 < (l0.length : Int)
 rotate_left
 ·rw [if_neg h2] at h; cases h
 rw [if_pos h2] at h
 by_cases h3 : a2 = a1 + 1
 rotate_left
 ·rw [if_neg h3] at h; cases h
 rw [if_pos h3] at h
 exact ⟨a1.toNat, by omega, by omega, by omega, (Option.some.inj h).symm⟩
theorem R_spare {α : Type} {d : Kd α} (hz : d.sz = 1) {e base g n c : Nat} {ok : Nat → Prop} {W : World} {xs : List α} (h : d.R e W base ok (.slice (some ⟨g, 0, none⟩) n c) xs) {j : Nat} (hj : j < c) : (W.cell? ⟨g, j, none⟩).isSome = true ∧ W.frozen? ⟨g, j, none⟩ = false := by
 obtain ⟨_, inner, ⟨_, hcase⟩, _⟩ := h
 rcases hcase with ⟨hv, _⟩ | ⟨g', cap', cur, hv, _, hheap, _, _, hsz, _⟩
 ·cases hv
 ·injection hv with hv1 _ hv3
  injection hv1 with hv1
  injection hv1 with hv1 _ _
  subst hv1
  subst hv3
  rw [hz, Nat.mul_one] at hsz
  refine ⟨?_, by simp [World.frozen?, hheap]⟩
  simp only [World.cell?, hheap]
  simp [hsz, hj]
theorem R_past {α : Type} {d : Kd α} (hz : d.sz = 1) {e base g n c : Nat} {ok : Nat → Prop} {W : World} {xs : List α} (h : d.R e W base ok (.slice (some ⟨g, 0, none⟩) n c) xs) {j : Nat} (hj : n ≤ j) (u : Value) : d.R e (W.setCell ⟨g, j, none⟩ u) base ok (.slice (some ⟨g, 0, none⟩) n c) xs := by
 obtain ⟨hok, inner, ⟨hlen, hcase⟩, hreps⟩ := h
 rcases hcase with ⟨hv, _⟩ | ⟨g', cap', cur, hv, hb, hheap, hn, hc, hsz, ht⟩
 ·cases hv
 ·injection hv with hv1 hv2 hv3
  injection hv1 with hv1
  injection hv1 with hv1 _ _
  subst hv1
  subst hv3
  refine ⟨hok, inner, ⟨hlen, .inr ⟨g, c, cur.setIfInBounds j u, by rw [hv2], hb, ?_, hn, hc, by simpa using hsz, ?_⟩⟩, hreps.imp_ (fun p cs hp => d.M_move (fun k hk => Below.heap_setCell W ⟨g, j, none⟩ u k (fun he => hk.2 (by rw [he]; rfl))) hp)⟩
  ·simp only [World.setCell, Array.getElem?_modify, if_true, hheap, Option.map_some]
   rfl
  ·rw [← ht, hz, Nat.mul_one, ← hv2, Array.toList_setIfInBounds, List.take_set_of_le hj]
theorem zeroInt (w : World) : (zeroValue 3).run Try.prog w = .ok (.int .i64 0) w := by kernel_rfl
theorem yd2.calls (P0_ : Nat → Prop) (u0_ : Value) (l0 : List Int) (a1 : Int) (a2 : Int) (r : List Int) (w0 w : World) (hB : Below w0.heap.size w0 w) (ho0 : Kd.R (Kd.int .i64) 3 w w0.heap.size P0_ u0_ l0) (h : yd2.f l0 a1 a2 = some r) :
  Calls Try.prog 76 #[u0_, .int .i64 a1, .int .i64 a2] w fun e w' => ∃ v0_ : Value, e = .returned v0_ ∧ Kd.R (Kd.int .i64) 3 w' w0.heap.size (fun k_ => (P0_ k_ ∨ w.heap.size ≤ k_)) v0_ r ∧ Below w0.heap.size w0 w' ∧ Kept w w' (fun k_ => P0_ k_) := by
 obtain ⟨i, rfl, hi, rfl, rfl⟩ := slices_Delete_int_int_some h
 clear h
 obtain ⟨g, c, rfl, hgb, hgl, cl, hcl⟩ := Kd.R_form ho0 (by omega)
 have hcap := (Kd.R_reads' ho0).2.1
 obtain ⟨n, hn⟩ : ∃ n, n = l0.length := ⟨_, rfl⟩
 rw [← hn] at ho0 hi hcap ⊢
 obtain ⟨j, hj⟩ : ∃ j, j = i + 1 := ⟨_, rfl⟩
 rw [← hj]
 have hij : i < j := by omega
 have hjn : j ≤ n := by omega
 have hic : i ≤ c := by omega
 have hjc : j ≤ c := by omega
 obtain ⟨i0, hi0, hz0, hz1, hz2⟩ := info_parts info3
 have ht := Try.underlying25
 have HO := za0.mk (Kd.R_drew ho0)
 have HB := za0.mk (zd0 hB)
 have HW := za0.mk hB.size
 have HG := za0.mk (ho0.1 g rfl)
 have HJ := za0.mk hj
 have HN := za0.mk hn
 have hne : ¬ ((i : Int) = (j : Int)) := by omega
 have hneb : ((i : Int) == (j : Int)) = false := beq_eq_false_iff_ne.mpr hne
 clear hcl hj hn ho0 hB hgb
 go_enter Try.func76, Try.ntmps76
 go_wp2_with fail
 have hAj : ∀ (x : Option Addr), x = (if c = j then (some (⟨g, 0, none⟩ : Addr)) else some ⟨g, j, none⟩) → x = if c = i + 1 then (some (⟨g, 0, none⟩ : Addr)) else (some (⟨g, 0, none⟩ : Addr)).map (·.add ((i + 1) * (Kd.int .i64).sz)) := by
  intro x hx
  rw [hx, HJ.1]
  split
  ·rfl
  ·show _ = some (Addr.add ⟨g, 0, none⟩ ((i + 1) * 1)); rw [Nat.mul_one, add_plain]
 have HAJ := za0.mk hAj
 clear hAj
 refine start_ (n := 8) (S := fun _ => True) (ds := []) #[false, false, false, false, false, false, false, false] (by kernel_rfl) rfl rfl trivial (fun hHeld => ?_)
 refine pu 0 (some 20) (v := ?_) (a' := ?_) (bf 8 1) ?_ ?_ ?_
 rotate_left
 ·intro w'; go_simp; with_reducible rfl
 rotate_left
 ·simp only [Act.put, zA, zB, zC, i64_w, i32_w]; rfl
 refine pu 1 (some 21) (v := ?_) (a' := ?_) (bf 8 3) ?_ ?_ ?_
 rotate_left
 ·intro w'; go_simp; with_reducible rfl
 rotate_left
 ·simp only [Act.put, zA, zB, zC, i64_w, i32_w]; rfl
 refine pu 2 (some 22) (v := ?_) (a' := ?_) (bf 8 7) ?_ ?_ ?_
 rotate_left
 ·intro w'; go_simp; with_reducible rfl
 rotate_left
 ·simp only [Act.put, zA, zB, zC, i64_w, i32_w]; rfl
 refine pu 3 (some 23) (v := ?_) (a' := ?_) (bf 8 15) ?_ ?_ ?_
 rotate_left
 ·intro w'; go_simp; with_reducible rfl
 rotate_left
 ·simp only [Act.put, zA, zB, zC, i64_w, i32_w]; rfl
 refine pu 4 (some 24) (v := ?_) (a' := ?_) (bf 8 31) ?_ ?_ ?_
 rotate_left
 ·intro w'; go_simp; with_reducible rfl
 rotate_left
 ·simp only [Act.put, zA, zB, zC, i64_w, i32_w]; rfl
 refine pu 5 (some 25) (v := ?_) (a' := ?_) (bf 8 63) ?_ ?_ ?_
 rotate_left
 ·intro w'; go_simp; with_reducible rfl
 rotate_left
 ·simp only [Act.put, zA, zB, zC, i64_w, i32_w]; rfl
 refine one_ (i := 6) (N := some 26) (bf 8 127) rfl rfl (by kernel_rfl) (by decide) (fun K hK => ?_)
 refine Kd.R_delete_step (Kd.int .i64) (w0 := w0) w0.heap.size (by rfl) (.tmp 22) (.tmp 25) 25 3 rfl ht (by rw [hi0]; simp only [Option.map_some, hz1]; rfl) rfl rfl (HAJ.1 _ (by first | rfl | (split <;> rfl) | (simp [add_plain]; done))) (by rw [HJ.1]) HO.1 hi HB.1 (by have := HW.1; exact this) ?_
 intro w1 hr hb hg
 have HR := za0.mk hr
 have HB1 := za0.mk hb
 have HG1 := za0.mk hg
 clear hr hb hg
 refine hK.out _ _ trivial (fun hHeld => ?_)
 clear hK K
 refine norm_ (a' := ?_) ?_ ?_
 rotate_left
 ·show Act.put _ (some 26) _ = _; simp only [Act.put, zA, zB, zC, i64_w, i32_w]; rfl
 refine pu 7 (some 0) (v := ?_) (a' := ?_) (bf 8 255) ?_ ?_ ?_
 rotate_left
 ·intro w'; go_simp; with_reducible rfl
 rotate_left
 ·simp only [Act.put, zA, zB, zC, i64_w, i32_w]; rfl
 refine done_ (by kernel_rfl) ?_
 generalize (if c = j then (some (⟨g, 0, none⟩ : Addr)) else some ⟨g, j, none⟩) = zz_
 obtain ⟨m, hm⟩ : ∃ m, m = n - 1 := ⟨_, rfl⟩
 have hr := HR.1
 rw [← hm] at hr ⊢
 have HR2 := za0.mk hr
 clear HR hr HAJ
 have hmn : m < n := by omega
 have hmn2 : m ≤ n := by omega
 have hmc : m < c := by omega
 have hnc : n ≤ c := hcap
 have h1 : n - m = 1 := by omega
 have hcl : ∀ ty, (Builtin.clear_ #[25] ty #[.slice (some ⟨g, m, none⟩) (n - m) (c - m)]).run Try.prog w1 = .ok (.tuple #[]) (w1.setCell ⟨g, m, none⟩ (.int .i64 0)) := fun ty => by
  have hh := Lib.run_clear_slice w1 25 3 ty (.int .i64 0) ht zeroInt rfl rfl g m (n - m) (c - m) (by omega) (fun q hq => by rw [show m + q = m by omega]; exact (R_spare rfl HR2.1 hmc).1) (fun q hq => by rw [show m + q = m by omega]; exact (R_spare rfl HR2.1 hmc).2)
  rw [h1] at hh ⊢
  exact hh
 clear hm h1
 go_wp2
 go_ret
 refine ⟨_, rfl, Kd.R_mono (R_past rfl HR2.1 (Nat.le_refl m) (.int .i64 0)) (fun _ hk => .inl hk), ?_, ?_⟩
 ·exact ze0 HB1.1 (Kd.R_base HR2.1 g rfl)
 ·exact Kept.setCell (Kept.of_grown (S := fun k_ => P0_ k_) HG1.1 (Kept.drew (Kept.refl w _)) (fun k_ e_ => by injection e_ with e_; subst e_; exact .inl HG.1)) (.inl HG.1) _
mutual
def yg0.l0 : Nat → Int → List (List Int) → List (List Int) → Int → Int → List (List Int) → Option ((List (List Int)))
 | 0, _, _, _, _, _, _ => none
 | k + 1, x1, x5, x13, x14, x15, x139000 => if x15 < x14 then (if 0 ≤ x15 then (if x15 < (x13.length : Int) then (if x15 = x1 then (yg0.l0 k x1 x5 x13 x14 (wrap64 (x15 + 1)) x139000) else (if 0 ≤ (x139000.length : Int) then (if ((x139000.length : Int) : Int).toNat ≤ 35184372088832 then ((some (List.replicate ((x139000.length : Int) : Int).toNat 0 : List Int)).bind fun y143 => (if x15 < (y143.length : Int) then (yg0.l1 k x1 x5 (y143.set (x15 : Int).toNat ((rd_L1 x13 x15).length : Int)) x13 x14 x15 (rd_L1 x13 x15) ((rd_L1 x13 x15).length : Int) 0 x139000) else (none))) else (none)) else (none))) else (none)) else (none)) else (some x5)
def yg0.l1 : Nat → Int → List (List Int) → List Int → List (List Int) → Int → Int → List Int → Int → Int → List (List Int) → Option ((List (List Int)))
 | 0, _, _, _, _, _, _, _, _, _, _ => none
 | k + 1, x1, x5, x8, x13, x14, x15, x32, x33, x34, x139000 => if x34 < x33 then (if 0 ≤ x34 then (if x34 < (x32.length : Int) then (if 0 ≤ (rd x32 x34) then (if (rd x32 x34) < (x8.length : Int) then (yg0.l1 k x1 x5 (x8.set ((rd x32 x34) : Int).toNat (wrap64 ((rd x8 (rd x32 x34)) - 1))) x13 x14 x15 x32 x33 (wrap64 (x34 + 1)) x139000) else (none)) else (none)) else (none)) else (none)) else ((yd2.f x8 x1 (wrap64 (x1 + 1))).bind fun t150 => (if x5.length < 5864062014805 then (yg0.l0 k x1 (x5 ++ [t150]) x13 x14 (wrap64 (x15 + 1)) x139000) else (none)))
end
def yg0.f (k : Nat) (l0_0 : List (List Int)) (a1 : Int) : Option ((List (List Int))) := yg0.l0 k a1 (([] : List (List Int))) l0_0 (l0_0.length : Int) 0 l0_0
theorem yg0.mono_l : ∀ k, (∀ y0 y1 y2 y3 y4 y5, LeO (yg0.l0 k y0 y1 y2 y3 y4 y5) (yg0.l0 (k + 1) y0 y1 y2 y3 y4 y5)) ∧ (∀ y0 y1 y2 y3 y4 y5 y6 y7 y8 y9, LeO (yg0.l1 k y0 y1 y2 y3 y4 y5 y6 y7 y8 y9) (yg0.l1 (k + 1) y0 y1 y2 y3 y4 y5 y6 y7 y8 y9))
 | 0 => ⟨fun _ _ _ _ _ _ r h => by simp [yg0.l0] at h, fun _ _ _ _ _ _ _ _ _ _ r h => by simp [yg0.l1] at h⟩
 | k + 1 => by
  obtain ⟨ih0, ih1⟩ := yg0.mono_l k
  refine ⟨?_, ?_⟩
  ·intro y0 y1 y2 y3 y4 y5
   unfold yg0.l0
   repeat' (with_reducible first | exact ih0 _ _ _ _ _ _ | exact ih1 _ _ _ _ _ _ _ _ _ _ | exact LeO.refl _ | exact LeO.none _ | refine LeO.ite ?_ ?_ | refine LeO.bind ?_ (fun _ => ?_))
  ·intro y0 y1 y2 y3 y4 y5 y6 y7 y8 y9
   unfold yg0.l1
   repeat' (with_reducible first | exact ih0 _ _ _ _ _ _ | exact ih1 _ _ _ _ _ _ _ _ _ _ | exact LeO.refl _ | exact LeO.none _ | refine LeO.ite ?_ ?_ | refine LeO.bind ?_ (fun _ => ?_))
theorem yg0.mono : ∀ a0 a1 k, LeO (yg0.f k a0 a1) (yg0.f (k + 1) a0 a1) := by
 intro a0 a1 k
 obtain ⟨ih0, ih1⟩ := yg0.mono_l k
 unfold yg0.f
 repeat' (with_reducible first | exact ih0 _ _ _ _ _ _ | exact ih1 _ _ _ _ _ _ _ _ _ _ | exact LeO.refl _ | exact LeO.none _ | refine LeO.ite ?_ ?_ | refine LeO.bind ?_ (fun _ => ?_))
theorem yg0.calls (k : Nat) (A0_0 : Option Addr) (c0_0 : Nat) (l0_0 : List (List Int)) (a1 : Int) (r : List (List Int)) (w : World) (hr0_0 : Kd.C (Kd.slice 3 (Kd.int .i64)) w A0_0 l0_0.length l0_0) (hc0_0 : l0_0.length ≤ c0_0) (h : yg0.f k l0_0 a1 = some r) :
  Calls Try.prog 63 #[.agg #[.slice A0_0 l0_0.length c0_0], .int .i64 a1] w fun e w' => ∃ v0_ : Value, e = .returned (v0_) ∧ Kd.S (Kd.slice 3 (Kd.int .i64)) 25 w' w.heap.size (fun _ => True) v0_ r ∧ Below w.heap.size w w' := by
 have hu29 := Try.underlying29
 have HR0_0 := za0.mk hr0_0
 have HC0_0 := za0.mk hc0_0
 clear hr0_0 hc0_0
 have HB := za0.mk (Below.refl w.heap.size w)
 have H : (yg0.l0 k a1 (([] : List (List Int))) l0_0 (l0_0.length : Int) 0 l0_0) = some r := h
 clear h
 obtain ⟨y139, hy139⟩ : ∃ y_ : List (List Int), y_ = (([] : List (List Int))) := ⟨_, rfl⟩
 replace H : (yg0.l0 k a1 y139 l0_0 (l0_0.length : Int) 0 l0_0) = some r := by first | (rw [hy139]; with_reducible exact H) | (have H2_ := (Option.bind_some _ _).symm.trans H; rw [hy139]; with_reducible exact H2_) | (have H2_ := (Option.bind_some _ _).symm.trans H; with_reducible exact H2_) | with_reducible exact H | (rw [hy139]; exact H) | exact H
 have Ny139 := za0.mk hy139
 clear hy139
 have H' := za0.mk H
 clear H
 go_enter Try.func63, Try.ntmps63
 go_wp2_with (first | ((with_reducible refine zo0 (N := 2) rfl ?_); refine zp0 ?hg (N := 2) ?hd (cs := #[.slice A0_0 l0_0.length c0_0]) (t := 29) ?hr ?_; (case hd | hg => rfl); (case hr => go_simp <;> rfl); intro gb138 hg w3 hbox hb; have n0_ := za0.mk (zi0 (by repeat (first | exact HB.1 | apply zc0 | apply zb0 | apply zd0)) hb); have n1_ := za0.mk (hbox); have n2_ := za0.mk ((by rw [hg]; exact (zh0 (by repeat (first | exact HB.1 | apply zc0 | apply zb0 | apply zd0))) : w.heap.size ≤ gb138)); have n3_ := za0.mk ((by rw [hg]; exact (zh0 (by repeat (first | exact HB.1 | apply zc0 | apply zb0 | apply zd0))) : w.heap.size ≤ gb138)); clear HB; have HB := n0_; have BK138 := n1_; have GW138 := n2_; have GE138 := n3_; clear n0_ n1_ n2_ n3_; clear hb hbox hg) | ((with_reducible refine zo0 (N := 11) rfl ?_); refine Kd.S_lit (Kd.slice 3 (Kd.int .i64)) _ 25 ?hg (N := 11) ?hd (xs := ([] : List (List Int))) (inner := []) (ok := fun _ => True) (okp := fun _ => True) ?hr ?hp (fun _ hk => hk) trivial (Below.refl _ _) (Nat.le_refl _) (by simp) ?_; (case hd | hg => rfl); (case hr => go_simp <;> rfl); (case hp => exact (Reps.none _ _)); intro v140 w4 ho5 hb hg_ hnew_; clear hg_ hnew_; (first | rw [← Ny139.1] at ho5 | (simp only [Int.reduceToNat] at ho5; rw [← Ny139.1] at ho5)); have n0_ := za0.mk (Kd.S_lower ho5 (zh0 (by repeat (first | exact HB.1 | apply zc0 | apply zb0 | apply zd0 | refine ze0 ?_ GE138.1)))); have n1_ := za0.mk (zm0 (g := gb138) (o := .cells #[.slice A0_0 l0_0.length c0_0] 29 (0, 0)) (by (with_reducible repeat (first | refine zg0 ?_ _ | refine zj0 ?_ | refine zf0 ?_ _)); exact BK138.1) hb); have n2_ := za0.mk (zi0 (by repeat (first | exact HB.1 | apply zc0 | apply zb0 | apply zd0 | refine ze0 ?_ GE138.1)) hb); clear BK138; clear HB; have HO141 := n0_; have BK138 := n1_; have HB := n2_; clear n0_ n1_ n2_; clear hb ho5; have hcz6_0 : w4.cell? ⟨gb138, 0, none⟩ = some (.slice A0_0 l0_0.length c0_0) := (zl0 BK138.1 0).trans rfl; have hfz6_0 := zk0 BK138.1 0))
 go_loopg [5, 15] k (fun kq v5 v15 w' => ∃ (x5_1 : List (List Int)) (x15_1 : Int), v15 = .int .i64 x15_1 ∧ za0 (yg0.l0 kq a1 x5_1 l0_0 (l0_0.length : Int) x15_1 l0_0 = some r) ∧ za0 (kq ≤ k) ∧ za0 (Kd.S (Kd.slice 3 (Kd.int .i64)) 25 w' w.heap.size (fun _ => True) v5 x5_1) ∧ za0 (w'.heap[gb138]? = some (.cells #[(.slice A0_0 l0_0.length c0_0)] 29 (0, 0))) ∧ za0 (Below w.heap.size w w'))
 case atStart => exact ⟨(y139), (0), (by first | rfl | (simp; done) | (simp [*]; done)), H', ⟨Nat.le_refl _⟩, ⟨by (with_reducible repeat (first | apply Kd.S_alloc | apply Kd.S_drewN | apply Kd.S_drew)); exact HO141.1⟩, ⟨by (with_reducible repeat (first | refine zg0 ?_ _ | refine zj0 ?_ | refine zf0 ?_ _)); exact BK138.1⟩, ⟨by repeat (first | exact HB.1 | apply zc0 | apply zb0 | apply zd0 | refine ze0 ?_ GE138.1)⟩⟩
 case round =>
  clear H'
  try clear p2
  try clear c6
  try clear hcz6_0
  try clear hfz6_0
  obtain ⟨x5_1, x15_1, rfl, HA, HK1, HO_5, BK138, HB⟩ := hrel
  obtain _ | k1 := gk
  ·exact absurd HA.1 (by simp [yg0.l0])
  have H := HA.1
  clear HA
  simp only [yg0.l0] at H
  by_cases c7 : x15_1 < (l0_0.length : Int)
  rotate_left
  ·rw [if_neg c7] at H
   have c7b0 : decide (x15_1 < (l0_0.length : Int)) = false := decide_eq_false c7
   clear c7
   obtain rfl := Option.some.inj H
   go_wp2
   go_ret
   exact ⟨_, by first | rfl | (simp [errW_none, errW_some] <;> rfl) | (simp [*, errW_none, errW_some] <;> rfl), by (with_reducible repeat (first | apply Kd.S_alloc | apply Kd.S_drewN | apply Kd.S_drew)); exact HO_5.1, by repeat (first | exact HB.1 | apply zc0 | apply zb0 | apply zd0 | refine ze0 ?_ GE138.1)⟩
  rw [if_pos c7] at H
  have c7b0 : decide (x15_1 < (l0_0.length : Int)) = true := decide_eq_true c7
  clear c7
  by_cases c8 : 0 ≤ x15_1
  rotate_left
  ·rw [if_neg c8] at H
   exact absurd H (by simp)
  rw [if_pos c8] at H
  have c8b0 : decide (0 ≤ x15_1) = true := decide_eq_true c8
  clear c8
  by_cases c9 : x15_1 < (l0_0.length : Int)
  rotate_left
  ·rw [if_neg c9] at H
   exact absurd H (by simp)
  rw [if_pos c9] at H
  have c9b0 : decide (x15_1 < (l0_0.length : Int)) = true := decide_eq_true c9
  clear c9
  by_cases c10 : x15_1 = a1
  ·rw [if_pos c10] at H
   have c10b0 : (x15_1 == a1) = true := beq_iff_eq.mpr c10
   have c10b1 : (x15_1 != a1) = false := bne_eq_false_iff_eq.mpr c10
   clear c10
   have H' := za0.mk H
   clear H
   have p142 : 0 ≤ (x15_1 : Int) := of_decide_eq_true (by assumption)
   have q142 : x15_1 < (l0_0.length : Int) := of_decide_eq_true (by assumption)
   obtain ⟨ad142, A142_0, c142_0, e142, hx142_0, hl142_0, hi142_0⟩ := at_L1 HR0_0.1 x15_1 p142 q142
   cases e142
   replace hx142_0 := (HB.1.cell (World.block_lt_of_cell? w _ hx142_0)).trans hx142_0
   have HR142_0 := za0.mk hi142_0
   have HC142_0 := za0.mk hl142_0
   clear hi142_0 hl142_0
   replace p142 := eq_true p142
   replace q142 := eq_true q142
   go_wp2
   go_roundg k1
   case measure => have := HK1.1; omega
   case rel => exact ⟨(x5_1), (wrap64 (x15_1 + 1)), (by first | rfl | (simp; done) | (simp [*]; done)), H', ⟨by have := HK1.1; omega⟩, ⟨by (with_reducible repeat (first | apply Kd.S_alloc | apply Kd.S_drewN | apply Kd.S_drew)); exact HO_5.1⟩, ⟨by (with_reducible repeat (first | refine zg0 ?_ _ | refine zj0 ?_ | refine zf0 ?_ _)); exact BK138.1⟩, ⟨by repeat (first | exact HB.1 | apply zc0 | apply zb0 | apply zd0 | refine ze0 ?_ GE138.1)⟩⟩
  rw [if_neg c10] at H
  have c10b0 : (x15_1 == a1) = false := beq_eq_false_iff_ne.mpr c10
  have c10b1 : (x15_1 != a1) = true := bne_iff_ne.mpr c10
  by_cases c11 : 0 ≤ (l0_0.length : Int)
  rotate_left
  ·rw [if_neg c11] at H
   exact absurd H (by simp)
  rw [if_pos c11] at H
  have c11b0 := eq_true c11
  have c11b1 : decide (0 ≤ (l0_0.length : Int)) = true := decide_eq_true c11
  clear c11
  by_cases c12 : ((l0_0.length : Int) : Int).toNat ≤ 35184372088832
  rotate_left
  ·rw [if_neg c12] at H
   exact absurd H (by simp)
  rw [if_pos c12] at H
  have c12b0 := eq_true c12
  have c12b1 : decide (((l0_0.length : Int) : Int).toNat ≤ 35184372088832) = true := decide_eq_true c12
  clear c12
  obtain ⟨y143, hy143⟩ : ∃ y_ : List Int, y_ = (List.replicate ((l0_0.length : Int) : Int).toNat 0) := ⟨_, rfl⟩
  replace H : (if x15_1 < (y143.length : Int) then (yg0.l1 k1 a1 x5_1 (y143.set (x15_1 : Int).toNat ((rd_L1 l0_0 x15_1).length : Int)) l0_0 (l0_0.length : Int) x15_1 (rd_L1 l0_0 x15_1) ((rd_L1 l0_0 x15_1).length : Int) 0 l0_0) else (none)) = some r := by first | (rw [hy143]; with_reducible exact H) | (have H2_ := (Option.bind_some _ _).symm.trans H; rw [hy143]; with_reducible exact H2_) | (have H2_ := (Option.bind_some _ _).symm.trans H; with_reducible exact H2_) | with_reducible exact H | (rw [hy143]; exact H) | exact H
  have Ny143 := za0.mk hy143
  clear hy143
  by_cases c13 : x15_1 < (y143.length : Int)
  rotate_left
  ·rw [if_neg c13] at H
   exact absurd H (by simp)
  rw [if_pos c13] at H
  have c13b0 : decide (x15_1 < (y143.length : Int)) = true := decide_eq_true c13
  clear c13
  obtain ⟨y146, hy146⟩ : ∃ y_ : List Int, y_ = (y143.set (x15_1 : Int).toNat ((rd_L1 l0_0 x15_1).length : Int)) := ⟨_, rfl⟩
  replace H : (yg0.l1 k1 a1 x5_1 y146 l0_0 (l0_0.length : Int) x15_1 (rd_L1 l0_0 x15_1) ((rd_L1 l0_0 x15_1).length : Int) 0 l0_0) = some r := by first | (rw [hy146]; with_reducible exact H) | (have H2_ := (Option.bind_some _ _).symm.trans H; rw [hy146]; with_reducible exact H2_) | (have H2_ := (Option.bind_some _ _).symm.trans H; with_reducible exact H2_) | with_reducible exact H | (rw [hy146]; exact H) | exact H
  have Ny146 := za0.mk hy146
  clear hy146
  have H' := za0.mk H
  clear H
  have p142 : 0 ≤ (x15_1 : Int) := of_decide_eq_true (by assumption)
  have q142 : x15_1 < (l0_0.length : Int) := of_decide_eq_true (by assumption)
  obtain ⟨ad142, A142_0, c142_0, e142, hx142_0, hl142_0, hi142_0⟩ := at_L1 HR0_0.1 x15_1 p142 q142
  cases e142
  replace hx142_0 := (HB.1.cell (World.block_lt_of_cell? w _ hx142_0)).trans hx142_0
  have HR142_0 := za0.mk hi142_0
  have HC142_0 := za0.mk hl142_0
  clear hi142_0 hl142_0
  replace p142 := eq_true p142
  replace q142 := eq_true q142
  have hcz15_0 : wr.cell? ⟨gb138, 0, none⟩ = some (.slice (some ad142) l0_0.length c0_0) := (zl0 BK138.1 0).trans rfl
  have hfz15_0 := zk0 BK138.1 0
  go_wp2_with (first | ((with_reducible refine zo0 (N := 26) rfl ?_); refine Kd.R_make (Kd.int .i64) _ 3 rfl (N := 26) rfl 25 _ _ rfl (l0_0.length : Int) rfl rfl Try.underlying25 (.int .i64 0) 8 info3 rfl (by decide) (by omega) 0 (ok := fun _ => True) (okp := fun _ => True) rfl (fun _ hk => hk) trivial (of_decide_eq_true (by assumption)) (Nat.le_trans (Nat.mul_le_mul_right _ (of_decide_eq_true (by assumption) : (l0_0.length : Int).toNat ≤ 35184372088832)) (by omega)) (Below.refl _ _) (Nat.le_refl _) ?_; intro v144 w16 ho17 hb hg_ hnew_; clear hg_ hnew_; (first | rw [← Ny143.1] at ho17 | (simp only [Int.reduceToNat] at ho17; rw [← Ny143.1] at ho17)); have n0_ := za0.mk (Kd.S_elder' (by (with_reducible repeat (first | apply Kd.S_alloc | apply Kd.S_drewN | apply Kd.S_drew)); exact HO_5.1) (Kd.R_base ho17) hb); have n1_ := za0.mk (Kd.R_lower ho17 (zh0 (by repeat (first | exact HB.1 | apply zc0 | apply zb0 | apply zd0 | refine ze0 ?_ GE138.1)))); have n2_ := za0.mk (zm0 (g := gb138) (o := .cells #[.slice (some ad142) l0_0.length c0_0] 29 (0, 0)) (by (with_reducible repeat (first | refine zg0 ?_ _ | refine zj0 ?_ | refine zf0 ?_ _)); exact BK138.1) hb); have n3_ := za0.mk (zi0 (by repeat (first | exact HB.1 | apply zc0 | apply zb0 | apply zd0 | refine ze0 ?_ GE138.1)) hb); clear HO_5; clear BK138; clear HB; have HO_5 := n0_; have HO145 := n1_; have BK138 := n2_; have HB := n3_; clear n0_ n1_ n2_ n3_; clear hb ho17; have p14 : 0 ≤ (x15_1 : Int) := of_decide_eq_true (by assumption); have q14 : (x15_1 : Int) < ((y143.length : Int) : Int) := of_decide_eq_true (by assumption); obtain ⟨go14, co14, eo14, gb14, gl14, cl14, HG14⟩ := Kd.R_form HO145.1 (by omega); (first | cases eo14 | (injection eo14 with ea_ en_ ec_; (first | subst ea_ | (injection ea_ with ea_; subst ea_)); subst ec_; clear en_)); have GB14 := za0.mk gb14; have GG14 := za0.mk HG14; clear gb14 gl14 HG14; obtain ⟨hx14_0, hf14_0⟩ := Kd.R_celln 0 HO145.1 (x15_1 : Int) p14 q14; replace p14 := eq_true p14; replace q14 := eq_true q14; obtain ⟨hy18_, hz18_⟩ := Kd.R_celln 0 HO145.1 (x15_1 : Int) (of_decide_eq_true (by assumption)) (of_decide_eq_true (by assumption)); have HP18 := Kd.R_putg HO145.1 (x15_1 : Int) ((rd_L1 l0_0 x15_1).length : Int)) | ((with_reducible refine gate_store (t := 3) (p := 31) rfl ?_); refine store_event (t := 3) (p := 31) (v := ?vo_w19) (w1 := (w16.setCell ⟨go14, (x15_1 : Int).toNat, none⟩ (.int .i64 ((rd_L1 l0_0 x15_1).length : Int)))) ?hg ?ho ?hn ?hr ?_; (case ho => rfl); (case hg => rfl); (case hn => rfl); (case hr => go_simp <;> rfl); intro w19 hw; have hg : w16.grownBy w19 (some go14) := (by rw [hw]; exact HP18.2); have hp_ : Kd.R (Kd.int .i64) 3 w19 w.heap.size (fun _ => True) (.slice (some ⟨go14, 0, none⟩) y143.length co14) y146 := (by rw [hw, Ny146.1]; exact HP18.1); clear HP18; have n0_ := za0.mk (Kd.S_after (v := (.slice (some ⟨go14, 0, none⟩) y143.length co14)) (v1 := (.slice (some ⟨go14, 0, none⟩) y143.length co14)) (ok := (fun _ => True)) (by (with_reducible repeat (first | apply Kd.S_alloc | apply Kd.S_drewN | apply Kd.S_drew)); exact HO_5.1) hg (.inl rfl)); have n1_ := za0.mk (blk_grown (g := gb138) (o := .cells #[.slice (some ad142) l0_0.length c0_0] 29 (0, 0)) (by (with_reducible repeat (first | refine zg0 ?_ _ | refine zj0 ?_ | refine zf0 ?_ _)); exact BK138.1) hg (Kd.R_ne HO145.1 BK138.1 (by decide))); have n2_ := za0.mk (hp_); have n3_ := za0.mk ((by rw [hw]; exact ze0 (HB.1) GB14.1 : Below w.heap.size w w19)); clear HO_5; clear BK138; clear HO145; clear HB; have HO_5 := n0_; have BK138 := n1_; have HO145 := n2_; have HB := n3_; clear n0_ n1_ n2_ n3_; clear hg hw hp_))
  go_loopg [34] k1 (fun kq v34 w' => ∃ (x8_2 : List Int) (x34_2 : Int), v34 = .int .i64 x34_2 ∧ za0 (yg0.l1 kq a1 x5_1 x8_2 l0_0 (l0_0.length : Int) x15_1 (rd_L1 l0_0 x15_1) ((rd_L1 l0_0 x15_1).length : Int) x34_2 l0_0 = some r) ∧ za0 (kq ≤ k1) ∧ za0 (Kd.S (Kd.slice 3 (Kd.int .i64)) 25 w' w.heap.size (fun k_ => some k_ ≠ ((.slice (some ⟨go14, 0, none⟩) y143.length co14) : Value).ownBlock) u5 x5_1) ∧ za0 (Kd.R (Kd.int .i64) 3 w' w.heap.size (fun _ => True) (.slice (some ⟨go14, 0, none⟩) y143.length co14) x8_2) ∧ za0 (w'.heap[gb138]? = some (.cells #[(.slice (some ad142) l0_0.length c0_0)] 29 (0, 0))) ∧ za0 (Below w.heap.size w w'))
  case atStart => exact ⟨(y146), (0), (by first | rfl | (simp; done) | (simp [*]; done)), H', ⟨Nat.le_refl _⟩, ⟨by (with_reducible repeat (first | apply Kd.S_alloc | apply Kd.S_drewN | apply Kd.S_drew)); exact Kd.S_mono HO_5.1 (fun _ hk => hk.2)⟩, ⟨by (with_reducible repeat (first | apply Kd.R_alloc | apply Kd.R_drewN | apply Kd.R_drew)); exact HO145.1⟩, ⟨by (with_reducible repeat (first | refine zg0 ?_ _ | refine zj0 ?_ | refine zf0 ?_ _)); exact BK138.1⟩, ⟨by repeat (first | exact HB.1 | apply zc0 | apply zb0 | apply zd0 | refine ze0 ?_ GE138.1)⟩⟩
  case round =>
   clear H'
   try clear c1
   try clear p1
   try clear q1
   try clear hx1
   try clear p2
   try clear c6
   try clear p6
   try clear c7
   try clear c7b0
   try clear c8
   try clear c8b0
   try clear c9
   try clear c9b0
   try clear c10
   try clear c10b0
   try clear c10b1
   try clear c11
   try clear c11b0
   try clear c11b1
   try clear c12
   try clear c12b0
   try clear c12b1
   try clear c13
   try clear c13b0
   try clear c14
   try clear p14
   try clear q14
   try clear hx14
   try clear hf14
   try clear hcz15_0
   try clear hcz6_0
   try clear hfz15_0
   try clear hfz6_0
   try clear hx142_0
   try clear hx14_0
   try clear p14
   try clear p142
   try clear p2
   try clear q14
   try clear q142
   obtain ⟨x8_2, x34_2, rfl, HA, HK2, HO_5, HO_8, BK138, HB⟩ := hrel
   have hl8_2 := (Kd.R_reads' HO_8.1).1
   rw [hl8_2] at HO_8
   (try simp only [hl8_2])
   (try simp only [hl8_2] at BK138)
   (try simp only [hl8_2] at HO_5)
   obtain _ | k2 := gk
   ·exact absurd HA.1 (by simp [yg0.l1])
   have H := HA.1
   clear HA
   simp only [yg0.l1] at H
   by_cases c20 : x34_2 < ((rd_L1 l0_0 x15_1).length : Int)
   rotate_left
   ·rw [if_neg c20] at H
    have c20b0 : decide (x34_2 < ((rd_L1 l0_0 x15_1).length : Int)) = false := decide_eq_false c20
    (try (have c20b0h := c20b0; simp only [hl8_2] at c20b0h))
    clear c20
    replace H := Option.bind_eq_some_iff.mp H
    obtain ⟨t150, A280, H⟩ := H
    replace H : (if x5_1.length < 5864062014805 then (yg0.l0 k2 a1 (x5_1 ++ [t150]) l0_0 (l0_0.length : Int) (wrap64 (x15_1 + 1)) l0_0) else (none)) = some r := H
    have A28 := za0.mk A280
    clear A280
    by_cases c29 : x5_1.length < 5864062014805
    rotate_left
    ·rw [if_neg c29] at H
     exact absurd H (by simp)
    rw [if_pos c29] at H
    have LMc29 := za0.mk c29
    clear c29
    obtain ⟨y153, hy153⟩ : ∃ y_ : List (List Int), y_ = (x5_1 ++ [t150]) := ⟨_, rfl⟩
    replace H : (yg0.l0 k2 a1 y153 l0_0 (l0_0.length : Int) (wrap64 (x15_1 + 1)) l0_0) = some r := by first | (rw [hy153]; with_reducible exact H) | (have H2_ := (Option.bind_some _ _).symm.trans H; rw [hy153]; with_reducible exact H2_) | (have H2_ := (Option.bind_some _ _).symm.trans H; with_reducible exact H2_) | with_reducible exact H | (rw [hy153]; exact H) | exact H
    have Ny153 := za0.mk hy153
    clear hy153
    have H' := za0.mk H
    clear H
    go_wp2_with (first | ((with_reducible refine zn0 (f := 76) rfl ?_); refine za1 (some 50) rfl rfl Try.func76 (by kernel_rfl) rfl #[.slice (some ⟨go14, 0, none⟩) x8_2.length co14, .int .i64 a1, .int .i64 (wrap64 (a1 + 1))] rfl (by (try simp only [List.map_toArray, List.map_cons, List.map_nil]); first | done | rfl | (simp only [List.length_drop, List.length_take]; rfl)) ?_; (with_reducible refine (yd2.calls (fun k_ => some k_ = (.slice (some ⟨go14, 0, none⟩) x8_2.length co14 : Value).ownBlock) (.slice (some ⟨go14, 0, none⟩) x8_2.length co14) x8_2 a1 (wrap64 (a1 + 1)) t150 w _ ?side1 ?side2 A28.1).mono ?_); (case side1 => repeat (first | exact HB.1 | apply zc0 | apply zb0 | apply zd0 | refine ze0 ?_ GE138.1)); (case side2 => exact Kd.R_tight rfl HO_8.1); rintro e w30 ⟨v151, rfl, ho0, hb, hkp⟩; refine ⟨_, rfl, ?_⟩; have n0_ := za0.mk (Kd.S_mono (ok' := fun k_ => some k_ ≠ (v151 : Value).ownBlock) (Kd.S_keptB (HO_5.1) hkp (fun k_ hk_ hs_ => (hk_) hs_)) (fun k_ hk_ => fun e_ => Or.elim (ho0.1 k_ e_.symm) (fun hs_ => hk_.2.1 hs_) (fun hn_ => Nat.not_le.2 hk_.2.2 hn_))); have n1_ := za0.mk (blk_kept (by (with_reducible repeat (first | refine zg0 ?_ _ | refine zj0 ?_ | refine zf0 ?_ _)); exact BK138.1) hkp (fun hs_ => (fun e_ => (Kd.R_ne HO_8.1 BK138.1 (by decide)) e_) hs_)); have n2_ := za0.mk (Kd.R_mono (ok' := fun k_ => True) ho0 (fun k_ hk_ => trivial)); have n3_ := za0.mk (hb); clear HO_5; clear BK138; clear HB; clear HO_8; have HO_5 := n0_; have BK138 := n1_; have HO152 := n2_; have HB := n3_; clear n0_ n1_ n2_ n3_; (try clear hb); (try clear hkp); (try clear ho0); obtain ⟨Ao32, co32, eo32⟩ := Kd.R_slice HO152.1; subst eo32) | ((with_reducible refine gate_builtin (b := .append) (xs := #[.tmp 45, .tmp 51]) rfl ?_); at_builtin; refine Kd.S_append (Kd.slice 3 (Kd.int .i64)) (w0 := w) w.heap.size rfl (.tmp 45) (.tmp 51) 22 25 (.slice none 0 0) 24 rfl Try.underlying22 info25 rfl (by decide) (by omega) u5 x5_1 t150 [.slice Ao32 t150.length co32] (fun _ => True) (fun k_ => some k_ = (.slice Ao32 t150.length co32 : Value).ownBlock) rfl rfl ?aP (fun k_ hk_ => ((Kd.R_mono (ok' := fun k_ => ((fun _ => True)) k_ ∧ some k_ ≠ (u5 : Value).ownBlock) (Kd.R_apart' (HO152.1) (Kd.S_typed HO_5.1) (by decide)) (fun k_ hk => ⟨trivial, hk.2⟩))).1 k_ hk_.symm) ?aF ?aO ?aB ?aS ?aL ?_; (case aP => exact Kd.M_row (Kd.R_mono (Kd.R_tight rfl (Kd.R_mono (ok' := fun k_ => ((fun _ => True)) k_ ∧ some k_ ≠ (u5 : Value).ownBlock) (Kd.R_apart' (HO152.1) (Kd.S_typed HO_5.1) (by decide)) (fun k_ hk => ⟨trivial, hk.2⟩))) (fun _ h_ => h_))); (case aB => exact (by repeat (first | exact HB.1 | apply zc0 | apply zb0 | apply zd0 | refine ze0 ?_ GE138.1))); (case aF => exact (fun _ _ => trivial)); (case aO => exact (by (with_reducible repeat (first | apply Kd.S_alloc | apply Kd.S_drewN | apply Kd.S_drew)); exact Kd.S_mono HO_5.1 (fun k_ hk => ⟨trivial, fun e_ => hk e_⟩))); (case aS => exact (zh0 (by repeat (first | exact HB.1 | apply zc0 | apply zb0 | apply zd0 | refine ze0 ?_ GE138.1)))); (case aL => have := LMc29.1; omega); intro v154 w31 ho hb hg hat; rw [← Ny153.1] at ho; have n0_ := za0.mk (blk_grown (g := gb138) (o := .cells #[.slice (some ad142) l0_0.length c0_0] 29 (0, 0)) (by (with_reducible repeat (first | refine zg0 ?_ _ | refine zj0 ?_ | refine zf0 ?_ _)); exact BK138.1) hg (Kd.S_ne HO_5.1 BK138.1 (by decide))); have n1_ := za0.mk (hb); have n2_ := za0.mk (ho); clear BK138; clear HB; clear HO_5; clear HO152; have BK138 := n0_; have HB := n1_; have HO155 := n2_; clear n0_ n1_ n2_; clear ho hb hg hat))
    (try simp only [← hl8_2])
    go_roundg k2
    case measure => have := HK1.1; have := HK2.1; omega
    case rel => exact ⟨(y153), (wrap64 (x15_1 + 1)), (by first | rfl | (simp; done) | (simp [*]; done)), H', ⟨by have := HK1.1; have := HK2.1; omega⟩, ⟨by (try simp only [hl8_2]); (with_reducible repeat (first | apply Kd.S_alloc | apply Kd.S_drewN | apply Kd.S_drew)); exact HO155.1⟩, ⟨by (try simp only [hl8_2]); (with_reducible repeat (first | refine zg0 ?_ _ | refine zj0 ?_ | refine zf0 ?_ _)); exact BK138.1⟩, ⟨by repeat (first | exact HB.1 | apply zc0 | apply zb0 | apply zd0 | refine ze0 ?_ GE138.1)⟩⟩
   rw [if_pos c20] at H
   have c20b0 : decide (x34_2 < ((rd_L1 l0_0 x15_1).length : Int)) = true := decide_eq_true c20
   (try (have c20b0h := c20b0; simp only [hl8_2] at c20b0h))
   clear c20
   by_cases c21 : 0 ≤ x34_2
   rotate_left
   ·rw [if_neg c21] at H
    exact absurd H (by simp)
   rw [if_pos c21] at H
   have c21b0 : decide (0 ≤ x34_2) = true := decide_eq_true c21
   (try (have c21b0h := c21b0; simp only [hl8_2] at c21b0h))
   clear c21
   by_cases c22 : x34_2 < ((rd_L1 l0_0 x15_1).length : Int)
   rotate_left
   ·rw [if_neg c22] at H
    exact absurd H (by simp)
   rw [if_pos c22] at H
   have c22b0 : decide (x34_2 < ((rd_L1 l0_0 x15_1).length : Int)) = true := decide_eq_true c22
   (try (have c22b0h := c22b0; simp only [hl8_2] at c22b0h))
   clear c22
   by_cases c23 : 0 ≤ (rd (rd_L1 l0_0 x15_1) x34_2)
   rotate_left
   ·rw [if_neg c23] at H
    exact absurd H (by simp)
   rw [if_pos c23] at H
   have c23b0 : decide (0 ≤ (rd (rd_L1 l0_0 x15_1) x34_2)) = true := decide_eq_true c23
   (try (have c23b0h := c23b0; simp only [hl8_2] at c23b0h))
   clear c23
   by_cases c24 : (rd (rd_L1 l0_0 x15_1) x34_2) < (x8_2.length : Int)
   rotate_left
   ·rw [if_neg c24] at H
    exact absurd H (by simp)
   rw [if_pos c24] at H
   have c24b0 : decide ((rd (rd_L1 l0_0 x15_1) x34_2) < (x8_2.length : Int)) = true := decide_eq_true c24
   (try (have c24b0h := c24b0; simp only [hl8_2] at c24b0h))
   clear c24
   obtain ⟨y149, hy149⟩ : ∃ y_ : List Int, y_ = (x8_2.set ((rd (rd_L1 l0_0 x15_1) x34_2) : Int).toNat (wrap64 ((rd x8_2 (rd (rd_L1 l0_0 x15_1) x34_2)) - 1))) := ⟨_, rfl⟩
   replace H : (yg0.l1 k2 a1 x5_1 y149 l0_0 (l0_0.length : Int) x15_1 (rd_L1 l0_0 x15_1) ((rd_L1 l0_0 x15_1).length : Int) (wrap64 (x34_2 + 1)) l0_0) = some r := by first | (rw [hy149]; with_reducible exact H) | (have H2_ := (Option.bind_some _ _).symm.trans H; rw [hy149]; with_reducible exact H2_) | (have H2_ := (Option.bind_some _ _).symm.trans H; with_reducible exact H2_) | with_reducible exact H | (rw [hy149]; exact H) | exact H
   have Ny149 := za0.mk hy149
   clear hy149
   have H' := za0.mk H
   clear H
   have p147 : 0 ≤ (x34_2 : Int) := of_decide_eq_true (by assumption)
   have q147 : x34_2 < ((rd_L1 l0_0 x15_1).length : Int) := of_decide_eq_true (by assumption)
   obtain ⟨ad147, e147, hx147_0⟩ := Kd.at_int HR142_0.1 x34_2 p147 q147
   cases e147
   replace hx147_0 := (HB.1.cell (World.block_lt_of_cell? w _ hx147_0)).trans hx147_0
   replace p147 := eq_true p147
   replace q147 := eq_true q147
   have p148 : 0 ≤ ((rd (rd_L1 l0_0 x15_1) x34_2) : Int) := of_decide_eq_true (by assumption)
   have q148 : (rd (rd_L1 l0_0 x15_1) x34_2) < (x8_2.length : Int) := of_decide_eq_true (by assumption)
   obtain ⟨ad148, e148, hx148_0⟩ := Kd.at_int (Kd.R_reads' HO_8.1).2.2 (rd (rd_L1 l0_0 x15_1) x34_2) p148 q148
   obtain rfl : (⟨go14, 0, none⟩ : Addr) = ad148 := (by injection e148)
   (first | simp only [add_plain] at hx148_0 | simp only [add_at] at hx148_0 | simp only [Addr.add, Nat.zero_add] at hx148_0 | skip)
   replace p148 := eq_true p148
   replace q148 := eq_true q148
   have p25 : 0 ≤ ((rd (rd_L1 l0_0 x15_1) x34_2) : Int) := of_decide_eq_true (by assumption)
   have q25 : ((rd (rd_L1 l0_0 x15_1) x34_2) : Int) < ((x8_2.length : Int) : Int) := of_decide_eq_true (by assumption)
   obtain ⟨hx25_0, hf25_0⟩ := Kd.R_celln 0 HO_8.1 ((rd (rd_L1 l0_0 x15_1) x34_2) : Int) p25 q25
   replace p25 := eq_true p25
   replace q25 := eq_true q25
   have HP26 := Kd.R_putg HO_8.1 ((rd (rd_L1 l0_0 x15_1) x34_2) : Int) (wrap64 ((rd x8_2 (rd (rd_L1 l0_0 x15_1) x34_2)) - 1))
   go_wp2_with (first | ((with_reducible refine gate_store (t := 3) (p := 43) rfl ?_); refine store_event (t := 3) (p := 43) (v := ?vo_w27) (w1 := (wr.setCell ⟨go14, ((rd (rd_L1 l0_0 x15_1) x34_2) : Int).toNat, none⟩ (.int .i64 (wrap64 ((rd x8_2 (rd (rd_L1 l0_0 x15_1) x34_2)) - 1))))) ?hg ?ho ?hn ?hr ?_; (case ho => rfl); (case hg => rfl); (case hn => rfl); (case hr => go_simp <;> rfl); intro w27 hw; have hg : wr.grownBy w27 (some go14) := (by rw [hw]; exact HP26.2); have hp_ : Kd.R (Kd.int .i64) 3 w27 w.heap.size (fun _ => True) (.slice (some ⟨go14, 0, none⟩) x8_2.length co14) y149 := (by rw [hw, Ny149.1]; exact HP26.1); clear HP26; have n0_ := za0.mk (Kd.S_after (v := (.slice (some ⟨go14, 0, none⟩) x8_2.length co14)) (v1 := (.slice (some ⟨go14, 0, none⟩) x8_2.length co14)) (ok := (fun _ => True)) (by (with_reducible repeat (first | apply Kd.S_alloc | apply Kd.S_drewN | apply Kd.S_drew)); exact Kd.S_mono HO_5.1 (fun _ hk => ⟨trivial, hk⟩)) hg (.inl rfl)); have n1_ := za0.mk (hp_); have n2_ := za0.mk (blk_grown (g := gb138) (o := .cells #[.slice (some ad142) l0_0.length c0_0] 29 (0, 0)) (by (with_reducible repeat (first | refine zg0 ?_ _ | refine zj0 ?_ | refine zf0 ?_ _)); exact BK138.1) hg (Kd.R_ne HO_8.1 BK138.1 (by decide))); have n3_ := za0.mk ((by rw [hw]; exact ze0 (HB.1) GB14.1 : Below w.heap.size w w27)); clear HO_5; clear HO_8; clear BK138; clear HB; have HO_5 := n0_; have HO_8 := n1_; have BK138 := n2_; have HB := n3_; clear n0_ n1_ n2_ n3_; clear hg hw hp_))
   (try simp only [← hl8_2])
   go_roundg k2
   case measure => have := HK1.1; have := HK2.1; omega
   case rel => exact ⟨(y149), (wrap64 (x34_2 + 1)), (by first | rfl | (simp; done) | (simp [*]; done)), H', ⟨by have := HK1.1; have := HK2.1; omega⟩, ⟨by (try simp only [hl8_2]); (with_reducible repeat (first | apply Kd.S_alloc | apply Kd.S_drewN | apply Kd.S_drew)); exact Kd.S_mono HO_5.1 (fun _ hk => hk.2)⟩, ⟨by (try simp only [hl8_2]); (with_reducible repeat (first | apply Kd.R_alloc | apply Kd.R_drewN | apply Kd.R_drew)); exact HO_8.1⟩, ⟨by (try simp only [hl8_2]); (with_reducible repeat (first | refine zg0 ?_ _ | refine zj0 ?_ | refine zf0 ?_ _)); exact BK138.1⟩, ⟨by repeat (first | exact HB.1 | apply zc0 | apply zb0 | apply zd0 | refine ze0 ?_ GE138.1)⟩⟩
def yj1.f (l0 : List Int) : Option (List Int) := if l0.length < 17592186044416 then some l0 else none
theorem C_none {w : World} {l : List Int} (h : Kd.C (Kd.int .i64) w none l.length l) : l = [] := by
 cases l with
 | nil => rfl
 | cons x l =>
  obtain ⟨ad, e, _⟩ := h.2.2 (by simp)
  cases e
theorem yj1.calls (A0 : Option Addr) (c0 : Nat) (l0 : List Int) (r : List Int) (w : World) (hr0 : Kd.C (Kd.int .i64) w A0 l0.length l0) (hc0 : l0.length ≤ c0) (h : yj1.f l0 = some r) :
  Calls Try.prog 35 #[.slice A0 l0.length c0] w fun e w' => ∃ v0_ : Value, e = .returned (v0_) ∧ Kd.R (Kd.int .i64) 3 w' w.heap.size (fun _ => True) v0_ r ∧ Below w.heap.size w w' := by
 unfold yj1.f at h
 by_cases c2 : l0.length < 17592186044416
 rotate_left
 ·rw [if_neg c2] at h
  cases h
 rw [if_pos c2] at h
 obtain rfl := Option.some.inj h
 clear h
 cases A0 with
 | none =>
  obtain rfl := C_none hr0
  clear hr0 hc0
  have q22 : ∀ (w : World) (n c n' c' : Nat), (binOp .eql 25 (.slice none n c) (.slice none n' c')).run Try.prog w = .ok (.bool true) w := fun w n c n' c' => Lib.run_eql_slice_nil w _ _ none n c n' c' Try.underlying25
  go_enter Try.func35, Try.ntmps35
  go_wp2
  go_ret
  exact ⟨_, rfl, Kd.R_nil _ _ _ _ _, Below.refl _ _⟩
 | some ad =>
  have LM := za0.mk c2
  clear c2
  have HR0 := za0.mk hr0
  have HC0 := za0.mk hc0
  clear hr0 hc0
  have HB := za0.mk (Below.refl w.heap.size w)
  have q22 : ∀ (w : World) (a : Addr) (n c n' c' : Nat), (binOp .eql 25 (.slice (some a) n c) (.slice none n' c')).run Try.prog w = .ok (.bool false) w := fun w a n c n' c' => Lib.run_eql_slice_nil w _ _ (some a) n c n' c' Try.underlying25
  go_enter Try.func35, Try.ntmps35
  go_wp2_with (first | ((with_reducible refine zo0 (N := 5) rfl ?_); refine Kd.R_lit (Kd.int .i64) _ 3 ?hg (N := 5) ?hd (xs := ([] : List Int)) (inner := []) (ok := fun _ => True) (okp := fun _ => True) ?hr ?hp (fun _ hk => hk) trivial (Below.refl _ _) (Nat.le_refl _) (by simp) ?_; (case hd | hg => rfl); (case hr => go_simp <;> rfl); (case hp => exact (Reps.none _ _)); intro v155 w3 ho4 hb hg_ hnew_; clear hg_ hnew_; have n0_ := za0.mk (Kd.R_lower ho4 (zh0 (by repeat (first | exact HB.1 | apply zc0 | apply zb0 | apply zd0)))); have n1_ := za0.mk (zi0 (by repeat (first | exact HB.1 | apply zc0 | apply zb0 | apply zd0)) hb); clear HB; have HO156 := n0_; have HB := n1_; clear n0_ n1_; clear hb ho4) | ((with_reducible refine gate_builtin (b := .append) (xs := #[.tmp 5, .tmp 6]) rfl ?_); at_builtin; refine Kd.R_append_rows (Kd.int .i64) (w0 := w) w.heap.size rfl (.tmp 5) (.tmp 6) 25 3 (.int .i64 0) 8 rfl Try.underlying25 info3 rfl (by decide) (by omega) v155 [] l0 _ _ _ (fun _ => True) (fun _ => False) rfl rfl ?aO ?aR (fun _ _ h => h) (fun _ h => h.elim) ?aF ?aB ?aS ?aL ?_; (case aR => repeat (first | exact (Kd.C_below HR0.1 HB.1) | with_reducible first | refine Kd.C_alloc ?_ _ | refine Kd.C_drewN ?_ _ | refine Kd.C_drew ?_)); (case aB => exact (by repeat (first | exact HB.1 | apply zc0 | apply zb0 | apply zd0))); (case aF => exact (fun _ _ => trivial)); (case aO => exact (by (with_reducible repeat (first | apply Kd.R_alloc | apply Kd.R_drewN | apply Kd.R_drew)); exact HO156.1)); (case aS => exact (zh0 (by repeat (first | exact HB.1 | apply zc0 | apply zb0 | apply zd0)))); (case aL => have := LM.1; simp only [List.length_nil]; omega); intro v158 w5 ho hb hg hat; have n0_ := za0.mk (hb); have n1_ := za0.mk (ho); clear HB; clear HO156; have HB := n0_; have HO159 := n1_; clear n0_ n1_; clear ho hb hg hat))
  go_ret
  exact ⟨_, rfl, by (with_reducible repeat (first | apply Kd.R_alloc | apply Kd.R_drewN | apply Kd.R_drew)); exact HO159.1, by repeat (first | exact HB.1 | apply zc0 | apply zb0 | apply zd0)⟩
def swp {α : Type} (xs : List α) (z : α) (i j : Nat) : List α := (xs.set i (xs.getD j z)).set j (xs.getD i z)
theorem swp_len {α : Type} (xs : List α) (z : α) (i j : Nat) : (swp xs z i j).length = xs.length := by simp [swp]
theorem heap_set {W : World} {g e i : Nat} {cur : Array Value} {u : Value} (h : W.heap[g]? = some (.cells cur e (0, 0))) : (W.setCell ⟨g, i, none⟩ u).heap[g]? = some (.cells (cur.setIfInBounds i u) e (0, 0)) := by
 simp only [World.setCell, Array.getElem?_modify, if_true, h, Option.map_some]
 rfl
theorem heap_cells {W : World} {g e i : Nat} {f : Nat × Nat} {cur : Array Value} {u : Value} (h : W.heap[g]? = some (.cells cur e f)) : (W.setCell ⟨g, i, none⟩ u).heap[g]? = some (.cells (cur.setIfInBounds i u) e f) := by
 simp only [World.setCell, Array.getElem?_modify, if_true, h, Option.map_some]
 rfl
theorem S_swap {α : Type} {d : Kd α} (hz : d.sz = 1) {e base g n cap : Nat} {ok : Nat → Prop} {W : World} {xs : List α} (z : α) (h : Kd.S d e W base ok (.slice (some ⟨g, 0, none⟩) n cap) xs) {i j : Nat} (hi : i < n) (hj : j < n) {vi vj : Value}
  (hvi : W.cell? ⟨g, i, none⟩ = some vi) (hvj : W.cell? ⟨g, j, none⟩ = some vj) :
  Kd.S d e ((W.setCell ⟨g, i, none⟩ vj).setCell ⟨g, j, none⟩ vi) base ok (.slice (some ⟨g, 0, none⟩) n cap) (swp xs z i j) := by
 obtain ⟨f, hok, inner, ⟨hlen, hcase⟩, hreps⟩ := h
 rcases hcase with ⟨hv, _⟩ | ⟨g', cap', cur, hv, hbase, hheap, hn, hcap, hsz, htake⟩
 ·cases hv
 ·injection hv with hv1 hv2 hv3
  injection hv1 with hv1
  injection hv1 with hv1 _ _
  subst hv1
  subst hv3
  rw [List.length_zipIdx] at hv2 hlen htake hn
  have hsz1 : (Kd.tag f d).sz = 1 := hz
  rw [hsz1] at hlen htake hsz hreps
  rw [Nat.mul_one] at hlen htake hsz
  subst hv2
  have hc0 : ∀ m u, W.cell? ⟨g, m, none⟩ = some u → cur[m]? = some u := fun m u hu => by
   simp only [World.cell?, hheap] at hu; simpa using hu
  have hin : ∀ m, m < xs.length → inner[m]? = cur[m]? := fun m hm => by
   rw [← htake, List.getElem?_take, if_pos hm]; simp
  have hii : inner[i]? = some vi := (hin i hi).trans (hc0 i vi hvi)
  have hjj : inner[j]? = some vj := (hin j hj).trans (hc0 j vj hvj)
  have hh1 := heap_set (i := i) (u := vj) hheap
  have hh2 := heap_set (i := j) (u := vi) hh1
  have hfar : ∀ k, k ≠ g → ((W.setCell ⟨g, i, none⟩ vj).setCell ⟨g, j, none⟩ vi).heap[k]? = W.heap[k]? := fun k hk => by
   rw [Below.heap_setCell _ _ _ k hk, Below.heap_setCell _ _ _ k hk]
  refine ⟨fun k => if f k = i then j else if f k = j then i else f k, hok, (inner.set i vj).set j vi, ⟨?_, .inr ⟨g, cap, (cur.setIfInBounds i vj).setIfInBounds j vi, ?_, hbase, hh2, ?_, hcap, ?_, ?_⟩⟩, ?_, ?_⟩
  ·rw [List.length_zipIdx, swp_len]; show _ = xs.length * d.sz; rw [hz]; simp; exact hlen
  ·rw [List.length_zipIdx, swp_len]
  ·rw [List.length_zipIdx, swp_len]; exact hn
  ·show _ = cap * d.sz; rw [hz]; simp; exact hsz
  ·rw [List.length_zipIdx, swp_len]; show List.take (xs.length * d.sz) _ = _
   rw [hz, Nat.mul_one, ← htake]
   simp [List.take_set]
  ·rw [List.length_zipIdx, swp_len]; show _ = xs.length * d.sz; rw [hz]; simp; exact hlen
  ·intro m p hp
   rw [List.getElem?_zipIdx] at hp
   obtain ⟨x, hx, rfl⟩ := Option.map_eq_some_iff.1 hp
   rw [Nat.zero_add]
   have hm : m < xs.length := by have := (List.getElem?_eq_some_iff.1 hx).1; rwa [swp_len] at this
   have hold : ∀ q y u, xs[q]? = some y → inner[q]? = some u → d.M W base (fun k => (ok k ∧ some k ≠ (Value.slice (some ⟨g, 0, none⟩) xs.length cap).ownBlock) ∧ f k = q) y [u] := fun q y u hy hu => by
    have := hreps.2 q (y, q) (by rw [List.getElem?_zipIdx, hy, Nat.zero_add]; rfl)
    rw [Nat.mul_one] at this
    have hdt : (inner.drop q).take 1 = [u] := by
     obtain ⟨hq, rfl⟩ := List.getElem?_eq_some_iff.1 hu
     rw [List.drop_eq_getElem_cons hq]; rfl
    rw [hdt] at this; exact this
   have hmove : ∀ q y u, xs[q]? = some y → inner[q]? = some u → (∀ k, f k = q → (if f k = i then j else if f k = j then i else f k) = m) → d.M ((W.setCell ⟨g, i, none⟩ vj).setCell ⟨g, j, none⟩ vi) base (fun k => (ok k ∧ some k ≠ (Value.slice (some ⟨g, 0, none⟩) xs.length cap).ownBlock) ∧ (if f k = i then j else if f k = j then i else f k) = m) y [u] := fun q y u hy hu hf =>
    d.M_move (fun k hk => hfar k (fun he => hk.1.2 (by rw [he]; rfl))) (d.M_mono (fun k hk => ⟨hk.1, hf k hk.2⟩) (hold q y u hy hu))
   have hdt : ∀ u, ((inner.set i vj).set j vi)[m]? = some u → (((inner.set i vj).set j vi).drop (m * (Kd.tag (fun k => if f k = i then j else if f k = j then i else f k) d).sz)).take (Kd.tag (fun k => if f k = i then j else if f k = j then i else f k) d).sz = [u] := fun u hu => by
    show (((inner.set i vj).set j vi).drop (m * d.sz)).take d.sz = [u]
    rw [hz, Nat.mul_one]
    obtain ⟨hq, rfl⟩ := List.getElem?_eq_some_iff.1 hu
    rw [List.drop_eq_getElem_cons hq]; rfl
   have hil : inner.length = xs.length := hlen
   simp only [swp] at hx
   by_cases hmj : m = j
   ·subst hmj
    have hx2 : xs[i]? = some x := by
     rw [List.getElem?_set_self (by simp; exact hm)] at hx
     injection hx with hx; rw [← hx]; simp [List.getD, hi]
    rw [hdt vi (by rw [List.getElem?_set_self (by simp; omega)])]
    exact hmove i x vi hx2 hii (fun k hk => by rw [if_pos hk])
   rw [List.getElem?_set_ne (fun h => hmj h.symm)] at hx
   by_cases hmi : m = i
   rotate_left
   ·rw [List.getElem?_set_ne (fun h => hmi h.symm)] at hx
    obtain ⟨u, hu⟩ : ∃ u, inner[m]? = some u := ⟨inner[m]'(by omega), List.getElem?_eq_getElem (by omega)⟩
    rw [hdt u (by rw [List.getElem?_set_ne (fun h => hmj h.symm), List.getElem?_set_ne (fun h => hmi h.symm)]; exact hu)]
    exact hmove m x u hx hu (fun k hk => by rw [if_neg (by omega), if_neg (by omega)]; exact hk)
   subst hmi
   have hx2 : xs[j]? = some x := by
    rw [List.getElem?_set_self hm] at hx
    injection hx with hx; rw [← hx]; simp [List.getD, hj]
   rw [hdt vj (by rw [List.getElem?_set_ne (fun h => hmj h.symm), List.getElem?_set_self (by omega)])]
   exact hmove j x vj hx2 hjj (fun k hk => by rw [if_neg (by omega), if_pos hk])
theorem cell_off {W : World} {g i j : Nat} {u v : Value} (h : W.cell? ⟨g, j, none⟩ = some u) (hne : i ≠ j) : (W.setCell ⟨g, i, none⟩ v).cell? ⟨g, j, none⟩ = some u := by
 simp only [World.cell?] at h ⊢
 cases hb : W.heap[g]? with
 | none => rw [hb] at h; cases h
 | some o =>
  rw [hb] at h
  cases o <;> first | (cases h; done) | skip
  rename_i c e f
  rw [heap_cells (i := i) (u := v) hb]
  simpa [Array.getElem?_setIfInBounds, hne] using h
theorem froz_off {W : World} {g i j : Nat} {v : Value} (h : W.frozen? ⟨g, j, none⟩ = false) : (W.setCell ⟨g, i, none⟩ v).frozen? ⟨g, j, none⟩ = false := by
 simp only [World.frozen?] at h ⊢
 cases hb : W.heap[g]? with
 | none => simp [World.setCell, Array.getElem?_modify, hb]
 | some o =>
  rw [hb] at h
  cases o <;> first | (simp [World.setCell, Array.getElem?_modify, hb]; done) | skip
  rename_i c e f
  rw [heap_cells (i := i) (u := v) hb]
  exact h
def fake_swap.f (l0 : List (List Int)) (a1 a2 : Int) : Option (List (List Int)) := if 0 ≤ a1 then (if a1 < (l0.length : Int) then (if 0 ≤ a2 then (if a2 < (l0.length : Int) then (some (swp l0 [] a1.toNat a2.toNat)) else (none)) else (none)) else (none)) else (none)
theorem fake_swap_some {l0 : List (List Int)} {a1 a2 : Int} {r : List (List Int)} (h : fake_swap.f l0 a1 a2 = some r) : 0 ≤ a1 ∧ a1 < (l0.length : Int) ∧ 0 ≤ a2 ∧ a2 < (l0.length : Int) ∧ swp l0 [] a1.toNat a2.toNat = r := by
 unfold fake_swap.f at h
 by_cases h1 : 0 ≤ a1
 rotate_left
 ·rw [if_neg h1] at h; cases h
 rw [if_pos h1] at h
 by_cases h2 : a1 < (l0.length : Int)
 rotate_left
 ·rw [if_neg h2] at h; cases h
 rw [if_pos h2] at h
 by_cases h3 : 0 ≤ a2
 rotate_left
 ·rw [if_neg h3] at h; cases h
 rw [if_pos h3] at h
 by_cases h4 : a2 < (l0.length : Int)
 ·rw [if_pos h4] at h; exact ⟨h1, h2, h3, h4, Option.some.inj h⟩
 rw [if_neg h4] at h; cases h
end Go.Proofs.Ytlbgajpbdbgmkaa.P
