/- Texts of this session on the way to the law FnExactArrivalPath, part 6: words of the print, walks, plain laws; only what the law's proof uses. -/
import Derived.Test.YtlbgajpbdbgmkaaCFnExactArrivalPatha
import Derived.Test.YtlbgajpbdbgmkaaCFnExactArrivalPathe
import Derived.Test.YtlbgajpbdbgmkaaCFnExactArrivalPathd
import Derived.WalkKit
import Derived.ProofKit
import Derived.OpenShut
import Derived.ShutString
import Derived.ChangeOld
import Derived.Below
import Derived.SizedLaws
import Derived.Deep.Matrix
import Derived.Lib.SmallJoins
namespace Go.Proofs.Ytlbgajpbdbgmkaa.P
open Go.RowKit Go.Proofs.YtlbgajpbdbgmkaaW.PrintWords Go.Proofs.YtlbgajpbdbgmkaaW.PrintLast Go.Proofs.YtlbgajpbdbgmkaaW.PrintMore
attribute [local go_sem] zu0 zw0 zz0 zy0 zs0 zq0 zv0 zt0
set_option linter.unusedVariables false
set_option linter.unusedSimpArgs false
def spec_trFar.l0 : Nat → Int → List Int → Int → Int → List (List Int) → Option (Int)
 | 0, _, _, _, _, _ => none
 | k + 1, x1, x2, x3, x9, x287000 => if x9 < (x287000.length : Int) then (if x3 = x1 then (some x9) else ((spec_trNext.f x287000 x2 x3).bind fun t287 => (if t287 < 0 then (some (-1)) else (spec_trFar.l0 k x1 x2 t287 (wrap64 (x9 + 1)) x287000)))) else (some (-1))
def spec_trFar.f (k : Nat) (l0_0 : List (List Int)) (a1 : Int) (l2 : List Int) (a3 : Int) : Option (Int) := spec_trFar.l0 k a1 l2 a3 0 l0_0
set_option maxHeartbeats 8000000 in
set_option maxRecDepth 100000 in
theorem spec_trFar.calls (k : Nat) (A0_0 : Option Addr) (c0_0 : Nat) (l0_0 : List (List Int)) (a1 : Int) (A2 : Option Addr) (c2 : Nat) (l2 : List Int) (a3 : Int) (r : Int) (w : World) (hr0_0 : Kd.C (Kd.slice 3 (Kd.int .i64)) w A0_0 l0_0.length l0_0) (hc0_0 : l0_0.length ≤ c0_0) (hr2 : Kd.C (Kd.int .i64) w A2 l2.length l2) (hc2 : l2.length ≤ c2) (h : spec_trFar.f k l0_0 a1 l2 a3 = some r) :
  Calls Try.prog 66 #[.agg #[.slice A0_0 l0_0.length c0_0], .int .i64 a1, .slice A2 l2.length c2, .int .i64 a3] w fun e w' => e = .returned (.int .i64 r) ∧ Below w.heap.size w w' := by
 have hu29 := Try.underlying29
 have HR0_0 := za0.mk hr0_0
 have HC0_0 := za0.mk hc0_0
 clear hr0_0 hc0_0
 have HR2 := za0.mk hr2
 have HC2 := za0.mk hc2
 clear hr2 hc2
 have HB := za0.mk (Below.refl w.heap.size w)
 have H : (spec_trFar.l0 k a1 l2 a3 0 l0_0) = some r := h
 clear h
 have H' := za0.mk H
 clear H
 go_enter Try.func66, Try.ntmps66
 go_wp2_with (first | ((with_reducible refine zo0 (N := 4) rfl ?_); refine zp0 ?hg (N := 4) ?hd (cs := #[.slice A0_0 l0_0.length c0_0]) (t := 29) ?hr ?_; (case hd => rfl); (case hg => rfl); (case hr => first | (go_simp; done) | (go_simp; rfl)); intro gb286 hg w5 hbox hb; have n0_ := za0.mk (zh0 (by repeat (first | (with_reducible first | exact HB.out | apply zc0 | apply zb0 | apply zd0) | exact HB.out)) hb); have n1_ := za0.mk (hbox); have n2_ := za0.mk ((by rw [hg]; exact (zj0 (by repeat (first | (with_reducible first | exact HB.out | apply zc0 | apply zb0 | apply zd0) | exact HB.out))) : w.heap.size ≤ gb286)); have n3_ := za0.mk ((by rw [hg]; exact (zj0 (by repeat (first | (with_reducible first | exact HB.out | apply zc0 | apply zb0 | apply zd0) | exact HB.out))) : w.heap.size ≤ gb286)); clear HB; have HB := n0_; have BK286 := n1_; have GW286 := n2_; have GE286 := n3_; clear n0_ n1_ n2_ n3_; clear hb hbox hg))
 go_loopg [3, 9] k (fun kq v3 v9 w' => ∃ (x3_1 : Int) (x9_1 : Int), v3 = .int .i64 x3_1 ∧ v9 = .int .i64 x9_1 ∧ za0 (spec_trFar.l0 kq a1 l2 x3_1 x9_1 l0_0 = some r) ∧ za0 (kq ≤ k) ∧ za0 (w'.heap[gb286]? = some (.cells #[(.slice A0_0 l0_0.length c0_0)] 29 (0, 0))) ∧ za0 (Below w.heap.size w w'))
 case atStart => exact ⟨(a3), (0), (by first | rfl | (simp; done) | (simp [*]; done)), (by first | rfl | (simp; done) | (simp [*]; done)), H', ⟨Nat.le_refl _⟩, ⟨by (with_reducible repeat (first | refine zg0 ?_ _ | refine zi0 ?_ | refine zf0 ?_ _)); exact BK286.out⟩, ⟨by repeat (first | (with_reducible first | exact HB.out | apply zc0 | apply zb0 | apply zd0 | refine ze0 ?_ GE286.out) | exact HB.out)⟩⟩
 case round =>
  clear H'
  try clear c2
  try clear p2
  obtain ⟨x3_1, x9_1, rfl, rfl, HA, HK1, BK286, HB⟩ := hrel
  cases gk with
  | zero => exact absurd HA.out (by simp [spec_trFar.l0])
  | succ k1 =>
   have H := HA.out
   clear HA
   simp only [spec_trFar.l0] at H
   by_cases c6 : x9_1 < (l0_0.length : Int)
   ·rw [if_pos c6] at H
    have c6b0 : decide (x9_1 < (l0_0.length : Int)) = true := decide_eq_true c6
    clear c6
    by_cases c7 : x3_1 = a1
    ·rw [if_pos c7] at H
     have c7b0 : (x3_1 == a1) = true := beq_iff_eq.mpr c7
     have c7b1 : (x3_1 != a1) = false := bne_eq_false_iff_eq.mpr c7
     clear c7
     obtain rfl := Option.some.inj H
     have hcz8_0 : wr.cell? ⟨gb286, 0, none⟩ = some (.slice A0_0 l0_0.length c0_0) := (zl0 BK286.out 0).trans rfl
     have hfz8_0 := zk0 BK286.out 0
     go_wp2
     go_ret
     exact ⟨by first | rfl | (simp [errW_none, errW_some] <;> rfl) | (simp [*, errW_none, errW_some] <;> rfl), by repeat (first | (with_reducible first | exact HB.out | apply zc0 | apply zb0 | apply zd0 | refine ze0 ?_ GE286.out) | exact HB.out)⟩
    ·rw [if_neg c7] at H
     have c7b0 : (x3_1 == a1) = false := beq_eq_false_iff_ne.mpr c7
     have c7b1 : (x3_1 != a1) = true := bne_iff_ne.mpr c7
     replace H := Option.bind_eq_some_iff.mp H
     obtain ⟨t287, A90, H⟩ := H
     replace H : (if t287 < 0 then (some (-1)) else (spec_trFar.l0 k1 a1 l2 t287 (wrap64 (x9_1 + 1)) l0_0)) = some r := H
     have A9 := za0.mk A90
     clear A90
     by_cases c10 : t287 < 0
     ·rw [if_pos c10] at H
      have c10b0 : decide (t287 < 0) = true := decide_eq_true c10
      clear c10
      obtain rfl := Option.some.inj H
      have hcz11_0 : wr.cell? ⟨gb286, 0, none⟩ = some (.slice A0_0 l0_0.length c0_0) := (zl0 BK286.out 0).trans rfl
      have hfz11_0 := zk0 BK286.out 0
      go_wp2_with (first | ((with_reducible refine zn0 (f := 80) rfl ?_); refine goesL_ (some 24) rfl rfl Try.func80 (by kernel_rfl) rfl #[.agg #[.slice A0_0 l0_0.length c0_0], .slice A2 l2.length c2, .int .i64 x3_1] rfl (by (try simp only [List.map_toArray, List.map_cons, List.map_nil]); first | done | rfl | (simp only [List.length_drop, List.length_take]; rfl)) ?_; (with_reducible refine (spec_trNext.calls _ _ l0_0 _ _ l2 x3_1 t287 _ ?side1 ?side2 ?side3 ?side4 A9.out).mono ?_); (case side1 => repeat (first | exact (Kd.C_below HR0_0.out HB.out) | (with_reducible refine Kd.C_alloc ?_ _) | (with_reducible refine Kd.C_drewN ?_ _) | (with_reducible refine Kd.C_drew ?_))); (case side2 => exact HC0_0.out); (case side3 => repeat (first | exact (Kd.C_below HR2.out HB.out) | (with_reducible refine Kd.C_alloc ?_ _) | (with_reducible refine Kd.C_drewN ?_ _) | (with_reducible refine Kd.C_drew ?_))); (case side4 => exact HC2.out); rintro e w12 ⟨rfl, hb⟩; refine ⟨_, rfl, ?_⟩; have n0_ := za0.mk (zm0 (g := gb286) (o := .cells #[.slice A0_0 l0_0.length c0_0] 29 (0, 0)) (by (with_reducible repeat (first | refine zg0 ?_ _ | refine zi0 ?_ | refine zf0 ?_ _)); exact BK286.out) hb); have n1_ := za0.mk (zh0 (by repeat (first | (with_reducible first | exact HB.out | apply zc0 | apply zb0 | apply zd0 | refine ze0 ?_ GE286.out) | exact HB.out)) hb); clear BK286; clear HB; have BK286 := n0_; have HB := n1_; clear n0_ n1_; (try clear hb); (try clear hb2); (try clear hk); (try clear hi)))
      go_ret
      exact ⟨by first | rfl | (simp [errW_none, errW_some] <;> rfl) | (simp [*, errW_none, errW_some] <;> rfl), by repeat (first | (with_reducible first | exact HB.out | apply zc0 | apply zb0 | apply zd0 | refine ze0 ?_ GE286.out) | exact HB.out)⟩
     ·rw [if_neg c10] at H
      have c10b0 : decide (t287 < 0) = false := decide_eq_false c10
      clear c10
      have H' := za0.mk H
      clear H
      have hcz13_0 : wr.cell? ⟨gb286, 0, none⟩ = some (.slice A0_0 l0_0.length c0_0) := (zl0 BK286.out 0).trans rfl
      have hfz13_0 := zk0 BK286.out 0
      go_wp2_with (first | ((with_reducible refine zn0 (f := 80) rfl ?_); refine goesL_ (some 24) rfl rfl Try.func80 (by kernel_rfl) rfl #[.agg #[.slice A0_0 l0_0.length c0_0], .slice A2 l2.length c2, .int .i64 x3_1] rfl (by (try simp only [List.map_toArray, List.map_cons, List.map_nil]); first | done | rfl | (simp only [List.length_drop, List.length_take]; rfl)) ?_; (with_reducible refine (spec_trNext.calls _ _ l0_0 _ _ l2 x3_1 t287 _ ?side1 ?side2 ?side3 ?side4 A9.out).mono ?_); (case side1 => repeat (first | exact (Kd.C_below HR0_0.out HB.out) | (with_reducible refine Kd.C_alloc ?_ _) | (with_reducible refine Kd.C_drewN ?_ _) | (with_reducible refine Kd.C_drew ?_))); (case side2 => exact HC0_0.out); (case side3 => repeat (first | exact (Kd.C_below HR2.out HB.out) | (with_reducible refine Kd.C_alloc ?_ _) | (with_reducible refine Kd.C_drewN ?_ _) | (with_reducible refine Kd.C_drew ?_))); (case side4 => exact HC2.out); rintro e w14 ⟨rfl, hb⟩; refine ⟨_, rfl, ?_⟩; have n0_ := za0.mk (zm0 (g := gb286) (o := .cells #[.slice A0_0 l0_0.length c0_0] 29 (0, 0)) (by (with_reducible repeat (first | refine zg0 ?_ _ | refine zi0 ?_ | refine zf0 ?_ _)); exact BK286.out) hb); have n1_ := za0.mk (zh0 (by repeat (first | (with_reducible first | exact HB.out | apply zc0 | apply zb0 | apply zd0 | refine ze0 ?_ GE286.out) | exact HB.out)) hb); clear BK286; clear HB; have BK286 := n0_; have HB := n1_; clear n0_ n1_; (try clear hb); (try clear hb2); (try clear hk); (try clear hi)))
      go_roundg k1
      case measure => have := HK1.out; omega
      case rel => exact ⟨(t287), (wrap64 (x9_1 + 1)), (by first | rfl | (simp; done) | (simp [*]; done)), (by first | rfl | (simp; done) | (simp [*]; done)), H', ⟨by have := HK1.out; omega⟩, ⟨by (with_reducible repeat (first | refine zg0 ?_ _ | refine zi0 ?_ | refine zf0 ?_ _)); exact BK286.out⟩, ⟨by repeat (first | (with_reducible first | exact HB.out | apply zc0 | apply zb0 | apply zd0 | refine ze0 ?_ GE286.out) | exact HB.out)⟩⟩
   ·rw [if_neg c6] at H
    have c6b0 : decide (x9_1 < (l0_0.length : Int)) = false := decide_eq_false c6
    clear c6
    obtain rfl := Option.some.inj H
    have hcz15_0 : wr.cell? ⟨gb286, 0, none⟩ = some (.slice A0_0 l0_0.length c0_0) := (zl0 BK286.out 0).trans rfl
    have hfz15_0 := zk0 BK286.out 0
    go_wp2
    go_ret
    exact ⟨by first | rfl | (simp [errW_none, errW_some] <;> rfl) | (simp [*, errW_none, errW_some] <;> rfl), by repeat (first | (with_reducible first | exact HB.out | apply zc0 | apply zb0 | apply zd0 | refine ze0 ?_ GE286.out) | exact HB.out)⟩
def spec_trIs.l0 : Nat → Int → List Int → Int → Int → List (List Int) → Option (Bool)
 | 0, _, _, _, _, _ => none
 | k + 1, x1, x2, x10, x11, x289000 => if x11 < x10 then ((spec_trFar.f k x289000 x1 x2 x11).bind fun t289 => (if t289 < 0 then (some false) else (spec_trIs.l0 k x1 x2 x10 (wrap64 (x11 + 1)) x289000))) else (some true)
def spec_trIs.f (k : Nat) (l0_0 : List (List Int)) (a1 : Int) (l2 : List Int) : Option (Bool) := spec_trIs.l0 k a1 l2 (l0_0.length : Int) 0 l0_0
set_option maxHeartbeats 8000000 in
set_option maxRecDepth 100000 in
theorem spec_trIs.calls (k : Nat) (A0_0 : Option Addr) (c0_0 : Nat) (l0_0 : List (List Int)) (a1 : Int) (A2 : Option Addr) (c2 : Nat) (l2 : List Int) (r : Bool) (w : World) (hr0_0 : Kd.C (Kd.slice 3 (Kd.int .i64)) w A0_0 l0_0.length l0_0) (hc0_0 : l0_0.length ≤ c0_0) (hr2 : Kd.C (Kd.int .i64) w A2 l2.length l2) (hc2 : l2.length ≤ c2) (h : spec_trIs.f k l0_0 a1 l2 = some r) :
  Calls Try.prog 43 #[.agg #[.slice A0_0 l0_0.length c0_0], .int .i64 a1, .slice A2 l2.length c2] w fun e w' => e = .returned (.bool r) ∧ Below w.heap.size w w' := by
 have hu29 := Try.underlying29
 have HR0_0 := za0.mk hr0_0
 have HC0_0 := za0.mk hc0_0
 clear hr0_0 hc0_0
 have HR2 := za0.mk hr2
 have HC2 := za0.mk hc2
 clear hr2 hc2
 have HB := za0.mk (Below.refl w.heap.size w)
 have H : (spec_trIs.l0 k a1 l2 (l0_0.length : Int) 0 l0_0) = some r := h
 clear h
 have H' := za0.mk H
 clear H
 go_enter Try.func43, Try.ntmps43
 go_wp2_with (first | ((with_reducible refine zo0 (N := 3) rfl ?_); refine zp0 ?hg (N := 3) ?hd (cs := #[.slice A0_0 l0_0.length c0_0]) (t := 29) ?hr ?_; (case hd => rfl); (case hg => rfl); (case hr => first | (go_simp; done) | (go_simp; rfl)); intro gb288 hg w4 hbox hb; have n0_ := za0.mk (zh0 (by repeat (first | (with_reducible first | exact HB.out | apply zc0 | apply zb0 | apply zd0) | exact HB.out)) hb); have n1_ := za0.mk (hbox); have n2_ := za0.mk ((by rw [hg]; exact (zj0 (by repeat (first | (with_reducible first | exact HB.out | apply zc0 | apply zb0 | apply zd0) | exact HB.out))) : w.heap.size ≤ gb288)); have n3_ := za0.mk ((by rw [hg]; exact (zj0 (by repeat (first | (with_reducible first | exact HB.out | apply zc0 | apply zb0 | apply zd0) | exact HB.out))) : w.heap.size ≤ gb288)); clear HB; have HB := n0_; have BK288 := n1_; have GW288 := n2_; have GE288 := n3_; clear n0_ n1_ n2_ n3_; clear hb hbox hg; have hcz5_0 : w4.cell? ⟨gb288, 0, none⟩ = some (.slice A0_0 l0_0.length c0_0) := (zl0 BK288.out 0).trans rfl; have hfz5_0 := zk0 BK288.out 0))
 go_loopg [11] k (fun kq v11 w' => ∃ (x11_1 : Int), v11 = .int .i64 x11_1 ∧ za0 (spec_trIs.l0 kq a1 l2 (l0_0.length : Int) x11_1 l0_0 = some r) ∧ za0 (kq ≤ k) ∧ za0 (w'.heap[gb288]? = some (.cells #[(.slice A0_0 l0_0.length c0_0)] 29 (0, 0))) ∧ za0 (Below w.heap.size w w'))
 case atStart => exact ⟨(0), (by first | rfl | (simp; done) | (simp [*]; done)), H', ⟨Nat.le_refl _⟩, ⟨by (with_reducible repeat (first | refine zg0 ?_ _ | refine zi0 ?_ | refine zf0 ?_ _)); exact BK288.out⟩, ⟨by repeat (first | (with_reducible first | exact HB.out | apply zc0 | apply zb0 | apply zd0 | refine ze0 ?_ GE288.out) | exact HB.out)⟩⟩
 case round =>
  clear H'
  try clear c2
  try clear p2
  try clear c4
  try clear hcz5_0
  try clear hfz5_0
  obtain ⟨x11_1, rfl, HA, HK1, BK288, HB⟩ := hrel
  cases gk with
  | zero => exact absurd HA.out (by simp [spec_trIs.l0])
  | succ k1 =>
   have H := HA.out
   clear HA
   simp only [spec_trIs.l0] at H
   by_cases c6 : x11_1 < (l0_0.length : Int)
   ·rw [if_pos c6] at H
    have c6b0 : decide (x11_1 < (l0_0.length : Int)) = true := decide_eq_true c6
    clear c6
    replace H := Option.bind_eq_some_iff.mp H
    obtain ⟨t289, A70, H⟩ := H
    replace H : (if t289 < 0 then (some false) else (spec_trIs.l0 k1 a1 l2 (l0_0.length : Int) (wrap64 (x11_1 + 1)) l0_0)) = some r := H
    have A7 := za0.mk A70
    clear A70
    by_cases c8 : t289 < 0
    ·rw [if_pos c8] at H
     have c8b0 : decide (t289 < 0) = true := decide_eq_true c8
     clear c8
     obtain rfl := Option.some.inj H
     have hcz9_0 : wr.cell? ⟨gb288, 0, none⟩ = some (.slice A0_0 l0_0.length c0_0) := (zl0 BK288.out 0).trans rfl
     have hfz9_0 := zk0 BK288.out 0
     go_wp2_with (first | ((with_reducible refine zn0 (f := 66) rfl ?_); refine goesL_ (some 18) rfl rfl Try.func66 (by kernel_rfl) rfl #[.agg #[.slice A0_0 l0_0.length c0_0], .int .i64 a1, .slice A2 l2.length c2, .int .i64 x11_1] rfl (by (try simp only [List.map_toArray, List.map_cons, List.map_nil]); first | done | rfl | (simp only [List.length_drop, List.length_take]; rfl)) ?_; (with_reducible refine (spec_trFar.calls k1 _ _ l0_0 a1 _ _ l2 x11_1 t289 _ ?side1 ?side2 ?side3 ?side4 A7.out).mono ?_); (case side1 => repeat (first | exact (Kd.C_below HR0_0.out HB.out) | (with_reducible refine Kd.C_alloc ?_ _) | (with_reducible refine Kd.C_drewN ?_ _) | (with_reducible refine Kd.C_drew ?_))); (case side2 => exact HC0_0.out); (case side3 => repeat (first | exact (Kd.C_below HR2.out HB.out) | (with_reducible refine Kd.C_alloc ?_ _) | (with_reducible refine Kd.C_drewN ?_ _) | (with_reducible refine Kd.C_drew ?_))); (case side4 => exact HC2.out); rintro e w10 ⟨rfl, hb⟩; refine ⟨_, rfl, ?_⟩; have n0_ := za0.mk (zm0 (g := gb288) (o := .cells #[.slice A0_0 l0_0.length c0_0] 29 (0, 0)) (by (with_reducible repeat (first | refine zg0 ?_ _ | refine zi0 ?_ | refine zf0 ?_ _)); exact BK288.out) hb); have n1_ := za0.mk (zh0 (by repeat (first | (with_reducible first | exact HB.out | apply zc0 | apply zb0 | apply zd0 | refine ze0 ?_ GE288.out) | exact HB.out)) hb); clear BK288; clear HB; have BK288 := n0_; have HB := n1_; clear n0_ n1_; (try clear hb); (try clear hb2); (try clear hk); (try clear hi)))
     go_ret
     exact ⟨by first | rfl | (simp [errW_none, errW_some] <;> rfl) | (simp [*, errW_none, errW_some] <;> rfl), by repeat (first | (with_reducible first | exact HB.out | apply zc0 | apply zb0 | apply zd0 | refine ze0 ?_ GE288.out) | exact HB.out)⟩
    ·rw [if_neg c8] at H
     have c8b0 : decide (t289 < 0) = false := decide_eq_false c8
     clear c8
     have H' := za0.mk H
     clear H
     have hcz11_0 : wr.cell? ⟨gb288, 0, none⟩ = some (.slice A0_0 l0_0.length c0_0) := (zl0 BK288.out 0).trans rfl
     have hfz11_0 := zk0 BK288.out 0
     go_wp2_with (first | ((with_reducible refine zn0 (f := 66) rfl ?_); refine goesL_ (some 18) rfl rfl Try.func66 (by kernel_rfl) rfl #[.agg #[.slice A0_0 l0_0.length c0_0], .int .i64 a1, .slice A2 l2.length c2, .int .i64 x11_1] rfl (by (try simp only [List.map_toArray, List.map_cons, List.map_nil]); first | done | rfl | (simp only [List.length_drop, List.length_take]; rfl)) ?_; (with_reducible refine (spec_trFar.calls k1 _ _ l0_0 a1 _ _ l2 x11_1 t289 _ ?side1 ?side2 ?side3 ?side4 A7.out).mono ?_); (case side1 => repeat (first | exact (Kd.C_below HR0_0.out HB.out) | (with_reducible refine Kd.C_alloc ?_ _) | (with_reducible refine Kd.C_drewN ?_ _) | (with_reducible refine Kd.C_drew ?_))); (case side2 => exact HC0_0.out); (case side3 => repeat (first | exact (Kd.C_below HR2.out HB.out) | (with_reducible refine Kd.C_alloc ?_ _) | (with_reducible refine Kd.C_drewN ?_ _) | (with_reducible refine Kd.C_drew ?_))); (case side4 => exact HC2.out); rintro e w12 ⟨rfl, hb⟩; refine ⟨_, rfl, ?_⟩; have n0_ := za0.mk (zm0 (g := gb288) (o := .cells #[.slice A0_0 l0_0.length c0_0] 29 (0, 0)) (by (with_reducible repeat (first | refine zg0 ?_ _ | refine zi0 ?_ | refine zf0 ?_ _)); exact BK288.out) hb); have n1_ := za0.mk (zh0 (by repeat (first | (with_reducible first | exact HB.out | apply zc0 | apply zb0 | apply zd0 | refine ze0 ?_ GE288.out) | exact HB.out)) hb); clear BK288; clear HB; have BK288 := n0_; have HB := n1_; clear n0_ n1_; (try clear hb); (try clear hb2); (try clear hk); (try clear hi)))
     go_roundg k1
     case measure => have := HK1.out; omega
     case rel => exact ⟨(wrap64 (x11_1 + 1)), (by first | rfl | (simp; done) | (simp [*]; done)), H', ⟨by have := HK1.out; omega⟩, ⟨by (with_reducible repeat (first | refine zg0 ?_ _ | refine zi0 ?_ | refine zf0 ?_ _)); exact BK288.out⟩, ⟨by repeat (first | (with_reducible first | exact HB.out | apply zc0 | apply zb0 | apply zd0 | refine ze0 ?_ GE288.out) | exact HB.out)⟩⟩
   ·rw [if_neg c6] at H
    have c6b0 : decide (x11_1 < (l0_0.length : Int)) = false := decide_eq_false c6
    clear c6
    obtain rfl := Option.some.inj H
    go_wp2
    go_ret
    exact ⟨by first | rfl | (simp [errW_none, errW_some] <;> rfl) | (simp [*, errW_none, errW_some] <;> rfl), by repeat (first | (with_reducible first | exact HB.out | apply zc0 | apply zb0 | apply zd0 | refine ze0 ?_ GE288.out) | exact HB.out)⟩
def spec_acGood.f (k : Nat) (l0_0 : List (List Int)) (a1 : Int) (l2 : List Int) : Option (Bool) := (spec_acAll.f k l0_0 a1).bind fun bt291 => (if bt291.2 = true then ((spec_trGood.f k l0_0 a1 l2).bind fun t295 => (if t295 = true then ((spec_trIs.f k l0_0 a1 l2).bind fun t296 => (some t296)) else (some false))) else (some false))
set_option maxHeartbeats 8000000 in
set_option maxRecDepth 100000 in
theorem spec_acGood.calls (k : Nat) (A0_0 : Option Addr) (c0_0 : Nat) (l0_0 : List (List Int)) (a1 : Int) (A2 : Option Addr) (c2 : Nat) (l2 : List Int) (r : Bool) (w : World) (hr0_0 : Kd.C (Kd.slice 3 (Kd.int .i64)) w A0_0 l0_0.length l0_0) (hc0_0 : l0_0.length ≤ c0_0) (hr2 : Kd.C (Kd.int .i64) w A2 l2.length l2) (hc2 : l2.length ≤ c2) (h : spec_acGood.f k l0_0 a1 l2 = some r) :
  Calls Try.prog 27 #[.agg #[.slice A0_0 l0_0.length c0_0], .int .i64 a1, .slice A2 l2.length c2] w fun e w' => e = .returned (.bool r) ∧ Below w.heap.size w w' := by
 have hu29 := Try.underlying29
 have HR0_0 := za0.mk hr0_0
 have HC0_0 := za0.mk hc0_0
 clear hr0_0 hc0_0
 have HR2 := za0.mk hr2
 have HC2 := za0.mk hc2
 clear hr2 hc2
 have HB := za0.mk (Below.refl w.heap.size w)
 have H : ((spec_acAll.f k l0_0 a1).bind fun bt291 => (if bt291.2 = true then ((spec_trGood.f k l0_0 a1 l2).bind fun t295 => (if t295 = true then ((spec_trIs.f k l0_0 a1 l2).bind fun t296 => (some t296)) else (some false))) else (some false))) = some r := h
 clear h
 replace H := Option.bind_eq_some_iff.mp H
 obtain ⟨⟨t291, t294⟩, A40, H⟩ := H
 replace H : (if t294 = true then ((spec_trGood.f k l0_0 a1 l2).bind fun t295 => (if t295 = true then ((spec_trIs.f k l0_0 a1 l2).bind fun t296 => (some t296)) else (some false))) else (some false)) = some r := H
 have A4 := za0.mk A40
 clear A40
 by_cases c5 : t294 = true
 ·subst c5
  have H1 : ((spec_trGood.f k l0_0 a1 l2).bind fun t295 => (if t295 = true then ((spec_trIs.f k l0_0 a1 l2).bind fun t296 => (some t296)) else (some false))) = some r := by rw [if_pos rfl] at H; exact H
  clear H
  have H := H1
  clear H1
  replace H := Option.bind_eq_some_iff.mp H
  obtain ⟨t295, A60, H⟩ := H
  replace H : (if t295 = true then ((spec_trIs.f k l0_0 a1 l2).bind fun t296 => (some t296)) else (some false)) = some r := H
  have A6 := za0.mk A60
  clear A60
  by_cases c7 : t295 = true
  ·subst c7
   have H1 : ((spec_trIs.f k l0_0 a1 l2).bind fun t296 => (some t296)) = some r := by rw [if_pos rfl] at H; exact H
   clear H
   have H := H1
   clear H1
   replace H := Option.bind_eq_some_iff.mp H
   obtain ⟨t296, A80, H⟩ := H
   replace H : (some t296) = some r := H
   have A8 := za0.mk A80
   clear A80
   obtain rfl := Option.some.inj H
   go_enter Try.func27, Try.ntmps27
   go_wp2_with (first | ((with_reducible refine zo0 (N := 3) rfl ?_); refine zp0 ?hg (N := 3) ?hd (cs := #[.slice A0_0 l0_0.length c0_0]) (t := 29) ?hr ?_; (case hd => rfl); (case hg => rfl); (case hr => first | (go_simp; done) | (go_simp; rfl)); intro gb290 hg w9 hbox hb; have n0_ := za0.mk (zh0 (by repeat (first | (with_reducible first | exact HB.out | apply zc0 | apply zb0 | apply zd0) | exact HB.out)) hb); have n1_ := za0.mk (hbox); have n2_ := za0.mk ((by rw [hg]; exact (zj0 (by repeat (first | (with_reducible first | exact HB.out | apply zc0 | apply zb0 | apply zd0) | exact HB.out))) : w.heap.size ≤ gb290)); have n3_ := za0.mk ((by rw [hg]; exact (zj0 (by repeat (first | (with_reducible first | exact HB.out | apply zc0 | apply zb0 | apply zd0) | exact HB.out))) : w.heap.size ≤ gb290)); clear HB; have HB := n0_; have BK290 := n1_; have GW290 := n2_; have GE290 := n3_; clear n0_ n1_ n2_ n3_; clear hb hbox hg; have hcz10_0 : w9.cell? ⟨gb290, 0, none⟩ = some (.slice A0_0 l0_0.length c0_0) := (zl0 BK290.out 0).trans rfl; have hfz10_0 := zk0 BK290.out 0) | ((with_reducible refine zn0 (f := 38) rfl ?_); refine goesL_ (some 12) rfl rfl Try.func38 (by kernel_rfl) rfl #[.agg #[.slice A0_0 l0_0.length c0_0], .int .i64 a1] rfl (by (try simp only [List.map_toArray, List.map_cons, List.map_nil]); first | done | rfl | (simp only [List.length_drop, List.length_take]; rfl)) ?_; (with_reducible refine (spec_acAll.calls k _ _ l0_0 a1 t291 true _ ?side1 ?side2 A4.out).mono ?_); (case side1 => repeat (first | exact (Kd.C_below HR0_0.out HB.out) | (with_reducible refine Kd.C_alloc ?_ _) | (with_reducible refine Kd.C_drewN ?_ _) | (with_reducible refine Kd.C_drew ?_))); (case side2 => exact HC0_0.out); rintro e w11 ⟨v292, rfl, ho0, hb⟩; refine ⟨_, rfl, ?_⟩; have n0_ := za0.mk (Kd.S_lower ho0 (zj0 (by repeat (first | (with_reducible first | exact HB.out | apply zc0 | apply zb0 | apply zd0 | refine ze0 ?_ GE290.out) | exact HB.out)))); have n1_ := za0.mk (zm0 (g := gb290) (o := .cells #[.slice A0_0 l0_0.length c0_0] 29 (0, 0)) (by (with_reducible repeat (first | refine zg0 ?_ _ | refine zi0 ?_ | refine zf0 ?_ _)); exact BK290.out) hb); have n2_ := za0.mk (zh0 (by repeat (first | (with_reducible first | exact HB.out | apply zc0 | apply zb0 | apply zd0 | refine ze0 ?_ GE290.out) | exact HB.out)) hb); clear BK290; clear HB; have HO293 := n0_; have BK290 := n1_; have HB := n2_; clear n0_ n1_ n2_; (try clear hb); (try clear hb2); (try clear hk); (try clear hi); (try clear ho0); have hcz12_0 : w11.cell? ⟨gb290, 0, none⟩ = some (.slice A0_0 l0_0.length c0_0) := (zl0 BK290.out 0).trans rfl; have hfz12_0 := zk0 BK290.out 0) | ((with_reducible refine zn0 (f := 42) rfl ?_); refine goesL_ (some 20) rfl rfl Try.func42 (by kernel_rfl) rfl #[.agg #[.slice A0_0 l0_0.length c0_0], .int .i64 a1, .slice A2 l2.length c2] rfl (by (try simp only [List.map_toArray, List.map_cons, List.map_nil]); first | done | rfl | (simp only [List.length_drop, List.length_take]; rfl)) ?_; (with_reducible refine (spec_trGood.calls k _ _ l0_0 a1 _ _ l2 true _ ?side1 ?side2 ?side3 ?side4 A6.out).mono ?_); (case side1 => repeat (first | exact (Kd.C_below HR0_0.out HB.out) | (with_reducible refine Kd.C_alloc ?_ _) | (with_reducible refine Kd.C_drewN ?_ _) | (with_reducible refine Kd.C_drew ?_))); (case side2 => exact HC0_0.out); (case side3 => repeat (first | exact (Kd.C_below HR2.out HB.out) | (with_reducible refine Kd.C_alloc ?_ _) | (with_reducible refine Kd.C_drewN ?_ _) | (with_reducible refine Kd.C_drew ?_))); (case side4 => exact HC2.out); rintro e w13 ⟨rfl, hb⟩; refine ⟨_, rfl, ?_⟩; have n0_ := za0.mk (Kd.S_below (by (with_reducible repeat (first | apply Kd.S_alloc | apply Kd.S_drewN | apply Kd.S_drew)); exact HO293.out) hb); have n1_ := za0.mk (zm0 (g := gb290) (o := .cells #[.slice A0_0 l0_0.length c0_0] 29 (0, 0)) (by (with_reducible repeat (first | refine zg0 ?_ _ | refine zi0 ?_ | refine zf0 ?_ _)); exact BK290.out) hb); have n2_ := za0.mk (zh0 (by repeat (first | (with_reducible first | exact HB.out | apply zc0 | apply zb0 | apply zd0 | refine ze0 ?_ GE290.out) | exact HB.out)) hb); clear HO293; clear BK290; clear HB; have HO293 := n0_; have BK290 := n1_; have HB := n2_; clear n0_ n1_ n2_; (try clear hb); (try clear hb2); (try clear hk); (try clear hi); have hcz14_0 : w13.cell? ⟨gb290, 0, none⟩ = some (.slice A0_0 l0_0.length c0_0) := (zl0 BK290.out 0).trans rfl; have hfz14_0 := zk0 BK290.out 0) | (go_at_call 43; (with_reducible refine (spec_trIs.calls k _ _ l0_0 a1 _ _ l2 t296 _ ?side1 ?side2 ?side3 ?side4 A8.out).mono ?_); (case side1 => repeat (first | exact (Kd.C_below HR0_0.out HB.out) | (with_reducible refine Kd.C_alloc ?_ _) | (with_reducible refine Kd.C_drewN ?_ _) | (with_reducible refine Kd.C_drew ?_))); (case side2 => exact HC0_0.out); (case side3 => repeat (first | exact (Kd.C_below HR2.out HB.out) | (with_reducible refine Kd.C_alloc ?_ _) | (with_reducible refine Kd.C_drewN ?_ _) | (with_reducible refine Kd.C_drew ?_))); (case side4 => exact HC2.out); rintro e w15 ⟨rfl, hb⟩; have n0_ := za0.mk (Kd.S_below (by (with_reducible repeat (first | apply Kd.S_alloc | apply Kd.S_drewN | apply Kd.S_drew)); exact HO293.out) hb); have n1_ := za0.mk (zm0 (g := gb290) (o := .cells #[.slice A0_0 l0_0.length c0_0] 29 (0, 0)) (by (with_reducible repeat (first | refine zg0 ?_ _ | refine zi0 ?_ | refine zf0 ?_ _)); exact BK290.out) hb); have n2_ := za0.mk (zh0 (by repeat (first | (with_reducible first | exact HB.out | apply zc0 | apply zb0 | apply zd0 | refine ze0 ?_ GE290.out) | exact HB.out)) hb); clear HO293; clear BK290; clear HB; have HO293 := n0_; have BK290 := n1_; have HB := n2_; clear n0_ n1_ n2_; (try clear hb); (try clear hb2); (try clear hk); (try clear hi)))
   go_ret
   exact ⟨by first | rfl | (simp [errW_none, errW_some] <;> rfl) | (simp [*, errW_none, errW_some] <;> rfl), by repeat (first | (with_reducible first | exact HB.out | apply zc0 | apply zb0 | apply zd0 | refine ze0 ?_ GE290.out) | exact HB.out)⟩
  ·replace c7 := Bool.eq_false_iff.mpr c7
   subst c7
   have H1 : (some false) = some r := by rw [if_neg (show ¬ (false = true) by decide)] at H; exact H
   clear H
   have H := H1
   clear H1
   obtain rfl := Option.some.inj H
   go_enter Try.func27, Try.ntmps27
   go_wp2_with (first | ((with_reducible refine zo0 (N := 3) rfl ?_); refine zp0 ?hg (N := 3) ?hd (cs := #[.slice A0_0 l0_0.length c0_0]) (t := 29) ?hr ?_; (case hd => rfl); (case hg => rfl); (case hr => first | (go_simp; done) | (go_simp; rfl)); intro gb290 hg w16 hbox hb; have n0_ := za0.mk (zh0 (by repeat (first | (with_reducible first | exact HB.out | apply zc0 | apply zb0 | apply zd0) | exact HB.out)) hb); have n1_ := za0.mk (hbox); have n2_ := za0.mk ((by rw [hg]; exact (zj0 (by repeat (first | (with_reducible first | exact HB.out | apply zc0 | apply zb0 | apply zd0) | exact HB.out))) : w.heap.size ≤ gb290)); have n3_ := za0.mk ((by rw [hg]; exact (zj0 (by repeat (first | (with_reducible first | exact HB.out | apply zc0 | apply zb0 | apply zd0) | exact HB.out))) : w.heap.size ≤ gb290)); clear HB; have HB := n0_; have BK290 := n1_; have GW290 := n2_; have GE290 := n3_; clear n0_ n1_ n2_ n3_; clear hb hbox hg; have hcz17_0 : w16.cell? ⟨gb290, 0, none⟩ = some (.slice A0_0 l0_0.length c0_0) := (zl0 BK290.out 0).trans rfl; have hfz17_0 := zk0 BK290.out 0) | ((with_reducible refine zn0 (f := 38) rfl ?_); refine goesL_ (some 12) rfl rfl Try.func38 (by kernel_rfl) rfl #[.agg #[.slice A0_0 l0_0.length c0_0], .int .i64 a1] rfl (by (try simp only [List.map_toArray, List.map_cons, List.map_nil]); first | done | rfl | (simp only [List.length_drop, List.length_take]; rfl)) ?_; (with_reducible refine (spec_acAll.calls k _ _ l0_0 a1 t291 true _ ?side1 ?side2 A4.out).mono ?_); (case side1 => repeat (first | exact (Kd.C_below HR0_0.out HB.out) | (with_reducible refine Kd.C_alloc ?_ _) | (with_reducible refine Kd.C_drewN ?_ _) | (with_reducible refine Kd.C_drew ?_))); (case side2 => exact HC0_0.out); rintro e w18 ⟨v292, rfl, ho0, hb⟩; refine ⟨_, rfl, ?_⟩; have n0_ := za0.mk (Kd.S_lower ho0 (zj0 (by repeat (first | (with_reducible first | exact HB.out | apply zc0 | apply zb0 | apply zd0 | refine ze0 ?_ GE290.out) | exact HB.out)))); have n1_ := za0.mk (zm0 (g := gb290) (o := .cells #[.slice A0_0 l0_0.length c0_0] 29 (0, 0)) (by (with_reducible repeat (first | refine zg0 ?_ _ | refine zi0 ?_ | refine zf0 ?_ _)); exact BK290.out) hb); have n2_ := za0.mk (zh0 (by repeat (first | (with_reducible first | exact HB.out | apply zc0 | apply zb0 | apply zd0 | refine ze0 ?_ GE290.out) | exact HB.out)) hb); clear BK290; clear HB; have HO293 := n0_; have BK290 := n1_; have HB := n2_; clear n0_ n1_ n2_; (try clear hb); (try clear hb2); (try clear hk); (try clear hi); (try clear ho0); have hcz19_0 : w18.cell? ⟨gb290, 0, none⟩ = some (.slice A0_0 l0_0.length c0_0) := (zl0 BK290.out 0).trans rfl; have hfz19_0 := zk0 BK290.out 0) | ((with_reducible refine zn0 (f := 42) rfl ?_); refine goesL_ (some 20) rfl rfl Try.func42 (by kernel_rfl) rfl #[.agg #[.slice A0_0 l0_0.length c0_0], .int .i64 a1, .slice A2 l2.length c2] rfl (by (try simp only [List.map_toArray, List.map_cons, List.map_nil]); first | done | rfl | (simp only [List.length_drop, List.length_take]; rfl)) ?_; (with_reducible refine (spec_trGood.calls k _ _ l0_0 a1 _ _ l2 false _ ?side1 ?side2 ?side3 ?side4 A6.out).mono ?_); (case side1 => repeat (first | exact (Kd.C_below HR0_0.out HB.out) | (with_reducible refine Kd.C_alloc ?_ _) | (with_reducible refine Kd.C_drewN ?_ _) | (with_reducible refine Kd.C_drew ?_))); (case side2 => exact HC0_0.out); (case side3 => repeat (first | exact (Kd.C_below HR2.out HB.out) | (with_reducible refine Kd.C_alloc ?_ _) | (with_reducible refine Kd.C_drewN ?_ _) | (with_reducible refine Kd.C_drew ?_))); (case side4 => exact HC2.out); rintro e w20 ⟨rfl, hb⟩; refine ⟨_, rfl, ?_⟩; have n0_ := za0.mk (Kd.S_below (by (with_reducible repeat (first | apply Kd.S_alloc | apply Kd.S_drewN | apply Kd.S_drew)); exact HO293.out) hb); have n1_ := za0.mk (zm0 (g := gb290) (o := .cells #[.slice A0_0 l0_0.length c0_0] 29 (0, 0)) (by (with_reducible repeat (first | refine zg0 ?_ _ | refine zi0 ?_ | refine zf0 ?_ _)); exact BK290.out) hb); have n2_ := za0.mk (zh0 (by repeat (first | (with_reducible first | exact HB.out | apply zc0 | apply zb0 | apply zd0 | refine ze0 ?_ GE290.out) | exact HB.out)) hb); clear HO293; clear BK290; clear HB; have HO293 := n0_; have BK290 := n1_; have HB := n2_; clear n0_ n1_ n2_; (try clear hb); (try clear hb2); (try clear hk); (try clear hi)))
   go_ret
   exact ⟨by first | rfl | (simp [errW_none, errW_some] <;> rfl) | (simp [*, errW_none, errW_some] <;> rfl), by repeat (first | (with_reducible first | exact HB.out | apply zc0 | apply zb0 | apply zd0 | refine ze0 ?_ GE290.out) | exact HB.out)⟩
 ·replace c5 := Bool.eq_false_iff.mpr c5
  subst c5
  have H1 : (some false) = some r := by rw [if_neg (show ¬ (false = true) by decide)] at H; exact H
  clear H
  have H := H1
  clear H1
  obtain rfl := Option.some.inj H
  go_enter Try.func27, Try.ntmps27
  go_wp2_with (first | ((with_reducible refine zo0 (N := 3) rfl ?_); refine zp0 ?hg (N := 3) ?hd (cs := #[.slice A0_0 l0_0.length c0_0]) (t := 29) ?hr ?_; (case hd => rfl); (case hg => rfl); (case hr => first | (go_simp; done) | (go_simp; rfl)); intro gb290 hg w21 hbox hb; have n0_ := za0.mk (zh0 (by repeat (first | (with_reducible first | exact HB.out | apply zc0 | apply zb0 | apply zd0) | exact HB.out)) hb); have n1_ := za0.mk (hbox); have n2_ := za0.mk ((by rw [hg]; exact (zj0 (by repeat (first | (with_reducible first | exact HB.out | apply zc0 | apply zb0 | apply zd0) | exact HB.out))) : w.heap.size ≤ gb290)); have n3_ := za0.mk ((by rw [hg]; exact (zj0 (by repeat (first | (with_reducible first | exact HB.out | apply zc0 | apply zb0 | apply zd0) | exact HB.out))) : w.heap.size ≤ gb290)); clear HB; have HB := n0_; have BK290 := n1_; have GW290 := n2_; have GE290 := n3_; clear n0_ n1_ n2_ n3_; clear hb hbox hg; have hcz22_0 : w21.cell? ⟨gb290, 0, none⟩ = some (.slice A0_0 l0_0.length c0_0) := (zl0 BK290.out 0).trans rfl; have hfz22_0 := zk0 BK290.out 0) | ((with_reducible refine zn0 (f := 38) rfl ?_); refine goesL_ (some 12) rfl rfl Try.func38 (by kernel_rfl) rfl #[.agg #[.slice A0_0 l0_0.length c0_0], .int .i64 a1] rfl (by (try simp only [List.map_toArray, List.map_cons, List.map_nil]); first | done | rfl | (simp only [List.length_drop, List.length_take]; rfl)) ?_; (with_reducible refine (spec_acAll.calls k _ _ l0_0 a1 t291 false _ ?side1 ?side2 A4.out).mono ?_); (case side1 => repeat (first | exact (Kd.C_below HR0_0.out HB.out) | (with_reducible refine Kd.C_alloc ?_ _) | (with_reducible refine Kd.C_drewN ?_ _) | (with_reducible refine Kd.C_drew ?_))); (case side2 => exact HC0_0.out); rintro e w23 ⟨v292, rfl, ho0, hb⟩; refine ⟨_, rfl, ?_⟩; have n0_ := za0.mk (Kd.S_lower ho0 (zj0 (by repeat (first | (with_reducible first | exact HB.out | apply zc0 | apply zb0 | apply zd0 | refine ze0 ?_ GE290.out) | exact HB.out)))); have n1_ := za0.mk (zm0 (g := gb290) (o := .cells #[.slice A0_0 l0_0.length c0_0] 29 (0, 0)) (by (with_reducible repeat (first | refine zg0 ?_ _ | refine zi0 ?_ | refine zf0 ?_ _)); exact BK290.out) hb); have n2_ := za0.mk (zh0 (by repeat (first | (with_reducible first | exact HB.out | apply zc0 | apply zb0 | apply zd0 | refine ze0 ?_ GE290.out) | exact HB.out)) hb); clear BK290; clear HB; have HO293 := n0_; have BK290 := n1_; have HB := n2_; clear n0_ n1_ n2_; (try clear hb); (try clear hb2); (try clear hk); (try clear hi); (try clear ho0)))
  go_ret
  exact ⟨by first | rfl | (simp [errW_none, errW_some] <;> rfl) | (simp [*, errW_none, errW_some] <;> rfl), by repeat (first | (with_reducible first | exact HB.out | apply zc0 | apply zb0 | apply zd0 | refine ze0 ?_ GE290.out) | exact HB.out)⟩
def spec_waStep.f (l0_0 : List (List Int)) (l1_0 : List Int) (a1_1 : Int) : Option (List Int × Int × Bool) := if 0 ≤ a1_1 then (if a1_1 < (l0_0.length : Int) then (if ((rd_L1 l0_0 a1_1).length : Int) = 0 then (some (l1_0, a1_1, false)) else ((spec_l1Own.f l1_0).bind fun t301 => (if a1_1 < (l1_0.length : Int) then (if a1_1 < (t301.length : Int) then (if 0 ≤ (Int.tmod (wrap64 ((rd l1_0 a1_1) + 1)) ((rd_L1 l0_0 a1_1).length : Int)) then (if (Int.tmod (wrap64 ((rd l1_0 a1_1) + 1)) ((rd_L1 l0_0 a1_1).length : Int)) < ((rd_L1 l0_0 a1_1).length : Int) then (some ((t301.set (a1_1 : Int).toNat (Int.tmod (wrap64 ((rd l1_0 a1_1) + 1)) ((rd_L1 l0_0 a1_1).length : Int))), rd (rd_L1 l0_0 a1_1) (Int.tmod (wrap64 ((rd l1_0 a1_1) + 1)) ((rd_L1 l0_0 a1_1).length : Int)), true)) else (none)) else (none)) else (none)) else (none)))) else (none)) else (none)
set_option maxHeartbeats 8000000 in
set_option maxRecDepth 100000 in
theorem spec_waStep.calls (A0_0 : Option Addr) (c0_0 : Nat) (l0_0 : List (List Int)) (P1_0_ : Nat → Prop) (u9000_ : Value) (l1_0 : List Int) (a1_1 : Int) (r1 : List Int) (r2 : Int) (r3 : Bool) (w0 w : World) (hB : Below w0.heap.size w0 w) (hr0_0 : ∀ W_, Kept w W_ (fun k_ => P1_0_ k_) → Kd.C (Kd.slice 3 (Kd.int .i64)) W_ A0_0 l0_0.length l0_0) (hc0_0 : l0_0.length ≤ c0_0) (ho1_0 : Kd.R (Kd.int .i64) 3 w w0.heap.size P1_0_ u9000_ l1_0) (h : spec_waStep.f l0_0 l1_0 a1_1 = some (r1, r2, r3)) :
  Calls Try.prog 47 #[.agg #[.slice A0_0 l0_0.length c0_0], .agg #[u9000_, .int .i64 a1_1]] w fun e w' => ∃ v0_ : Value, e = .returned (.tuple #[.agg #[v0_, .int .i64 r2], .bool r3]) ∧ Kd.R (Kd.int .i64) 3 w' w0.heap.size (fun k_ => (P1_0_ k_ ∨ w.heap.size ≤ k_)) v0_ r1 ∧ Below w0.heap.size w0 w' ∧ Kept w w' (fun k_ => P1_0_ k_) := by
 have hu29 := Try.underlying29
 have hu63 := Try.underlying63
 have HR0_0 := za0.mk hr0_0
 have HC0_0 := za0.mk hc0_0
 clear hr0_0 hc0_0
 have HO1_0 := za0.mk (show Kd.R (Kd.int .i64) 3 w w0.heap.size (fun k_ => (P1_0_ k_ ∨ w.heap.size ≤ k_)) u9000_ l1_0 from Kd.R_mono ho1_0 (fun k_ hk => (.inl hk)))
 have HK := za0.mk (Kept.refl w (fun k_ => P1_0_ k_))
 have HW0 := za0.mk hB.size
 have HB := za0.mk hB
 clear hB
 have H : (if 0 ≤ a1_1 then (if a1_1 < (l0_0.length : Int) then (if ((rd_L1 l0_0 a1_1).length : Int) = 0 then (some (l1_0, a1_1, false)) else ((spec_l1Own.f l1_0).bind fun t301 => (if a1_1 < (l1_0.length : Int) then (if a1_1 < (t301.length : Int) then (if 0 ≤ (Int.tmod (wrap64 ((rd l1_0 a1_1) + 1)) ((rd_L1 l0_0 a1_1).length : Int)) then (if (Int.tmod (wrap64 ((rd l1_0 a1_1) + 1)) ((rd_L1 l0_0 a1_1).length : Int)) < ((rd_L1 l0_0 a1_1).length : Int) then (some ((t301.set (a1_1 : Int).toNat (Int.tmod (wrap64 ((rd l1_0 a1_1) + 1)) ((rd_L1 l0_0 a1_1).length : Int))), rd (rd_L1 l0_0 a1_1) (Int.tmod (wrap64 ((rd l1_0 a1_1) + 1)) ((rd_L1 l0_0 a1_1).length : Int)), true)) else (none)) else (none)) else (none)) else (none)))) else (none)) else (none)) = some (r1, r2, r3) := h
 clear h
 by_cases c3 : 0 ≤ a1_1
 ·rw [if_pos c3] at H
  have c3b0 : decide (0 ≤ a1_1) = true := decide_eq_true c3
  clear c3
  by_cases c4 : a1_1 < (l0_0.length : Int)
  ·rw [if_pos c4] at H
   have c4b0 : decide (a1_1 < (l0_0.length : Int)) = true := decide_eq_true c4
   clear c4
   by_cases c5 : ((rd_L1 l0_0 a1_1).length : Int) = 0
   ·rw [if_pos c5] at H
    have c5b0 : (((rd_L1 l0_0 a1_1).length : Int) == 0) = true := beq_iff_eq.mpr c5
    have c5b1 : (((rd_L1 l0_0 a1_1).length : Int) != 0) = false := bne_eq_false_iff_eq.mpr c5
    clear c5
    simp only [Option.some.injEq, Prod.mk.injEq] at H
    obtain ⟨rfl, rfl, rfl⟩ := H
    go_enter Try.func47, Try.ntmps47
    go_wp2_with (first | ((with_reducible refine zo0 (N := 2) rfl ?_); refine zp0 ?hg (N := 2) ?hd (cs := #[.slice A0_0 l0_0.length c0_0]) (t := 29) ?hr ?_; (case hd => rfl); (case hg => rfl); (case hr => first | (go_simp; done) | (go_simp; rfl)); intro gb297 hg w6 hbox hb; have n0_ := za0.mk (Kd.R_below (by (with_reducible repeat (first | apply Kd.R_alloc | apply Kd.R_drewN | apply Kd.R_drew)); exact HO1_0.out) hb); have n1_ := za0.mk (Kept.below (S := (fun k_ => P1_0_ k_)) (by repeat (first | (with_reducible first | exact HK.out | apply Kept.alloc | apply Kept.drewN | apply Kept.drew) | exact HK.out)) hb); have n2_ := za0.mk (zh0 (by repeat (first | (with_reducible first | exact HB.out | apply zc0 | apply zb0 | apply zd0) | exact HB.out)) hb); have n3_ := za0.mk (hbox); have n4_ := za0.mk ((by rw [hg]; exact (by first | exact HK.out.1 | exact (show Kept w _ (fun k_ => P1_0_ k_) from by repeat (first | (with_reducible first | exact HK.out | apply Kept.alloc | apply Kept.drewN | apply Kept.drew) | exact HK.out)).1) : w.heap.size ≤ gb297)); have n5_ := za0.mk ((by rw [hg]; exact (zj0 (by repeat (first | (with_reducible first | exact HB.out | apply zc0 | apply zb0 | apply zd0) | exact HB.out))) : w0.heap.size ≤ gb297)); clear HO1_0; clear HK; clear HB; have HO1_0 := n0_; have HK := n1_; have HB := n2_; have BK297 := n3_; have GW297 := n4_; have GE297 := n5_; clear n0_ n1_ n2_ n3_ n4_ n5_; clear hb hbox hg; obtain ⟨Ao7, co7, eo7⟩ := Kd.R_slice HO1_0.out; subst eo7) | ((with_reducible refine zo0 (N := 3) rfl ?_); refine zp0 ?hg (N := 3) ?hd (cs := #[.slice Ao7 l1_0.length co7, .int .i64 a1_1]) (t := 63) ?hr ?_; (case hd => rfl); (case hg => rfl); (case hr => first | (go_simp; done) | (go_simp; rfl)); intro gb298 hg w8 hbox hb; have n0_ := za0.mk (Kd.R_below (by (with_reducible repeat (first | apply Kd.R_alloc | apply Kd.R_drewN | apply Kd.R_drew)); exact HO1_0.out) hb); have n1_ := za0.mk (zm0 (g := gb297) (o := .cells #[.slice A0_0 l0_0.length c0_0] 29 (0, 0)) (by (with_reducible repeat (first | refine zg0 ?_ _ | refine zi0 ?_ | refine zf0 ?_ _)); exact BK297.out) hb); have n2_ := za0.mk (Kept.below (S := (fun k_ => P1_0_ k_)) (by repeat (first | (with_reducible first | exact HK.out | apply Kept.alloc | apply Kept.drewN | apply Kept.drew | refine Kept.setCell ?_ (.inr GW297.out) _) | exact HK.out)) hb); have n3_ := za0.mk (zh0 (by repeat (first | (with_reducible first | exact HB.out | apply zc0 | apply zb0 | apply zd0 | refine ze0 ?_ GE297.out) | exact HB.out)) hb); have n4_ := za0.mk (hbox); have n5_ := za0.mk ((by rw [hg]; exact (by first | exact HK.out.1 | exact (show Kept w _ (fun k_ => P1_0_ k_) from by repeat (first | (with_reducible first | exact HK.out | apply Kept.alloc | apply Kept.drewN | apply Kept.drew | refine Kept.setCell ?_ (.inr GW297.out) _) | exact HK.out)).1) : w.heap.size ≤ gb298)); have n6_ := za0.mk ((by rw [hg]; exact (zj0 (by repeat (first | (with_reducible first | exact HB.out | apply zc0 | apply zb0 | apply zd0 | refine ze0 ?_ GE297.out) | exact HB.out))) : w0.heap.size ≤ gb298)); have n7_ := za0.mk ((by rw [hg]; exact Nat.ne_of_lt (blk_lt (g := gb297) (o := .cells #[.slice A0_0 l0_0.length c0_0] 29 (0, 0)) (by (with_reducible repeat (first | refine zg0 ?_ _ | refine zi0 ?_ | refine zf0 ?_ _)); exact BK297.out)) : gb297 ≠ gb298)); have n8_ := za0.mk ((by rw [hg]; exact Nat.ne_of_gt (blk_lt (g := gb297) (o := .cells #[.slice A0_0 l0_0.length c0_0] 29 (0, 0)) (by (with_reducible repeat (first | refine zg0 ?_ _ | refine zi0 ?_ | refine zf0 ?_ _)); exact BK297.out)) : gb298 ≠ gb297)); clear HO1_0; clear BK297; clear HK; clear HB; have HO1_0 := n0_; have BK297 := n1_; have HK := n2_; have HB := n3_; have BK298 := n4_; have GW298 := n5_; have GE298 := n6_; have NB297_298 := n7_; have NB298_297 := n8_; clear n0_ n1_ n2_ n3_ n4_ n5_ n6_ n7_ n8_; clear hb hbox hg) | ((with_reducible refine zo0 (N := 4) rfl ?_); refine zp0 ?hg (N := 4) ?hd (cs := #[.slice none 0 0, .int .i64 0]) (t := 63) ?hr ?_; (case hd => rfl); (case hg => rfl); (case hr => first | (go_simp; done) | (go_simp; rfl)); intro gb299 hg w9 hbox hb; have n0_ := za0.mk (Kd.R_below (by (with_reducible repeat (first | apply Kd.R_alloc | apply Kd.R_drewN | apply Kd.R_drew)); exact HO1_0.out) hb); have n1_ := za0.mk (zm0 (g := gb297) (o := .cells #[.slice A0_0 l0_0.length c0_0] 29 (0, 0)) (by (with_reducible repeat (first | refine zg0 ?_ _ | refine zi0 ?_ | refine zf0 ?_ _)); exact BK297.out) hb); have n2_ := za0.mk (zm0 (g := gb298) (o := .cells #[.slice Ao7 l1_0.length co7, .int .i64 a1_1] 63 (0, 0)) (by (with_reducible repeat (first | refine zg0 ?_ _ | refine zi0 ?_ | refine zf0 ?_ _)); exact BK298.out) hb); have n3_ := za0.mk (Kept.below (S := (fun k_ => P1_0_ k_)) (by repeat (first | (with_reducible first | exact HK.out | apply Kept.alloc | apply Kept.drewN | apply Kept.drew | refine Kept.setCell ?_ (.inr GW297.out) _ | refine Kept.setCell ?_ (.inr GW298.out) _) | exact HK.out)) hb); have n4_ := za0.mk (zh0 (by repeat (first | (with_reducible first | exact HB.out | apply zc0 | apply zb0 | apply zd0 | refine ze0 ?_ GE297.out | refine ze0 ?_ GE298.out) | exact HB.out)) hb); have n5_ := za0.mk (hbox); have n6_ := za0.mk ((by rw [hg]; exact (by first | exact HK.out.1 | exact (show Kept w _ (fun k_ => P1_0_ k_) from by repeat (first | (with_reducible first | exact HK.out | apply Kept.alloc | apply Kept.drewN | apply Kept.drew | refine Kept.setCell ?_ (.inr GW297.out) _ | refine Kept.setCell ?_ (.inr GW298.out) _) | exact HK.out)).1) : w.heap.size ≤ gb299)); have n7_ := za0.mk ((by rw [hg]; exact (zj0 (by repeat (first | (with_reducible first | exact HB.out | apply zc0 | apply zb0 | apply zd0 | refine ze0 ?_ GE297.out | refine ze0 ?_ GE298.out) | exact HB.out))) : w0.heap.size ≤ gb299)); have n8_ := za0.mk ((by rw [hg]; exact Nat.ne_of_lt (blk_lt (g := gb297) (o := .cells #[.slice A0_0 l0_0.length c0_0] 29 (0, 0)) (by (with_reducible repeat (first | refine zg0 ?_ _ | refine zi0 ?_ | refine zf0 ?_ _)); exact BK297.out)) : gb297 ≠ gb299)); have n9_ := za0.mk ((by rw [hg]; exact Nat.ne_of_gt (blk_lt (g := gb297) (o := .cells #[.slice A0_0 l0_0.length c0_0] 29 (0, 0)) (by (with_reducible repeat (first | refine zg0 ?_ _ | refine zi0 ?_ | refine zf0 ?_ _)); exact BK297.out)) : gb299 ≠ gb297)); have n10_ := za0.mk ((by rw [hg]; exact Nat.ne_of_lt (blk_lt (g := gb298) (o := .cells #[.slice Ao7 l1_0.length co7, .int .i64 a1_1] 63 (0, 0)) (by (with_reducible repeat (first | refine zg0 ?_ _ | refine zi0 ?_ | refine zf0 ?_ _)); exact BK298.out)) : gb298 ≠ gb299)); have n11_ := za0.mk ((by rw [hg]; exact Nat.ne_of_gt (blk_lt (g := gb298) (o := .cells #[.slice Ao7 l1_0.length co7, .int .i64 a1_1] 63 (0, 0)) (by (with_reducible repeat (first | refine zg0 ?_ _ | refine zi0 ?_ | refine zf0 ?_ _)); exact BK298.out)) : gb299 ≠ gb298)); clear HO1_0; clear BK297; clear BK298; clear HK; clear HB; have HO1_0 := n0_; have BK297 := n1_; have BK298 := n2_; have HK := n3_; have HB := n4_; have BK299 := n5_; have GW299 := n6_; have GE299 := n7_; have NB297_299 := n8_; have NB299_297 := n9_; have NB298_299 := n10_; have NB299_298 := n11_; clear n0_ n1_ n2_ n3_ n4_ n5_ n6_ n7_ n8_ n9_ n10_ n11_; clear hb hbox hg; have hnb10 := NB297_298.out; have hnc10 := NB298_297.out; have hnb11 := NB297_299.out; have hnc11 := NB299_297.out; have hcz12_0 : w9.cell? ⟨gb297, 0, none⟩ = some (.slice A0_0 l0_0.length c0_0) := (zl0 BK297.out 0).trans rfl; have hfz12_0 := zk0 BK297.out 0; have hnb13 := NB298_299.out; have hnc13 := NB299_298.out; have hcz14_0 : w9.cell? ⟨gb298, 0, none⟩ = some (.slice Ao7 l1_0.length co7) := (zl0 BK298.out 0).trans rfl; have hcz14_1 : w9.cell? ⟨gb298, 1, none⟩ = some (.int .i64 a1_1) := (zl0 BK298.out 1).trans rfl; have hfz14_0 := zk0 BK298.out 0; have hfz14_1 := zk0 BK298.out 1; have p300 : 0 ≤ (a1_1 : Int) := of_decide_eq_true (by first | (with_reducible assumption) | assumption); have q300 : a1_1 < (l0_0.length : Int) := of_decide_eq_true (by first | (with_reducible assumption) | assumption); obtain ⟨ad300, A300_0, c300_0, e300, hx300_0, hl300_0, hi300_0⟩ := kept_L1 HR0_0.out HK.out a1_1 p300 q300; cases e300; have HR300_0 := za0.mk hi300_0; have HC300_0 := za0.mk hl300_0; clear hi300_0 hl300_0; replace p300 := eq_true p300; replace q300 := eq_true q300; have hcz15_0 : w9.cell? ⟨gb299, 0, none⟩ = some (.slice none 0 0) := (zl0 BK299.out 0).trans rfl; have hcz15_1 : w9.cell? ⟨gb299, 1, none⟩ = some (.int .i64 0) := (zl0 BK299.out 1).trans rfl; have hfz15_0 := zk0 BK299.out 0; have hfz15_1 := zk0 BK299.out 1))
    refine bodyPost_ret (results_ct rfl _ _ gb299 63 #[.slice Ao7 l1_0.length co7, .int .i64 a1_1] (0, 0) _ rfl (by (with_reducible repeat (first | refine zg0 ?_ _ | refine zi0 ?_ | refine zf0 ?_ _)); refine blk_put (cs := #[.slice Ao7 l1_0.length co7, .int .i64 0]) ?_ 1 _ rfl; (with_reducible repeat (first | refine zg0 ?_ _ | refine zi0 ?_ | refine zf0 ?_ _)); refine blk_put (cs := #[.slice none 0 0, .int .i64 0]) ?_ 0 _ rfl; (with_reducible repeat (first | refine zg0 ?_ _ | refine zi0 ?_ | refine zf0 ?_ _)); exact BK299.out) Try.underlying63 rfl (by kernel_rfl)) rfl ?_
    exact ⟨_, by first | rfl | (simp [errW_none, errW_some] <;> rfl) | (simp [*, errW_none, errW_some] <;> rfl), by (with_reducible repeat (first | apply Kd.R_alloc | apply Kd.R_drewN | apply Kd.R_drew)); exact Kd.R_mono (Kd.R_far (p := ⟨gb299, 1, none⟩) (Kd.R_far (p := ⟨gb299, 0, none⟩) (Kd.R_types HO1_0.out BK299.out (by decide)) (fun _ hk => hk.2) (.slice Ao7 l1_0.length co7)) (fun _ hk => hk.2) (.int .i64 a1_1)) (fun _ hk => hk.1), by repeat (first | (with_reducible first | exact HB.out | apply zc0 | apply zb0 | apply zd0 | refine ze0 ?_ GE297.out | refine ze0 ?_ GE298.out | refine ze0 ?_ GE299.out) | exact HB.out), by repeat (first | (with_reducible first | exact HK.out | apply Kept.alloc | apply Kept.drewN | apply Kept.drew | refine Kept.setCell ?_ (.inr GW297.out) _ | refine Kept.setCell ?_ (.inr GW298.out) _ | refine Kept.setCell ?_ (.inr GW299.out) _) | exact HK.out)⟩
   ·rw [if_neg c5] at H
    have c5b0 : (((rd_L1 l0_0 a1_1).length : Int) == 0) = false := beq_eq_false_iff_ne.mpr c5
    have c5b1 : (((rd_L1 l0_0 a1_1).length : Int) != 0) = true := bne_iff_ne.mpr c5
    have c5b2 : ¬ ((rd_L1 l0_0 a1_1) = []) := fun h_ => c5 (by rw [h_]; rfl)
    replace H := Option.bind_eq_some_iff.mp H
    obtain ⟨t301, A160, H⟩ := H
    replace H : (if a1_1 < (l1_0.length : Int) then (if a1_1 < (t301.length : Int) then (if 0 ≤ (Int.tmod (wrap64 ((rd l1_0 a1_1) + 1)) ((rd_L1 l0_0 a1_1).length : Int)) then (if (Int.tmod (wrap64 ((rd l1_0 a1_1) + 1)) ((rd_L1 l0_0 a1_1).length : Int)) < ((rd_L1 l0_0 a1_1).length : Int) then (some ((t301.set (a1_1 : Int).toNat (Int.tmod (wrap64 ((rd l1_0 a1_1) + 1)) ((rd_L1 l0_0 a1_1).length : Int))), rd (rd_L1 l0_0 a1_1) (Int.tmod (wrap64 ((rd l1_0 a1_1) + 1)) ((rd_L1 l0_0 a1_1).length : Int)), true)) else (none)) else (none)) else (none)) else (none)) = some (r1, r2, r3) := H
    have A16 := za0.mk A160
    clear A160
    by_cases c17 : a1_1 < (l1_0.length : Int)
    ·rw [if_pos c17] at H
     have c17b0 : decide (a1_1 < (l1_0.length : Int)) = true := decide_eq_true c17
     clear c17
     by_cases c18 : a1_1 < (t301.length : Int)
     ·rw [if_pos c18] at H
      have c18b0 : decide (a1_1 < (t301.length : Int)) = true := decide_eq_true c18
      clear c18
      obtain ⟨y306, hy306⟩ : ∃ y_ : List Int, y_ = (t301.set (a1_1 : Int).toNat (Int.tmod (wrap64 ((rd l1_0 a1_1) + 1)) ((rd_L1 l0_0 a1_1).length : Int))) := ⟨_, rfl⟩
      replace H : (if 0 ≤ (Int.tmod (wrap64 ((rd l1_0 a1_1) + 1)) ((rd_L1 l0_0 a1_1).length : Int)) then (if (Int.tmod (wrap64 ((rd l1_0 a1_1) + 1)) ((rd_L1 l0_0 a1_1).length : Int)) < ((rd_L1 l0_0 a1_1).length : Int) then (some (y306, rd (rd_L1 l0_0 a1_1) (Int.tmod (wrap64 ((rd l1_0 a1_1) + 1)) ((rd_L1 l0_0 a1_1).length : Int)), true)) else (none)) else (none)) = some (r1, r2, r3) := by first | (rw [hy306]; with_reducible exact H) | (have H2_ := (Option.bind_some _ _).symm.trans H; rw [hy306]; with_reducible exact H2_) | (have H2_ := (Option.bind_some _ _).symm.trans H; with_reducible exact H2_) | with_reducible exact H | (rw [hy306]; exact H) | exact H
      have Ny306 := za0.mk hy306
      clear hy306
      obtain ⟨ji20, hji20⟩ : ∃ j_ : Int, (Int.tmod (wrap64 ((rd l1_0 a1_1) + 1)) ((rd_L1 l0_0 a1_1).length : Int)) = j_ := ⟨_, rfl⟩
      replace H : (if 0 ≤ (ji20) then (if (ji20) < ((rd_L1 l0_0 a1_1).length : Int) then (some (y306, rd (rd_L1 l0_0 a1_1) (ji20), true)) else (none)) else (none)) = some (r1, r2, r3) := by first | (rw [hji20] at H; exact H) | (simp only [hji20] at H ⊢; exact H)
      (try rw [hji20] at A16)
      (try rw [hji20] at Ny306)
      by_cases c21 : 0 ≤ (ji20)
      ·rw [if_pos c21] at H
       have c21b0 : decide (0 ≤ (ji20)) = true := decide_eq_true c21
       clear c21
       by_cases c22 : (ji20) < ((rd_L1 l0_0 a1_1).length : Int)
       ·rw [if_pos c22] at H
        have c22b0 : decide ((ji20) < ((rd_L1 l0_0 a1_1).length : Int)) = true := decide_eq_true c22
        clear c22
        simp only [Option.some.injEq, Prod.mk.injEq] at H
        obtain ⟨rfl, rfl, rfl⟩ := H
        go_enter Try.func47, Try.ntmps47
        go_wp2_with (first | ((with_reducible refine zo0 (N := 2) rfl ?_); refine zp0 ?hg (N := 2) ?hd (cs := #[.slice A0_0 l0_0.length c0_0]) (t := 29) ?hr ?_; (case hd => rfl); (case hg => rfl); (case hr => first | (go_simp; done) | (go_simp; rfl)); intro gb297 hg w23 hbox hb; have n0_ := za0.mk (Kd.R_below (by (with_reducible repeat (first | apply Kd.R_alloc | apply Kd.R_drewN | apply Kd.R_drew)); exact HO1_0.out) hb); have n1_ := za0.mk (Kept.below (S := (fun k_ => P1_0_ k_)) (by repeat (first | (with_reducible first | exact HK.out | apply Kept.alloc | apply Kept.drewN | apply Kept.drew) | exact HK.out)) hb); have n2_ := za0.mk (zh0 (by repeat (first | (with_reducible first | exact HB.out | apply zc0 | apply zb0 | apply zd0) | exact HB.out)) hb); have n3_ := za0.mk (hbox); have n4_ := za0.mk ((by rw [hg]; exact (by first | exact HK.out.1 | exact (show Kept w _ (fun k_ => P1_0_ k_) from by repeat (first | (with_reducible first | exact HK.out | apply Kept.alloc | apply Kept.drewN | apply Kept.drew) | exact HK.out)).1) : w.heap.size ≤ gb297)); have n5_ := za0.mk ((by rw [hg]; exact (zj0 (by repeat (first | (with_reducible first | exact HB.out | apply zc0 | apply zb0 | apply zd0) | exact HB.out))) : w0.heap.size ≤ gb297)); clear HO1_0; clear HK; clear HB; have HO1_0 := n0_; have HK := n1_; have HB := n2_; have BK297 := n3_; have GW297 := n4_; have GE297 := n5_; clear n0_ n1_ n2_ n3_ n4_ n5_; clear hb hbox hg; obtain ⟨Ao24, co24, eo24⟩ := Kd.R_slice HO1_0.out; subst eo24) | ((with_reducible refine zo0 (N := 3) rfl ?_); refine zp0 ?hg (N := 3) ?hd (cs := #[.slice Ao24 l1_0.length co24, .int .i64 a1_1]) (t := 63) ?hr ?_; (case hd => rfl); (case hg => rfl); (case hr => first | (go_simp; done) | (go_simp; rfl)); intro gb298 hg w25 hbox hb; have n0_ := za0.mk (Kd.R_below (by (with_reducible repeat (first | apply Kd.R_alloc | apply Kd.R_drewN | apply Kd.R_drew)); exact HO1_0.out) hb); have n1_ := za0.mk (zm0 (g := gb297) (o := .cells #[.slice A0_0 l0_0.length c0_0] 29 (0, 0)) (by (with_reducible repeat (first | refine zg0 ?_ _ | refine zi0 ?_ | refine zf0 ?_ _)); exact BK297.out) hb); have n2_ := za0.mk (Kept.below (S := (fun k_ => P1_0_ k_)) (by repeat (first | (with_reducible first | exact HK.out | apply Kept.alloc | apply Kept.drewN | apply Kept.drew | refine Kept.setCell ?_ (.inr GW297.out) _) | exact HK.out)) hb); have n3_ := za0.mk (zh0 (by repeat (first | (with_reducible first | exact HB.out | apply zc0 | apply zb0 | apply zd0 | refine ze0 ?_ GE297.out) | exact HB.out)) hb); have n4_ := za0.mk (hbox); have n5_ := za0.mk ((by rw [hg]; exact (by first | exact HK.out.1 | exact (show Kept w _ (fun k_ => P1_0_ k_) from by repeat (first | (with_reducible first | exact HK.out | apply Kept.alloc | apply Kept.drewN | apply Kept.drew | refine Kept.setCell ?_ (.inr GW297.out) _) | exact HK.out)).1) : w.heap.size ≤ gb298)); have n6_ := za0.mk ((by rw [hg]; exact (zj0 (by repeat (first | (with_reducible first | exact HB.out | apply zc0 | apply zb0 | apply zd0 | refine ze0 ?_ GE297.out) | exact HB.out))) : w0.heap.size ≤ gb298)); have n7_ := za0.mk ((by rw [hg]; exact Nat.ne_of_lt (blk_lt (g := gb297) (o := .cells #[.slice A0_0 l0_0.length c0_0] 29 (0, 0)) (by (with_reducible repeat (first | refine zg0 ?_ _ | refine zi0 ?_ | refine zf0 ?_ _)); exact BK297.out)) : gb297 ≠ gb298)); have n8_ := za0.mk ((by rw [hg]; exact Nat.ne_of_gt (blk_lt (g := gb297) (o := .cells #[.slice A0_0 l0_0.length c0_0] 29 (0, 0)) (by (with_reducible repeat (first | refine zg0 ?_ _ | refine zi0 ?_ | refine zf0 ?_ _)); exact BK297.out)) : gb298 ≠ gb297)); clear HO1_0; clear BK297; clear HK; clear HB; have HO1_0 := n0_; have BK297 := n1_; have HK := n2_; have HB := n3_; have BK298 := n4_; have GW298 := n5_; have GE298 := n6_; have NB297_298 := n7_; have NB298_297 := n8_; clear n0_ n1_ n2_ n3_ n4_ n5_ n6_ n7_ n8_; clear hb hbox hg) | ((with_reducible refine zo0 (N := 4) rfl ?_); refine zp0 ?hg (N := 4) ?hd (cs := #[.slice none 0 0, .int .i64 0]) (t := 63) ?hr ?_; (case hd => rfl); (case hg => rfl); (case hr => first | (go_simp; done) | (go_simp; rfl)); intro gb299 hg w26 hbox hb; have n0_ := za0.mk (Kd.R_below (by (with_reducible repeat (first | apply Kd.R_alloc | apply Kd.R_drewN | apply Kd.R_drew)); exact HO1_0.out) hb); have n1_ := za0.mk (zm0 (g := gb297) (o := .cells #[.slice A0_0 l0_0.length c0_0] 29 (0, 0)) (by (with_reducible repeat (first | refine zg0 ?_ _ | refine zi0 ?_ | refine zf0 ?_ _)); exact BK297.out) hb); have n2_ := za0.mk (zm0 (g := gb298) (o := .cells #[.slice Ao24 l1_0.length co24, .int .i64 a1_1] 63 (0, 0)) (by (with_reducible repeat (first | refine zg0 ?_ _ | refine zi0 ?_ | refine zf0 ?_ _)); exact BK298.out) hb); have n3_ := za0.mk (Kept.below (S := (fun k_ => P1_0_ k_)) (by repeat (first | (with_reducible first | exact HK.out | apply Kept.alloc | apply Kept.drewN | apply Kept.drew | refine Kept.setCell ?_ (.inr GW297.out) _ | refine Kept.setCell ?_ (.inr GW298.out) _) | exact HK.out)) hb); have n4_ := za0.mk (zh0 (by repeat (first | (with_reducible first | exact HB.out | apply zc0 | apply zb0 | apply zd0 | refine ze0 ?_ GE297.out | refine ze0 ?_ GE298.out) | exact HB.out)) hb); have n5_ := za0.mk (hbox); have n6_ := za0.mk ((by rw [hg]; exact (by first | exact HK.out.1 | exact (show Kept w _ (fun k_ => P1_0_ k_) from by repeat (first | (with_reducible first | exact HK.out | apply Kept.alloc | apply Kept.drewN | apply Kept.drew | refine Kept.setCell ?_ (.inr GW297.out) _ | refine Kept.setCell ?_ (.inr GW298.out) _) | exact HK.out)).1) : w.heap.size ≤ gb299)); have n7_ := za0.mk ((by rw [hg]; exact (zj0 (by repeat (first | (with_reducible first | exact HB.out | apply zc0 | apply zb0 | apply zd0 | refine ze0 ?_ GE297.out | refine ze0 ?_ GE298.out) | exact HB.out))) : w0.heap.size ≤ gb299)); have n8_ := za0.mk ((by rw [hg]; exact Nat.ne_of_lt (blk_lt (g := gb297) (o := .cells #[.slice A0_0 l0_0.length c0_0] 29 (0, 0)) (by (with_reducible repeat (first | refine zg0 ?_ _ | refine zi0 ?_ | refine zf0 ?_ _)); exact BK297.out)) : gb297 ≠ gb299)); have n9_ := za0.mk ((by rw [hg]; exact Nat.ne_of_gt (blk_lt (g := gb297) (o := .cells #[.slice A0_0 l0_0.length c0_0] 29 (0, 0)) (by (with_reducible repeat (first | refine zg0 ?_ _ | refine zi0 ?_ | refine zf0 ?_ _)); exact BK297.out)) : gb299 ≠ gb297)); have n10_ := za0.mk ((by rw [hg]; exact Nat.ne_of_lt (blk_lt (g := gb298) (o := .cells #[.slice Ao24 l1_0.length co24, .int .i64 a1_1] 63 (0, 0)) (by (with_reducible repeat (first | refine zg0 ?_ _ | refine zi0 ?_ | refine zf0 ?_ _)); exact BK298.out)) : gb298 ≠ gb299)); have n11_ := za0.mk ((by rw [hg]; exact Nat.ne_of_gt (blk_lt (g := gb298) (o := .cells #[.slice Ao24 l1_0.length co24, .int .i64 a1_1] 63 (0, 0)) (by (with_reducible repeat (first | refine zg0 ?_ _ | refine zi0 ?_ | refine zf0 ?_ _)); exact BK298.out)) : gb299 ≠ gb298)); clear HO1_0; clear BK297; clear BK298; clear HK; clear HB; have HO1_0 := n0_; have BK297 := n1_; have BK298 := n2_; have HK := n3_; have HB := n4_; have BK299 := n5_; have GW299 := n6_; have GE299 := n7_; have NB297_299 := n8_; have NB299_297 := n9_; have NB298_299 := n10_; have NB299_298 := n11_; clear n0_ n1_ n2_ n3_ n4_ n5_ n6_ n7_ n8_ n9_ n10_ n11_; clear hb hbox hg; have hnb27 := NB297_298.out; have hnc27 := NB298_297.out; have hnb28 := NB297_299.out; have hnc28 := NB299_297.out; have hcz29_0 : w26.cell? ⟨gb297, 0, none⟩ = some (.slice A0_0 l0_0.length c0_0) := (zl0 BK297.out 0).trans rfl; have hfz29_0 := zk0 BK297.out 0; have hnb30 := NB298_299.out; have hnc30 := NB299_298.out; have hcz31_0 : w26.cell? ⟨gb298, 0, none⟩ = some (.slice Ao24 l1_0.length co24) := (zl0 BK298.out 0).trans rfl; have hcz31_1 : w26.cell? ⟨gb298, 1, none⟩ = some (.int .i64 a1_1) := (zl0 BK298.out 1).trans rfl; have hfz31_0 := zk0 BK298.out 0; have hfz31_1 := zk0 BK298.out 1; have p300 : 0 ≤ (a1_1 : Int) := of_decide_eq_true (by first | (with_reducible assumption) | assumption); have q300 : a1_1 < (l0_0.length : Int) := of_decide_eq_true (by first | (with_reducible assumption) | assumption); obtain ⟨ad300, A300_0, c300_0, e300, hx300_0, hl300_0, hi300_0⟩ := kept_L1 HR0_0.out HK.out a1_1 p300 q300; cases e300; have HR300_0 := za0.mk hi300_0; have HC300_0 := za0.mk hl300_0; clear hi300_0 hl300_0; replace p300 := eq_true p300; replace q300 := eq_true q300) | ((with_reducible refine zn0 (f := 46) rfl ?_); refine goesL_ (some 21) rfl rfl Try.func46 (by kernel_rfl) rfl #[.slice Ao24 l1_0.length co24] rfl (by (try simp only [List.map_toArray, List.map_cons, List.map_nil]); first | done | rfl | (simp only [List.length_drop, List.length_take]; rfl)) ?_; (with_reducible refine (spec_l1Own.calls _ _ l1_0 t301 _ ?side1 ?side2 A16.out).mono ?_); (case side1 => repeat (first | exact (Kd.R_reads' HO1_0.out).2.2 | (with_reducible refine Kd.C_alloc ?_ _) | (with_reducible refine Kd.C_drewN ?_ _) | (with_reducible refine Kd.C_drew ?_))); (case side2 => exact (Kd.R_reads' HO1_0.out).2.1); rintro e w32 ⟨v302, rfl, ho0, hb⟩; refine ⟨_, rfl, ?_⟩; have n0_ := za0.mk (Kd.R_elder' (by (with_reducible repeat (first | apply Kd.R_alloc | apply Kd.R_drewN | apply Kd.R_drew)); exact HO1_0.out) (Kd.R_base ho0) hb); have n1_ := za0.mk (Kd.R_lower (Kd.R_new' (Kd.R_newM (M := fun k_ => (P1_0_ k_ ∨ w.heap.size ≤ k_)) ho0 (by first | exact HK.out.1 | exact (show Kept w _ (fun k_ => P1_0_ k_) from by repeat (first | (with_reducible first | exact HK.out | apply Kept.alloc | apply Kept.drewN | apply Kept.drew | refine Kept.setCell ?_ (.inr GW297.out) _ | refine Kept.setCell ?_ (.inr GW298.out) _ | refine Kept.setCell ?_ (.inr GW299.out) _) | exact HK.out)).1) (fun k_ h_ => .inr h_)) (Kd.R_lt (by (with_reducible repeat (first | apply Kd.R_alloc | apply Kd.R_drewN | apply Kd.R_drew)); exact HO1_0.out))) (zj0 (by repeat (first | (with_reducible first | exact HB.out | apply zc0 | apply zb0 | apply zd0 | refine ze0 ?_ GE297.out | refine ze0 ?_ GE298.out | refine ze0 ?_ GE299.out) | exact HB.out)))); have n2_ := za0.mk (zm0 (g := gb297) (o := .cells #[.slice (some ad300) l0_0.length c0_0] 29 (0, 0)) (by (with_reducible repeat (first | refine zg0 ?_ _ | refine zi0 ?_ | refine zf0 ?_ _)); exact BK297.out) hb); have n3_ := za0.mk (zm0 (g := gb298) (o := .cells #[.slice Ao24 l1_0.length co24, .int .i64 a1_1] 63 (0, 0)) (by (with_reducible repeat (first | refine zg0 ?_ _ | refine zi0 ?_ | refine zf0 ?_ _)); exact BK298.out) hb); have n4_ := za0.mk (zm0 (g := gb299) (o := .cells #[.slice none 0 0, .int .i64 0] 63 (0, 0)) (by (with_reducible repeat (first | refine zg0 ?_ _ | refine zi0 ?_ | refine zf0 ?_ _)); exact BK299.out) hb); have n5_ := za0.mk (Kept.below (S := (fun k_ => P1_0_ k_)) (by repeat (first | (with_reducible first | exact HK.out | apply Kept.alloc | apply Kept.drewN | apply Kept.drew | refine Kept.setCell ?_ (.inr GW297.out) _ | refine Kept.setCell ?_ (.inr GW298.out) _ | refine Kept.setCell ?_ (.inr GW299.out) _) | exact HK.out)) hb); have n6_ := za0.mk (zh0 (by repeat (first | (with_reducible first | exact HB.out | apply zc0 | apply zb0 | apply zd0 | refine ze0 ?_ GE297.out | refine ze0 ?_ GE298.out | refine ze0 ?_ GE299.out) | exact HB.out)) hb); clear HO1_0; clear BK297; clear BK298; clear BK299; clear HK; clear HB; have HO1_0 := n0_; have HO303 := n1_; have BK297 := n2_; have BK298 := n3_; have BK299 := n4_; have HK := n5_; have HB := n6_; clear n0_ n1_ n2_ n3_ n4_ n5_ n6_; (try clear hb); (try clear hb2); (try clear hk); (try clear hi); (try clear ho0); obtain ⟨Ao33, co33, eo33⟩ := Kd.R_slice HO303.out; subst eo33) | ((with_reducible refine zo0 (N := 7) rfl ?_); refine zp0 ?hg (N := 7) ?hd (cs := #[.slice none 0 0, .int .i64 0]) (t := 63) ?hr ?_; (case hd => rfl); (case hg => rfl); (case hr => first | (go_simp; done) | (go_simp; rfl)); intro gb304 hg w34 hbox hb; have n0_ := za0.mk (Kd.R_below (by (with_reducible repeat (first | apply Kd.R_alloc | apply Kd.R_drewN | apply Kd.R_drew)); exact HO1_0.out) hb); have n1_ := za0.mk (Kd.R_below (by (with_reducible repeat (first | apply Kd.R_alloc | apply Kd.R_drewN | apply Kd.R_drew)); exact HO303.out) hb); have n2_ := za0.mk (zm0 (g := gb297) (o := .cells #[.slice (some ad300) l0_0.length c0_0] 29 (0, 0)) (by (with_reducible repeat (first | refine zg0 ?_ _ | refine zi0 ?_ | refine zf0 ?_ _)); exact BK297.out) hb); have n3_ := za0.mk (zm0 (g := gb298) (o := .cells #[.slice Ao24 l1_0.length co24, .int .i64 a1_1] 63 (0, 0)) (by (with_reducible repeat (first | refine zg0 ?_ _ | refine zi0 ?_ | refine zf0 ?_ _)); exact BK298.out) hb); have n4_ := za0.mk (zm0 (g := gb299) (o := .cells #[.slice none 0 0, .int .i64 0] 63 (0, 0)) (by (with_reducible repeat (first | refine zg0 ?_ _ | refine zi0 ?_ | refine zf0 ?_ _)); exact BK299.out) hb); have n5_ := za0.mk (Kept.below (S := (fun k_ => P1_0_ k_)) (by repeat (first | (with_reducible first | exact HK.out | apply Kept.alloc | apply Kept.drewN | apply Kept.drew | refine Kept.setCell ?_ (.inr GW297.out) _ | refine Kept.setCell ?_ (.inr GW298.out) _ | refine Kept.setCell ?_ (.inr GW299.out) _) | exact HK.out)) hb); have n6_ := za0.mk (zh0 (by repeat (first | (with_reducible first | exact HB.out | apply zc0 | apply zb0 | apply zd0 | refine ze0 ?_ GE297.out | refine ze0 ?_ GE298.out | refine ze0 ?_ GE299.out) | exact HB.out)) hb); have n7_ := za0.mk (hbox); have n8_ := za0.mk ((by rw [hg]; exact (by first | exact HK.out.1 | exact (show Kept w _ (fun k_ => P1_0_ k_) from by repeat (first | (with_reducible first | exact HK.out | apply Kept.alloc | apply Kept.drewN | apply Kept.drew | refine Kept.setCell ?_ (.inr GW297.out) _ | refine Kept.setCell ?_ (.inr GW298.out) _ | refine Kept.setCell ?_ (.inr GW299.out) _) | exact HK.out)).1) : w.heap.size ≤ gb304)); have n9_ := za0.mk ((by rw [hg]; exact (zj0 (by repeat (first | (with_reducible first | exact HB.out | apply zc0 | apply zb0 | apply zd0 | refine ze0 ?_ GE297.out | refine ze0 ?_ GE298.out | refine ze0 ?_ GE299.out) | exact HB.out))) : w0.heap.size ≤ gb304)); have n10_ := za0.mk ((by rw [hg]; exact Nat.ne_of_lt (blk_lt (g := gb297) (o := .cells #[.slice (some ad300) l0_0.length c0_0] 29 (0, 0)) (by (with_reducible repeat (first | refine zg0 ?_ _ | refine zi0 ?_ | refine zf0 ?_ _)); exact BK297.out)) : gb297 ≠ gb304)); have n11_ := za0.mk ((by rw [hg]; exact Nat.ne_of_gt (blk_lt (g := gb297) (o := .cells #[.slice (some ad300) l0_0.length c0_0] 29 (0, 0)) (by (with_reducible repeat (first | refine zg0 ?_ _ | refine zi0 ?_ | refine zf0 ?_ _)); exact BK297.out)) : gb304 ≠ gb297)); have n12_ := za0.mk ((by rw [hg]; exact Nat.ne_of_lt (blk_lt (g := gb298) (o := .cells #[.slice Ao24 l1_0.length co24, .int .i64 a1_1] 63 (0, 0)) (by (with_reducible repeat (first | refine zg0 ?_ _ | refine zi0 ?_ | refine zf0 ?_ _)); exact BK298.out)) : gb298 ≠ gb304)); have n13_ := za0.mk ((by rw [hg]; exact Nat.ne_of_gt (blk_lt (g := gb298) (o := .cells #[.slice Ao24 l1_0.length co24, .int .i64 a1_1] 63 (0, 0)) (by (with_reducible repeat (first | refine zg0 ?_ _ | refine zi0 ?_ | refine zf0 ?_ _)); exact BK298.out)) : gb304 ≠ gb298)); have n14_ := za0.mk ((by rw [hg]; exact Nat.ne_of_lt (blk_lt (g := gb299) (o := .cells #[.slice none 0 0, .int .i64 0] 63 (0, 0)) (by (with_reducible repeat (first | refine zg0 ?_ _ | refine zi0 ?_ | refine zf0 ?_ _)); exact BK299.out)) : gb299 ≠ gb304)); have n15_ := za0.mk ((by rw [hg]; exact Nat.ne_of_gt (blk_lt (g := gb299) (o := .cells #[.slice none 0 0, .int .i64 0] 63 (0, 0)) (by (with_reducible repeat (first | refine zg0 ?_ _ | refine zi0 ?_ | refine zf0 ?_ _)); exact BK299.out)) : gb304 ≠ gb299)); clear HO1_0; clear HO303; clear BK297; clear BK298; clear BK299; clear HK; clear HB; have HO1_0 := n0_; have HO303 := n1_; have BK297 := n2_; have BK298 := n3_; have BK299 := n4_; have HK := n5_; have HB := n6_; have BK304 := n7_; have GW304 := n8_; have GE304 := n9_; have NB297_304 := n10_; have NB304_297 := n11_; have NB298_304 := n12_; have NB304_298 := n13_; have NB299_304 := n14_; have NB304_299 := n15_; clear n0_ n1_ n2_ n3_ n4_ n5_ n6_ n7_ n8_ n9_ n10_ n11_ n12_ n13_ n14_ n15_; clear hb hbox hg; have hnb35 := NB304_297.out; have hnc35 := NB297_304.out; have hnb36 := NB304_298.out; have hnc36 := NB298_304.out; have hnb37 := NB304_299.out; have hnc37 := NB299_304.out; have hcz38_0 : w34.cell? ⟨gb304, 0, none⟩ = some (.slice none 0 0) := (zl0 BK304.out 0).trans rfl; have hcz38_1 : w34.cell? ⟨gb304, 1, none⟩ = some (.int .i64 0) := (zl0 BK304.out 1).trans rfl; have hfz38_0 := zk0 BK304.out 0; have hfz38_1 := zk0 BK304.out 1) | ((with_reducible refine gate_store (t := 63) (p := 7) rfl ?_); refine store_event (t := 63) (p := 7) (v := ?vo_w39) (w1 := ((w34.setCell ⟨gb304, 0, none⟩ (.slice Ao33 t301.length co33)).setCell ⟨gb304, 1, none⟩ (.int .i64 0))) ?hg ?ho ?hn ?hr ?_; (case ho => rfl); (case hg => rfl); (case hn => rfl); (case hr => first | (go_simp; done) | (go_simp; rfl)); intro w39 hw; have n0_ : za0 (Kd.R (Kd.int .i64) 3 w39 w0.heap.size (fun k_ => (P1_0_ k_ ∨ w.heap.size ≤ k_) ∧ some k_ ≠ (.slice Ao33 t301.length co33 : Value).ownBlock) (.slice Ao24 l1_0.length co24) l1_0) := ⟨(by rw [hw]; exact (by (with_reducible repeat (first | apply Kd.R_alloc | apply Kd.R_drewN | apply Kd.R_drew)); exact Kd.R_mono (Kd.R_far (p := ⟨gb304, 1, none⟩) (Kd.R_far (p := ⟨gb304, 0, none⟩) (Kd.R_types HO1_0.out BK304.out (by decide)) (fun _ hk => hk.2) (.slice Ao33 t301.length co33)) (fun _ hk => hk.2) (.int .i64 0)) (fun _ hk => ⟨hk.1.1, hk.1.2⟩)))⟩; have n1_ : za0 (Kd.R (Kd.int .i64) 3 w39 w0.heap.size (fun k_ => (P1_0_ k_ ∨ w.heap.size ≤ k_) ∧ some k_ ≠ (.slice Ao24 l1_0.length co24 : Value).ownBlock) (.slice Ao33 t301.length co33) t301) := ⟨(by rw [hw]; exact (by (with_reducible repeat (first | apply Kd.R_alloc | apply Kd.R_drewN | apply Kd.R_drew)); exact Kd.R_mono (Kd.R_far (p := ⟨gb304, 1, none⟩) (Kd.R_far (p := ⟨gb304, 0, none⟩) (Kd.R_types HO303.out BK304.out (by decide)) (fun _ hk => hk.2) (.slice Ao33 t301.length co33)) (fun _ hk => hk.2) (.int .i64 0)) (fun _ hk => ⟨hk.1.1.1, hk.1.2⟩)))⟩; have n2_ : za0 (w39.heap[gb297]? = some (.cells #[.slice (some ad300) l0_0.length c0_0] 29 (0, 0))) := ⟨(by rw [hw]; exact (by (with_reducible repeat (first | refine zg0 ?_ _ | refine zi0 ?_ | refine zf0 ?_ _)); refine blk_far ?_ NB297_304.out _; (with_reducible repeat (first | refine zg0 ?_ _ | refine zi0 ?_ | refine zf0 ?_ _)); refine blk_far ?_ NB297_304.out _; (with_reducible repeat (first | refine zg0 ?_ _ | refine zi0 ?_ | refine zf0 ?_ _)); exact BK297.out))⟩; have n3_ : za0 (w39.heap[gb298]? = some (.cells #[.slice Ao24 l1_0.length co24, .int .i64 a1_1] 63 (0, 0))) := ⟨(by rw [hw]; exact (by (with_reducible repeat (first | refine zg0 ?_ _ | refine zi0 ?_ | refine zf0 ?_ _)); refine blk_far ?_ NB298_304.out _; (with_reducible repeat (first | refine zg0 ?_ _ | refine zi0 ?_ | refine zf0 ?_ _)); refine blk_far ?_ NB298_304.out _; (with_reducible repeat (first | refine zg0 ?_ _ | refine zi0 ?_ | refine zf0 ?_ _)); exact BK298.out))⟩; have n4_ : za0 (w39.heap[gb299]? = some (.cells #[.slice none 0 0, .int .i64 0] 63 (0, 0))) := ⟨(by rw [hw]; exact (by (with_reducible repeat (first | refine zg0 ?_ _ | refine zi0 ?_ | refine zf0 ?_ _)); refine blk_far ?_ NB299_304.out _; (with_reducible repeat (first | refine zg0 ?_ _ | refine zi0 ?_ | refine zf0 ?_ _)); refine blk_far ?_ NB299_304.out _; (with_reducible repeat (first | refine zg0 ?_ _ | refine zi0 ?_ | refine zf0 ?_ _)); exact BK299.out))⟩; have n5_ : za0 (w39.heap[gb304]? = some (.cells #[.slice Ao33 t301.length co33, .int .i64 0] 63 (0, 0))) := ⟨(by rw [hw]; exact (by (with_reducible repeat (first | refine zg0 ?_ _ | refine zi0 ?_ | refine zf0 ?_ _)); refine blk_put (cs := #[.slice Ao33 t301.length co33, .int .i64 0]) ?_ 1 _ rfl; (with_reducible repeat (first | refine zg0 ?_ _ | refine zi0 ?_ | refine zf0 ?_ _)); refine blk_put (cs := #[.slice none 0 0, .int .i64 0]) ?_ 0 _ rfl; (with_reducible repeat (first | refine zg0 ?_ _ | refine zi0 ?_ | refine zf0 ?_ _)); exact BK304.out))⟩; have n6_ : za0 (Kept w w39 (fun k_ => P1_0_ k_)) := ⟨(by rw [hw]; exact (by repeat (first | (with_reducible first | exact HK.out | apply Kept.alloc | apply Kept.drewN | apply Kept.drew | refine Kept.setCell ?_ (.inr GW297.out) _ | refine Kept.setCell ?_ (.inr GW298.out) _ | refine Kept.setCell ?_ (.inr GW299.out) _ | refine Kept.setCell ?_ (.inr GW304.out) _) | exact HK.out)))⟩; have n7_ : za0 (Below w0.heap.size w0 w39) := ⟨(by rw [hw]; exact (by repeat (first | (with_reducible first | exact HB.out | apply zc0 | apply zb0 | apply zd0 | refine ze0 ?_ GE297.out | refine ze0 ?_ GE298.out | refine ze0 ?_ GE299.out | refine ze0 ?_ GE304.out) | exact HB.out)))⟩; clear hw; clear HO1_0; clear HO303; clear BK297; clear BK298; clear BK299; clear BK304; clear HK; clear HB; have HO1_0 := n0_; have HO303 := n1_; have BK297 := n2_; have BK298 := n3_; have BK299 := n4_; have BK304 := n5_; have HK := n6_; have HB := n7_; clear n0_ n1_ n2_ n3_ n4_ n5_ n6_ n7_; have hcz40_0 : w39.cell? ⟨gb298, 0, none⟩ = some (.slice Ao24 l1_0.length co24) := (zl0 BK298.out 0).trans rfl; have hcz40_1 : w39.cell? ⟨gb298, 1, none⟩ = some (.int .i64 a1_1) := (zl0 BK298.out 1).trans rfl; have hfz40_0 := zk0 BK298.out 0; have hfz40_1 := zk0 BK298.out 1; have p305 : 0 ≤ (a1_1 : Int) := of_decide_eq_true (by first | (with_reducible assumption) | assumption); have q305 : a1_1 < (l1_0.length : Int) := of_decide_eq_true (by first | (with_reducible assumption) | assumption); obtain ⟨ad305, e305, hx305_0⟩ := Kd.at_int (Kd.R_reads' HO1_0.out).2.2 a1_1 p305 q305; cases e305; replace p305 := eq_true p305; replace q305 := eq_true q305; have hcz41_0 : w39.cell? ⟨gb304, 0, none⟩ = some (.slice Ao33 t301.length co33) := (zl0 BK304.out 0).trans rfl; have hcz41_1 : w39.cell? ⟨gb304, 1, none⟩ = some (.int .i64 0) := (zl0 BK304.out 1).trans rfl; have hfz41_0 := zk0 BK304.out 0; have hfz41_1 := zk0 BK304.out 1; have p19 : 0 ≤ (a1_1 : Int) := of_decide_eq_true (by first | (with_reducible assumption) | assumption); have q19 : (a1_1 : Int) < ((t301.length : Int) : Int) := of_decide_eq_true (by first | (with_reducible assumption) | assumption); obtain ⟨go19, co19, eo19, gb19, gl19, cl19, HG19⟩ := Kd.R_form HO303.out (by omega); (first | cases eo19 | (injection eo19 with ea_ en_ ec_; (first | subst ea_ | (injection ea_ with ea_; subst ea_)); subst ec_; clear en_)); have GB19 := za0.mk gb19; have GG19 := za0.mk HG19; clear gb19 gl19 HG19; have HMgo19 := za0.mk (show (P1_0_ go19 ∨ w.heap.size ≤ go19) from (HO303.out.1 _ rfl).1); obtain ⟨hx19_0, hf19_0⟩ := Kd.R_celln 0 HO303.out (a1_1 : Int) p19 q19; replace p19 := eq_true p19; replace q19 := eq_true q19; obtain ⟨hy42_, hz42_⟩ := Kd.R_celln 0 HO303.out (a1_1 : Int) (of_decide_eq_true (by first | (with_reducible assumption) | assumption)) (of_decide_eq_true (by first | (with_reducible assumption) | assumption)); have HP42 := Kd.R_putg HO303.out (a1_1 : Int) ji20) | ((with_reducible refine gate_store (t := 3) (p := 38) rfl ?_); refine store_event (t := 3) (p := 38) (v := ?vo_w43) (w1 := (w39.setCell ⟨go19, (a1_1 : Int).toNat, none⟩ (.int .i64 ji20))) ?hg ?ho ?hn ?hr ?_; (case ho => rfl); (case hg => rfl); (case hn => rfl); (case hr => first | (go_simp; done) | (go_simp; rfl)); intro w43 hw; have hg : w39.grownBy w43 (some go19) := (by rw [hw]; exact HP42.2); have hp_ : Kd.R (Kd.int .i64) 3 w43 w0.heap.size (fun k_ => (P1_0_ k_ ∨ w.heap.size ≤ k_) ∧ some k_ ≠ (.slice (some ad305) l1_0.length co24 : Value).ownBlock) (.slice (some ⟨go19, 0, none⟩) t301.length co33) y306 := (by rw [hw, Ny306.out]; exact HP42.1); clear HP42; have n0_ := za0.mk (Kd.R_after (v := (.slice (some ⟨go19, 0, none⟩) t301.length co33)) (v1 := (.slice (some ⟨go19, 0, none⟩) t301.length co33)) (ok := (fun k_ => (P1_0_ k_ ∨ w.heap.size ≤ k_))) (by (with_reducible repeat (first | apply Kd.R_alloc | apply Kd.R_drewN | apply Kd.R_drew)); exact HO1_0.out) hg (.inl rfl)); have n1_ := za0.mk (blk_grown (g := gb297) (o := .cells #[.slice (some ad300) l0_0.length c0_0] 29 (0, 0)) (by (with_reducible repeat (first | refine zg0 ?_ _ | refine zi0 ?_ | refine zf0 ?_ _)); exact BK297.out) hg (Kd.R_ne HO303.out BK297.out (by decide))); have n2_ := za0.mk (blk_grown (g := gb298) (o := .cells #[.slice (some ad305) l1_0.length co24, .int .i64 a1_1] 63 (0, 0)) (by (with_reducible repeat (first | refine zg0 ?_ _ | refine zi0 ?_ | refine zf0 ?_ _)); exact BK298.out) hg (Kd.R_ne HO303.out BK298.out (by decide))); have n3_ := za0.mk (blk_grown (g := gb299) (o := .cells #[.slice none 0 0, .int .i64 0] 63 (0, 0)) (by (with_reducible repeat (first | refine zg0 ?_ _ | refine zi0 ?_ | refine zf0 ?_ _)); exact BK299.out) hg (Kd.R_ne HO303.out BK299.out (by decide))); have n4_ := za0.mk (hp_); have n5_ := za0.mk (blk_grown (g := gb304) (o := .cells #[.slice (some ⟨go19, 0, none⟩) t301.length co33, .int .i64 0] 63 (0, 0)) (by (with_reducible repeat (first | refine zg0 ?_ _ | refine zi0 ?_ | refine zf0 ?_ _)); exact BK304.out) hg (Kd.R_ne HO303.out BK304.out (by decide))); have n6_ := za0.mk ((by rw [hw]; exact ze0 (HB.out) GB19.out : Below w0.heap.size w0 w43)); have n7_ := za0.mk (Kept.of_grown (S := (fun k_ => P1_0_ k_)) hg (by repeat (first | (with_reducible first | exact HK.out | apply Kept.alloc | apply Kept.drewN | apply Kept.drew | refine Kept.setCell ?_ (.inr GW297.out) _ | refine Kept.setCell ?_ (.inr GW298.out) _ | refine Kept.setCell ?_ (.inr GW299.out) _ | refine Kept.setCell ?_ (.inr GW304.out) _) | exact HK.out)) (fun k_ e_ => (HO303.out.1 k_ e_).1)); clear HO1_0; clear BK297; clear BK298; clear BK299; clear HO303; clear BK304; clear HB; clear HK; have HO1_0 := n0_; have BK297 := n1_; have BK298 := n2_; have BK299 := n3_; have HO303 := n4_; have BK304 := n5_; have HB := n6_; have HK := n7_; clear n0_ n1_ n2_ n3_ n4_ n5_ n6_ n7_; clear hg hw hp_; have p307 : 0 ≤ ((ji20) : Int) := of_decide_eq_true (by first | (with_reducible assumption) | assumption); have q307 : (ji20) < ((rd_L1 l0_0 a1_1).length : Int) := of_decide_eq_true (by first | (with_reducible assumption) | assumption); obtain ⟨ad307, e307, hx307_0⟩ := Kd.at_int (Kd.C_kept_now HR300_0.out HK.out) (ji20) p307 q307; cases e307; replace p307 := eq_true p307; replace q307 := eq_true q307; have hcz44_0 : w43.cell? ⟨gb304, 0, none⟩ = some (.slice (some ⟨go19, 0, none⟩) t301.length co33) := (zl0 BK304.out 0).trans rfl; have hcz44_1 : w43.cell? ⟨gb304, 1, none⟩ = some (.int .i64 0) := (zl0 BK304.out 1).trans rfl; have hfz44_0 := zk0 BK304.out 0; have hfz44_1 := zk0 BK304.out 1; have hcz45_0 : w43.cell? ⟨gb299, 0, none⟩ = some (.slice none 0 0) := (zl0 BK299.out 0).trans rfl; have hcz45_1 : w43.cell? ⟨gb299, 1, none⟩ = some (.int .i64 0) := (zl0 BK299.out 1).trans rfl; have hfz45_0 := zk0 BK299.out 0; have hfz45_1 := zk0 BK299.out 1))
        refine bodyPost_ret (results_ct rfl _ _ gb299 63 #[.slice (some ⟨go19, 0, none⟩) t301.length co33, .int .i64 (rd (rd_L1 l0_0 a1_1) (ji20))] (0, 0) _ rfl (by (with_reducible repeat (first | refine zg0 ?_ _ | refine zi0 ?_ | refine zf0 ?_ _)); refine blk_put (cs := #[.slice (some ⟨go19, 0, none⟩) t301.length co33, .int .i64 0]) ?_ 1 _ rfl; (with_reducible repeat (first | refine zg0 ?_ _ | refine zi0 ?_ | refine zf0 ?_ _)); refine blk_put (cs := #[.slice none 0 0, .int .i64 0]) ?_ 0 _ rfl; (with_reducible repeat (first | refine zg0 ?_ _ | refine zi0 ?_ | refine zf0 ?_ _)); refine blk_far ?_ NB299_304.out _; (with_reducible repeat (first | refine zg0 ?_ _ | refine zi0 ?_ | refine zf0 ?_ _)); exact BK299.out) Try.underlying63 rfl (by kernel_rfl)) rfl ?_
        exact ⟨_, by first | rfl | (simp [errW_none, errW_some] <;> rfl) | (simp only [← hji20]; first | rfl | (simp [errW_none, errW_some] <;> rfl)) | (simp [*, errW_none, errW_some] <;> rfl), by (with_reducible repeat (first | apply Kd.R_alloc | apply Kd.R_drewN | apply Kd.R_drew)); exact Kd.R_mono (Kd.R_far (p := ⟨gb299, 1, none⟩) (Kd.R_far (p := ⟨gb299, 0, none⟩) (Kd.R_far (p := ⟨gb304, 1, none⟩) (Kd.R_types (Kd.R_types HO303.out BK304.out (by decide)) BK299.out (by decide)) (fun _ hk => hk.1.2) (.int .i64 (rd (rd_L1 l0_0 a1_1) (ji20)))) (fun _ hk => hk.2) (.slice (some ⟨go19, 0, none⟩) t301.length co33)) (fun _ hk => hk.2) (.int .i64 (rd (rd_L1 l0_0 a1_1) (ji20)))) (fun _ hk => hk.1.1.1), by repeat (first | (with_reducible first | exact HB.out | apply zc0 | apply zb0 | apply zd0 | refine ze0 ?_ GE297.out | refine ze0 ?_ GE298.out | refine ze0 ?_ GE299.out | refine ze0 ?_ GE304.out) | exact HB.out), by repeat (first | (with_reducible first | exact HK.out | apply Kept.alloc | apply Kept.drewN | apply Kept.drew | refine Kept.setCell ?_ (.inr GW297.out) _ | refine Kept.setCell ?_ (.inr GW298.out) _ | refine Kept.setCell ?_ (.inr GW299.out) _ | refine Kept.setCell ?_ (.inr GW304.out) _) | exact HK.out)⟩
       ·rw [if_neg c22] at H
        exact absurd H (by simp)
      ·rw [if_neg c21] at H
       exact absurd H (by simp)
     ·rw [if_neg c18] at H
      exact absurd H (by simp)
    ·rw [if_neg c17] at H
     exact absurd H (by simp)
  ·rw [if_neg c4] at H
   exact absurd H (by simp)
 ·rw [if_neg c3] at H
  exact absurd H (by simp)
def spec_acRun.l0 : Nat → Int → List Int → List (List Int) → List Int → Int → Option (List Int × List Int)
 | 0, _, _, _, _, _ => none
 | k + 1, x1, x11, x309000, x313000, x313001 => if x313001 = x1 then (some (x313000, x11)) else (if (x11.length : Int) > 4000 then (some (([] : List Int), ([] : List Int))) else ((spec_waStep.f x309000 x313000 x313001).bind fun bt316 => (if x11.length < 17592186044416 then (spec_acRun.l0 k x1 (x11 ++ [bt316.2.1]) x309000 bt316.1 bt316.2.1) else (none))))
def spec_acRun.f (k : Nat) (l0_0 : List (List Int)) (a1 : Int) (l2 : List Int) (a3 : Int) : Option (List Int × List Int) := (spec_l1Own.f l2).bind fun t309 => (spec_acRun.l0 k a1 (([a3] : List Int)) l0_0 t309 a3)
set_option maxHeartbeats 8000000 in
set_option maxRecDepth 100000 in
theorem spec_acRun.calls (k : Nat) (A0_0 : Option Addr) (c0_0 : Nat) (l0_0 : List (List Int)) (a1 : Int) (A2 : Option Addr) (c2 : Nat) (l2 : List Int) (a3 : Int) (r1 : List Int) (r2 : List Int) (w : World) (hr0_0 : Kd.C (Kd.slice 3 (Kd.int .i64)) w A0_0 l0_0.length l0_0) (hc0_0 : l0_0.length ≤ c0_0) (hr2 : Kd.C (Kd.int .i64) w A2 l2.length l2) (hc2 : l2.length ≤ c2) (h : spec_acRun.f k l0_0 a1 l2 a3 = some (r1, r2)) :
  Calls Try.prog 29 #[.agg #[.slice A0_0 l0_0.length c0_0], .int .i64 a1, .slice A2 l2.length c2, .int .i64 a3] w fun e w' => ∃ v0_ v1_ : Value, e = .returned (.tuple #[v0_, v1_]) ∧ Kd.R (Kd.int .i64) 3 w' w.heap.size (fun k_ => some k_ ≠ (v1_ : Value).ownBlock) v0_ r1 ∧ Kd.R (Kd.int .i64) 3 w' w.heap.size (fun k_ => some k_ ≠ (v0_ : Value).ownBlock) v1_ r2 ∧ Below w.heap.size w w' := by
 have hu29 := Try.underlying29
 have hu63 := Try.underlying63
 have HR0_0 := za0.mk hr0_0
 have HC0_0 := za0.mk hc0_0
 clear hr0_0 hc0_0
 have HR2 := za0.mk hr2
 have HC2 := za0.mk hc2
 clear hr2 hc2
 have HB := za0.mk (Below.refl w.heap.size w)
 have H : ((spec_l1Own.f l2).bind fun t309 => (spec_acRun.l0 k a1 (([a3] : List Int)) l0_0 t309 a3)) = some (r1, r2) := h
 clear h
 replace H := Option.bind_eq_some_iff.mp H
 obtain ⟨t309, A50, H⟩ := H
 replace H : (spec_acRun.l0 k a1 (([a3] : List Int)) l0_0 t309 a3) = some (r1, r2) := H
 have A5 := za0.mk A50
 clear A50
 obtain ⟨y313, hy313⟩ : ∃ y_ : List Int, y_ = (([a3] : List Int)) := ⟨_, rfl⟩
 replace H : (spec_acRun.l0 k a1 y313 l0_0 t309 a3) = some (r1, r2) := by first | (rw [hy313]; with_reducible exact H) | (have H2_ := (Option.bind_some _ _).symm.trans H; rw [hy313]; with_reducible exact H2_) | (have H2_ := (Option.bind_some _ _).symm.trans H; with_reducible exact H2_) | with_reducible exact H | (rw [hy313]; exact H) | exact H
 have Ny313 := za0.mk hy313
 clear hy313
 have H' := za0.mk H
 clear H
 go_enter Try.func29, Try.ntmps29
 go_wp2_with (first | ((with_reducible refine zo0 (N := 4) rfl ?_); refine zp0 ?hg (N := 4) ?hd (cs := #[.slice A0_0 l0_0.length c0_0]) (t := 29) ?hr ?_; (case hd => rfl); (case hg => rfl); (case hr => first | (go_simp; done) | (go_simp; rfl)); intro gb308 hg w6 hbox hb; have n0_ := za0.mk (zh0 (by repeat (first | (with_reducible first | exact HB.out | apply zc0 | apply zb0 | apply zd0) | exact HB.out)) hb); have n1_ := za0.mk (hbox); have n2_ := za0.mk ((by rw [hg]; exact (zj0 (by repeat (first | (with_reducible first | exact HB.out | apply zc0 | apply zb0 | apply zd0) | exact HB.out))) : w.heap.size ≤ gb308)); have n3_ := za0.mk ((by rw [hg]; exact (zj0 (by repeat (first | (with_reducible first | exact HB.out | apply zc0 | apply zb0 | apply zd0) | exact HB.out))) : w.heap.size ≤ gb308)); clear HB; have HB := n0_; have BK308 := n1_; have GW308 := n2_; have GE308 := n3_; clear n0_ n1_ n2_ n3_; clear hb hbox hg) | ((with_reducible refine zn0 (f := 46) rfl ?_); refine goesL_ (some 13) rfl rfl Try.func46 (by kernel_rfl) rfl #[.slice A2 l2.length c2] rfl (by (try simp only [List.map_toArray, List.map_cons, List.map_nil]); first | done | rfl | (simp only [List.length_drop, List.length_take]; rfl)) ?_; (with_reducible refine (spec_l1Own.calls _ _ l2 t309 _ ?side1 ?side2 A5.out).mono ?_); (case side1 => repeat (first | exact (Kd.C_below HR2.out HB.out) | (with_reducible refine Kd.C_alloc ?_ _) | (with_reducible refine Kd.C_drewN ?_ _) | (with_reducible refine Kd.C_drew ?_))); (case side2 => exact HC2.out); rintro e w7 ⟨v310, rfl, ho0, hb⟩; refine ⟨_, rfl, ?_⟩; have n0_ := za0.mk (Kd.R_lower ho0 (zj0 (by repeat (first | (with_reducible first | exact HB.out | apply zc0 | apply zb0 | apply zd0 | refine ze0 ?_ GE308.out) | exact HB.out)))); have n1_ := za0.mk (zm0 (g := gb308) (o := .cells #[.slice A0_0 l0_0.length c0_0] 29 (0, 0)) (by (with_reducible repeat (first | refine zg0 ?_ _ | refine zi0 ?_ | refine zf0 ?_ _)); exact BK308.out) hb); have n2_ := za0.mk (zh0 (by repeat (first | (with_reducible first | exact HB.out | apply zc0 | apply zb0 | apply zd0 | refine ze0 ?_ GE308.out) | exact HB.out)) hb); clear BK308; clear HB; have HO311 := n0_; have BK308 := n1_; have HB := n2_; clear n0_ n1_ n2_; (try clear hb); (try clear hb2); (try clear hk); (try clear hi); (try clear ho0); obtain ⟨Ao8, co8, eo8⟩ := Kd.R_slice HO311.out; subst eo8) | ((with_reducible refine zo0 (N := 10) rfl ?_); refine zp0 ?hg (N := 10) ?hd (cs := #[.slice none 0 0, .int .i64 0]) (t := 63) ?hr ?_; (case hd => rfl); (case hg => rfl); (case hr => first | (go_simp; done) | (go_simp; rfl)); intro gb312 hg w9 hbox hb; have n0_ := za0.mk (Kd.R_below (by (with_reducible repeat (first | apply Kd.R_alloc | apply Kd.R_drewN | apply Kd.R_drew)); exact HO311.out) hb); have n1_ := za0.mk (zm0 (g := gb308) (o := .cells #[.slice A0_0 l0_0.length c0_0] 29 (0, 0)) (by (with_reducible repeat (first | refine zg0 ?_ _ | refine zi0 ?_ | refine zf0 ?_ _)); exact BK308.out) hb); have n2_ := za0.mk (zh0 (by repeat (first | (with_reducible first | exact HB.out | apply zc0 | apply zb0 | apply zd0 | refine ze0 ?_ GE308.out) | exact HB.out)) hb); have n3_ := za0.mk (hbox); have n4_ := za0.mk ((by rw [hg]; exact (zj0 (by repeat (first | (with_reducible first | exact HB.out | apply zc0 | apply zb0 | apply zd0 | refine ze0 ?_ GE308.out) | exact HB.out))) : w.heap.size ≤ gb312)); have n5_ := za0.mk ((by rw [hg]; exact (zj0 (by repeat (first | (with_reducible first | exact HB.out | apply zc0 | apply zb0 | apply zd0 | refine ze0 ?_ GE308.out) | exact HB.out))) : w.heap.size ≤ gb312)); have n6_ := za0.mk ((by rw [hg]; exact Nat.ne_of_lt (blk_lt (g := gb308) (o := .cells #[.slice A0_0 l0_0.length c0_0] 29 (0, 0)) (by (with_reducible repeat (first | refine zg0 ?_ _ | refine zi0 ?_ | refine zf0 ?_ _)); exact BK308.out)) : gb308 ≠ gb312)); have n7_ := za0.mk ((by rw [hg]; exact Nat.ne_of_gt (blk_lt (g := gb308) (o := .cells #[.slice A0_0 l0_0.length c0_0] 29 (0, 0)) (by (with_reducible repeat (first | refine zg0 ?_ _ | refine zi0 ?_ | refine zf0 ?_ _)); exact BK308.out)) : gb312 ≠ gb308)); clear HO311; clear BK308; clear HB; have HO311 := n0_; have BK308 := n1_; have HB := n2_; have BK312 := n3_; have GW312 := n4_; have GE312 := n5_; have NB308_312 := n6_; have NB312_308 := n7_; clear n0_ n1_ n2_ n3_ n4_ n5_ n6_ n7_; clear hb hbox hg; have hnb10 := NB312_308.out; have hnc10 := NB308_312.out; have hcz11_0 : w9.cell? ⟨gb312, 0, none⟩ = some (.slice none 0 0) := (zl0 BK312.out 0).trans rfl; have hcz11_1 : w9.cell? ⟨gb312, 1, none⟩ = some (.int .i64 0) := (zl0 BK312.out 1).trans rfl; have hfz11_0 := zk0 BK312.out 0; have hfz11_1 := zk0 BK312.out 1) | ((with_reducible refine zo0 (N := 17) rfl ?_); refine Kd.R_lit (Kd.int .i64) _ 3 ?hg (N := 17) ?hd (xs := ([a3] : List Int)) (inner := [.int .i64 a3]) (ok := fun _ => True) (okp := fun _ => True) ?hr ?hp (fun _ hk => hk) trivial (Below.refl _ _) (Nat.le_refl _) (by simp) ?_; (case hd => rfl); (case hg => rfl); (case hr => first | (go_simp; done) | (go_simp; rfl)); (case hp => exact (Reps.one (show Kd.M (Kd.int .i64) _ _ _ a3 [.int .i64 a3] from rfl) (Reps.none _ _))); intro v314 w12 ho13 hb hg_ hnew_; clear hg_ hnew_; (first | rw [← Ny313.out] at ho13 | (simp only [Int.reduceToNat] at ho13; rw [← Ny313.out] at ho13)); have n0_ := za0.mk (Kd.R_elder' (by (with_reducible repeat (first | apply Kd.R_alloc | apply Kd.R_drewN | apply Kd.R_drew)); exact (Kd.R_mono (Kd.R_far (p := ⟨gb312, 1, none⟩) (Kd.R_far (p := ⟨gb312, 0, none⟩) (Kd.R_types HO311.out BK312.out (by decide)) (fun _ hk => hk.2) (.slice Ao8 t309.length co8)) (fun _ hk => hk.2) (.int .i64 a3)) (fun _ h_ => h_.1))) (Kd.R_base ho13) hb); have n1_ := za0.mk (Kd.R_lower (Kd.R_new' ho13 (Kd.R_lt (by (with_reducible repeat (first | apply Kd.R_alloc | apply Kd.R_drewN | apply Kd.R_drew)); exact (Kd.R_mono (Kd.R_far (p := ⟨gb312, 1, none⟩) (Kd.R_far (p := ⟨gb312, 0, none⟩) (Kd.R_types HO311.out BK312.out (by decide)) (fun _ hk => hk.2) (.slice Ao8 t309.length co8)) (fun _ hk => hk.2) (.int .i64 a3)) (fun _ h_ => h_.1))))) (zj0 (by repeat (first | (with_reducible first | exact HB.out | apply zc0 | apply zb0 | apply zd0 | refine ze0 ?_ GE308.out | refine ze0 ?_ GE312.out) | exact HB.out)))); have n2_ := za0.mk (zm0 (g := gb308) (o := .cells #[.slice A0_0 l0_0.length c0_0] 29 (0, 0)) (by (with_reducible repeat (first | refine zg0 ?_ _ | refine zi0 ?_ | refine zf0 ?_ _)); refine blk_far ?_ NB308_312.out _; (with_reducible repeat (first | refine zg0 ?_ _ | refine zi0 ?_ | refine zf0 ?_ _)); refine blk_far ?_ NB308_312.out _; (with_reducible repeat (first | refine zg0 ?_ _ | refine zi0 ?_ | refine zf0 ?_ _)); exact BK308.out) hb); have n3_ := za0.mk (zm0 (g := gb312) (o := .cells #[.slice Ao8 t309.length co8, .int .i64 a3] 63 (0, 0)) (by (with_reducible repeat (first | refine zg0 ?_ _ | refine zi0 ?_ | refine zf0 ?_ _)); refine blk_put (cs := #[.slice Ao8 t309.length co8, .int .i64 0]) ?_ 1 _ rfl; (with_reducible repeat (first | refine zg0 ?_ _ | refine zi0 ?_ | refine zf0 ?_ _)); refine blk_put (cs := #[.slice none 0 0, .int .i64 0]) ?_ 0 _ rfl; (with_reducible repeat (first | refine zg0 ?_ _ | refine zi0 ?_ | refine zf0 ?_ _)); exact BK312.out) hb); have n4_ := za0.mk (zh0 (by repeat (first | (with_reducible first | exact HB.out | apply zc0 | apply zb0 | apply zd0 | refine ze0 ?_ GE308.out | refine ze0 ?_ GE312.out) | exact HB.out)) hb); clear HO311; clear BK308; clear BK312; clear HB; have HO311 := n0_; have HO315 := n1_; have BK308 := n2_; have BK312 := n3_; have HB := n4_; clear n0_ n1_ n2_ n3_ n4_; clear hb ho13))
 go_loopg [11] k (fun kq v11 w' => ∃ (x11_1 : List Int) (x313000_1 : List Int) (x313001_1 : Int) (u313000 : Value), za0 (spec_acRun.l0 kq a1 x11_1 l0_0 x313000_1 x313001_1 = some (r1, r2)) ∧ za0 (kq ≤ k) ∧ za0 (Kd.R (Kd.int .i64) 3 w' w.heap.size (fun k_ => some k_ ≠ (u313000 : Value).ownBlock) v11 x11_1) ∧ za0 (Kd.R (Kd.int .i64) 3 w' w.heap.size (fun k_ => some k_ ≠ (v11 : Value).ownBlock) u313000 x313000_1) ∧ za0 (w'.heap[gb308]? = some (.cells #[(.slice A0_0 l0_0.length c0_0)] 29 (0, 0))) ∧ za0 (w'.heap[gb312]? = some (.cells #[u313000, .int .i64 x313001_1] 63 (0, 0))) ∧ za0 (Below w.heap.size w w'))
 case atStart => exact ⟨(y313), (t309), (a3), (.slice Ao8 t309.length co8), H', ⟨Nat.le_refl _⟩, ⟨by (with_reducible repeat (first | apply Kd.R_alloc | apply Kd.R_drewN | apply Kd.R_drew)); exact Kd.R_mono HO315.out (fun _ hk => hk.2)⟩, ⟨by (with_reducible repeat (first | apply Kd.R_alloc | apply Kd.R_drewN | apply Kd.R_drew)); exact Kd.R_mono HO311.out (fun _ hk => hk.2)⟩, ⟨by (with_reducible repeat (first | refine zg0 ?_ _ | refine zi0 ?_ | refine zf0 ?_ _)); exact BK308.out⟩, ⟨by (with_reducible repeat (first | refine zg0 ?_ _ | refine zi0 ?_ | refine zf0 ?_ _)); exact BK312.out⟩, ⟨by repeat (first | (with_reducible first | exact HB.out | apply zc0 | apply zb0 | apply zd0 | refine ze0 ?_ GE308.out | refine ze0 ?_ GE312.out) | exact HB.out)⟩⟩
 case round =>
  clear H'
  try clear c1
  try clear c2
  try clear p2
  try clear c4
  try clear c10
  try clear hcz11_0
  try clear hcz11_1
  try clear hfz11_0
  try clear hfz11_1
  obtain ⟨x11_1, x313000_1, x313001_1, u313000, HA, HK1, HO_11, HO_313000, BK308, BK312, HB⟩ := hrel
  cases gk with
  | zero => exact absurd HA.out (by simp [spec_acRun.l0])
  | succ k1 =>
   have H := HA.out
   clear HA
   simp only [spec_acRun.l0] at H
   by_cases c14 : x313001_1 = a1
   ·rw [if_pos c14] at H
    have c14b0 : (x313001_1 == a1) = true := beq_iff_eq.mpr c14
    have c14b1 : (x313001_1 != a1) = false := bne_eq_false_iff_eq.mpr c14
    clear c14
    simp only [Option.some.injEq, Prod.mk.injEq] at H
    obtain ⟨rfl, rfl⟩ := H
    have hnb15 := NB312_308.out
    have hnc15 := NB308_312.out
    have hcz16_0 : wr.cell? ⟨gb312, 0, none⟩ = some (u313000) := (zl0 BK312.out 0).trans rfl
    have hcz16_1 : wr.cell? ⟨gb312, 1, none⟩ = some (.int .i64 x313001_1) := (zl0 BK312.out 1).trans rfl
    have hfz16_0 := zk0 BK312.out 0
    have hfz16_1 := zk0 BK312.out 1
    go_wp2
    go_ret2
    exact ⟨_, _, by first | rfl | (simp [errW_none, errW_some] <;> rfl) | (simp [*, errW_none, errW_some] <;> rfl), by (with_reducible repeat (first | apply Kd.R_alloc | apply Kd.R_drewN | apply Kd.R_drew)); exact HO_313000.out, by (with_reducible repeat (first | apply Kd.R_alloc | apply Kd.R_drewN | apply Kd.R_drew)); exact HO_11.out, by repeat (first | (with_reducible first | exact HB.out | apply zc0 | apply zb0 | apply zd0 | refine ze0 ?_ GE308.out | refine ze0 ?_ GE312.out) | exact HB.out)⟩
   ·rw [if_neg c14] at H
    have c14b0 : (x313001_1 == a1) = false := beq_eq_false_iff_ne.mpr c14
    have c14b1 : (x313001_1 != a1) = true := bne_iff_ne.mpr c14
    by_cases c17 : (x11_1.length : Int) > 4000
    ·rw [if_pos c17] at H
     have c17b0 : decide (4000 < (x11_1.length : Int)) = true := decide_eq_true c17
     have c17b1 : decide (4000 < x11_1.length) = true := decide_eq_true (by omega)
     clear c17
     simp only [Option.some.injEq, Prod.mk.injEq] at H
     obtain ⟨rfl, rfl⟩ := H
     have hnb18 := NB312_308.out
     have hnc18 := NB308_312.out
     have hcz19_0 : wr.cell? ⟨gb312, 0, none⟩ = some (u313000) := (zl0 BK312.out 0).trans rfl
     have hcz19_1 : wr.cell? ⟨gb312, 1, none⟩ = some (.int .i64 x313001_1) := (zl0 BK312.out 1).trans rfl
     have hfz19_0 := zk0 BK312.out 0
     have hfz19_1 := zk0 BK312.out 1
     obtain ⟨Ao20, co20, eo20⟩ := Kd.R_slice HO_11.out
     subst eo20
     go_wp2
     go_ret2
     exact ⟨_, _, by first | rfl | (simp [errW_none, errW_some] <;> rfl) | (simp [*, errW_none, errW_some] <;> rfl), by first | exact Kd.R_nil _ _ _ _ _ | exact Kd.N_nil _ _ _ _ _ | exact Kd.V_nil _ _ _ _ _ | exact Kd.Q_nil _ _ _ _ _ | exact Kd.S_nil _ _ _ _ _, by first | exact Kd.R_nil _ _ _ _ _ | exact Kd.N_nil _ _ _ _ _ | exact Kd.V_nil _ _ _ _ _ | exact Kd.Q_nil _ _ _ _ _ | exact Kd.S_nil _ _ _ _ _, by repeat (first | (with_reducible first | exact HB.out | apply zc0 | apply zb0 | apply zd0 | refine ze0 ?_ GE308.out | refine ze0 ?_ GE312.out) | exact HB.out)⟩
    ·rw [if_neg c17] at H
     have c17b0 : decide (4000 < (x11_1.length : Int)) = false := decide_eq_false c17
     have c17b1 : decide (4000 < x11_1.length) = false := decide_eq_false (by omega)
     clear c17
     replace H := Option.bind_eq_some_iff.mp H
     obtain ⟨⟨t316, t319, t320⟩, A210, H⟩ := H
     replace H : (if x11_1.length < 17592186044416 then (spec_acRun.l0 k1 a1 (x11_1 ++ [t319]) l0_0 t316 t319) else (none)) = some (r1, r2) := H
     have A21 := za0.mk A210
     clear A210
     by_cases c22 : x11_1.length < 17592186044416
     ·rw [if_pos c22] at H
      have LMc22 := za0.mk c22
      clear c22
      obtain ⟨y321, hy321⟩ : ∃ y_ : List Int, y_ = (x11_1 ++ [t319]) := ⟨_, rfl⟩
      replace H : (spec_acRun.l0 k1 a1 y321 l0_0 t316 t319) = some (r1, r2) := by first | (rw [hy321]; with_reducible exact H) | (have H2_ := (Option.bind_some _ _).symm.trans H; rw [hy321]; with_reducible exact H2_) | (have H2_ := (Option.bind_some _ _).symm.trans H; with_reducible exact H2_) | with_reducible exact H | (rw [hy321]; exact H) | exact H
      have Ny321 := za0.mk hy321
      clear hy321
      have H' := za0.mk H
      clear H
      have hnb23 := NB312_308.out
      have hnc23 := NB308_312.out
      have hcz24_0 : wr.cell? ⟨gb312, 0, none⟩ = some (u313000) := (zl0 BK312.out 0).trans rfl
      have hcz24_1 : wr.cell? ⟨gb312, 1, none⟩ = some (.int .i64 x313001_1) := (zl0 BK312.out 1).trans rfl
      have hfz24_0 := zk0 BK312.out 0
      have hfz24_1 := zk0 BK312.out 1
      obtain ⟨Ao25, co25, eo25⟩ := Kd.R_slice HO_11.out
      subst eo25
      have hcz26_0 : wr.cell? ⟨gb308, 0, none⟩ = some (.slice A0_0 l0_0.length c0_0) := (zl0 BK308.out 0).trans rfl
      have hfz26_0 := zk0 BK308.out 0
      obtain ⟨Ao27, co27, eo27⟩ := Kd.R_slice HO_313000.out
      subst eo27
      go_wp2_with (first | ((with_reducible refine zn0 (f := 47) rfl ?_); refine goesL_ (some 28) rfl rfl Try.func47 (by kernel_rfl) rfl #[.agg #[.slice A0_0 l0_0.length c0_0], .agg #[.slice Ao27 x313000_1.length co27, .int .i64 x313001_1]] rfl (by (try simp only [List.map_toArray, List.map_cons, List.map_nil]); first | done | rfl | (simp only [List.length_drop, List.length_take]; rfl)) ?_; (with_reducible refine (spec_waStep.calls _ _ l0_0 (fun k_ => some k_ = (.slice Ao27 x313000_1.length co27 : Value).ownBlock) (.slice Ao27 x313000_1.length co27) x313000_1 x313001_1 t316 t319 t320 w _ ?side1 ?side2 ?side3 ?side4 A21.out).mono ?_); (case side1 => repeat (first | (with_reducible first | exact HB.out | apply zc0 | apply zb0 | apply zd0 | refine ze0 ?_ GE308.out | refine ze0 ?_ GE312.out) | exact HB.out)); (case side2 => exact Kd.C_kept_came (Kd.heap_slice 3 (Kd.heap_int .i64)) HR0_0.out (by repeat (first | (with_reducible first | exact HB.out | apply zc0 | apply zb0 | apply zd0 | refine ze0 ?_ GE308.out | refine ze0 ?_ GE312.out) | exact HB.out)) (fun k_ hs_ => (fun e_ => Kd.R_base HO_313000.out k_ e_.symm) hs_)); (case side3 => exact HC0_0.out); (case side4 => exact Kd.R_tight rfl HO_313000.out); rintro e w28 ⟨v317, rfl, ho0, hb, hkp⟩; refine ⟨_, rfl, ?_⟩; have n0_ := za0.mk (Kd.R_mono (ok' := fun k_ => some k_ ≠ (v317 : Value).ownBlock) (Kd.R_keptB (HO_11.out) hkp (fun k_ hk_ hs_ => (hk_) hs_)) (fun k_ hk_ => fun e_ => Or.elim (ho0.1 k_ e_.symm) (fun hs_ => hk_.2.1 hs_) (fun hn_ => Nat.not_le.2 hk_.2.2 hn_))); have n1_ := za0.mk (blk_kept (by (with_reducible repeat (first | refine zg0 ?_ _ | refine zi0 ?_ | refine zf0 ?_ _)); exact BK308.out) hkp (fun hs_ => (fun e_ => (Kd.R_ne HO_313000.out BK308.out (by decide)) e_) hs_)); have n2_ := za0.mk (blk_kept (by (with_reducible repeat (first | refine zg0 ?_ _ | refine zi0 ?_ | refine zf0 ?_ _)); exact BK312.out) hkp (fun hs_ => (fun e_ => (Kd.R_ne HO_313000.out BK312.out (by decide)) e_) hs_)); have n3_ := za0.mk (Kd.R_mono (ok' := fun k_ => some k_ ≠ (.slice Ao25 x11_1.length co25 : Value).ownBlock) ho0 (fun k_ hk_ => Or.elim hk_ (fun hs_ => fun e_ => (((HO_11.out).1 k_ e_.symm)) hs_) (fun hn_ => (Kd.fresh' (Kd.R_lt (by (with_reducible repeat (first | apply Kd.R_alloc | apply Kd.R_drewN | apply Kd.R_drew)); exact HO_11.out)) k_ hn_)))); have n4_ := za0.mk (hb); clear HO_11; clear BK308; clear BK312; clear HB; clear HO_313000; have HO_11 := n0_; have BK308 := n1_; have BK312 := n2_; have HO318 := n3_; have HB := n4_; clear n0_ n1_ n2_ n3_ n4_; (try clear hb); (try clear hkp); (try clear ho0); obtain ⟨Ao29, co29, eo29⟩ := Kd.R_slice HO318.out; subst eo29; have hcz30_0 : w28.cell? ⟨gb312, 0, none⟩ = some (.slice Ao27 x313000_1.length co27) := (zl0 BK312.out 0).trans rfl; have hcz30_1 : w28.cell? ⟨gb312, 1, none⟩ = some (.int .i64 x313001_1) := (zl0 BK312.out 1).trans rfl; have hfz30_0 := zk0 BK312.out 0; have hfz30_1 := zk0 BK312.out 1) | ((with_reducible refine gate_builtin (b := .append) (xs := #[.tmp 31, .tmp 34]) rfl ?_); at_builtin; refine Kd.R_append (Kd.int .i64) (w0 := w) w.heap.size rfl (.tmp 31) (.tmp 34) 25 3 (.int .i64 0) 8 rfl Try.underlying25 info3 rfl (by decide) (by omega) (.slice Ao25 x11_1.length co25) x11_1 t319 [.int .i64 t319] (fun k_ => some k_ ≠ (.slice Ao29 t316.length co29 : Value).ownBlock) (fun _ => False) rfl (by first | (go_simp; done) | (go_simp; rfl)) ?aP (fun _ hk => hk.elim) ?aF ?aO ?aB ?aS ?aL ?_; (case aP => exact rfl); (case aB => exact (by repeat (first | (with_reducible first | exact HB.out | apply zc0 | apply zb0 | apply zd0 | refine ze0 ?_ GE308.out | refine ze0 ?_ GE312.out) | exact HB.out))); (case aF => exact (fun k_ hk => Kd.fresh' (Kd.R_lt (by (with_reducible repeat (first | apply Kd.R_alloc | apply Kd.R_drewN | apply Kd.R_drew)); exact (Kd.R_mono (Kd.R_far (p := ⟨gb312, 1, none⟩) (Kd.R_far (p := ⟨gb312, 0, none⟩) (Kd.R_types HO318.out BK312.out (by decide)) (fun _ hk => hk.2) (.slice Ao29 t316.length co29)) (fun _ hk => hk.2) (.int .i64 t319)) (fun _ h_ => h_.1)))) k_ hk)); (case aO => exact (by (with_reducible repeat (first | apply Kd.R_alloc | apply Kd.R_drewN | apply Kd.R_drew)); exact Kd.R_mono (Kd.R_far (p := ⟨gb312, 1, none⟩) (Kd.R_far (p := ⟨gb312, 0, none⟩) (Kd.R_types HO_11.out BK312.out (by decide)) (fun _ hk => hk.2) (.slice Ao29 t316.length co29)) (fun _ hk => hk.2) (.int .i64 t319)) (fun _ hk => hk.1))); (case aS => exact (zj0 (by repeat (first | (with_reducible first | exact HB.out | apply zc0 | apply zb0 | apply zd0 | refine ze0 ?_ GE308.out | refine ze0 ?_ GE312.out) | exact HB.out)))); (case aL => have := LMc22.out; omega); intro v322 w31 ho hb hg hat; rw [← Ny321.out] at ho; have n0_ := za0.mk (blk_grown (g := gb308) (o := .cells #[.slice A0_0 l0_0.length c0_0] 29 (0, 0)) (by (with_reducible repeat (first | refine zg0 ?_ _ | refine zi0 ?_ | refine zf0 ?_ _)); refine blk_far ?_ NB308_312.out _; (with_reducible repeat (first | refine zg0 ?_ _ | refine zi0 ?_ | refine zf0 ?_ _)); refine blk_far ?_ NB308_312.out _; (with_reducible repeat (first | refine zg0 ?_ _ | refine zi0 ?_ | refine zf0 ?_ _)); exact BK308.out) hg (Kd.R_ne HO_11.out BK308.out (by decide))); have n1_ := za0.mk (blk_grown (g := gb312) (o := .cells #[.slice Ao29 t316.length co29, .int .i64 t319] 63 (0, 0)) (by (with_reducible repeat (first | refine zg0 ?_ _ | refine zi0 ?_ | refine zf0 ?_ _)); refine blk_put (cs := #[.slice Ao29 t316.length co29, .int .i64 x313001_1]) ?_ 1 _ rfl; (with_reducible repeat (first | refine zg0 ?_ _ | refine zi0 ?_ | refine zf0 ?_ _)); refine blk_put (cs := #[.slice Ao27 x313000_1.length co27, .int .i64 x313001_1]) ?_ 0 _ rfl; (with_reducible repeat (first | refine zg0 ?_ _ | refine zi0 ?_ | refine zf0 ?_ _)); exact BK312.out) hg (Kd.R_ne HO_11.out BK312.out (by decide))); have n2_ := za0.mk (Kd.R_after (ok := (fun _ => True)) (by (with_reducible repeat (first | apply Kd.R_alloc | apply Kd.R_drewN | apply Kd.R_drew)); exact Kd.R_mono (Kd.R_far (p := ⟨gb312, 1, none⟩) (Kd.R_far (p := ⟨gb312, 0, none⟩) (Kd.R_types HO318.out BK312.out (by decide)) (fun _ hk => hk.2) (.slice Ao29 t316.length co29)) (fun _ hk => hk.2) (.int .i64 t319)) (fun _ hk => ⟨trivial, hk.1⟩)) hg hat); have n3_ := za0.mk (hb); have n4_ := za0.mk (ho); clear BK308; clear BK312; clear HO318; clear HB; clear HO_11; have BK308 := n0_; have BK312 := n1_; have HO318 := n2_; have HB := n3_; have HO323 := n4_; clear n0_ n1_ n2_ n3_ n4_; clear ho hb hg hat))
      go_roundg k1
      case measure => have := HK1.out; omega
      case rel => exact ⟨(y321), (t316), (t319), (.slice Ao29 t316.length co29), H', ⟨by have := HK1.out; omega⟩, ⟨by (with_reducible repeat (first | apply Kd.R_alloc | apply Kd.R_drewN | apply Kd.R_drew)); exact HO323.out⟩, ⟨by (with_reducible repeat (first | apply Kd.R_alloc | apply Kd.R_drewN | apply Kd.R_drew)); exact Kd.R_mono HO318.out (fun _ hk => hk.2)⟩, ⟨by (with_reducible repeat (first | refine zg0 ?_ _ | refine zi0 ?_ | refine zf0 ?_ _)); exact BK308.out⟩, ⟨by (with_reducible repeat (first | refine zg0 ?_ _ | refine zi0 ?_ | refine zf0 ?_ _)); exact BK312.out⟩, ⟨by repeat (first | (with_reducible first | exact HB.out | apply zc0 | apply zb0 | apply zd0 | refine ze0 ?_ GE308.out | refine ze0 ?_ GE312.out) | exact HB.out)⟩⟩
     ·rw [if_neg c22] at H
      exact absurd H (by simp)
def spec_ArrivalPath.f (k : Nat) (l0_0 : List (List Int)) (a1 : Int) (l2 : List Int) (a3 : Int) : Option (List Int × Bool) := (spec_acGood.f k l0_0 a1 l2).bind fun t361 => (if t361 = true then ((spec_grPlace.f k l0_0 a3).bind fun t362 => (if t362 = true then ((spec_acRun.f k l0_0 a1 l2 a3).bind fun bt363 => (some (bt363.2, decide ((bt363.2.length : Int) > 0)))) else (some (([] : List Int), false)))) else (some (([] : List Int), false)))
set_option maxHeartbeats 8000000 in
set_option maxRecDepth 100000 in
theorem spec_ArrivalPath.calls (k : Nat) (A0_0 : Option Addr) (c0_0 : Nat) (l0_0 : List (List Int)) (a1 : Int) (A2 : Option Addr) (c2 : Nat) (l2 : List Int) (a3 : Int) (r1 : List Int) (r2 : Bool) (w : World) (hr0_0 : Kd.C (Kd.slice 3 (Kd.int .i64)) w A0_0 l0_0.length l0_0) (hc0_0 : l0_0.length ≤ c0_0) (hr2 : Kd.C (Kd.int .i64) w A2 l2.length l2) (hc2 : l2.length ≤ c2) (h : spec_ArrivalPath.f k l0_0 a1 l2 a3 = some (r1, r2)) :
  Calls Try.prog 17 #[.agg #[.slice A0_0 l0_0.length c0_0], .int .i64 a1, .slice A2 l2.length c2, .int .i64 a3] w fun e w' => ∃ v0_ : Value, e = .returned (.tuple #[v0_, .bool r2]) ∧ Kd.R (Kd.int .i64) 3 w' w.heap.size (fun _ => True) v0_ r1 ∧ Below w.heap.size w w' := by
 have hu29 := Try.underlying29
 have HR0_0 := za0.mk hr0_0
 have HC0_0 := za0.mk hc0_0
 clear hr0_0 hc0_0
 have HR2 := za0.mk hr2
 have HC2 := za0.mk hc2
 clear hr2 hc2
 have HB := za0.mk (Below.refl w.heap.size w)
 have H : ((spec_acGood.f k l0_0 a1 l2).bind fun t361 => (if t361 = true then ((spec_grPlace.f k l0_0 a3).bind fun t362 => (if t362 = true then ((spec_acRun.f k l0_0 a1 l2 a3).bind fun bt363 => (some (bt363.2, decide ((bt363.2.length : Int) > 0)))) else (some (([] : List Int), false)))) else (some (([] : List Int), false)))) = some (r1, r2) := h
 clear h
 replace H := Option.bind_eq_some_iff.mp H
 obtain ⟨t361, A50, H⟩ := H
 replace H : (if t361 = true then ((spec_grPlace.f k l0_0 a3).bind fun t362 => (if t362 = true then ((spec_acRun.f k l0_0 a1 l2 a3).bind fun bt363 => (some (bt363.2, decide ((bt363.2.length : Int) > 0)))) else (some (([] : List Int), false)))) else (some (([] : List Int), false))) = some (r1, r2) := H
 have A5 := za0.mk A50
 clear A50
 by_cases c6 : t361 = true
 ·subst c6
  have H1 : ((spec_grPlace.f k l0_0 a3).bind fun t362 => (if t362 = true then ((spec_acRun.f k l0_0 a1 l2 a3).bind fun bt363 => (some (bt363.2, decide ((bt363.2.length : Int) > 0)))) else (some (([] : List Int), false)))) = some (r1, r2) := by rw [if_pos rfl] at H; exact H
  clear H
  have H := H1
  clear H1
  replace H := Option.bind_eq_some_iff.mp H
  obtain ⟨t362, A70, H⟩ := H
  replace H : (if t362 = true then ((spec_acRun.f k l0_0 a1 l2 a3).bind fun bt363 => (some (bt363.2, decide ((bt363.2.length : Int) > 0)))) else (some (([] : List Int), false))) = some (r1, r2) := H
  have A7 := za0.mk A70
  clear A70
  by_cases c8 : t362 = true
  ·subst c8
   have H1 : ((spec_acRun.f k l0_0 a1 l2 a3).bind fun bt363 => (some (bt363.2, decide ((bt363.2.length : Int) > 0)))) = some (r1, r2) := by rw [if_pos rfl] at H; exact H
   clear H
   have H := H1
   clear H1
   replace H := Option.bind_eq_some_iff.mp H
   obtain ⟨⟨t363, t366⟩, A90, H⟩ := H
   replace H : (some (t366, decide ((t366.length : Int) > 0))) = some (r1, r2) := H
   have A9 := za0.mk A90
   clear A90
   simp only [Option.some.injEq, Prod.mk.injEq] at H
   obtain ⟨rfl, rfl⟩ := H
   go_enter Try.func17, Try.ntmps17
   go_wp2_with (first | ((with_reducible refine zo0 (N := 4) rfl ?_); refine zp0 ?hg (N := 4) ?hd (cs := #[.slice A0_0 l0_0.length c0_0]) (t := 29) ?hr ?_; (case hd => rfl); (case hg => rfl); (case hr => first | (go_simp; done) | (go_simp; rfl)); intro gb360 hg w10 hbox hb; have n0_ := za0.mk (zh0 (by repeat (first | (with_reducible first | exact HB.out | apply zc0 | apply zb0 | apply zd0) | exact HB.out)) hb); have n1_ := za0.mk (hbox); have n2_ := za0.mk ((by rw [hg]; exact (zj0 (by repeat (first | (with_reducible first | exact HB.out | apply zc0 | apply zb0 | apply zd0) | exact HB.out))) : w.heap.size ≤ gb360)); have n3_ := za0.mk ((by rw [hg]; exact (zj0 (by repeat (first | (with_reducible first | exact HB.out | apply zc0 | apply zb0 | apply zd0) | exact HB.out))) : w.heap.size ≤ gb360)); clear HB; have HB := n0_; have BK360 := n1_; have GW360 := n2_; have GE360 := n3_; clear n0_ n1_ n2_ n3_; clear hb hbox hg; have hcz11_0 : w10.cell? ⟨gb360, 0, none⟩ = some (.slice A0_0 l0_0.length c0_0) := (zl0 BK360.out 0).trans rfl; have hfz11_0 := zk0 BK360.out 0) | ((with_reducible refine zn0 (f := 27) rfl ?_); refine goesL_ (some 15) rfl rfl Try.func27 (by kernel_rfl) rfl #[.agg #[.slice A0_0 l0_0.length c0_0], .int .i64 a1, .slice A2 l2.length c2] rfl (by (try simp only [List.map_toArray, List.map_cons, List.map_nil]); first | done | rfl | (simp only [List.length_drop, List.length_take]; rfl)) ?_; (with_reducible refine (spec_acGood.calls k _ _ l0_0 a1 _ _ l2 true _ ?side1 ?side2 ?side3 ?side4 A5.out).mono ?_); (case side1 => repeat (first | exact (Kd.C_below HR0_0.out HB.out) | (with_reducible refine Kd.C_alloc ?_ _) | (with_reducible refine Kd.C_drewN ?_ _) | (with_reducible refine Kd.C_drew ?_))); (case side2 => exact HC0_0.out); (case side3 => repeat (first | exact (Kd.C_below HR2.out HB.out) | (with_reducible refine Kd.C_alloc ?_ _) | (with_reducible refine Kd.C_drewN ?_ _) | (with_reducible refine Kd.C_drew ?_))); (case side4 => exact HC2.out); rintro e w12 ⟨rfl, hb⟩; refine ⟨_, rfl, ?_⟩; have n0_ := za0.mk (zm0 (g := gb360) (o := .cells #[.slice A0_0 l0_0.length c0_0] 29 (0, 0)) (by (with_reducible repeat (first | refine zg0 ?_ _ | refine zi0 ?_ | refine zf0 ?_ _)); exact BK360.out) hb); have n1_ := za0.mk (zh0 (by repeat (first | (with_reducible first | exact HB.out | apply zc0 | apply zb0 | apply zd0 | refine ze0 ?_ GE360.out) | exact HB.out)) hb); clear BK360; clear HB; have BK360 := n0_; have HB := n1_; clear n0_ n1_; (try clear hb); (try clear hb2); (try clear hk); (try clear hi); have hcz13_0 : w12.cell? ⟨gb360, 0, none⟩ = some (.slice A0_0 l0_0.length c0_0) := (zl0 BK360.out 0).trans rfl; have hfz13_0 := zk0 BK360.out 0) | (go_at_call 28; (with_reducible refine (spec_grPlace.calls k _ _ l0_0 a3 true _ ?side1 ?side2 A7.out).mono ?_); (case side1 => repeat (first | exact (Kd.C_below HR0_0.out HB.out) | (with_reducible refine Kd.C_alloc ?_ _) | (with_reducible refine Kd.C_drewN ?_ _) | (with_reducible refine Kd.C_drew ?_))); (case side2 => exact HC0_0.out); rintro e w14 ⟨rfl, hb⟩; have n0_ := za0.mk (zm0 (g := gb360) (o := .cells #[.slice A0_0 l0_0.length c0_0] 29 (0, 0)) (by (with_reducible repeat (first | refine zg0 ?_ _ | refine zi0 ?_ | refine zf0 ?_ _)); exact BK360.out) hb); have n1_ := za0.mk (zh0 (by repeat (first | (with_reducible first | exact HB.out | apply zc0 | apply zb0 | apply zd0 | refine ze0 ?_ GE360.out) | exact HB.out)) hb); clear BK360; clear HB; have BK360 := n0_; have HB := n1_; clear n0_ n1_; (try clear hb); (try clear hb2); (try clear hk); (try clear hi); have hcz15_0 : w14.cell? ⟨gb360, 0, none⟩ = some (.slice A0_0 l0_0.length c0_0) := (zl0 BK360.out 0).trans rfl; have hfz15_0 := zk0 BK360.out 0) | ((with_reducible refine zn0 (f := 29) rfl ?_); refine goesL_ (some 28) rfl rfl Try.func29 (by kernel_rfl) rfl #[.agg #[.slice A0_0 l0_0.length c0_0], .int .i64 a1, .slice A2 l2.length c2, .int .i64 a3] rfl (by (try simp only [List.map_toArray, List.map_cons, List.map_nil]); first | done | rfl | (simp only [List.length_drop, List.length_take]; rfl)) ?_; (with_reducible refine (spec_acRun.calls k _ _ l0_0 a1 _ _ l2 a3 t363 t366 _ ?side1 ?side2 ?side3 ?side4 A9.out).mono ?_); (case side1 => repeat (first | exact (Kd.C_below HR0_0.out HB.out) | (with_reducible refine Kd.C_alloc ?_ _) | (with_reducible refine Kd.C_drewN ?_ _) | (with_reducible refine Kd.C_drew ?_))); (case side2 => exact HC0_0.out); (case side3 => repeat (first | exact (Kd.C_below HR2.out HB.out) | (with_reducible refine Kd.C_alloc ?_ _) | (with_reducible refine Kd.C_drewN ?_ _) | (with_reducible refine Kd.C_drew ?_))); (case side4 => exact HC2.out); rintro e w16 ⟨v364, v367, rfl, ho0, ho1, hb⟩; refine ⟨_, rfl, ?_⟩; have n0_ := za0.mk (Kd.R_lower ho0 (zj0 (by repeat (first | (with_reducible first | exact HB.out | apply zc0 | apply zb0 | apply zd0 | refine ze0 ?_ GE360.out) | exact HB.out)))); have n1_ := za0.mk (Kd.R_lower ho1 (zj0 (by repeat (first | (with_reducible first | exact HB.out | apply zc0 | apply zb0 | apply zd0 | refine ze0 ?_ GE360.out) | exact HB.out)))); have n2_ := za0.mk (zm0 (g := gb360) (o := .cells #[.slice A0_0 l0_0.length c0_0] 29 (0, 0)) (by (with_reducible repeat (first | refine zg0 ?_ _ | refine zi0 ?_ | refine zf0 ?_ _)); exact BK360.out) hb); have n3_ := za0.mk (zh0 (by repeat (first | (with_reducible first | exact HB.out | apply zc0 | apply zb0 | apply zd0 | refine ze0 ?_ GE360.out) | exact HB.out)) hb); clear BK360; clear HB; have HO365 := n0_; have HO368 := n1_; have BK360 := n2_; have HB := n3_; clear n0_ n1_ n2_ n3_; (try clear hb); (try clear hb2); (try clear hk); (try clear hi); (try clear ho0); (try clear ho1); obtain ⟨Ao17, co17, eo17⟩ := Kd.R_slice HO368.out; subst eo17))
   go_ret2
   exact ⟨_, by first | rfl | (simp [errW_none, errW_some] <;> rfl) | (simp [*, errW_none, errW_some] <;> rfl), by (with_reducible repeat (first | apply Kd.R_alloc | apply Kd.R_drewN | apply Kd.R_drew)); exact Kd.R_mono HO368.out (fun _ hk => trivial), by repeat (first | (with_reducible first | exact HB.out | apply zc0 | apply zb0 | apply zd0 | refine ze0 ?_ GE360.out) | exact HB.out)⟩
  ·replace c8 := Bool.eq_false_iff.mpr c8
   subst c8
   have H1 : (some (([] : List Int), false)) = some (r1, r2) := by rw [if_neg (show ¬ (false = true) by decide)] at H; exact H
   clear H
   have H := H1
   clear H1
   simp only [Option.some.injEq, Prod.mk.injEq] at H
   obtain ⟨rfl, rfl⟩ := H
   go_enter Try.func17, Try.ntmps17
   go_wp2_with (first | ((with_reducible refine zo0 (N := 4) rfl ?_); refine zp0 ?hg (N := 4) ?hd (cs := #[.slice A0_0 l0_0.length c0_0]) (t := 29) ?hr ?_; (case hd => rfl); (case hg => rfl); (case hr => first | (go_simp; done) | (go_simp; rfl)); intro gb360 hg w18 hbox hb; have n0_ := za0.mk (zh0 (by repeat (first | (with_reducible first | exact HB.out | apply zc0 | apply zb0 | apply zd0) | exact HB.out)) hb); have n1_ := za0.mk (hbox); have n2_ := za0.mk ((by rw [hg]; exact (zj0 (by repeat (first | (with_reducible first | exact HB.out | apply zc0 | apply zb0 | apply zd0) | exact HB.out))) : w.heap.size ≤ gb360)); have n3_ := za0.mk ((by rw [hg]; exact (zj0 (by repeat (first | (with_reducible first | exact HB.out | apply zc0 | apply zb0 | apply zd0) | exact HB.out))) : w.heap.size ≤ gb360)); clear HB; have HB := n0_; have BK360 := n1_; have GW360 := n2_; have GE360 := n3_; clear n0_ n1_ n2_ n3_; clear hb hbox hg; have hcz19_0 : w18.cell? ⟨gb360, 0, none⟩ = some (.slice A0_0 l0_0.length c0_0) := (zl0 BK360.out 0).trans rfl; have hfz19_0 := zk0 BK360.out 0) | ((with_reducible refine zn0 (f := 27) rfl ?_); refine goesL_ (some 15) rfl rfl Try.func27 (by kernel_rfl) rfl #[.agg #[.slice A0_0 l0_0.length c0_0], .int .i64 a1, .slice A2 l2.length c2] rfl (by (try simp only [List.map_toArray, List.map_cons, List.map_nil]); first | done | rfl | (simp only [List.length_drop, List.length_take]; rfl)) ?_; (with_reducible refine (spec_acGood.calls k _ _ l0_0 a1 _ _ l2 true _ ?side1 ?side2 ?side3 ?side4 A5.out).mono ?_); (case side1 => repeat (first | exact (Kd.C_below HR0_0.out HB.out) | (with_reducible refine Kd.C_alloc ?_ _) | (with_reducible refine Kd.C_drewN ?_ _) | (with_reducible refine Kd.C_drew ?_))); (case side2 => exact HC0_0.out); (case side3 => repeat (first | exact (Kd.C_below HR2.out HB.out) | (with_reducible refine Kd.C_alloc ?_ _) | (with_reducible refine Kd.C_drewN ?_ _) | (with_reducible refine Kd.C_drew ?_))); (case side4 => exact HC2.out); rintro e w20 ⟨rfl, hb⟩; refine ⟨_, rfl, ?_⟩; have n0_ := za0.mk (zm0 (g := gb360) (o := .cells #[.slice A0_0 l0_0.length c0_0] 29 (0, 0)) (by (with_reducible repeat (first | refine zg0 ?_ _ | refine zi0 ?_ | refine zf0 ?_ _)); exact BK360.out) hb); have n1_ := za0.mk (zh0 (by repeat (first | (with_reducible first | exact HB.out | apply zc0 | apply zb0 | apply zd0 | refine ze0 ?_ GE360.out) | exact HB.out)) hb); clear BK360; clear HB; have BK360 := n0_; have HB := n1_; clear n0_ n1_; (try clear hb); (try clear hb2); (try clear hk); (try clear hi); have hcz21_0 : w20.cell? ⟨gb360, 0, none⟩ = some (.slice A0_0 l0_0.length c0_0) := (zl0 BK360.out 0).trans rfl; have hfz21_0 := zk0 BK360.out 0) | (go_at_call 28; (with_reducible refine (spec_grPlace.calls k _ _ l0_0 a3 false _ ?side1 ?side2 A7.out).mono ?_); (case side1 => repeat (first | exact (Kd.C_below HR0_0.out HB.out) | (with_reducible refine Kd.C_alloc ?_ _) | (with_reducible refine Kd.C_drewN ?_ _) | (with_reducible refine Kd.C_drew ?_))); (case side2 => exact HC0_0.out); rintro e w22 ⟨rfl, hb⟩; have n0_ := za0.mk (zm0 (g := gb360) (o := .cells #[.slice A0_0 l0_0.length c0_0] 29 (0, 0)) (by (with_reducible repeat (first | refine zg0 ?_ _ | refine zi0 ?_ | refine zf0 ?_ _)); exact BK360.out) hb); have n1_ := za0.mk (zh0 (by repeat (first | (with_reducible first | exact HB.out | apply zc0 | apply zb0 | apply zd0 | refine ze0 ?_ GE360.out) | exact HB.out)) hb); clear BK360; clear HB; have BK360 := n0_; have HB := n1_; clear n0_ n1_; (try clear hb); (try clear hb2); (try clear hk); (try clear hi)))
   go_ret2
   exact ⟨_, by first | rfl | (simp [errW_none, errW_some] <;> rfl) | (simp [*, errW_none, errW_some] <;> rfl), by first | exact Kd.R_nil _ _ _ _ _ | exact Kd.N_nil _ _ _ _ _ | exact Kd.V_nil _ _ _ _ _ | exact Kd.Q_nil _ _ _ _ _ | exact Kd.S_nil _ _ _ _ _, by repeat (first | (with_reducible first | exact HB.out | apply zc0 | apply zb0 | apply zd0 | refine ze0 ?_ GE360.out) | exact HB.out)⟩
 ·replace c6 := Bool.eq_false_iff.mpr c6
  subst c6
  have H1 : (some (([] : List Int), false)) = some (r1, r2) := by rw [if_neg (show ¬ (false = true) by decide)] at H; exact H
  clear H
  have H := H1
  clear H1
  simp only [Option.some.injEq, Prod.mk.injEq] at H
  obtain ⟨rfl, rfl⟩ := H
  go_enter Try.func17, Try.ntmps17
  go_wp2_with (first | ((with_reducible refine zo0 (N := 4) rfl ?_); refine zp0 ?hg (N := 4) ?hd (cs := #[.slice A0_0 l0_0.length c0_0]) (t := 29) ?hr ?_; (case hd => rfl); (case hg => rfl); (case hr => first | (go_simp; done) | (go_simp; rfl)); intro gb360 hg w23 hbox hb; have n0_ := za0.mk (zh0 (by repeat (first | (with_reducible first | exact HB.out | apply zc0 | apply zb0 | apply zd0) | exact HB.out)) hb); have n1_ := za0.mk (hbox); have n2_ := za0.mk ((by rw [hg]; exact (zj0 (by repeat (first | (with_reducible first | exact HB.out | apply zc0 | apply zb0 | apply zd0) | exact HB.out))) : w.heap.size ≤ gb360)); have n3_ := za0.mk ((by rw [hg]; exact (zj0 (by repeat (first | (with_reducible first | exact HB.out | apply zc0 | apply zb0 | apply zd0) | exact HB.out))) : w.heap.size ≤ gb360)); clear HB; have HB := n0_; have BK360 := n1_; have GW360 := n2_; have GE360 := n3_; clear n0_ n1_ n2_ n3_; clear hb hbox hg; have hcz24_0 : w23.cell? ⟨gb360, 0, none⟩ = some (.slice A0_0 l0_0.length c0_0) := (zl0 BK360.out 0).trans rfl; have hfz24_0 := zk0 BK360.out 0) | ((with_reducible refine zn0 (f := 27) rfl ?_); refine goesL_ (some 15) rfl rfl Try.func27 (by kernel_rfl) rfl #[.agg #[.slice A0_0 l0_0.length c0_0], .int .i64 a1, .slice A2 l2.length c2] rfl (by (try simp only [List.map_toArray, List.map_cons, List.map_nil]); first | done | rfl | (simp only [List.length_drop, List.length_take]; rfl)) ?_; (with_reducible refine (spec_acGood.calls k _ _ l0_0 a1 _ _ l2 false _ ?side1 ?side2 ?side3 ?side4 A5.out).mono ?_); (case side1 => repeat (first | exact (Kd.C_below HR0_0.out HB.out) | (with_reducible refine Kd.C_alloc ?_ _) | (with_reducible refine Kd.C_drewN ?_ _) | (with_reducible refine Kd.C_drew ?_))); (case side2 => exact HC0_0.out); (case side3 => repeat (first | exact (Kd.C_below HR2.out HB.out) | (with_reducible refine Kd.C_alloc ?_ _) | (with_reducible refine Kd.C_drewN ?_ _) | (with_reducible refine Kd.C_drew ?_))); (case side4 => exact HC2.out); rintro e w25 ⟨rfl, hb⟩; refine ⟨_, rfl, ?_⟩; have n0_ := za0.mk (zm0 (g := gb360) (o := .cells #[.slice A0_0 l0_0.length c0_0] 29 (0, 0)) (by (with_reducible repeat (first | refine zg0 ?_ _ | refine zi0 ?_ | refine zf0 ?_ _)); exact BK360.out) hb); have n1_ := za0.mk (zh0 (by repeat (first | (with_reducible first | exact HB.out | apply zc0 | apply zb0 | apply zd0 | refine ze0 ?_ GE360.out) | exact HB.out)) hb); clear BK360; clear HB; have BK360 := n0_; have HB := n1_; clear n0_ n1_; (try clear hb); (try clear hb2); (try clear hk); (try clear hi)))
  go_ret2
  exact ⟨_, by first | rfl | (simp [errW_none, errW_some] <;> rfl) | (simp [*, errW_none, errW_some] <;> rfl), by first | exact Kd.R_nil _ _ _ _ _ | exact Kd.N_nil _ _ _ _ _ | exact Kd.V_nil _ _ _ _ _ | exact Kd.Q_nil _ _ _ _ _ | exact Kd.S_nil _ _ _ _ _, by repeat (first | (with_reducible first | exact HB.out | apply zc0 | apply zb0 | apply zd0 | refine ze0 ?_ GE360.out) | exact HB.out)⟩
end Go.Proofs.Ytlbgajpbdbgmkaa.P
namespace Go.Proofs.Ytlbgajpbdbgmkaa.In
open Go.RowKit Go.Proofs.YtlbgajpbdbgmkaaW.PrintWords Go.Proofs.YtlbgajpbdbgmkaaW.PrintLast Go.Proofs.YtlbgajpbdbgmkaaW.PrintMore
set_option linter.unusedVariables false
theorem in_ints {w : World} {A : Option Addr} {L C : Nat} {zs : List Int} (hl : L ≤ C) (hm : C ≤ maxLen) (hz : zs.length = C) (hn : A = none → C = 0) (hc : ∀ a', A = some a' → ∀ c, c < C → w.cell? (a'.add c) = some (.int .i64 (zs.getD c 0))) :
  Kd.C (Kd.int .i64) w A (zs.take L).length (zs.take L) := by
 have hlen : (zs.take L).length = L := by rw [List.length_take]; omega
 refine ⟨rfl, by rw [hlen]; unfold maxLen at hm; omega, fun h => ?_⟩
 rw [hlen] at h
 cases A with
 | none => have := hn rfl; omega
 | some a =>
  refine ⟨a, rfl, fun j p hj => ⟨[.int .i64 p], rfl, rfl, fun i u hi => ?_⟩⟩
  have hi0 : i = 0 := by
   cases i with
   | zero => rfl
   | succ i => simp at hi
  subst hi0
  obtain rfl := Option.some.inj hi
  show w.cell? (a.add (j * 1 + 0)) = _
  rw [List.getElem?_take] at hj
  split at hj
  ·rename_i hjl
   have h2 : zs.getD j 0 = p := by rw [List.getD_eq_getElem?_getD, hj]; rfl
   rw [Nat.mul_one, Nat.add_zero, hc a rfl j (by omega), h2]
  ·cases hj
theorem in_rows {w : World} {q : Nat} {a : Addr} {len cap : Nat} {A : Nat → Option Addr} {L C : Nat → Nat} {Z : Nat → List Int} (hl : len ≤ cap) (hm : cap ≤ maxLen)
  (h : ∀ r, r < cap → w.cell? (a.add r) = some (.slice (A r) (L r) (C r)) ∧ L r ≤ C r ∧ C r ≤ maxLen ∧ (Z r).length = C r ∧ (∀ n ∈ Z r, (Lit.int .i64 n).wf = true) ∧ (A r = none → C r = 0) ∧ ∀ a', A r = some a' → ∀ c, c < C r → w.cell? (a'.add c) = some (.int .i64 ((Z r).getD c 0))) :
  ∃ ll : List (List Int), len = ll.length ∧ Kd.C (Kd.slice q (Kd.int .i64)) w (some a) ll.length ll ∧ (∀ row ∈ ll, row.length ≤ maxLen ∧ ∀ x ∈ row, (Lit.int .i64 x).wf = true) := by
 refine ⟨(List.range len).map fun r => (Z r).take (L r), by simp, ⟨by simp, by simp; unfold maxLen at hm; omega, fun _ => ⟨a, rfl, fun j p hj => ?_⟩⟩, fun row hrow => ?_⟩
 ·rw [List.getElem?_map] at hj
  have hjl : j < len := by
   rcases Nat.lt_or_ge j len with h1 | h1
   ·exact h1
   ·rw [List.getElem?_eq_none (by simpa using h1)] at hj; cases hj
  rw [List.getElem?_range hjl] at hj
  simp at hj
  subst hj
  obtain ⟨h1, h2, h3, h4, h5, h6, h7⟩ := h j (by omega)
  have hlen : ((Z j).take (L j)).length = L j := by rw [List.length_take]; omega
  refine ⟨[.slice (A j) ((Z j).take (L j)).length (C j)], rfl, ⟨A j, C j, rfl, by omega, in_ints h2 h3 h4 h6 h7⟩, fun i u hi => ?_⟩
  have hi0 : i = 0 := by
   cases i with
   | zero => rfl
   | succ i => simp at hi
  subst hi0
  obtain rfl := Option.some.inj hi
  show w.cell? (a.add (j * 1 + 0)) = _
  rw [Nat.mul_one, Nat.add_zero, h1, hlen]
 ·simp only [List.mem_map, List.mem_range] at hrow
  obtain ⟨r, hr, rfl⟩ := hrow
  obtain ⟨h1, h2, h3, h4, h5, h6, h7⟩ := h r (by omega)
  exact ⟨by rw [List.length_take]; omega, fun x hx => h5 x (List.mem_of_mem_take hx)⟩
section
variable {H : Type} {enc : TypeId × Value → H} {P : Program} {w : World} {base : Nat} {held : Bool}
open Go.ChangeShapes Go.WideShapes Go.Deep in
theorem in_rows_cell {t e q : TypeId} {fuel : Nat} {cs : List Value} {x : DataW H × List MemPlace} (ht : P.underlying t = some (.slice e)) (he : P.underlying e = some (.slice q)) (hq : P.underlying q = some (.int .i64))
  (ce : P.cellsOf e = 1) (cq : P.cellsOf q = 1) (h : DataW.trod enc P w base (fun _ => true) held fuel t cs = some x) :
  ∃ (A : Option Addr) (ll : List (List Int)) (cap : Nat), cs = [.slice A ll.length cap] ∧ ll.length ≤ cap ∧ Kd.C (Kd.slice q (Kd.int .i64)) w A ll.length ll ∧ (∀ row ∈ ll, row.length ≤ maxLen ∧ ∀ x ∈ row, (Lit.int .i64 x).wf = true) := by
 rcases open_int_rows ht he hq ce cq h with ⟨rfl, _⟩ | ⟨a, len, cap, A, L, C, Z, rfl, _, hl, hm, _, hr⟩
 ·exact ⟨none, [], 0, rfl, Nat.le_refl _, Kd.C_nil _ _, by simp⟩
 ·obtain ⟨ll, rfl, hc, hw⟩ := in_rows (q := q) hl hm (fun r hr' => by
   obtain ⟨h1, h2, h3, h4, h5, h6, h7⟩ := hr r hr'
   exact ⟨h1, h2, h3, h4, h5, h6, fun a' ha c hc => (h7 a' ha).2 c hc⟩)
  exact ⟨some a, ll, cap, rfl, hl, hc, hw⟩
open Go.ChangeShapes Go.WideShapes Go.Deep in
theorem in_ints_cell {t q : TypeId} {fuel : Nat} {cs : List Value} {x : DataW H × List MemPlace} (ht : P.underlying t = some (.slice q)) (hq : P.underlying q = some (.int .i64))
  (cq : P.cellsOf q = 1) (h : DataW.trod enc P w base (fun _ => true) held fuel t cs = some x) :
  ∃ (A : Option Addr) (l : List Int) (cap : Nat), cs = [.slice A l.length cap] ∧ l.length ≤ cap ∧ Kd.C (Kd.int .i64) w A l.length l ∧ (l.length ≤ maxLen ∧ ∀ x ∈ l, (Lit.int .i64 x).wf = true) := by
 rcases open_ints ht hq cq h with ⟨rfl, _⟩ | ⟨a, len, cap, zs, rfl, _, hl, hm, hz, _, hc, hw⟩
 ·exact ⟨none, [], 0, rfl, Nat.le_refl _, Kd.C_nil _ _, by simp⟩
 ·simp only [if_true] at hz
  have hlen : (zs.take len).length = len := by rw [List.length_take]; omega
  refine ⟨some a, zs.take len, cap, by rw [hlen], by omega, in_ints hl hm hz (fun e => by cases e) (fun a' e c hlt => by cases e; exact hc c (by omega)), by omega, fun x hx => hw x (List.mem_of_mem_take hx)⟩
theorem array1 {α : Type} {cs : Array α} (h : cs.size = 1) : ∃ c0, cs = #[c0] := by
 obtain ⟨l⟩ := cs
 match l, h with
 | [c0], _ => exact ⟨c0, rfl⟩
open Go.ChangeShapes Go.WideShapes Go.Deep in
theorem in_graph {r : Reach} {b0 : Nat} {t ts te q : TypeId} {f0 : Field} {v : Value} {d : DataW H} {p : List MemPlace} (hs : P.underlying t = some (.struct #[f0])) (hone : oneCellFields P #[f0] = true) (hC : P.cellsOf t = 1) (hf0 : f0.type = ts)
  (ht : P.underlying ts = some (.slice te)) (he : P.underlying te = some (.slice q)) (hq : P.underlying q = some (.int .i64)) (ce : P.cellsOf te = 1) (cq : P.cellsOf q = 1) (hv : Value.okWide P w r b0 t v) (h : DataW.Trod enc P w base (fun _ => true) held t v d p) :
  ∃ (A : Option Addr) (ll : List (List Int)) (cap : Nat), v = .agg #[.slice A ll.length cap] ∧ ll.length ≤ cap ∧ Kd.C (Kd.slice q (Kd.int .i64)) w A ll.length ll ∧ (∀ row ∈ ll, row.length ≤ maxLen ∧ ∀ x ∈ row, (Lit.int .i64 x).wf = true) := by
 subst hf0
 obtain ⟨cs, rfl, hsz⟩ := okWide_struct hs hv
 obtain ⟨c0, rfl⟩ := array1 (hsz.trans hC)
 obtain ⟨fuel, hf⟩ := h
 obtain ⟨y0, n, hx, _, h0⟩ := trod_struct1 hs hf
 obtain ⟨o0, k0⟩ := hone_of hone 0 f0 rfl
 obtain ⟨A, ll, cap, hcs, h1, h2, h3⟩ := in_rows_cell ht he hq ce cq h0
 simp [Value.cells, o0, k0] at hcs
 subst hcs
 exact ⟨A, ll, cap, rfl, h1, h2, h3⟩
end
section
variable {H : Type} {enc : TypeId × Value → H} {P : Program} {w : World} {base : Nat} {held : Bool}
open Go.ChangeShapes Go.WideShapes Go.Deep in
open Go.ChangeShapes Go.WideShapes Go.Deep in
open Go.ChangeShapes Go.WideShapes Go.Deep in
theorem in_slice {r : Reach} {b0 : Nat} {t q : TypeId} {v : Value} {d : DataW H} {p : List MemPlace} (ht : P.underlying t = some (.slice q)) (hq : P.underlying q = some (.int .i64)) (cq : P.cellsOf q = 1) (hv : Value.okWide P w r b0 t v) (h : DataW.Trod enc P w base (fun _ => true) held t v d p) :
  ∃ (A : Option Addr) (l : List Int) (cap : Nat), v = .slice A l.length cap ∧ l.length ≤ cap ∧ Kd.C (Kd.int .i64) w A l.length l ∧ (l.length ≤ maxLen ∧ ∀ y ∈ l, (Lit.int .i64 y).wf = true) := by
 obtain ⟨A0, n0, c0, rfl⟩ := okWide_slice ht hv
 obtain ⟨fuel, hf⟩ := h
 obtain ⟨A, l, cap, hcs, hl, hc, hw⟩ := in_ints_cell ht hq cq hf
 simp [Value.cells] at hcs
 obtain ⟨rfl, rfl, rfl⟩ := hcs
 exact ⟨_, l, _, rfl, hl, hc, hw⟩
open Go.ChangeShapes Go.WideShapes Go.Deep in
end
def okI (x : Int) : Prop := -9223372036854775808 ≤ x ∧ x ≤ 9223372036854775807
def okIs (l : List Int) : Prop := l.length ≤ 9223372036854775807 ∧ ∀ x ∈ l, okI x
def okSS (ll : List (List Int)) : Prop := ll.length ≤ 9223372036854775807 ∧ ∀ row ∈ ll, okIs row
theorem okI_wf {x : Int} (h : (Lit.int .i64 x).wf = true) : okI x := by
 simp only [Lit.wf, Bool.and_eq_true, decide_eq_true_eq] at h
 exact h
theorem okIs_wf {l : List Int} (h : l.length ≤ maxLen ∧ ∀ x ∈ l, (Lit.int .i64 x).wf = true) : okIs l := ⟨h.1, fun x hx => okI_wf (h.2 x hx)⟩
theorem okSS_wf {w : World} {q : Nat} {A : Option Addr} {ll : List (List Int)} (hc : Kd.C (Kd.slice q (Kd.int .i64)) w A ll.length ll) (h : ∀ row ∈ ll, row.length ≤ maxLen ∧ ∀ x ∈ row, (Lit.int .i64 x).wf = true) : okSS ll := ⟨hc.2.1, fun row hr => okIs_wf (h row hr)⟩
end Go.Proofs.Ytlbgajpbdbgmkaa.In
namespace Go.Proofs.Ytlbgajpbdbgmkaa.M
open Go.RowKit Go.Proofs.Ytlbgajpbdbgmkaa.P Go.Proofs.Ytlbgajpbdbgmkaa.In Go.Proofs.YtlbgajpbdbgmkaaW.PrintWords Go.Proofs.YtlbgajpbdbgmkaaW.PrintLast
set_option linter.unusedVariables false
set_option linter.unusedSimpArgs false
theorem ev_kept {w wc W w' : World} {S : Nat → Prop} {s : Nat} (hs : s ≤ wc.heap.size) (hB : Below w.heap.size w wc) (hb : Below W.heap.size W w') (hk : Kept wc W S) : Kept wc w' S ∧ s ≤ W.heap.size ∧ W.heap.size ≤ w'.heap.size ∧ w.heap.size ≤ W.heap.size :=
 ⟨hk.below hb, Nat.le_trans hs hk.1, hb.size, Nat.le_trans hB.size hk.1⟩
theorem ev_mark {wc W w' : World} {S : Nat → Prop} {s : Nat} (hs : s ≤ wc.heap.size) (hm : Kept W w' S) (hk : Kept wc W S) : Kept wc w' S ∧ s ≤ w'.heap.size :=
 ⟨hk.then_ hm (fun _ h => .inl h), Nat.le_trans hs (Nat.le_trans hk.1 hm.1)⟩
theorem S_new {α : Type} {d : Kd α} {e : Nat} {W w' : World} {v : Value} {r : List α} {b0 s : Nat} (h : Kd.S d e w' W.heap.size (fun _ => True) v r) (hb : W.heap.size ≤ w'.heap.size) (h0 : b0 ≤ W.heap.size) (hs : s ≤ W.heap.size) :
  ∃ lo hi, s ≤ lo ∧ lo ≤ hi ∧ hi ≤ w'.heap.size ∧ Kd.S d e w' b0 (fun k => lo ≤ k ∧ k < hi) v r :=
 ⟨W.heap.size, w'.heap.size, hs, hb, Nat.le_refl _, Kd.S_lower (Kd.S_mono (Kd.S_bound h) (fun _ hk => ⟨hk.2.1, hk.2.2.1⟩)) h0⟩
theorem R_new {α : Type} {d : Kd α} {e : Nat} {W w' : World} {v : Value} {r : List α} {b0 s : Nat} (h : Kd.R d e w' W.heap.size (fun _ => True) v r) (hb : W.heap.size ≤ w'.heap.size) (h0 : b0 ≤ W.heap.size) (hs : s ≤ W.heap.size) :
  ∃ lo hi, s ≤ lo ∧ lo ≤ hi ∧ hi ≤ w'.heap.size ∧ Kd.R d e w' b0 (fun k => lo ≤ k ∧ k < hi) v r :=
 ⟨W.heap.size, w'.heap.size, hs, hb, Nat.le_refl _, Kd.R_lower (Kd.R_mono (Kd.R_bound h) (fun _ hk => ⟨hk.2.1, hk.2.2.1⟩)) h0⟩
theorem S_now {α : Type} {d : Kd α} {e base : Nat} {wc W : World} {ok S : Nat → Prop} {A : Option Addr} {c : Nat} {xs : List α} (h : Kd.S d e wc base ok (.slice A xs.length c) xs) (hk : Kept wc W S) (hne : ∀ k, ok k → ¬ S k) : Kd.C d W A xs.length xs :=
 (Kd.S_reads' (Kd.S_kept h hk hne)).2.2
theorem R_now {α : Type} {d : Kd α} {e base : Nat} {wc W : World} {ok S : Nat → Prop} {A : Option Addr} {c : Nat} {xs : List α} (h : Kd.R d e wc base ok (.slice A xs.length c) xs) (hk : Kept wc W S) (hne : ∀ k, ok k → ¬ S k) : Kd.C d W A xs.length xs :=
 (Kd.R_reads' (Kd.R_kept h hk hne)).2.2
theorem F_at {α : Type} {d : Kd α} {wc W : World} {ok S : Nat → Prop} {A : Option Addr} {n : Nat} {xs : List α} (h : Kd.F d wc ok A n xs) (hk : Kept wc W S) (hne : ∀ k, ok k → ¬ S k) : Kd.C d W A n xs :=
 Kd.F_now (Kd.F_kept h hk hne)
theorem box_in {w : World} {g : Nat} {o : Obj} (h : w.heap[g]? = some o) : g + 1 ≤ w.heap.size := blk_lt h
theorem calls_len {P : Program} {n : FuncId} {args args' : Array Value} {w : World} {Q : Ending → World → Prop} (e : args = args') (h : Calls P n args' w Q) : Calls P n args w Q := e ▸ h
end Go.Proofs.Ytlbgajpbdbgmkaa.M
