/- Texts of this session on the way to the law FnRecurrentHeaps, part 2: words of the print, walks, plain laws; only what the law's proof uses. -/
import Derived.Test.YtdfabioienofhaaProg
import Derived.Below
import Derived.Deep.Draws
import Derived.Deep.AppendLies
import Derived.Maps.AppendAt
import Derived.OwnWalk
import Derived.Laws.BytesArg
import Derived.Laws.MakeOwn
import Derived.Laws.OwnMore
import Derived.Deep.OwnRows
import Derived.Tactics
import Derived.Lib.ConvBytes
import Derived.Laws.Slices
import Derived.WalkKit
import Derived.KernelRfl
import Derived.RowKit3
import Derived.Deep.LoopGhost
import Derived.Deep.QuietTactic
import Derived.BigQuiet
import Derived.WideLaws
import Derived.Deep.DeepCutAuto
import Derived.Deep.CutBlock
import Derived.Deep.RegionHeld3
import Derived.Laws.Rows
import Derived.Lib.AppendStr
import Derived.ArgAppend
import Derived.Laws.IdiomCopy
import Derived.OrdersHeld
import Derived.Laws.BitsLemmas
import Derived.RowKit
import Derived.WalkSpells
import Derived.Laws.CopyOwn
import Derived.Deep.RegionLaw
import Derived.StillTailTactics
import Derived.Test.YtdfabioienofhaaCFnRecurrentHeapsa
namespace Go.Proofs.Ytdfabioienofhaa.P
set_option maxHeartbeats 8000000
set_option maxRecDepth 100000
open Go.RowKit Go.Proofs.YtdfabioienofhaaW.PrintWords Go.Proofs.YtdfabioienofhaaW.PrintLast Go.Proofs.YtdfabioienofhaaW.PrintMore
attribute [local go_sem] zr0 zp0 zw0 zv0 zn0 zo0 zq0 zs0
set_option linter.unusedVariables false
set_option linter.unusedSimpArgs false
theorem info3 : (Try.prog.info? 3).map (fun i => (i.zero, i.size, i.bytes)) = some (some (.int .i64 0), 1, 8) := by kernel_rfl
theorem info27 : (Try.prog.info? 27).map (fun i => (i.zero, i.size, i.bytes)) = some (some (.slice none 0 0), 1, 24) := by kernel_rfl
def rd_L2 (xs : List (List Int)) (i : Int) : (List Int) := xs.getD i.toNat ([] : List Int)
theorem at_L2 {w : World} {A : Option Addr} {n : Nat} {xs : List (List Int)} (h : Kd.C (Kd.slice 3 (Kd.int .i64)) w A n xs) (i : Int) (h0 : 0 ≤ i) (h1 : i < n) : ∃ ad A0 c0, A = some ad ∧ w.cell? (ad.add i.toNat) = some (.slice A0 (rd_L2 xs i).length c0) ∧ (rd_L2 xs i).length ≤ c0 ∧ (Kd.int .i64).C w A0 (rd_L2 xs i).length (rd_L2 xs i) := by
 obtain ⟨ad, c, e, _, hK, hc0⟩ := Kd.C_get h ([] : List Int) i h0 h1
 have hc : ∀ j u, c[j]? = some u → w.cell? (ad.add (i.toNat * 1 + j)) = some u := hc0
 obtain ⟨A0, c0, rfl, l0, g0⟩ := hK
 exact ⟨ad, A0, c0, e, by have hq := hc 0 _ rfl; rwa [Nat.mul_one, Nat.add_zero] at hq, l0, g0⟩
theorem kept_L2 {w W : World} {S : Nat → Prop} {A : Option Addr} {n : Nat} {xs : List (List Int)} (h : ∀ W_, Kept w W_ S → Kd.C (Kd.slice 3 (Kd.int .i64)) W_ A n xs) (hk : Kept w W S) (i : Int) (h0 : 0 ≤ i) (h1 : i < n) : ∃ ad A0 c0, A = some ad ∧ W.cell? (ad.add i.toNat) = some (.slice A0 (rd_L2 xs i).length c0) ∧ (rd_L2 xs i).length ≤ c0 ∧ ∀ W_, Kept w W_ S → (Kd.int .i64).C W_ A0 (rd_L2 xs i).length (rd_L2 xs i) := by
 obtain ⟨ad, A0, c0, e, hc, hl, _⟩ := at_L2 (h w (Kept.refl w S)) i h0 h1
 have hns : ¬ S (ad.add i.toNat).block := fun hS => by
  have hb : (ad.add i.toNat).block = ad.block := by rw [add_block]
  have hkk : Kept w { w with heap := w.heap.setIfInBounds ad.block (.cells #[] 0) } S := ⟨by simp, fun j hj hn => by
   have : ad.block ≠ j := fun e2 => hn (by rw [← e2, ← hb]; exact hS)
   simp [Array.getElem?_setIfInBounds, this]⟩
  obtain ⟨ad2, A2, c2, e2, hc2, _⟩ := at_L2 (h _ hkk) i h0 h1
  rw [e] at e2; injection e2 with e2; subst e2
  have hlt : ad.block < w.heap.size := by have := World.block_lt_of_cell? _ _ hc; rwa [hb] at this
  simp only [World.cell?, hb] at hc2
  simp [Array.getElem?_setIfInBounds, hlt] at hc2
 have hcell : ∀ W_, Kept w W_ S → W_.cell? (ad.add i.toNat) = some (.slice A0 (rd_L2 xs i).length c0) := fun W_ hk_ => cell_kept hc hk_ hns
 refine ⟨ad, A0, c0, e, hcell W hk, hl, fun W_ hk_ => ?_⟩
 obtain ⟨ad2, A2, c2, e2, hc2, _, hC⟩ := at_L2 (h W_ hk_) i h0 h1
 rw [e] at e2; injection e2 with e2; subst e2
 have := (hcell W_ hk_).symm.trans hc2
 injection this with this; injection this with this _ _
 rw [this]; exact hC
section
variable {α : Type} {d : Kd α} {t b : Nat} {w W W' : World} {ok : Nat → Prop} {v : Value} {xs : List α}
theorem hqB (h : Below b w W) (e : W' = { W with drawn := W'.drawn } := by rfl) : Below b w W' := by rw [e]; exact ⟨h.os, h.tape, h.output, h.size, h.block⟩
theorem hqZ {u : Prop} (h : u) : zg0 u := ⟨h⟩
theorem hqa {α β : Type} {f : α → β} {l : List α} : l.toArray.map f = (l.map f).toArray := List.map_toArray ..
theorem hqb {α β : Type} {f : α → β} {a : α} {l : List α} : (a :: l).map f = f a :: l.map f := rfl
theorem hqc {α β : Type} {f : α → β} : ([] : List α).map f = [] := rfl
end
theorem zM {P : Program} {ops : Array Oper} {Q : Exit → Act → World → Prop} {rest : List Oper} {oi : Oper} {a : Act} {w : World} (N : Option Tmp) {f : FuncId} {fn : Func} (hf : P.funcs[f]? = some fn) (args : Array Value) {asv : Array Operand} {ts : Array TypeId} (h : Calls P f args w fun e w' => ∃ v, e = .returned v ∧ wpList P ops Q rest (a.put N v) w') (hd : oi.dst = N := by rfl) (hg : oi.guard = none := by rfl) (hname : (fn.name == "runtime.NumGoroutine") = false := by kernel_rfl) (hb : fn.body.isSome = true := by rfl) (hop : oi.op = .call { callee := .value (.func f), args := asv, argTypes := ts } := by rfl) (hargs : asv.map a.eval = args := by simp only [hqa, hqb, hqc]; rfl) : wpList P ops Q (oi :: rest) a w := goesL_ N hd hg hf hname hb args hop hargs h
theorem oA {p : Prop} [Decidable p] (h : decide p = true := by assumption) : p := of_decide_eq_true h
def ye2.f (l0 : List Int) (l1 : List Int) : Option (Bool) := if (l0.length : Int) > 1048576 then (some true) else (some (decide ((l1.length : Int) > (wrap64 (1048576 - (l0.length : Int))))))
theorem ye2.calls (A0 : Option Addr) (c0 : Nat) (l0 : List Int) (A1 : Option Addr) (c1 : Nat) (l1 : List Int) (r : Bool) (w : World) (hr0 : Kd.C (Kd.int .u8) w A0 l0.length l0) (hc0 : l0.length ≤ c0) (hr1 : Kd.C (Kd.int .u8) w A1 l1.length l1) (hc1 : l1.length ≤ c1) (h : ye2.f l0 l1 = some r) :
  Calls Try.prog 5 #[.slice A0 l0.length c0, .slice A1 l1.length c1] w fun e w' => e = .returned (.bool r) ∧ Drawn0 w w' := by
 have uU := hqZ hr0
 have HC0 := hqZ hc0
 clear hr0 hc0
 have Ue := hqZ hr1
 have HC1 := hqZ hc1
 clear hr1 hc1
 have H : (if (l0.length : Int) > 1048576 then (some true) else (some (decide ((l1.length : Int) > (wrap64 (1048576 - (l0.length : Int))))))) = some r := h
 clear h
 by_cases c3 : (l0.length : Int) > 1048576
 ·rw [if_pos c3] at H
  have c3b0 : decide (1048576 < (l0.length : Int)) = true := decide_eq_true c3
  have c3b1 : decide (1048576 < l0.length) = true := decide_eq_true (by omega)
  clear c3
  obtain rfl := Option.some.inj H
  go_enter Try.func5, Try.ntmps5
  go_wp2
  go_ret
  exact ⟨rfl, by repeat (exact Drawn0.refl _)⟩
 rw [if_neg c3] at H
 have c3b0 : decide (1048576 < (l0.length : Int)) = false := decide_eq_false c3
 have c3b1 : decide (1048576 < l0.length) = false := decide_eq_false (by omega)
 clear c3
 obtain rfl := Option.some.inj H
 go_enter Try.func5, Try.ntmps5
 go_wp2
 go_ret
 exact ⟨rfl, by repeat (exact Drawn0.refl _)⟩
def yn0.l0 : Nat → List Int → List Int → Int → Int → Option (Bool)
 | 0, _, _, _, _ => none
 | k + 1, x0, x1, YZ, jA => if jA < YZ then (if 0 ≤ jA then (if jA < (x0.length : Int) then (if jA < (x1.length : Int) then (if (rd x0 jA) = (rd x1 jA) then (yn0.l0 k x0 x1 YZ (wrap64 (jA + 1))) else (some false)) else (none)) else (none)) else (none)) else (some true)
def yn0.f (k : Nat) (l0 : List Int) (l1 : List Int) : Option (Bool) := if (l0.length : Int) = (l1.length : Int) then (yn0.l0 k l0 l1 (l0.length : Int) 0) else (some false)
theorem yn0.mono_l : ∀ k, (∀ y0 y1 y2 y3, LeO (yn0.l0 k y0 y1 y2 y3) (yn0.l0 (k + 1) y0 y1 y2 y3))
 | 0 => fun _ _ _ _ r h => by simp [yn0.l0] at h
 | k + 1 => by
  have ih0 := yn0.mono_l k
  ·intro y0 y1 y2 y3
   unfold yn0.l0
   repeat' (with_reducible first | apply ih0 | apply LeO.refl | apply LeO.none | refine LeO.ite ?_ ?_ | refine LeO.bind ?_ (fun _ => ?_))
theorem yn0.mono : ∀ a0 a1 k, LeO (yn0.f k a0 a1) (yn0.f (k + 1) a0 a1) := by
 intro a0 a1 k
 have ih0 := yn0.mono_l k
 unfold yn0.f
 repeat' (with_reducible first | apply ih0 | apply LeO.refl | apply LeO.none | refine LeO.ite ?_ ?_ | refine LeO.bind ?_ (fun _ => ?_))
theorem yn0.calls (k : Nat) (A0 : Option Addr) (c0 : Nat) (l0 : List Int) (A1 : Option Addr) (c1 : Nat) (l1 : List Int) (r : Bool) (w : World) (hr0 : Kd.C (Kd.int .i64) w A0 l0.length l0) (hc0 : l0.length ≤ c0) (hr1 : Kd.C (Kd.int .i64) w A1 l1.length l1) (hc1 : l1.length ≤ c1) (h : yn0.f k l0 l1 = some r) :
  Calls Try.prog 11 #[.slice A0 l0.length c0, .slice A1 l1.length c1] w fun e w' => e = .returned (.bool r) ∧ Drawn0 w w' := by
 have uU := hqZ hr0
 have HC0 := hqZ hc0
 clear hr0 hc0
 have Ue := hqZ hr1
 have HC1 := hqZ hc1
 clear hr1 hc1
 have H : (if (l0.length : Int) = (l1.length : Int) then (yn0.l0 k l0 l1 (l0.length : Int) 0) else (some false)) = some r := h
 clear h
 by_cases c3 : (l0.length : Int) = (l1.length : Int)
 rotate_left
 ·rw [if_neg c3] at H
  have c3b0 : ((l0.length : Int) == (l1.length : Int)) = false := beq_eq_false_iff_ne.mpr c3
  have c3b1 : ((l0.length : Int) != (l1.length : Int)) = true := bne_iff_ne.mpr c3
  have c3b2 : (l0.length == l1.length) = false := by (simp at c3 ⊢; omega)
  obtain rfl := Option.some.inj H
  go_enter Try.func11, Try.ntmps11
  go_wp2
  repeat (go_quiet (fail); try go_wp2)
  go_ret
  exact ⟨rfl, by repeat (exact Drawn0.refl _)⟩
 rw [if_pos c3] at H
 have c3b0 : ((l0.length : Int) == (l1.length : Int)) = true := beq_iff_eq.mpr c3
 have c3b1 : ((l0.length : Int) != (l1.length : Int)) = false := bne_eq_false_iff_eq.mpr c3
 have c3b2 : (l0.length == l1.length) = true := by (simp at c3 ⊢; omega)
 clear c3
 have H' := hqZ H
 clear H
 go_enter Try.func11, Try.ntmps11
 go_wp2
 repeat (go_quiet (fail); try go_wp2)
 go_loopg [13] k (fun kq v13 w' => ∃ (Je : Int), v13 = .int .i64 Je ∧ zg0 (yn0.l0 kq l0 l1 (l0.length : Int) Je = some r) ∧ zg0 (kq ≤ k) ∧ Drawn0 w w')
 case atStart => exact ⟨(0), (rfl), H', ⟨Nat.le_refl _⟩, by repeat (exact Drawn0.refl _)⟩
 case round =>
  clear H'
  try clear c1
  try clear p2
  try clear c3
  try clear c3b0
  try clear c3b1
  try clear c3b2
  obtain ⟨Je, rfl, HA, V8, ⟨m1, rfl⟩⟩ := hrel
  obtain _ | k1 := gk
  ·exact absurd HA.1 (by simp [yn0.l0])
  have H := HA.1
  clear HA
  simp only [yn0.l0] at H
  by_cases c4 : Je < (l0.length : Int)
  rotate_left
  ·rw [if_neg c4] at H
   have c4b0 : decide (Je < (l0.length : Int)) = false := decide_eq_false c4
   clear c4
   obtain rfl := Option.some.inj H
   go_wp2
   repeat (go_quiet (fail); try go_wp2)
   go_ret
   exact ⟨rfl, by repeat (first | exact Drawn0.refl _ | apply Drawn0.step)⟩
  rw [if_pos c4] at H
  have c4b0 : decide (Je < (l0.length : Int)) = true := decide_eq_true c4
  clear c4
  by_cases c5 : 0 ≤ Je
  rotate_left
  ·rw [if_neg c5] at H
   exact absurd H (by simp)
  rw [if_pos c5] at H
  have c5b0 : decide (0 ≤ Je) = true := decide_eq_true c5
  clear c5
  by_cases c6 : Je < (l0.length : Int)
  rotate_left
  ·rw [if_neg c6] at H
   exact absurd H (by simp)
  rw [if_pos c6] at H
  have c6b0 : decide (Je < (l0.length : Int)) = true := decide_eq_true c6
  clear c6
  by_cases c7 : Je < (l1.length : Int)
  rotate_left
  ·rw [if_neg c7] at H
   exact absurd H (by simp)
  rw [if_pos c7] at H
  have c7b0 : decide (Je < (l1.length : Int)) = true := decide_eq_true c7
  clear c7
  by_cases c8 : (rd l0 Je) = (rd l1 Je)
  rotate_left
  ·rw [if_neg c8] at H
   have c8b0 : ((rd l0 Je) == (rd l1 Je)) = false := beq_eq_false_iff_ne.mpr c8
   have c8b1 : ((rd l0 Je) != (rd l1 Je)) = true := bne_iff_ne.mpr c8
   obtain rfl := Option.some.inj H
   have p423 : 0 ≤ (Je : Int) := oA
   have q423 : Je < (l0.length : Int) := oA
   obtain ⟨ad423, e423, hx423_0⟩ := Kd.at_int uU.1 Je p423 q423
   cases e423
   replace p423 := eq_true p423
   replace q423 := eq_true q423
   have p424 : 0 ≤ (Je : Int) := oA
   have q424 : Je < (l1.length : Int) := oA
   obtain ⟨ad424, e424, hx424_0⟩ := Kd.at_int Ue.1 Je p424 q424
   cases e424
   replace p424 := eq_true p424
   replace q424 := eq_true q424
   go_wp2
   repeat (go_quiet (fail); try go_wp2)
   go_ret
   exact ⟨rfl, by repeat (first | exact Drawn0.refl _ | apply Drawn0.step)⟩
  rw [if_pos c8] at H
  have c8b0 : ((rd l0 Je) == (rd l1 Je)) = true := beq_iff_eq.mpr c8
  have c8b1 : ((rd l0 Je) != (rd l1 Je)) = false := bne_eq_false_iff_eq.mpr c8
  clear c8
  have H' := hqZ H
  clear H
  have p423 : 0 ≤ (Je : Int) := oA
  have q423 : Je < (l0.length : Int) := oA
  obtain ⟨ad423, e423, hx423_0⟩ := Kd.at_int uU.1 Je p423 q423
  cases e423
  replace p423 := eq_true p423
  replace q423 := eq_true q423
  have p424 : 0 ≤ (Je : Int) := oA
  have q424 : Je < (l1.length : Int) := oA
  obtain ⟨ad424, e424, hx424_0⟩ := Kd.at_int Ue.1 Je p424 q424
  cases e424
  replace p424 := eq_true p424
  replace q424 := eq_true q424
  go_wp2
  repeat (go_quiet (fail); try go_wp2)
  go_roundg k1
  case measure => have := V8.1; omega
  case rel => exact ⟨(wrap64 (Je + 1)), (rfl), H', ⟨by have := V8.1; omega⟩, by repeat (first | exact Drawn0.refl _ | apply Drawn0.step)⟩
def IsS46 (w0 W : World) (g : Nat) (f0 : List Int) (f1 : Int) (f2 : Int) : Prop := ∃ A0 c0, W.heap[g]? = some (.cells #[.slice A0 f0.length c0, .int .i64 f1, .int .u64 f2] 46 (0, 0)) ∧ w0.heap.size ≤ g ∧ Kd.C (Kd.int .u8) w0 A0 f0.length f0
theorem IsS46.grown {w0 W : World} {g : Nat} {f0 : List Int} {f1 : Int} {f2 : Int} {W1 : World} {row : Option Nat} (h : IsS46 w0 W g f0 f1 f2) (hw : W.grownBy W1 row) (hne : some g ≠ row) : IsS46 w0 W1 g f0 f1 f2 := by
 obtain ⟨A0, c0, hb, hg, hr0⟩ := h
 exact ⟨A0, c0, zl0 hb hw hne, hg, hr0⟩
theorem IsS46.own_neN {w0 W : World} {g : Nat} {f0 : List Int} {f1 : Int} {f2 : Int} {α : Type} {d : Kd α} {e : Nat} {base : Nat} {ok : Nat → Prop} {v : Value} {xs : List α} (h : IsS46 w0 W g f0 f1 f2) (ho : Kd.N d e W base ok v xs) (ht : e ≠ 46) : some g ≠ v.ownBlock := by
 obtain ⟨A0, c0, hb, hg, hr0⟩ := h
 exact Kd.N_ne ho hb ht
theorem IsS46.fresh {w0 W : World} {g : Nat} {f0 : List Int} {f1 : Int} {f2 : Int} (h : IsS46 w0 W g f0 f1 f2) : ∀ k, W.heap.size ≤ k → k ≠ g := by
 obtain ⟨A0, c0, hb, hg, hr0⟩ := h
 exact Kd.freshB hb
theorem IsS46.below {w0 W : World} {g : Nat} {f0 : List Int} {f1 : Int} {f2 : Int} {W1 : World} (h : IsS46 w0 W g f0 f1 f2) (hw : Below W.heap.size W W1) : IsS46 w0 W1 g f0 f1 f2 := h.grown (grown_of_below hw none) (by simp)
theorem IsS46.drewN {w0 W : World} {g : Nat} {f0 : List Int} {f1 : Int} {f2 : Int} (h : IsS46 w0 W g f0 f1 f2) (m : Nat) : IsS46 w0 (W.drewN m) g f0 f1 f2 := h
theorem IsS46.drew {w0 W : World} {g : Nat} {f0 : List Int} {f1 : Int} {f2 : Int} (h : IsS46 w0 W g f0 f1 f2) : IsS46 w0 W.drew g f0 f1 f2 := h
theorem IsS46.at_ {w0 W : World} {g : Nat} {f0 : List Int} {f1 : Int} {f2 : Int} {w' : World} {m : Nat} (hq : W.drewN m = w') (h : IsS46 w0 W g f0 f1 f2) : IsS46 w0 w' g f0 f1 f2 := by subst hq; exact IsS46.drewN h m
theorem IsS46.apart {w0 W : World} {g : Nat} {f0 : List Int} {f1 : Int} {f2 : Int} {α : Type} {d : Kd α} {e : Nat} {base : Nat} {ok : Nat → Prop} {v : Value} {xs : List α} (h : IsS46 w0 W g f0 f1 f2) (ho : d.R e W base ok v xs) (ht : ∀ q, q ∈ e :: d.E → q ≠ 46) : d.R e W base (fun k => ok k ∧ k ≠ g) v xs := by
 obtain ⟨A0, c0, hb, hg, hr0⟩ := h
 exact Kd.R_types ho hb ht
theorem IsS46.own_ne {w0 W : World} {g : Nat} {f0 : List Int} {f1 : Int} {f2 : Int} {α : Type} {d : Kd α} {e : Nat} {base : Nat} {ok : Nat → Prop} {v : Value} {xs : List α} (h : IsS46 w0 W g f0 f1 f2) (ho : d.R e W base ok v xs) (ht : e ≠ 46) : some g ≠ v.ownBlock := by
 obtain ⟨A0, c0, hb, hg, hr0⟩ := h
 exact Kd.R_ne ho hb ht
theorem IsS46.apartS {w0 W : World} {g : Nat} {f0 : List Int} {f1 : Int} {f2 : Int} {α : Type} {d : Kd α} {e : Nat} {base : Nat} {ok : Nat → Prop} {v : Value} {xs : List α} (h : IsS46 w0 W g f0 f1 f2) (ho : d.S e W base ok v xs) (ht : ∀ q, q ∈ e :: d.E → q ≠ 46) : d.S e W base (fun k => ok k ∧ k ≠ g) v xs := by
 obtain ⟨A0, c0, hb, hg, hr0⟩ := h
 exact Kd.S_types ho hb ht
theorem IsS46.own_neS {w0 W : World} {g : Nat} {f0 : List Int} {f1 : Int} {f2 : Int} {α : Type} {d : Kd α} {e : Nat} {base : Nat} {ok : Nat → Prop} {v : Value} {xs : List α} (h : IsS46 w0 W g f0 f1 f2) (ho : d.S e W base ok v xs) (ht : e ≠ 46) : some g ≠ v.ownBlock := by
 obtain ⟨A0, c0, hb, hg, hr0⟩ := h
 exact Kd.S_ne ho hb ht
theorem IsS46.lt {w0 W : World} {g : Nat} {f0 : List Int} {f1 : Int} {f2 : Int} (h : IsS46 w0 W g f0 f1 f2) : g < W.heap.size := by
 obtain ⟨A0, c0, hb, hg, hr0⟩ := h
 exact blk_lt hb
theorem IsS46.ge {w0 W : World} {g : Nat} {f0 : List Int} {f1 : Int} {f2 : Int} (h : IsS46 w0 W g f0 f1 f2) : w0.heap.size ≤ g := by
 obtain ⟨A0, c0, hb, hg, hr0⟩ := h
 exact hg
theorem IsS46.far {w0 W : World} {g : Nat} {f0 : List Int} {f1 : Int} {f2 : Int} {p : Addr} (h : IsS46 w0 W g f0 f1 f2) (hne : g ≠ p.block) (u : Value) : IsS46 w0 (W.setCell p u) g f0 f1 f2 := by
 obtain ⟨A0, c0, hb, hg, hr0⟩ := h
 exact ⟨A0, c0, blk_far hb hne u, hg, hr0⟩
theorem cellS46_0 {W : World} {g : Nat} {A0 : Option Addr} {c0 : Nat} {f0 : List Int} {f1 : Int} {f2 : Int} (h : W.heap[g]? = some (.cells #[.slice A0 f0.length c0, .int .i64 f1, .int .u64 f2] 46 (0, 0))) : W.cell? ⟨g, 0, none⟩ = some (.slice A0 f0.length c0) := (zf0 h 0).trans rfl
theorem cellS46_1 {W : World} {g : Nat} {A0 : Option Addr} {c0 : Nat} {f0 : List Int} {f1 : Int} {f2 : Int} (h : W.heap[g]? = some (.cells #[.slice A0 f0.length c0, .int .i64 f1, .int .u64 f2] 46 (0, 0))) : W.cell? ⟨g, 1, none⟩ = some (.int .i64 f1) := (zf0 h 1).trans rfl
theorem IsS46.set_1 {w0 W : World} {g : Nat} {f0 : List Int} {f1 : Int} {f2 : Int} (h : IsS46 w0 W g f0 f1 f2) (x : Int) : IsS46 w0 (W.setCell ⟨g, 1, none⟩ (.int .i64 x)) g f0 x f2 := by
 obtain ⟨A0, c0, hb, hg, hr0⟩ := h
 exact ⟨A0, c0, by simpa using blk_set hb 1 (.int .i64 x), hg, hr0⟩
theorem cellS46_2 {W : World} {g : Nat} {A0 : Option Addr} {c0 : Nat} {f0 : List Int} {f1 : Int} {f2 : Int} (h : W.heap[g]? = some (.cells #[.slice A0 f0.length c0, .int .i64 f1, .int .u64 f2] 46 (0, 0))) : W.cell? ⟨g, 2, none⟩ = some (.int .u64 f2) := (zf0 h 2).trans rfl
theorem IsS46.set_2 {w0 W : World} {g : Nat} {f0 : List Int} {f1 : Int} {f2 : Int} (h : IsS46 w0 W g f0 f1 f2) (x : Int) : IsS46 w0 (W.setCell ⟨g, 2, none⟩ (.int .u64 x)) g f0 f1 x := by
 obtain ⟨A0, c0, hb, hg, hr0⟩ := h
 exact ⟨A0, c0, by simpa using blk_set hb 2 (.int .u64 x), hg, hr0⟩
theorem IsS46.new (w0 W : World) (A0 : Option Addr) (c0 : Nat) (f0 : List Int) (f1 : Int) (f2 : Int) (hB : Below w0.heap.size w0 W) (hr0 : Kd.C (Kd.int .u8) w0 A0 f0.length f0) : IsS46 w0 (W.alloc (.cells #[.slice A0 f0.length c0, .int .i64 f1, .int .u64 f2] 46)) W.heap.size f0 f1 f2 := ⟨A0, c0, by simpa using heap_alloc_new W _, hB.size, hr0⟩
def yy1.f (J6 : List Int) (Jv : Int) (JQ : Int) : Option (Int × Int × Int) := if Jv < (J6.length : Int) then (if 0 ≤ Jv then (if (wrap64 (Jv + 1)) ≤ (J6.length : Int) then (some (wrap64 (rd J6 Jv), wrap64 (Jv + 1), IntKind.u64.wrap ((IntKind.u64.wrap ((IntKind.u64.wrap (JQ * 6364136223846793005)) + (IntKind.u64.wrap (wrap64 (rd J6 Jv))))) + 1442695040888963407))) else (some (wrap64 (Go.bits .and .u64 ((IntKind.u64.wrap ((IntKind.u64.wrap ((IntKind.u64.wrap (JQ * 6364136223846793005)) + (IntKind.u64.wrap (wrap64 (rd J6 Jv))))) + 1442695040888963407)) / 1099511627776) 255), wrap64 (Jv + 1), IntKind.u64.wrap ((IntKind.u64.wrap ((IntKind.u64.wrap (JQ * 6364136223846793005)) + (IntKind.u64.wrap (wrap64 (rd J6 Jv))))) + 1442695040888963407)))) else (none)) else (if (wrap64 (Jv + 1)) ≤ (J6.length : Int) then (some (0, wrap64 (Jv + 1), IntKind.u64.wrap ((IntKind.u64.wrap ((IntKind.u64.wrap (JQ * 6364136223846793005)))) + 1442695040888963407))) else (some (wrap64 (Go.bits .and .u64 ((IntKind.u64.wrap ((IntKind.u64.wrap ((IntKind.u64.wrap (JQ * 6364136223846793005)))) + 1442695040888963407)) / 1099511627776) 255), wrap64 (Jv + 1), IntKind.u64.wrap ((IntKind.u64.wrap ((IntKind.u64.wrap (JQ * 6364136223846793005)))) + 1442695040888963407))))
theorem yy1.calls (g : Nat) (J6 : List Int) (Jv : Int) (JQ : Int) (r1 : Int) (r2 : Int) (r3 : Int) (w0 w : World) (hI : IsS46 w0 w g J6 Jv JQ) (hB : Below w0.heap.size w0 w) (h : yy1.f J6 Jv JQ = some (r1, r2, r3)) :
  Calls Try.prog 72 #[.pointer (some ⟨g, 0, none⟩)] w fun e w' => e = .returned (.int .i64 r1) ∧ IsS46 w0 w' g J6 r2 r3 ∧ Below w0.heap.size w0 w' ∧ zh0 w w' g none := by
 have Jg := hqZ hI
 have HK := hqZ (zh0.refl w g none)
 have HL := hqZ hB.size
 clear hI
 have HW0 := hqZ hB.size
 have HB := hqZ hB
 clear hB
 have H : (if Jv < (J6.length : Int) then (if 0 ≤ Jv then (if (wrap64 (Jv + 1)) ≤ (J6.length : Int) then (some (wrap64 (rd J6 Jv), wrap64 (Jv + 1), IntKind.u64.wrap ((IntKind.u64.wrap ((IntKind.u64.wrap (JQ * 6364136223846793005)) + (IntKind.u64.wrap (wrap64 (rd J6 Jv))))) + 1442695040888963407))) else (some (wrap64 (Go.bits .and .u64 ((IntKind.u64.wrap ((IntKind.u64.wrap ((IntKind.u64.wrap (JQ * 6364136223846793005)) + (IntKind.u64.wrap (wrap64 (rd J6 Jv))))) + 1442695040888963407)) / 1099511627776) 255), wrap64 (Jv + 1), IntKind.u64.wrap ((IntKind.u64.wrap ((IntKind.u64.wrap (JQ * 6364136223846793005)) + (IntKind.u64.wrap (wrap64 (rd J6 Jv))))) + 1442695040888963407)))) else (none)) else (if (wrap64 (Jv + 1)) ≤ (J6.length : Int) then (some (0, wrap64 (Jv + 1), IntKind.u64.wrap ((IntKind.u64.wrap ((IntKind.u64.wrap (JQ * 6364136223846793005)))) + 1442695040888963407))) else (some (wrap64 (Go.bits .and .u64 ((IntKind.u64.wrap ((IntKind.u64.wrap ((IntKind.u64.wrap (JQ * 6364136223846793005)))) + 1442695040888963407)) / 1099511627776) 255), wrap64 (Jv + 1), IntKind.u64.wrap ((IntKind.u64.wrap ((IntKind.u64.wrap (JQ * 6364136223846793005)))) + 1442695040888963407))))) = some (r1, r2, r3) := h
 clear h
 by_cases c2 : Jv < (J6.length : Int)
 rotate_left
 ·rw [if_neg c2] at H
  have c2b0 : decide (Jv < (J6.length : Int)) = false := decide_eq_false c2
  clear c2
  by_cases c7 : (wrap64 (Jv + 1)) ≤ (J6.length : Int)
  ·rw [if_pos c7] at H
   have c7b0 : decide ((wrap64 (Jv + 1)) ≤ (J6.length : Int)) = true := decide_eq_true c7
   clear c7
   simp only [Option.some.injEq, Prod.mk.injEq] at H
   obtain ⟨rfl, rfl, rfl⟩ := H
   obtain ⟨ASz8_0, cSz8_0, HGz8, hgz8, HSz8_0⟩ := Jg.1
   have oD := cellS46_0 HGz8
   have Ja8 := cellS46_1 HGz8
   have Ja9 := cellS46_2 HGz8
   have Jb0 := zc0 HGz8 1
   have Jb1 := zc0 HGz8 2
   clear HGz8 hgz8
   go_enter Try.func72, Try.ntmps72
   go_wp2
   repeat (go_quiet (fail); try go_wp2)
   go_ret
   exact ⟨rfl, by repeat ((with_reducible first | exact Jg.1 | apply IsS46.drewN | apply IsS46.set_1 | apply IsS46.set_2)), by repeat ((with_reducible first | exact HB.1 | apply pw_below_drewN | refine zm0 ?_ (IsS46.ge Jg.1))), by repeat ((with_reducible first | exact HK.1 | apply zh0.set_ | apply keep_drewN))⟩
  rw [if_neg c7] at H
  have c7b0 : decide ((wrap64 (Jv + 1)) ≤ (J6.length : Int)) = false := decide_eq_false c7
  clear c7
  simp only [Option.some.injEq, Prod.mk.injEq] at H
  obtain ⟨rfl, rfl, rfl⟩ := H
  obtain ⟨ASz9_0, cSz9_0, HGz9, hgz9, HSz9_0⟩ := Jg.1
  have jB := cellS46_0 HGz9
  have Jb2 := cellS46_1 HGz9
  have Jb3 := cellS46_2 HGz9
  have Jb4 := zc0 HGz9 1
  have Jb5 := zc0 HGz9 2
  clear HGz9 hgz9
  go_enter Try.func72, Try.ntmps72
  go_wp2
  repeat (go_quiet (fail); try go_wp2)
  go_ret
  exact ⟨rfl, by repeat ((with_reducible first | exact Jg.1 | apply IsS46.drewN | apply IsS46.set_1 | apply IsS46.set_2)), by repeat ((with_reducible first | exact HB.1 | apply pw_below_drewN | refine zm0 ?_ (IsS46.ge Jg.1))), by repeat ((with_reducible first | exact HK.1 | apply zh0.set_ | apply keep_drewN))⟩
 rw [if_pos c2] at H
 have c2b0 : decide (Jv < (J6.length : Int)) = true := decide_eq_true c2
 clear c2
 by_cases c3 : 0 ≤ Jv
 rotate_left
 ·rw [if_neg c3] at H
  exact absurd H (by simp)
 rw [if_pos c3] at H
 have c3b0 : decide (0 ≤ Jv) = true := decide_eq_true c3
 clear c3
 by_cases c4 : (wrap64 (Jv + 1)) ≤ (J6.length : Int)
 ·rw [if_pos c4] at H
  have c4b0 : decide ((wrap64 (Jv + 1)) ≤ (J6.length : Int)) = true := decide_eq_true c4
  clear c4
  simp only [Option.some.injEq, Prod.mk.injEq] at H
  obtain ⟨rfl, rfl, rfl⟩ := H
  obtain ⟨ASz5_0, cSz5_0, HGz5, hgz5, HSz5_0⟩ := Jg.1
  have E1 := cellS46_0 HGz5
  have Jb6 := cellS46_1 HGz5
  have Jb7 := cellS46_2 HGz5
  have Jb8 := zc0 HGz5 1
  have Jb9 := zc0 HGz5 2
  clear HGz5 hgz5
  have p101 : 0 ≤ (Jv : Int) := oA
  have q101 : Jv < (J6.length : Int) := oA
  obtain ⟨ad101, e101, hx101_0⟩ := Kd.at_int HSz5_0 Jv p101 q101
  cases e101
  replace hx101_0 := pw_cell_below HB.1 hx101_0
  replace p101 := eq_true p101
  replace q101 := eq_true q101
  go_enter Try.func72, Try.ntmps72
  go_wp2
  repeat (go_quiet (fail); try go_wp2)
  go_ret
  exact ⟨rfl, by repeat ((with_reducible first | exact Jg.1 | apply IsS46.drewN | apply IsS46.set_1 | apply IsS46.set_2)), by repeat ((with_reducible first | exact HB.1 | apply pw_below_drewN | refine zm0 ?_ (IsS46.ge Jg.1))), by repeat ((with_reducible first | exact HK.1 | apply zh0.set_ | apply keep_drewN))⟩
 rw [if_neg c4] at H
 have c4b0 : decide ((wrap64 (Jv + 1)) ≤ (J6.length : Int)) = false := decide_eq_false c4
 clear c4
 simp only [Option.some.injEq, Prod.mk.injEq] at H
 obtain ⟨rfl, rfl, rfl⟩ := H
 obtain ⟨ASz6_0, cSz6_0, HGz6, hgz6, HSz6_0⟩ := Jg.1
 have Yk := cellS46_0 HGz6
 have Jc0 := cellS46_1 HGz6
 have Jc1 := cellS46_2 HGz6
 have Jc2 := zc0 HGz6 1
 have Jc3 := zc0 HGz6 2
 clear HGz6 hgz6
 have p101 : 0 ≤ (Jv : Int) := oA
 have q101 : Jv < (J6.length : Int) := oA
 obtain ⟨ad101, e101, hx101_0⟩ := Kd.at_int HSz6_0 Jv p101 q101
 cases e101
 replace hx101_0 := pw_cell_below HB.1 hx101_0
 replace p101 := eq_true p101
 replace q101 := eq_true q101
 go_enter Try.func72, Try.ntmps72
 go_wp2
 repeat (go_quiet (fail); try go_wp2)
 go_ret
 exact ⟨rfl, by repeat ((with_reducible first | exact Jg.1 | apply IsS46.drewN | apply IsS46.set_1 | apply IsS46.set_2)), by repeat ((with_reducible first | exact HB.1 | apply pw_below_drewN | refine zm0 ?_ (IsS46.ge Jg.1))), by repeat ((with_reducible first | exact HK.1 | apply zh0.set_ | apply keep_drewN))⟩
def yz0.f (J6 : List Int) (Jv : Int) (JQ : Int) (a1 : Int) : Option (Int × Int × Int) := if a1 ≤ 1 then (some (0, Jv, JQ)) else ((yy1.f J6 Jv JQ).bind fun vG => (if a1 > 200 then ((yy1.f J6 vG.2.1 vG.2.2).bind fun oE => (if a1 = 0 then (none) else (some (Int.tmod (wrap64 ((wrap64 (vG.1 * 256)) + oE.1)) a1, oE.2.1, oE.2.2)))) else (if a1 = 0 then (none) else (some (Int.tmod vG.1 a1, vG.2.1, vG.2.2)))))
theorem yz0.calls (g : Nat) (J6 : List Int) (Jv : Int) (JQ : Int) (a1 : Int) (r1 : Int) (r2 : Int) (r3 : Int) (w0 w : World) (hI : IsS46 w0 w g J6 Jv JQ) (hB : Below w0.heap.size w0 w) (h : yz0.f J6 Jv JQ a1 = some (r1, r2, r3)) :
  Calls Try.prog 55 #[.pointer (some ⟨g, 0, none⟩), .int .i64 a1] w fun e w' => e = .returned (.int .i64 r1) ∧ IsS46 w0 w' g J6 r2 r3 ∧ Below w0.heap.size w0 w' ∧ zh0 w w' g none := by
 have Jg := hqZ hI
 have HK := hqZ (zh0.refl w g none)
 have HL := hqZ hB.size
 clear hI
 have HW0 := hqZ hB.size
 have HB := hqZ hB
 clear hB
 have H : (if a1 ≤ 1 then (some (0, Jv, JQ)) else ((yy1.f J6 Jv JQ).bind fun vG => (if a1 > 200 then ((yy1.f J6 vG.2.1 vG.2.2).bind fun oE => (if a1 = 0 then (none) else (some (Int.tmod (wrap64 ((wrap64 (vG.1 * 256)) + oE.1)) a1, oE.2.1, oE.2.2)))) else (if a1 = 0 then (none) else (some (Int.tmod vG.1 a1, vG.2.1, vG.2.2)))))) = some (r1, r2, r3) := h
 clear h
 by_cases c3 : a1 ≤ 1
 ·rw [if_pos c3] at H
  have c3b0 : decide (a1 ≤ 1) = true := decide_eq_true c3
  clear c3
  simp only [Option.some.injEq, Prod.mk.injEq] at H
  obtain ⟨rfl, rfl, rfl⟩ := H
  go_enter Try.func55, Try.ntmps55
  go_wp2
  go_ret
  exact ⟨rfl, Jg.1, HB.1, HK.1⟩
 rw [if_neg c3] at H
 have c3b0 : decide (a1 ≤ 1) = false := decide_eq_false c3
 clear c3
 replace H := Option.bind_eq_some_iff.mp H
 obtain ⟨⟨mV, DC, DD⟩, A40, H⟩ := H
 try dsimp only at H
 have A4 := hqZ A40
 clear A40
 by_cases c5 : a1 > 200
 rotate_left
 ·rw [if_neg c5] at H
  have c5b0 : decide (200 < a1) = false := decide_eq_false c5
  clear c5
  by_cases c10 : a1 = 0
  ·rw [if_pos c10] at H
   exact absurd H (by simp)
  rw [if_neg c10] at H
  have c10b0 : (a1 == 0) = false := beq_eq_false_iff_ne.mpr c10
  have c10b1 : (a1 != 0) = true := bne_iff_ne.mpr c10
  simp only [Option.some.injEq, Prod.mk.injEq] at H
  obtain ⟨rfl, rfl, rfl⟩ := H
  go_enter Try.func55, Try.ntmps55
  go_wp2_with (((with_reducible refine ze0 (f := 72) rfl ?_); refine zM (some 9) Try.func72 #[.pointer (some ⟨g, 0, none⟩)] ?_; (with_reducible refine (yy1.calls g J6 Jv JQ mV DC DD w0 _ ?side1 ?side2 A4.1).mono ?_); (case side1 => exact Jg.1); (case side2 => exact HB.1); rintro e w11 ⟨rfl, hi, hb, hk⟩; refine ⟨_, rfl, ?_⟩; replace HK := hqZ (zh0.trans (HK.1) hk (.inl rfl)); replace HB := hqZ (hb); replace Jg := hqZ (hi); clear hb hk hi))
  go_ret
  exact ⟨rfl, Jg.1, HB.1, HK.1⟩
 rw [if_pos c5] at H
 have c5b0 : decide (200 < a1) = true := decide_eq_true c5
 clear c5
 replace H := Option.bind_eq_some_iff.mp H
 obtain ⟨⟨Jc4, Jc5, Jc6⟩, A60, H⟩ := H
 try dsimp only at H
 have A6 := hqZ A60
 clear A60
 by_cases c7 : a1 = 0
 ·rw [if_pos c7] at H
  exact absurd H (by simp)
 rw [if_neg c7] at H
 have c7b0 : (a1 == 0) = false := beq_eq_false_iff_ne.mpr c7
 have c7b1 : (a1 != 0) = true := bne_iff_ne.mpr c7
 simp only [Option.some.injEq, Prod.mk.injEq] at H
 obtain ⟨rfl, rfl, rfl⟩ := H
 go_enter Try.func55, Try.ntmps55
 go_wp2_with (first | ((with_reducible refine ze0 (f := 72) rfl ?_); refine zM (some 9) Try.func72 #[.pointer (some ⟨g, 0, none⟩)] ?_; (with_reducible refine (yy1.calls g J6 Jv JQ mV DC DD w0 _ ?side1 ?side2 A4.1).mono ?_); (case side1 => exact Jg.1); (case side2 => exact HB.1); rintro e w8 ⟨rfl, hi, hb, hk⟩; refine ⟨_, rfl, ?_⟩; replace HK := hqZ (zh0.trans (HK.1) hk (.inl rfl)); replace HB := hqZ (hb); replace Jg := hqZ (hi); clear hb hk hi) | ((with_reducible refine ze0 (f := 72) rfl ?_); refine zM (some 15) Try.func72 #[.pointer (some ⟨g, 0, none⟩)] ?_; (with_reducible refine (yy1.calls g J6 DC DD Jc4 Jc5 Jc6 w0 _ ?side1 ?side2 A6.1).mono ?_); (case side1 => exact Jg.1); (case side2 => exact HB.1); rintro e w9 ⟨rfl, hi, hb, hk⟩; refine ⟨_, rfl, ?_⟩; replace HK := hqZ (zh0.trans (HK.1) hk (.inl rfl)); replace HB := hqZ (hb); replace Jg := hqZ (hi); clear hb hk hi))
 go_ret
 exact ⟨rfl, Jg.1, HB.1, HK.1⟩
def ys0.f (J6 : List Int) (Jv : Int) (JQ : Int) (a1 : Int) : Option (Bool × Int × Int) := (yz0.f J6 Jv JQ a1).bind fun oF => (some ((oF.1 == 0), oF.2.1, oF.2.2))
theorem ys0.calls (g : Nat) (J6 : List Int) (Jv : Int) (JQ : Int) (a1 : Int) (r1 : Bool) (r2 : Int) (r3 : Int) (w0 w : World) (hI : IsS46 w0 w g J6 Jv JQ) (hB : Below w0.heap.size w0 w) (h : ys0.f J6 Jv JQ a1 = some (r1, r2, r3)) :
  Calls Try.prog 34 #[.pointer (some ⟨g, 0, none⟩), .int .i64 a1] w fun e w' => e = .returned (.bool r1) ∧ IsS46 w0 w' g J6 r2 r3 ∧ Below w0.heap.size w0 w' ∧ zh0 w w' g none := by
 have Jg := hqZ hI
 have HK := hqZ (zh0.refl w g none)
 have HL := hqZ hB.size
 clear hI
 have HW0 := hqZ hB.size
 have HB := hqZ hB
 clear hB
 have H : ((yz0.f J6 Jv JQ a1).bind fun oF => (some ((oF.1 == 0), oF.2.1, oF.2.2))) = some (r1, r2, r3) := h
 clear h
 replace H := Option.bind_eq_some_iff.mp H
 obtain ⟨⟨Jc7, Jc8, Jc9⟩, A30, H⟩ := H
 try dsimp only at H
 have A3 := hqZ A30
 clear A30
 simp only [Option.some.injEq, Prod.mk.injEq] at H
 obtain ⟨rfl, rfl, rfl⟩ := H
 go_enter Try.func34, Try.ntmps34
 go_wp2_with (((with_reducible refine ze0 (f := 55) rfl ?_); refine zM (some 7) Try.func55 #[.pointer (some ⟨g, 0, none⟩), .int .i64 a1] ?_; (with_reducible refine (yz0.calls g J6 Jv JQ a1 Jc7 Jc8 Jc9 w0 _ ?side1 ?side2 A3.1).mono ?_); (case side1 => exact Jg.1); (case side2 => exact HB.1); rintro e w4 ⟨rfl, hi, hb, hk⟩; refine ⟨_, rfl, ?_⟩; replace HK := hqZ (zh0.trans (HK.1) hk (.inl rfl)); replace HB := hqZ (hb); replace Jg := hqZ (hi); clear hb hk hi))
 go_ret
 exact ⟨rfl, Jg.1, HB.1, HK.1⟩
def yr1.f (l0 : List Int) : Option (List Int) := (some (([] : List Int) : List Int)).bind fun oG => (if oG.length + l0.length < 17592186044416 then (some (oG ++ l0)) else (none))
theorem yr1.calls (A0 : Option Addr) (c0 : Nat) (l0 : List Int) (r : List Int) (w : World) (hr0 : Kd.C (Kd.int .i64) w A0 l0.length l0) (hc0 : l0.length ≤ c0) (h : yr1.f l0 = some r) :
  Calls Try.prog 42 #[.slice A0 l0.length c0] w fun e w' => ∃ v0_ : Value, e = .returned (v0_) ∧ Kd.R (Kd.int .i64) 3 w' w.heap.size (fun _ => True) v0_ r ∧ Below w.heap.size w w' := by
 have uU := hqZ hr0
 have HC0 := hqZ hc0
 clear hr0 hc0
 have HB := hqZ (Below.refl w.heap.size w)
 have H : ((some (([] : List Int) : List Int)).bind fun oG => (if oG.length + l0.length < 17592186044416 then (some (oG ++ l0)) else (none))) = some r := h
 clear h
 obtain ⟨oG, hy111⟩ : ∃ y_ : List Int, y_ = (([] : List Int)) := ⟨_, rfl⟩
 replace H : (if oG.length + l0.length < 17592186044416 then (some (oG ++ l0)) else (none)) = some r := by (have H2_ := (Option.bind_some _ _).symm.trans H; rw [hy111]; with_reducible exact H2_)
 have Ny111 := hqZ hy111
 clear hy111
 by_cases c2 : oG.length + l0.length < 17592186044416
 rotate_left
 ·rw [if_neg c2] at H
  exact absurd H (by simp)
 rw [if_pos c2] at H
 have LMc2 := hqZ c2
 clear c2
 obtain ⟨Jd0, hy114⟩ : ∃ y_ : List Int, y_ = (oG ++ l0) := ⟨_, rfl⟩
 replace H : (some Jd0) = some r := by (rw [hy114]; with_reducible exact H)
 have Ny114 := hqZ hy114
 clear hy114
 obtain rfl := Option.some.inj H
 go_enter Try.func42, Try.ntmps42
 go_wp2_with (first | ((with_reducible refine zi0 (N := 3) rfl ?_); refine Kd.R_lit (Kd.int .i64) _ 3 ?hg (N := 3) ?hd (xs := ([] : List Int)) (inner := []) (ok := fun _ => True) (okp := fun _ => True) ?hr ?hp (fun _ hk => hk) trivial (Below.refl _ _) (Nat.le_refl _) (by simp) ?_; (case hd | hg => rfl); (case hr => go_simp); (case hp => exact (Reps.none _ _)); intro v112 w3 ho4 hb hg_ hnew_; clear hg_ hnew_; (rw [← Ny111.1] at ho4); have D3 := hqZ (Kd.R_lower ho4 (zb0 (HB.1))); replace HB := hqZ (za0 (HB.1) hb); clear hb ho4) | ((with_reducible refine zu0 (b := .append) (xs := #[.tmp 3, .tmp 4]) rfl ?_); at_builtin; refine Kd.R_append_rows (Kd.int .i64) (w0 := w) w.heap.size rfl (.tmp 3) (.tmp 4) 27 3 (.int .i64 0) 8 rfl Try.underlying27 info3 rfl (by decide) (by omega) v112 oG l0 _ _ _ (fun _ => True) (fun _ => False) rfl rfl ?aO ?aR (fun _ _ h => h) (fun _ h => h.elim) ?aF ?aB ?aS ?aL ?_; (case aR => exact (Kd.C_below uU.1 HB.1)); (case aB => exact (HB.1)); (case aF => exact (fun _ _ => trivial)); (case aO => exact (D3.1)); (case aS => exact (zb0 (HB.1))); (case aL => have := LMc2.1; omega); intro v115 w5 ho hb hg hat; rw [← Ny114.1] at ho; have n0_ := hqZ (hb); have n1_ := hqZ (ho); clear HB; clear D3; have HB := n0_; have mW := n1_; clear n0_ n1_; clear ho hb hg hat))
 go_ret
 exact ⟨_, rfl, mW.1, HB.1⟩
def yv0.l0 : Nat → Int → Bool → Int → List (List Int) → Option ((List (List Int)))
 | 0, _, _, _, _ => none
 | k + 1, x0, x1, x6, Xc => if x6 < x0 then (if x0 = 0 then (none) else ((some (([Int.tmod (wrap64 (x6 + 1)) x0] : List Int) : List Int)).bind fun Xd => (if x1 = true then (if Xd.length < 17592186044416 then (if Xc.length < 5864062014805 then (yv0.l0 k x0 x1 (wrap64 (x6 + 1)) (Xc ++ [(Xd ++ [Int.tmod (wrap64 ((wrap64 (x6 + x0)) - 1)) x0])])) else (none)) else (none)) else (if Xc.length < 5864062014805 then (yv0.l0 k x0 x1 (wrap64 (x6 + 1)) (Xc ++ [Xd])) else (none))))) else (some Xc)
def yv0.f (k : Nat) (a0 : Int) (a1 : Bool) : Option ((List (List Int))) := yv0.l0 k a0 a1 0 ([] : List (List Int))
theorem yv0.mono_l : ∀ k, (∀ y0 y1 y2 y3, LeO (yv0.l0 k y0 y1 y2 y3) (yv0.l0 (k + 1) y0 y1 y2 y3))
 | 0 => fun _ _ _ _ r h => by simp [yv0.l0] at h
 | k + 1 => by
  have ih0 := yv0.mono_l k
  ·intro y0 y1 y2 y3
   unfold yv0.l0
   repeat' (with_reducible first | apply ih0 | apply LeO.refl | apply LeO.none | refine LeO.ite ?_ ?_ | refine LeO.bind ?_ (fun _ => ?_))
theorem yv0.mono : ∀ a0 a1 k, LeO (yv0.f k a0 a1) (yv0.f (k + 1) a0 a1) := by
 intro a0 a1 k
 have ih0 := yv0.mono_l k
 unfold yv0.f
 repeat' (with_reducible first | apply ih0 | apply LeO.refl | apply LeO.none | refine LeO.ite ?_ ?_ | refine LeO.bind ?_ (fun _ => ?_))
theorem yv0.calls (k : Nat) (a0 : Int) (a1 : Bool) (r : List (List Int)) (w : World) (h : yv0.f k a0 a1 = some r) :
  Calls Try.prog 76 #[.int .i64 a0, .bool a1] w fun e w' => ∃ v0_ : Value, e = .returned (.agg #[v0_]) ∧ Kd.S (Kd.slice 3 (Kd.int .i64)) 27 w' w.heap.size (fun _ => True) v0_ r ∧ Below w.heap.size w w' := by
 have hu26 := Try.underlying26
 have HB := hqZ (Below.refl w.heap.size w)
 have H : (yv0.l0 k a0 a1 0 ([] : List (List Int))) = some r := h
 clear h
 have H' := hqZ H
 clear H
 go_enter Try.func76, Try.ntmps76
 go_wp2_with (first | ((with_reducible refine zi0 (N := 4) rfl ?_); refine zk0 ?hg (N := 4) ?hd (cs := #[.slice none 0 0]) (t := 26) ?hr ?_; (case hd | hg => rfl); (case hr => go_simp); intro jF hg w3 hbox hb; have Y2 := hqZ (hbox); have Jk0 := hqZ ((by rw [hg]; exact (zb0 (HB.1)) : w.heap.size ≤ jF)); have mX := hqZ ((by rw [hg]; exact (zb0 (HB.1)) : w.heap.size ≤ jF)); replace HB := hqZ (za0 (HB.1) hb); clear hb hbox hg) | ((with_reducible refine zi0 (N := 5) rfl ?_); refine zk0 ?hg (N := 5) ?hd (cs := #[.slice none 0 0]) (t := 26) ?hr ?_; (case hd | hg => rfl); (case hr => go_simp); intro j6 hg w4 hbox hb; have VJ := hqZ (hbox); have Jk1 := hqZ ((by rw [hg]; exact (zb0 (HB.1)) : w.heap.size ≤ j6)); have E2 := hqZ ((by rw [hg]; exact (zb0 (HB.1)) : w.heap.size ≤ j6)); replace HB := hqZ (za0 (HB.1) hb); have jd := hqZ ((by rw [hg]; exact Nat.ne_of_lt (blk_lt (g := jF) (Y2.1)) : jF ≠ j6)); have uI := hqZ ((by rw [hg]; exact Nat.ne_of_gt (blk_lt (g := jF) (Y2.1)) : j6 ≠ jF)); replace Y2 := hqZ (zd0 (g := jF) (Y2.1) hb); clear hb hbox hg; have hnb5 := uI.1; have hnc5 := jd.1; have Yk : w4.cell? ⟨j6, 0, none⟩ = some (.slice none 0 0) := (zf0 VJ.1 0).trans rfl; have Yz := zc0 VJ.1 0))
 go_loopg [6] k (fun kq v6 w' => ∃ (JB : Int) (Vo : List (List Int)) (u119000 : Value), v6 = .int .i64 JB ∧ zg0 (yv0.l0 kq a0 a1 JB Vo = some r) ∧ zg0 (kq ≤ k) ∧ zg0 (Kd.S (Kd.slice 3 (Kd.int .i64)) 27 w' w.heap.size (fun _ => True) u119000 Vo) ∧ zg0 (w'.heap[jF]? = some (.cells #[(.slice none 0 0)] 26 (0, 0))) ∧ zg0 (w'.heap[j6]? = some (.cells #[u119000] 26 (0, 0))) ∧ zg0 (Below w.heap.size w w'))
 case atStart => exact ⟨(0), (([] : List (List Int))), (.slice none 0 0), (rfl), H', ⟨Nat.le_refl _⟩, ⟨by exact Kd.S_nil _ _ _ _ _⟩, ⟨by refine blk_far ?_ jd.1 _; exact Y2.1⟩, ⟨by refine blk_put (cs := #[.slice none 0 0]) ?_ 0 _ rfl; exact VJ.1⟩, ⟨zm0 HB.1 E2.1⟩⟩
 case round =>
  clear H'
  try clear p2
  try clear c5
  try clear Yk
  try clear Yz
  obtain ⟨JB, Vo, u119000, rfl, HA, V8, V7, Y2, VJ, HB⟩ := hrel
  obtain _ | k1 := gk
  ·exact absurd HA.1 (by simp [yv0.l0])
  have H := HA.1
  clear HA
  simp only [yv0.l0] at H
  by_cases c7 : JB < a0
  rotate_left
  ·rw [if_neg c7] at H
   have c7b0 : decide (JB < a0) = false := decide_eq_false c7
   clear c7
   obtain rfl := Option.some.inj H
   have hnb30 := uI.1
   have hnc30 := jd.1
   have qL : wr.cell? ⟨j6, 0, none⟩ = some (u119000) := (zf0 VJ.1 0).trans rfl
   have qM := zc0 VJ.1 0
   obtain ⟨o6, XE, eo32⟩ := Kd.S_slice V7.1
   subst eo32
   have Zd : wr.cell? ⟨jF, 0, none⟩ = some (.slice none 0 0) := (zf0 Y2.1 0).trans rfl
   have Ze := zc0 Y2.1 0
   go_wp2
   refine bodyPost_ret (results_cell_row rfl _ _ jF 26 #[.slice o6 Vo.length XE] (0, 0) _ rfl (by refine blk_put (cs := #[.slice none 0 0]) ?_ 0 _ rfl; exact Y2.1) Try.underlying26 rfl (by kernel_rfl)) rfl ?_
   exact ⟨_, rfl, Kd.S_mono (Kd.S_far (p := ⟨jF, 0, none⟩) (Kd.S_types V7.1 Y2.1 (by decide)) (fun _ hk => hk.2) (.slice o6 Vo.length XE)) (fun _ hk => trivial), zm0 HB.1 mX.1⟩
  rw [if_pos c7] at H
  have c7b0 : decide (JB < a0) = true := decide_eq_true c7
  clear c7
  by_cases c8 : a0 = 0
  ·rw [if_pos c8] at H
   exact absurd H (by simp)
  rw [if_neg c8] at H
  have c8b0 : (a0 == 0) = false := beq_eq_false_iff_ne.mpr c8
  have c8b1 : (a0 != 0) = true := bne_iff_ne.mpr c8
  obtain ⟨Xd, hy119⟩ : ∃ y_ : List Int, y_ = (([Int.tmod (wrap64 (JB + 1)) a0] : List Int)) := ⟨_, rfl⟩
  replace H : (if a1 = true then (if Xd.length < 17592186044416 then (if Vo.length < 5864062014805 then (yv0.l0 k1 a0 a1 (wrap64 (JB + 1)) (Vo ++ [(Xd ++ [Int.tmod (wrap64 ((wrap64 (JB + a0)) - 1)) a0])])) else (none)) else (none)) else (if Vo.length < 5864062014805 then (yv0.l0 k1 a0 a1 (wrap64 (JB + 1)) (Vo ++ [Xd])) else (none))) = some r := by (have H2_ := (Option.bind_some _ _).symm.trans H; rw [hy119]; with_reducible exact H2_)
  have Ny119 := hqZ hy119
  clear hy119
  by_cases c9 : a1 = true
  rotate_left
  ·replace c9 := Bool.eq_false_iff.mpr c9
   subst c9
   rw [if_neg (show ¬ (false = true) by decide)] at H
   by_cases c21 : Vo.length < 5864062014805
   rotate_left
   ·rw [if_neg c21] at H
    exact absurd H (by simp)
   rw [if_pos c21] at H
   have LMc21 := hqZ c21
   clear c21
   obtain ⟨Zf, hy128⟩ : ∃ y_ : List (List Int), y_ = (Vo ++ [Xd]) := ⟨_, rfl⟩
   replace H : (yv0.l0 k1 a0 false (wrap64 (JB + 1)) Zf) = some r := by (rw [hy128]; with_reducible exact H)
   have Ny128 := hqZ hy128
   clear hy128
   have H' := hqZ H
   clear H
   go_wp2_with (first | ((with_reducible refine zi0 (N := 18) rfl ?_); refine Kd.R_lit (Kd.int .i64) _ 3 ?hg (N := 18) ?hd (xs := ([Int.tmod (wrap64 (JB + 1)) a0] : List Int)) (inner := [.int .i64 (Int.tmod (wrap64 (JB + 1)) a0)]) (ok := fun _ => True) (okp := fun _ => True) ?hr ?hp (fun _ hk => hk) trivial (Below.refl _ _) (Nat.le_refl _) (by simp) ?_; (case hd | hg => rfl); (case hr => go_simp); (case hp => exact (Reps.one (show Kd.M (Kd.int .i64) _ _ _ (Int.tmod (wrap64 (JB + 1)) a0) [.int .i64 (Int.tmod (wrap64 (JB + 1)) a0)] from rfl) (Reps.none _ _))); intro v120 w22 ho23 hb hg_ hnew_; clear hg_ hnew_; (rw [← Ny119.1] at ho23); replace V7 := hqZ (Kd.S_elder' (V7.1) (Kd.R_base ho23) hb); have Xe := hqZ (Kd.R_lower ho23 (zb0 (HB.1))); replace Y2 := hqZ (zd0 (g := jF) (Y2.1) hb); replace VJ := hqZ (zd0 (g := j6) (VJ.1) hb); replace HB := hqZ (za0 (HB.1) hb); clear hb ho23; have hnb24 := uI.1; have hnc24 := jd.1; have Zg : w22.cell? ⟨j6, 0, none⟩ = some (u119000) := (zf0 VJ.1 0).trans rfl; have Zh := zc0 VJ.1 0; obtain ⟨uh, ui, eo27⟩ := Kd.R_slice Xe.1; subst eo27) | ((with_reducible refine zu0 (b := .append) (xs := #[.tmp 30, .tmp 32]) rfl ?_); at_builtin; refine Kd.S_append (Kd.slice 3 (Kd.int .i64)) (w0 := w) w.heap.size rfl (.tmp 30) (.tmp 32) 24 27 (.slice none 0 0) 24 rfl Try.underlying24 info27 rfl (by decide) (by omega) u119000 Vo Xd [.slice uh Xd.length ui] (fun _ => True) (fun k_ => some k_ = (.slice uh Xd.length ui : Value).ownBlock) rfl rfl ?aP (fun k_ hk_ => ((Kd.R_mono (ok' := fun k_ => ((fun _ => True)) k_ ∧ some k_ ≠ (u119000 : Value).ownBlock) (Kd.R_apart' (Xe.1) (Kd.S_typed V7.1) (by decide)) (fun k_ hk => ⟨trivial, hk.2⟩))).1 k_ hk_.symm) ?aF ?aO ?aB ?aS ?aL ?_; (case aP => exact Kd.M_row (Kd.R_mono (Kd.R_tight rfl (Kd.R_mono (ok' := fun k_ => ((fun _ => True)) k_ ∧ some k_ ≠ (u119000 : Value).ownBlock) (Kd.R_apart' (Xe.1) (Kd.S_typed V7.1) (by decide)) (fun k_ hk => ⟨trivial, hk.2⟩))) (fun _ h_ => h_))); (case aB => exact (HB.1)); (case aF => exact (fun _ _ => trivial)); (case aO => exact (Kd.S_mono V7.1 (fun k_ hk => ⟨trivial, fun e_ => hk.2 e_⟩))); (case aS => exact (zb0 (HB.1))); (case aL => have := LMc21.1; omega); intro v129 w26 ho hb hg hat; rw [← Ny128.1] at ho; have n0_ := hqZ (zl0 (g := jF) (Y2.1) hg (Kd.S_ne V7.1 Y2.1 (by decide))); have n1_ := hqZ (zl0 (g := j6) (VJ.1) hg (Kd.S_ne V7.1 VJ.1 (by decide))); have n2_ := hqZ (hb); have n3_ := hqZ (ho); clear Y2; clear VJ; clear HB; clear V7; clear Xe; have Y2 := n0_; have VJ := n1_; have HB := n2_; have D4 := n3_; clear n0_ n1_ n2_ n3_; clear ho hb hg hat; obtain ⟨Zi, Zj, eo28⟩ := Kd.S_slice D4.1; subst eo28; have qN : w26.cell? ⟨j6, 0, none⟩ = some (u119000) := (zf0 VJ.1 0).trans rfl; have qO := zc0 VJ.1 0))
   go_roundg k1
   case measure => have := V8.1; omega
   case rel => exact ⟨(wrap64 (JB + 1)), (Zf), (.slice Zi Zf.length Zj), (rfl), H', ⟨by have := V8.1; omega⟩, ⟨Kd.S_mono (Kd.S_far (p := ⟨j6, 0, none⟩) (Kd.S_types D4.1 VJ.1 (by decide)) (fun _ hk => hk.2) (.slice Zi Zf.length Zj)) (fun _ hk => trivial)⟩, ⟨by refine blk_far ?_ jd.1 _; exact Y2.1⟩, ⟨by refine blk_put (cs := #[u119000]) ?_ 0 _ rfl; exact VJ.1⟩, ⟨zm0 HB.1 E2.1⟩⟩
  subst c9
  rw [if_pos rfl] at H
  by_cases c10 : Xd.length < 17592186044416
  rotate_left
  ·rw [if_neg c10] at H
   exact absurd H (by simp)
  rw [if_pos c10] at H
  have LMc10 := hqZ c10
  clear c10
  obtain ⟨E3, hy122⟩ : ∃ y_ : List Int, y_ = (Xd ++ [Int.tmod (wrap64 ((wrap64 (JB + a0)) - 1)) a0]) := ⟨_, rfl⟩
  replace H : (if Vo.length < 5864062014805 then (yv0.l0 k1 a0 true (wrap64 (JB + 1)) (Vo ++ [E3])) else (none)) = some r := by (rw [hy122]; with_reducible exact H)
  have Ny122 := hqZ hy122
  clear hy122
  by_cases c11 : Vo.length < 5864062014805
  rotate_left
  ·rw [if_neg c11] at H
   exact absurd H (by simp)
  rw [if_pos c11] at H
  have LMc11 := hqZ c11
  clear c11
  obtain ⟨Zk, hy125⟩ : ∃ y_ : List (List Int), y_ = (Vo ++ [E3]) := ⟨_, rfl⟩
  replace H : (yv0.l0 k1 a0 true (wrap64 (JB + 1)) Zk) = some r := by (rw [hy125]; with_reducible exact H)
  have Ny125 := hqZ hy125
  clear hy125
  have H' := hqZ H
  clear H
  go_wp2_with (first | ((with_reducible refine zi0 (N := 18) rfl ?_); refine Kd.R_lit (Kd.int .i64) _ 3 ?hg (N := 18) ?hd (xs := ([Int.tmod (wrap64 (JB + 1)) a0] : List Int)) (inner := [.int .i64 (Int.tmod (wrap64 (JB + 1)) a0)]) (ok := fun _ => True) (okp := fun _ => True) ?hr ?hp (fun _ hk => hk) trivial (Below.refl _ _) (Nat.le_refl _) (by simp) ?_; (case hd | hg => rfl); (case hr => go_simp); (case hp => exact (Reps.one (show Kd.M (Kd.int .i64) _ _ _ (Int.tmod (wrap64 (JB + 1)) a0) [.int .i64 (Int.tmod (wrap64 (JB + 1)) a0)] from rfl) (Reps.none _ _))); intro v120 w12 ho13 hb hg_ hnew_; clear hg_ hnew_; (rw [← Ny119.1] at ho13); replace V7 := hqZ (Kd.S_elder' (V7.1) (Kd.R_base ho13) hb); have Xe := hqZ (Kd.R_lower ho13 (zb0 (HB.1))); replace Y2 := hqZ (zd0 (g := jF) (Y2.1) hb); replace VJ := hqZ (zd0 (g := j6) (VJ.1) hb); replace HB := hqZ (za0 (HB.1) hb); clear hb ho13) | ((with_reducible refine zu0 (b := .append) (xs := #[.tmp 20, .tmp 27]) rfl ?_); at_builtin; refine Kd.R_append (Kd.int .i64) (w0 := w) w.heap.size rfl (.tmp 20) (.tmp 27) 27 3 (.int .i64 0) 8 rfl Try.underlying27 info3 rfl (by decide) (by omega) v120 Xd (Int.tmod (wrap64 ((wrap64 (JB + a0)) - 1)) a0) [.int .i64 (Int.tmod (wrap64 ((wrap64 (JB + a0)) - 1)) a0)] (fun _ => True) (fun _ => False) rfl rfl ?aP (fun _ hk => hk.elim) ?aF ?aO ?aB ?aS ?aL ?_; (case aP => exact rfl); (case aB => exact (HB.1)); (case aF => exact (fun _ _ => trivial)); (case aO => exact (Xe.1)); (case aS => exact (zb0 (HB.1))); (case aL => have := LMc10.1; omega); intro v123 w14 ho hb hg hat; rw [← Ny122.1] at ho; have n0_ := hqZ (Kd.S_after (ok := (fun _ => True)) (V7.1) hg hat); have n1_ := hqZ (zl0 (g := jF) (Y2.1) hg (Kd.R_ne Xe.1 Y2.1 (by decide))); have n2_ := hqZ (zl0 (g := j6) (VJ.1) hg (Kd.R_ne Xe.1 VJ.1 (by decide))); have n3_ := hqZ (hb); have n4_ := hqZ (ho); clear V7; clear Y2; clear VJ; clear HB; clear Xe; have V7 := n0_; have Y2 := n1_; have VJ := n2_; have HB := n3_; have qP := n4_; clear n0_ n1_ n2_ n3_ n4_; clear ho hb hg hat; have hnb15 := uI.1; have hnc15 := jd.1; have YM : w14.cell? ⟨j6, 0, none⟩ = some (u119000) := (zf0 VJ.1 0).trans rfl; have YN := zc0 VJ.1 0; obtain ⟨qn, Uy, eo18⟩ := Kd.R_slice qP.1; subst eo18) | ((with_reducible refine zu0 (b := .append) (xs := #[.tmp 30, .tmp 32]) rfl ?_); at_builtin; refine Kd.S_append (Kd.slice 3 (Kd.int .i64)) (w0 := w) w.heap.size rfl (.tmp 30) (.tmp 32) 24 27 (.slice none 0 0) 24 rfl Try.underlying24 info27 rfl (by decide) (by omega) u119000 Vo E3 [.slice qn E3.length Uy] (fun _ => True) (fun k_ => some k_ = (.slice qn E3.length Uy : Value).ownBlock) rfl rfl ?aP (fun k_ hk_ => ((Kd.R_mono (ok' := fun k_ => ((fun _ => True)) k_ ∧ some k_ ≠ (u119000 : Value).ownBlock) (Kd.R_apart' (qP.1) (Kd.S_typed V7.1) (by decide)) (fun k_ hk => ⟨trivial, hk.2⟩))).1 k_ hk_.symm) ?aF ?aO ?aB ?aS ?aL ?_; (case aP => exact Kd.M_row (Kd.R_mono (Kd.R_tight rfl (Kd.R_mono (ok' := fun k_ => ((fun _ => True)) k_ ∧ some k_ ≠ (u119000 : Value).ownBlock) (Kd.R_apart' (qP.1) (Kd.S_typed V7.1) (by decide)) (fun k_ hk => ⟨trivial, hk.2⟩))) (fun _ h_ => h_))); (case aB => exact (HB.1)); (case aF => exact (fun _ _ => trivial)); (case aO => exact (Kd.S_mono V7.1 (fun k_ hk => ⟨trivial, fun e_ => hk.2 e_⟩))); (case aS => exact (zb0 (HB.1))); (case aL => have := LMc11.1; omega); intro v126 w17 ho hb hg hat; rw [← Ny125.1] at ho; have n0_ := hqZ (zl0 (g := jF) (Y2.1) hg (Kd.S_ne V7.1 Y2.1 (by decide))); have n1_ := hqZ (zl0 (g := j6) (VJ.1) hg (Kd.S_ne V7.1 VJ.1 (by decide))); have n2_ := hqZ (hb); have n3_ := hqZ (ho); clear Y2; clear VJ; clear HB; clear V7; clear qP; have Y2 := n0_; have VJ := n1_; have HB := n2_; have D5 := n3_; clear n0_ n1_ n2_ n3_; clear ho hb hg hat; obtain ⟨qo, Uf, eo19⟩ := Kd.S_slice D5.1; subst eo19; have jJ : w17.cell? ⟨j6, 0, none⟩ = some (u119000) := (zf0 VJ.1 0).trans rfl; have jK := zc0 VJ.1 0))
  go_roundg k1
  case measure => have := V8.1; omega
  case rel => exact ⟨(wrap64 (JB + 1)), (Zk), (.slice qo Zk.length Uf), (rfl), H', ⟨by have := V8.1; omega⟩, ⟨Kd.S_mono (Kd.S_far (p := ⟨j6, 0, none⟩) (Kd.S_types D5.1 VJ.1 (by decide)) (fun _ hk => hk.2) (.slice qo Zk.length Uf)) (fun _ hk => trivial)⟩, ⟨by refine blk_far ?_ jd.1 _; exact Y2.1⟩, ⟨by refine blk_put (cs := #[u119000]) ?_ 0 _ rfl; exact VJ.1⟩, ⟨zm0 HB.1 E2.1⟩⟩
mutual
def ye0.l0 : Nat → Int → Int → List Int → Int → Int → List (List Int) → Option ((List (List Int)) × Int × Int)
 | 0, _, _, _, _, _, _ => none
 | k + 1, x5, x7, VD, VY, VZ, Y3 => if x7 < x5 then ((yz0.f VD VY VZ 3).bind fun E4 => (ye0.l1 k x5 x7 ([] : List Int) (wrap64 (1 + E4.1)) VD E4.2.1 E4.2.2 Y3)) else ((ys0.f VD VY VZ 2).bind fun Uz => (if Uz.1 = true then (ye0.l2 k x5 (Y3.length : Int) 0 VD Uz.2.1 Uz.2.2 Y3) else (some (Y3, Uz.2.1, Uz.2.2))))
def ye0.l1 : Nat → Int → Int → List Int → Int → List Int → Int → Int → List (List Int) → Option ((List (List Int)) × Int × Int)
 | 0, _, _, _, _, _, _, _, _ => none
 | k + 1, x5, x7, x8, x9, VD, VY, VZ, Y3 => if x9 > 0 then ((yz0.f VD VY VZ x5).bind fun E5 => (if x8.length < 17592186044416 then (ye0.l1 k x5 x7 (x8 ++ [E5.1]) (wrap64 (x9 - 1)) VD E5.2.1 E5.2.2 Y3) else (none))) else ((ys0.f VD VY VZ 8).bind fun UA => (if UA.1 = true then (if Y3.length < 5864062014805 then (ye0.l0 k x5 (wrap64 (x7 + 1)) VD UA.2.1 UA.2.2 (Y3 ++ [([] : List Int)])) else (none)) else (if Y3.length < 5864062014805 then (ye0.l0 k x5 (wrap64 (x7 + 1)) VD UA.2.1 UA.2.2 (Y3 ++ [x8])) else (none))))
def ye0.l2 : Nat → Int → Int → Int → List Int → Int → Int → List (List Int) → Option ((List (List Int)) × Int × Int)
 | 0, _, _, _, _, _, _, _ => none
 | k + 1, x5, mY, Ug, VD, VY, VZ, Y3 => if Ug < mY then (if 0 ≤ Ug then (if Ug < (Y3.length : Int) then (if x5 = 0 then (none) else (if (rd_L2 Y3 Ug).length < 17592186044416 then (ye0.l2 k x5 mY (wrap64 (Ug + 1)) VD VY VZ (Y3.set (Ug : Int).toNat ((rd_L2 Y3 Ug) ++ [Int.tmod (wrap64 (Ug + 1)) x5]))) else (none))) else (none)) else (none)) else (some (Y3, VY, VZ))
end
def ye0.f (k : Nat) (J6 : List Int) (Jv : Int) (JQ : Int) (a1 : Int) : Option ((List (List Int)) × Int × Int) := (yz0.f J6 Jv JQ a1).bind fun Xf => ((ys0.f J6 Xf.2.1 Xf.2.2 4).bind fun ul => (if ul.1 = true then ((ys0.f J6 ul.2.1 ul.2.2 2).bind fun oH => ((yv0.f k (wrap64 (1 + Xf.1)) oH.1).bind fun qp => (some (qp, oH.2.1, oH.2.2)))) else (ye0.l0 k (wrap64 (1 + Xf.1)) 0 J6 ul.2.1 ul.2.2 ([] : List (List Int)))))
theorem ye0.mono_l : ∀ k, (∀ y0 y1 y2 y3 y4 y5, LeO (ye0.l0 k y0 y1 y2 y3 y4 y5) (ye0.l0 (k + 1) y0 y1 y2 y3 y4 y5)) ∧ (∀ y0 y1 y2 y3 y4 y5 y6 y7, LeO (ye0.l1 k y0 y1 y2 y3 y4 y5 y6 y7) (ye0.l1 (k + 1) y0 y1 y2 y3 y4 y5 y6 y7)) ∧ (∀ y0 y1 y2 y3 y4 y5 y6, LeO (ye0.l2 k y0 y1 y2 y3 y4 y5 y6) (ye0.l2 (k + 1) y0 y1 y2 y3 y4 y5 y6))
 | 0 => ⟨fun _ _ _ _ _ _ r h => by simp [ye0.l0] at h, fun _ _ _ _ _ _ _ _ r h => by simp [ye0.l1] at h, fun _ _ _ _ _ _ _ r h => by simp [ye0.l2] at h⟩
 | k + 1 => by
  obtain ⟨ih0, ih1, ih2⟩ := ye0.mono_l k
  refine ⟨?_, ?_, ?_⟩
  ·intro y0 y1 y2 y3 y4 y5
   unfold ye0.l0
   repeat' (with_reducible first | apply ih0 | apply ih1 | apply ih2 | apply yv0.mono | apply LeO.refl | apply LeO.none | refine LeO.ite ?_ ?_ | refine LeO.bind ?_ (fun _ => ?_))
  ·intro y0 y1 y2 y3 y4 y5 y6 y7
   unfold ye0.l1
   repeat' (with_reducible first | apply ih0 | apply ih1 | apply ih2 | apply yv0.mono | apply LeO.refl | apply LeO.none | refine LeO.ite ?_ ?_ | refine LeO.bind ?_ (fun _ => ?_))
  ·intro y0 y1 y2 y3 y4 y5 y6
   unfold ye0.l2
   repeat' (with_reducible first | apply ih0 | apply ih1 | apply ih2 | apply yv0.mono | apply LeO.refl | apply LeO.none | refine LeO.ite ?_ ?_ | refine LeO.bind ?_ (fun _ => ?_))
theorem ye0.mono : ∀ a0 a1 a2 a3 k, LeO (ye0.f k a0 a1 a2 a3) (ye0.f (k + 1) a0 a1 a2 a3) := by
 intro a0 a1 a2 a3 k
 obtain ⟨ih0, ih1, ih2⟩ := ye0.mono_l k
 unfold ye0.f
 repeat' (with_reducible first | apply ih0 | apply ih1 | apply ih2 | apply yv0.mono | apply LeO.refl | apply LeO.none | refine LeO.ite ?_ ?_ | refine LeO.bind ?_ (fun _ => ?_))
def ye0.T20 : Bool × List (List Nat × List Nat) := (true, [([], []), ([0], [0]), ([], []), ([], []), ([3], [3]), ([], []), ([4, 5], [4, 5]), ([6], [6]), ([], []), ([8], [8]), ([], []), ([9, 10], [9, 10]), ([11], [11]), ([7, 12], [7, 12]), ([1, 2, 0, 1, 2, 3, 4, 5, 6, 7, 8, 9, 10, 11, 12, 13], [1, 2]), ([14, 13, 13, 0, 1, 2, 3, 4, 5, 6, 7, 8, 9, 10, 11, 12, 13], [13, 14])])
def ye0.B20 : List Nat := [0, 1, 0, 0, 8, 0, 56, 120, 0, 256, 0, 1792, 3840, 8184, 16383, 32767]
theorem ye0.tab20 : rtab .any (opsOf Try.f70 20) = ye0.T20 := by kernel_rfl
theorem ye0.bits20 : waitsOk ye0.T20.2 ye0.B20 = true := by kernel_rfl
theorem ye0.calls (k : Nat) (g : Nat) (J6 : List Int) (Jv : Int) (JQ : Int) (a1 : Int) (r1 : List (List Int)) (r2 : Int) (r3 : Int) (w0 w : World) (hI : IsS46 w0 w g J6 Jv JQ) (hB : Below w0.heap.size w0 w) (h : ye0.f k J6 Jv JQ a1 = some (r1, r2, r3)) :
  Calls Try.prog 70 #[.pointer (some ⟨g, 0, none⟩), .int .i64 a1] w fun e w' => ∃ v0_ : Value, e = .returned (.agg #[v0_]) ∧ Kd.S (Kd.slice 3 (Kd.int .i64)) 27 w' w.heap.size (fun _ => True) v0_ r1 ∧ IsS46 w0 w' g J6 r2 r3 ∧ Below w0.heap.size w0 w' ∧ zh0 w w' g none := by
 have hu26 := Try.underlying26
 have Jg := hqZ hI
 have HK := hqZ (zh0.refl w g none)
 have HL := hqZ hB.size
 clear hI
 have HW0 := hqZ hB.size
 have HB := hqZ hB
 clear hB
 have H : ((yz0.f J6 Jv JQ a1).bind fun Xf => ((ys0.f J6 Xf.2.1 Xf.2.2 4).bind fun ul => (if ul.1 = true then ((ys0.f J6 ul.2.1 ul.2.2 2).bind fun oH => ((yv0.f k (wrap64 (1 + Xf.1)) oH.1).bind fun qp => (some (qp, oH.2.1, oH.2.2)))) else (ye0.l0 k (wrap64 (1 + Xf.1)) 0 J6 ul.2.1 ul.2.2 ([] : List (List Int)))))) = some (r1, r2, r3) := h
 clear h
 replace H := Option.bind_eq_some_iff.mp H
 obtain ⟨⟨jX, Zl, Zm⟩, A30, H⟩ := H
 try dsimp only at H
 have A3 := hqZ A30
 clear A30
 replace H := Option.bind_eq_some_iff.mp H
 obtain ⟨⟨Jd1, dy, dz⟩, A40, H⟩ := H
 try dsimp only at H
 have A4 := hqZ A40
 clear A40
 by_cases c5 : Jd1 = true
 ·subst c5
  rw [if_pos rfl] at H
  replace H := Option.bind_eq_some_iff.mp H
  obtain ⟨⟨DE, Jd2, Jd3⟩, A60, H⟩ := H
  try dsimp only at H
  have A6 := hqZ A60
  clear A60
  replace H := Option.bind_eq_some_iff.mp H
  obtain ⟨qp, A70, H⟩ := H
  try dsimp only at H
  have A7 := hqZ A70
  clear A70
  simp only [Option.some.injEq, Prod.mk.injEq] at H
  obtain ⟨rfl, rfl, rfl⟩ := H
  go_enter Try.func70, Try.ntmps70
  go_wp2_with (first | ((with_reducible refine zi0 (N := 4) rfl ?_); refine zk0 ?hg (N := 4) ?hd (cs := #[.slice none 0 0]) (t := 26) ?hr ?_; (case hd | hg => rfl); (case hr => go_simp); intro Vd hg w8 hbox hb; replace HB := hqZ (za0 (HB.1) hb); have JC := hqZ (hbox); have qQ := hqZ ((by rw [hg]; exact (zj0 (w := w) (g := g) (row := none) (HK.1)) : w.heap.size ≤ Vd)); have qR := hqZ ((Nat.le_trans HW0.1 (by rw [hg]; exact (zj0 (w := w) (g := g) (row := none) (HK.1)) : w.heap.size ≤ Vd) : w0.heap.size ≤ Vd)); replace HK := hqZ (zh0.trans (HK.1) (zh0.of_below hb g none) (.inl rfl)); have vW := hqZ ((by rw [hg]; exact Nat.ne_of_lt (IsS46.lt (show IsS46 w0 _ g J6 Jv JQ from Jg.1)) : g ≠ Vd)); have Yc := hqZ ((by rw [hg]; exact Nat.ne_of_gt (IsS46.lt (show IsS46 w0 _ g J6 Jv JQ from Jg.1)) : Vd ≠ g)); replace Jg := hqZ (IsS46.below (Jg.1) hb); clear hb hbox hg) | ((with_reducible refine ze0 (f := 55) rfl ?_); refine zM (some 13) Try.func55 #[.pointer (some ⟨g, 0, none⟩), .int .i64 a1] ?_; (with_reducible refine (yz0.calls g J6 Jv JQ a1 jX Zl Zm w0 _ ?side1 ?side2 A3.1).mono ?_); (case side1 => exact Jg.1); (case side2 => exact HB.1); rintro e w9 ⟨rfl, hi, hb, hk⟩; refine ⟨_, rfl, ?_⟩; replace JC := hqZ (zh0.blk hk (g' := Vd) (JC.1) Yc.1 (by simp)); replace HK := hqZ (zh0.trans (HK.1) hk (.inl rfl)); replace HB := hqZ (hb); replace Jg := hqZ (hi); clear hb hk hi) | ((with_reducible refine ze0 (f := 34) rfl ?_); refine zM (some 16) Try.func34 #[.pointer (some ⟨g, 0, none⟩), .int .i64 4] ?_; (with_reducible refine (ys0.calls g J6 Zl Zm 4 true dy dz w0 _ ?side1 ?side2 A4.1).mono ?_); (case side1 => exact Jg.1); (case side2 => exact HB.1); rintro e w10 ⟨rfl, hi, hb, hk⟩; refine ⟨_, rfl, ?_⟩; replace JC := hqZ (zh0.blk hk (g' := Vd) (JC.1) Yc.1 (by simp)); replace HK := hqZ (zh0.trans (HK.1) hk (.inl rfl)); replace HB := hqZ (hb); replace Jg := hqZ (hi); clear hb hk hi) | ((with_reducible refine ze0 (f := 34) rfl ?_); refine zM (some 19) Try.func34 #[.pointer (some ⟨g, 0, none⟩), .int .i64 2] ?_; (with_reducible refine (ys0.calls g J6 dy dz 2 DE Jd2 Jd3 w0 _ ?side1 ?side2 A6.1).mono ?_); (case side1 => exact Jg.1); (case side2 => exact HB.1); rintro e w11 ⟨rfl, hi, hb, hk⟩; refine ⟨_, rfl, ?_⟩; replace JC := hqZ (zh0.blk hk (g' := Vd) (JC.1) Yc.1 (by simp)); replace HK := hqZ (zh0.trans (HK.1) hk (.inl rfl)); replace HB := hqZ (hb); replace Jg := hqZ (hi); clear hb hk hi) | ((with_reducible refine ze0 (f := 76) rfl ?_); refine zM (some 20) Try.func76 #[.int .i64 (wrap64 (1 + jX)), .bool DE] ?_; (with_reducible refine (yv0.calls k (wrap64 (1 + jX)) DE qp _ A7.1).mono ?_); rintro e w12 ⟨v142, rfl, ho0, hb⟩; refine ⟨_, rfl, ?_⟩; have D6 := hqZ (Kd.S_lower ho0 (zj0 (w := w) (g := g) (row := none) (HK.1))); replace JC := hqZ (zd0 (g := Vd) (JC.1) hb); replace HK := hqZ (zh0.trans (HK.1) (zh0.of_below hb g none) (.inl rfl)); replace HB := hqZ (za0 (HB.1) hb); replace Jg := hqZ (IsS46.below (Jg.1) hb); clear hb ho0; obtain ⟨JU, JR, eo13⟩ := Kd.S_slice D6.1; subst eo13; have hnb14 := Yc.1; have hnc14 := vW.1; have jL : w12.cell? ⟨Vd, 0, none⟩ = some (.slice none 0 0) := (zf0 JC.1 0).trans rfl; have jM := zc0 JC.1 0))
  refine bodyPost_ret (results_cell_row rfl _ _ Vd 26 #[.slice JU qp.length JR] (0, 0) _ rfl (by refine blk_put (cs := #[.slice none 0 0]) ?_ 0 _ rfl; exact JC.1) Try.underlying26 rfl (by kernel_rfl)) rfl ?_
  exact ⟨_, rfl, Kd.S_mono (Kd.S_far (p := ⟨Vd, 0, none⟩) (Kd.S_types D6.1 JC.1 (by decide)) (fun _ hk => hk.2) (.slice JU qp.length JR)) (fun _ hk => trivial), IsS46.far Jg.1 vW.1 _, zm0 HB.1 qR.1, keep_far HK.1 qQ.1 _⟩
 replace c5 := Bool.eq_false_iff.mpr c5
 subst c5
 rw [if_neg (show ¬ (false = true) by decide)] at H
 have H' := hqZ H
 clear H
 go_enter Try.func70, Try.ntmps70
 go_wp2_with (first | ((with_reducible refine zi0 (N := 4) rfl ?_); refine zk0 ?hg (N := 4) ?hd (cs := #[.slice none 0 0]) (t := 26) ?hr ?_; (case hd | hg => rfl); (case hr => go_simp); intro Vd hg w16 hbox hb; replace HB := hqZ (za0 (HB.1) hb); have JC := hqZ (hbox); have qQ := hqZ ((by rw [hg]; exact (zj0 (w := w) (g := g) (row := none) (HK.1)) : w.heap.size ≤ Vd)); have qR := hqZ ((Nat.le_trans HW0.1 (by rw [hg]; exact (zj0 (w := w) (g := g) (row := none) (HK.1)) : w.heap.size ≤ Vd) : w0.heap.size ≤ Vd)); replace HK := hqZ (zh0.trans (HK.1) (zh0.of_below hb g none) (.inl rfl)); have vW := hqZ ((by rw [hg]; exact Nat.ne_of_lt (IsS46.lt (show IsS46 w0 _ g J6 Jv JQ from Jg.1)) : g ≠ Vd)); have Yc := hqZ ((by rw [hg]; exact Nat.ne_of_gt (IsS46.lt (show IsS46 w0 _ g J6 Jv JQ from Jg.1)) : Vd ≠ g)); replace Jg := hqZ (IsS46.below (Jg.1) hb); clear hb hbox hg) | ((with_reducible refine ze0 (f := 55) rfl ?_); refine zM (some 13) Try.func55 #[.pointer (some ⟨g, 0, none⟩), .int .i64 a1] ?_; (with_reducible refine (yz0.calls g J6 Jv JQ a1 jX Zl Zm w0 _ ?side1 ?side2 A3.1).mono ?_); (case side1 => exact Jg.1); (case side2 => exact HB.1); rintro e w17 ⟨rfl, hi, hb, hk⟩; refine ⟨_, rfl, ?_⟩; replace JC := hqZ (zh0.blk hk (g' := Vd) (JC.1) Yc.1 (by simp)); replace HK := hqZ (zh0.trans (HK.1) hk (.inl rfl)); replace HB := hqZ (hb); replace Jg := hqZ (hi); clear hb hk hi) | ((with_reducible refine ze0 (f := 34) rfl ?_); refine zM (some 16) Try.func34 #[.pointer (some ⟨g, 0, none⟩), .int .i64 4] ?_; (with_reducible refine (ys0.calls g J6 Zl Zm 4 false dy dz w0 _ ?side1 ?side2 A4.1).mono ?_); (case side1 => exact Jg.1); (case side2 => exact HB.1); rintro e w18 ⟨rfl, hi, hb, hk⟩; refine ⟨_, rfl, ?_⟩; replace JC := hqZ (zh0.blk hk (g' := Vd) (JC.1) Yc.1 (by simp)); replace HK := hqZ (zh0.trans (HK.1) hk (.inl rfl)); replace HB := hqZ (hb); replace Jg := hqZ (hi); clear hb hk hi) | ((with_reducible refine zi0 (N := 6) rfl ?_); refine zk0 ?hg (N := 6) ?hd (cs := #[.slice none 0 0]) (t := 26) ?hr ?_; (case hd | hg => rfl); (case hr => go_simp); intro VS hg w19 hbox hb; replace HB := hqZ (za0 (HB.1) hb); have JK := hqZ (hbox); have E6 := hqZ ((by rw [hg]; exact (zj0 (w := w) (g := g) (row := none) (HK.1)) : w.heap.size ≤ VS)); have E7 := hqZ ((Nat.le_trans HW0.1 (by rw [hg]; exact (zj0 (w := w) (g := g) (row := none) (HK.1)) : w.heap.size ≤ VS) : w0.heap.size ≤ VS)); replace HK := hqZ (zh0.trans (HK.1) (zh0.of_below hb g none) (.inl rfl)); have Yo := hqZ ((by rw [hg]; exact Nat.ne_of_lt (blk_lt (g := Vd) (JC.1)) : Vd ≠ VS)); have jT := hqZ ((by rw [hg]; exact Nat.ne_of_gt (blk_lt (g := Vd) (JC.1)) : VS ≠ Vd)); replace JC := hqZ (zd0 (g := Vd) (JC.1) hb); have jN := hqZ ((by rw [hg]; exact Nat.ne_of_lt (IsS46.lt (show IsS46 w0 _ g J6 dy dz from Jg.1)) : g ≠ VS)); have YD := hqZ ((by rw [hg]; exact Nat.ne_of_gt (IsS46.lt (show IsS46 w0 _ g J6 dy dz from Jg.1)) : VS ≠ g)); replace Jg := hqZ (IsS46.below (Jg.1) hb); clear hb hbox hg; have hnb20 := jT.1; have hnc20 := Yo.1; have hnb21 := YD.1; have hnc21 := jN.1; have Yp : w19.cell? ⟨VS, 0, none⟩ = some (.slice none 0 0) := (zf0 JK.1 0).trans rfl; have Yq := zc0 JK.1 0))
 go_loopg [7] k (fun kq v7 w' => ∃ (jm : Int) (JD : Int) (JE : Int) (JZ : List (List Int)) (u145000 : Value), v7 = .int .i64 jm ∧ zg0 (ye0.l0 kq (wrap64 (1 + jX)) jm J6 JD JE JZ = some (r1, r2, r3)) ∧ zg0 (kq ≤ k) ∧ zg0 (Kd.S (Kd.slice 3 (Kd.int .i64)) 27 w' w.heap.size (fun _ => True) u145000 JZ) ∧ zg0 (w'.heap[Vd]? = some (.cells #[(.slice none 0 0)] 26 (0, 0))) ∧ zg0 (w'.heap[VS]? = some (.cells #[u145000] 26 (0, 0))) ∧ zg0 (IsS46 w0 w' g J6 JD JE) ∧ zg0 (zh0 w w' g none) ∧ zg0 (Below w0.heap.size w0 w'))
 case atStart => exact ⟨(0), (dy), (dz), (([] : List (List Int))), (.slice none 0 0), (rfl), H', ⟨Nat.le_refl _⟩, ⟨by exact Kd.S_nil _ _ _ _ _⟩, ⟨by refine blk_far ?_ Yo.1 _; exact JC.1⟩, ⟨by refine blk_put (cs := #[.slice none 0 0]) ?_ 0 _ rfl; exact JK.1⟩, ⟨IsS46.far Jg.1 jN.1 _⟩, ⟨keep_far HK.1 E6.1 _⟩, ⟨zm0 HB.1 E7.1⟩⟩
 case round =>
  clear H'
  try clear c1
  try clear c2
  try clear p2
  try clear c3
  try clear c5
  try clear p6
  try clear c7
  try clear c14
  try clear c20
  try clear c21
  try clear jL
  try clear Yp
  try clear jM
  try clear Yq
  obtain ⟨jm, JD, JE, JZ, u145000, rfl, HA, V8, Jd, JC, JK, Jg, HK, HB⟩ := hrel
  obtain _ | k1 := gk
  ·exact absurd HA.1 (by simp [ye0.l0])
  have H := HA.1
  clear HA
  simp only [ye0.l0] at H
  by_cases c23 : jm < (wrap64 (1 + jX))
  ·rw [if_pos c23] at H
   have c23b0 : decide (jm < (wrap64 (1 + jX))) = true := decide_eq_true c23
   clear c23
   replace H := Option.bind_eq_some_iff.mp H
   obtain ⟨⟨mZ, b5, b8⟩, A240, H⟩ := H
   try dsimp only at H
   have A24 := hqZ A240
   clear A240
   have H' := hqZ H
   clear H
   go_wp2_with (((with_reducible refine ze0 (f := 55) rfl ?_); refine zM (some 28) Try.func55 #[.pointer (some ⟨g, 0, none⟩), .int .i64 3] ?_; (with_reducible refine (yz0.calls g J6 JD JE 3 mZ b5 b8 w0 _ ?side1 ?side2 A24.1).mono ?_); (case side1 => exact Jg.1); (case side2 => exact HB.1); rintro e w25 ⟨rfl, hi, hb, hk⟩; refine ⟨_, rfl, ?_⟩; replace Jd := hqZ (Kd.S_mono (Kd.S_keep (IsS46.apartS (show IsS46 w0 _ g J6 JD JE from Jg.1) (Jd.1) (by decide)) hk (fun _ h => h.2)) (fun _ h => h.1)); replace JC := hqZ (zh0.blk hk (g' := Vd) (JC.1) Yc.1 (by simp)); replace JK := hqZ (zh0.blk hk (g' := VS) (JK.1) YD.1 (by simp)); replace HK := hqZ (zh0.trans (HK.1) hk (.inl rfl)); replace HB := hqZ (hb); replace Jg := hqZ (hi); clear hb hk hi))
   go_loopg [8, 9] k1 (fun kq v8 v9 w' => ∃ (Jw : List Int) (UB : Int) (V0 : Int) (V1 : Int), v9 = .int .i64 UB ∧ zg0 (ye0.l1 kq (wrap64 (1 + jX)) jm Jw UB J6 V0 V1 JZ = some (r1, r2, r3)) ∧ zg0 (kq ≤ k1) ∧ zg0 (Kd.R (Kd.int .i64) 3 w' w.heap.size (fun _ => True) v8 Jw) ∧ zg0 (Kd.S (Kd.slice 3 (Kd.int .i64)) 27 w' w.heap.size (fun k_ => some k_ ≠ (v8 : Value).ownBlock) u145000 JZ) ∧ zg0 (w'.heap[Vd]? = some (.cells #[(.slice none 0 0)] 26 (0, 0))) ∧ zg0 (w'.heap[VS]? = some (.cells #[u145000] 26 (0, 0))) ∧ zg0 (IsS46 w0 w' g J6 V0 V1) ∧ zg0 (zh0 w w' g none) ∧ zg0 (Below w0.heap.size w0 w'))
   case atStart => exact ⟨(([] : List Int)), (wrap64 (1 + mZ)), (b5), (b8), (rfl), H', ⟨Nat.le_refl _⟩, ⟨by exact Kd.R_nil _ _ _ _ _⟩, ⟨Kd.S_mono Jd.1 (fun _ hk => (by simp [Value.ownBlock]))⟩, ⟨JC.1⟩, ⟨JK.1⟩, ⟨Jg.1⟩, ⟨HK.1⟩, ⟨HB.1⟩⟩
   case round =>
    clear H'
    try clear c1
    try clear c2
    try clear p2
    try clear c3
    try clear c5
    try clear p6
    try clear c7
    try clear c14
    try clear c20
    try clear c21
    try clear c23
    try clear c23b0
    try clear jL
    try clear Yp
    try clear jM
    try clear Yq
    try clear p2
    try clear p6
    obtain ⟨Jw, UB, V0, V1, rfl, HA, YO, VP, Jd, JC, JK, Jg, HK, HB⟩ := hrel
    obtain _ | k2 := gk
    ·exact absurd HA.1 (by simp [ye0.l1])
    have H := HA.1
    clear HA
    simp only [ye0.l1] at H
    by_cases c26 : UB > 0
    ·rw [if_pos c26] at H
     have c26b0 : decide (0 < UB) = true := decide_eq_true c26
     clear c26
     replace H := Option.bind_eq_some_iff.mp H
     obtain ⟨⟨Zn, DF, DG⟩, A270, H⟩ := H
     try dsimp only at H
     have A27 := hqZ A270
     clear A270
     by_cases c28 : Jw.length < 17592186044416
     rotate_left
     ·rw [if_neg c28] at H
      exact absurd H (by simp)
     rw [if_pos c28] at H
     have LMc28 := hqZ c28
     clear c28
     obtain ⟨b9, hy151⟩ : ∃ y_ : List Int, y_ = (Jw ++ [Zn]) := ⟨_, rfl⟩
     replace H : (ye0.l1 k2 (wrap64 (1 + jX)) jm b9 (wrap64 (UB - 1)) J6 DF DG JZ) = some (r1, r2, r3) := by (rw [hy151]; with_reducible exact H)
     have Ny151 := hqZ hy151
     clear hy151
     have H' := hqZ H
     clear H
     go_wp2_with (first | ((with_reducible refine ze0 (f := 55) rfl ?_); refine zM (some 37) Try.func55 #[.pointer (some ⟨g, 0, none⟩), .int .i64 (wrap64 (1 + jX))] ?_; (with_reducible refine (yz0.calls g J6 V0 V1 (wrap64 (1 + jX)) Zn DF DG w0 _ ?side1 ?side2 A27.1).mono ?_); (case side1 => exact Jg.1); (case side2 => exact HB.1); rintro e w29 ⟨rfl, hi, hb, hk⟩; refine ⟨_, rfl, ?_⟩; replace VP := hqZ (Kd.R_mono (Kd.R_keep (IsS46.apart (show IsS46 w0 _ g J6 V0 V1 from Jg.1) (VP.1) (by decide)) hk (fun _ h => h.2)) (fun _ h => h.1)); replace Jd := hqZ (Kd.S_mono (Kd.S_keep (IsS46.apartS (show IsS46 w0 _ g J6 V0 V1 from Jg.1) (Jd.1) (by decide)) hk (fun _ h => h.2)) (fun _ h => h.1)); replace JC := hqZ (zh0.blk hk (g' := Vd) (JC.1) Yc.1 (by simp)); replace JK := hqZ (zh0.blk hk (g' := VS) (JK.1) YD.1 (by simp)); replace HK := hqZ (zh0.trans (HK.1) hk (.inl rfl)); replace HB := hqZ (hb); replace Jg := hqZ (hi); clear hb hk hi) | ((with_reducible refine zu0 (b := .append) (xs := #[.tmp 34, .tmp 38]) rfl ?_); at_builtin; refine Kd.R_append (Kd.int .i64) w.heap.size rfl (.tmp 34) (.tmp 38) 27 3 (.int .i64 0) 8 rfl Try.underlying27 info3 rfl (by decide) (by omega) u8 Jw Zn [.int .i64 Zn] (fun _ => True) (fun _ => False) rfl rfl ?aP (fun _ hk => hk.elim) ?aF ?aO (Below.refl _ _) ?aS ?aL ?_; (case aP => exact rfl); (case aF => exact (fun _ _ => trivial)); (case aO => exact (by (with_reducible repeat (first | apply Kd.R_alloc | apply Kd.R_drewN | apply Kd.R_drew)); exact VP.1)); (case aS => exact (zj0 (w := w) (g := g) (row := none) (HK.1))); (case aL => have := LMc28.1; omega); intro v152 w30 ho hb hg hat; rw [← Ny151.1] at ho; have n0_ := hqZ (Kd.S_after (ok := (fun _ => True)) (Kd.S_mono Jd.1 (fun _ hk => ⟨trivial, hk⟩)) hg hat); have n1_ := hqZ (zl0 (g := Vd) (JC.1) hg (Kd.R_ne VP.1 JC.1 (by decide))); have n2_ := hqZ (zl0 (g := VS) (JK.1) hg (Kd.R_ne VP.1 JK.1 (by decide))); have n3_ := hqZ (IsS46.grown (Jg.1) hg (IsS46.own_ne Jg.1 VP.1 (by decide))); have n4_ := hqZ (below_weaken (HB.1) HL.1 hb); have n5_ := hqZ (zh0.trans (HK.1) (zh0.of_grown hg g) (Kd.R_base2 VP.1)); have n6_ := hqZ (ho); clear Jd; clear JC; clear JK; clear Jg; clear HB; clear HK; clear VP; have Jd := n0_; have JC := n1_; have JK := n2_; have Jg := n3_; have HB := n4_; have HK := n5_; have ba := n6_; clear n0_ n1_ n2_ n3_ n4_ n5_ n6_; clear ho hb hg hat))
     go_roundg k2
     case measure => have := V8.1; have := YO.1; omega
     case rel => exact ⟨(b9), (wrap64 (UB - 1)), (DF), (DG), (rfl), H', ⟨by have := V8.1; have := YO.1; omega⟩, ⟨ba.1⟩, ⟨Kd.S_mono Jd.1 (fun _ hk => hk.2)⟩, ⟨JC.1⟩, ⟨JK.1⟩, ⟨Jg.1⟩, ⟨HK.1⟩, ⟨HB.1⟩⟩
    rw [if_neg c26] at H
    have c26b0 : decide (0 < UB) = false := decide_eq_false c26
    clear c26
    replace H := Option.bind_eq_some_iff.mp H
    obtain ⟨⟨Jd4, dA, dB⟩, A310, H⟩ := H
    try dsimp only at H
    have A31 := hqZ A310
    clear A310
    by_cases c32 : Jd4 = true
    ·subst c32
     rw [if_pos rfl] at H
     by_cases c33 : JZ.length < 5864062014805
     rotate_left
     ·rw [if_neg c33] at H
      exact absurd H (by simp)
     rw [if_pos c33] at H
     have LMc33 := hqZ c33
     clear c33
     obtain ⟨Zo, hy157⟩ : ∃ y_ : List (List Int), y_ = (JZ ++ [([] : List Int)]) := ⟨_, rfl⟩
     replace H : (ye0.l0 k2 (wrap64 (1 + jX)) (wrap64 (jm + 1)) J6 dA dB Zo) = some (r1, r2, r3) := by (rw [hy157]; with_reducible exact H)
     have Ny157 := hqZ hy157
     clear hy157
     have H' := hqZ H
     clear H
     go_wp2_with (first | ((with_reducible refine ze0 (f := 34) rfl ?_); refine zM (some 41) Try.func34 #[.pointer (some ⟨g, 0, none⟩), .int .i64 8] ?_; (with_reducible refine (ys0.calls g J6 V0 V1 8 true dA dB w0 _ ?side1 ?side2 A31.1).mono ?_); (case side1 => exact Jg.1); (case side2 => exact HB.1); rintro e w34 ⟨rfl, hi, hb, hk⟩; refine ⟨_, rfl, ?_⟩; replace VP := hqZ (Kd.R_mono (Kd.R_keep (IsS46.apart (show IsS46 w0 _ g J6 V0 V1 from Jg.1) (VP.1) (by decide)) hk (fun _ h => h.2)) (fun _ h => h.1)); replace Jd := hqZ (Kd.S_mono (Kd.S_keep (IsS46.apartS (show IsS46 w0 _ g J6 V0 V1 from Jg.1) (Jd.1) (by decide)) hk (fun _ h => h.2)) (fun _ h => h.1)); replace JC := hqZ (zh0.blk hk (g' := Vd) (JC.1) Yc.1 (by simp)); replace JK := hqZ (zh0.blk hk (g' := VS) (JK.1) YD.1 (by simp)); replace HK := hqZ (zh0.trans (HK.1) hk (.inl rfl)); replace HB := hqZ (hb); replace Jg := hqZ (hi); clear hb hk hi; have hnb35 := jT.1; have hnc35 := Yo.1; have hnb36 := YD.1; have hnc36 := jN.1; have Zp : w34.cell? ⟨VS, 0, none⟩ = some (u145000) := (zf0 JK.1 0).trans rfl; have Zq := zc0 JK.1 0) | ((with_reducible refine zu0 (b := .append) (xs := #[.tmp 43, .tmp 45]) rfl ?_); at_builtin; refine Kd.S_append (Kd.slice 3 (Kd.int .i64)) w.heap.size rfl (.tmp 43) (.tmp 45) 24 27 (.slice none 0 0) 24 rfl Try.underlying24 info27 rfl (by decide) (by omega) u145000 JZ ([] : List Int) [.slice none 0 0] (fun k_ => some k_ ≠ (u8 : Value).ownBlock) (fun _ => False) rfl rfl ?aP (fun k_ hk_ => hk_.elim) ?aF ?aO (Below.refl _ _) ?aS ?aL ?_; (case aP => exact Kd.M_row (Kd.R_nil _ _ _ _ _)); (case aF => exact (fun k_ hk => Kd.fresh' (Kd.R_lt (VP.1)) k_ hk)); (case aO => exact (Kd.S_mono Jd.1 (fun k_ hk => ⟨hk, fun e_ => e_⟩))); (case aS => exact (zj0 (w := w) (g := g) (row := none) (HK.1))); (case aL => have := LMc33.1; omega); intro v158 w38 ho hb hg hat; rw [← Ny157.1] at ho; have n0_ := hqZ (Kd.R_over' (VP.1) (Kd.S_typed (Jd.1)) (by decide) hg); have n1_ := hqZ (zl0 (g := Vd) (JC.1) hg (Kd.S_ne Jd.1 JC.1 (by decide))); have n2_ := hqZ (zl0 (g := VS) (JK.1) hg (Kd.S_ne Jd.1 JK.1 (by decide))); have n3_ := hqZ (IsS46.grown (Jg.1) hg (IsS46.own_neS Jg.1 Jd.1 (by decide))); have n4_ := hqZ (below_weaken (HB.1) HL.1 hb); have n5_ := hqZ (zh0.trans (HK.1) (zh0.of_grown hg g) (Kd.S_base2 Jd.1)); have n6_ := hqZ (ho); clear VP; clear JC; clear JK; clear Jg; clear HB; clear HK; clear Jd; have VP := n0_; have JC := n1_; have JK := n2_; have Jg := n3_; have HB := n4_; have HK := n5_; have qS := n6_; clear n0_ n1_ n2_ n3_ n4_ n5_ n6_; clear ho hb hg hat; obtain ⟨X3, Xg, eo39⟩ := Kd.S_slice qS.1; subst eo39; have qT : w38.cell? ⟨VS, 0, none⟩ = some (u145000) := (zf0 JK.1 0).trans rfl; have qU := zc0 JK.1 0))
     go_roundg k2
     case measure => have := V8.1; have := YO.1; omega
     case rel => exact ⟨(wrap64 (jm + 1)), (dA), (dB), (Zo), (.slice X3 Zo.length Xg), (rfl), H', ⟨by have := V8.1; have := YO.1; omega⟩, ⟨Kd.S_mono (Kd.S_far (p := ⟨VS, 0, none⟩) (Kd.S_types qS.1 JK.1 (by decide)) (fun _ hk => hk.2) (.slice X3 Zo.length Xg)) (fun _ hk => trivial)⟩, ⟨by refine blk_far ?_ Yo.1 _; exact JC.1⟩, ⟨by refine blk_put (cs := #[u145000]) ?_ 0 _ rfl; exact JK.1⟩, ⟨IsS46.far Jg.1 jN.1 _⟩, ⟨keep_far HK.1 E6.1 _⟩, ⟨zm0 HB.1 E7.1⟩⟩
    replace c32 := Bool.eq_false_iff.mpr c32
    subst c32
    rw [if_neg (show ¬ (false = true) by decide)] at H
    by_cases c41 : JZ.length < 5864062014805
    rotate_left
    ·rw [if_neg c41] at H
     exact absurd H (by simp)
    rw [if_pos c41] at H
    have LMc41 := hqZ c41
    clear c41
    obtain ⟨Zr, hy160⟩ : ∃ y_ : List (List Int), y_ = (JZ ++ [Jw]) := ⟨_, rfl⟩
    replace H : (ye0.l0 k2 (wrap64 (1 + jX)) (wrap64 (jm + 1)) J6 dA dB Zr) = some (r1, r2, r3) := by (rw [hy160]; with_reducible exact H)
    have Ny160 := hqZ hy160
    clear hy160
    have H' := hqZ H
    clear H
    go_wp2_with (first | ((with_reducible refine ze0 (f := 34) rfl ?_); refine zM (some 41) Try.func34 #[.pointer (some ⟨g, 0, none⟩), .int .i64 8] ?_; (with_reducible refine (ys0.calls g J6 V0 V1 8 false dA dB w0 _ ?side1 ?side2 A31.1).mono ?_); (case side1 => exact Jg.1); (case side2 => exact HB.1); rintro e w42 ⟨rfl, hi, hb, hk⟩; refine ⟨_, rfl, ?_⟩; replace VP := hqZ (Kd.R_mono (Kd.R_keep (IsS46.apart (show IsS46 w0 _ g J6 V0 V1 from Jg.1) (VP.1) (by decide)) hk (fun _ h => h.2)) (fun _ h => h.1)); replace Jd := hqZ (Kd.S_mono (Kd.S_keep (IsS46.apartS (show IsS46 w0 _ g J6 V0 V1 from Jg.1) (Jd.1) (by decide)) hk (fun _ h => h.2)) (fun _ h => h.1)); replace JC := hqZ (zh0.blk hk (g' := Vd) (JC.1) Yc.1 (by simp)); replace JK := hqZ (zh0.blk hk (g' := VS) (JK.1) YD.1 (by simp)); replace HK := hqZ (zh0.trans (HK.1) hk (.inl rfl)); replace HB := hqZ (hb); replace Jg := hqZ (hi); clear hb hk hi; have hnb43 := jT.1; have hnc43 := Yo.1; have hnb44 := YD.1; have hnc44 := jN.1; have jg : w42.cell? ⟨VS, 0, none⟩ = some (u145000) := (zf0 JK.1 0).trans rfl; have jh := zc0 JK.1 0; obtain ⟨DH, DI, eo47⟩ := Kd.R_slice VP.1; subst eo47) | ((with_reducible refine zu0 (b := .append) (xs := #[.tmp 43, .tmp 45]) rfl ?_); at_builtin; refine Kd.S_append (Kd.slice 3 (Kd.int .i64)) w.heap.size rfl (.tmp 43) (.tmp 45) 24 27 (.slice none 0 0) 24 rfl Try.underlying24 info27 rfl (by decide) (by omega) u145000 JZ Jw [.slice DH Jw.length DI] (fun _ => True) (fun k_ => some k_ = (.slice DH Jw.length DI : Value).ownBlock) rfl rfl ?aP (fun k_ hk_ => ((Kd.R_mono (ok' := fun k_ => ((fun _ => True)) k_ ∧ some k_ ≠ (u145000 : Value).ownBlock) (Kd.R_apart' (VP.1) (Kd.S_typed Jd.1) (by decide)) (fun k_ hk => ⟨trivial, hk.2⟩))).1 k_ hk_.symm) ?aF ?aO (Below.refl _ _) ?aS ?aL ?_; (case aP => exact Kd.M_row (Kd.R_mono (Kd.R_tight rfl (Kd.R_mono (ok' := fun k_ => ((fun _ => True)) k_ ∧ some k_ ≠ (u145000 : Value).ownBlock) (Kd.R_apart' (VP.1) (Kd.S_typed Jd.1) (by decide)) (fun k_ hk => ⟨trivial, hk.2⟩))) (fun _ h_ => h_))); (case aF => exact (fun _ _ => trivial)); (case aO => exact (Kd.S_mono Jd.1 (fun k_ hk => ⟨trivial, fun e_ => hk e_⟩))); (case aS => exact (zj0 (w := w) (g := g) (row := none) (HK.1))); (case aL => have := LMc41.1; omega); intro v161 w46 ho hb hg hat; rw [← Ny160.1] at ho; have n0_ := hqZ (zl0 (g := Vd) (JC.1) hg (Kd.S_ne Jd.1 JC.1 (by decide))); have n1_ := hqZ (zl0 (g := VS) (JK.1) hg (Kd.S_ne Jd.1 JK.1 (by decide))); have n2_ := hqZ (IsS46.grown (Jg.1) hg (IsS46.own_neS Jg.1 Jd.1 (by decide))); have n3_ := hqZ (below_weaken (HB.1) HL.1 hb); have n4_ := hqZ (zh0.trans (HK.1) (zh0.of_grown hg g) (Kd.S_base2 Jd.1)); have n5_ := hqZ (ho); clear JC; clear JK; clear Jg; clear HB; clear HK; clear Jd; clear VP; have JC := n0_; have JK := n1_; have Jg := n2_; have HB := n3_; have HK := n4_; have D7 := n5_; clear n0_ n1_ n2_ n3_ n4_ n5_; clear ho hb hg hat; obtain ⟨DJ, DK, eo48⟩ := Kd.S_slice D7.1; subst eo48; have Zs : w46.cell? ⟨VS, 0, none⟩ = some (u145000) := (zf0 JK.1 0).trans rfl; have Zt := zc0 JK.1 0))
    go_roundg k2
    case measure => have := V8.1; have := YO.1; omega
    case rel => exact ⟨(wrap64 (jm + 1)), (dA), (dB), (Zr), (.slice DJ Zr.length DK), (rfl), H', ⟨by have := V8.1; have := YO.1; omega⟩, ⟨Kd.S_mono (Kd.S_far (p := ⟨VS, 0, none⟩) (Kd.S_types D7.1 JK.1 (by decide)) (fun _ hk => hk.2) (.slice DJ Zr.length DK)) (fun _ hk => trivial)⟩, ⟨by refine blk_far ?_ Yo.1 _; exact JC.1⟩, ⟨by refine blk_put (cs := #[u145000]) ?_ 0 _ rfl; exact JK.1⟩, ⟨IsS46.far Jg.1 jN.1 _⟩, ⟨keep_far HK.1 E6.1 _⟩, ⟨zm0 HB.1 E7.1⟩⟩
  rw [if_neg c23] at H
  have c23b0 : decide (jm < (wrap64 (1 + jX))) = false := decide_eq_false c23
  clear c23
  replace H := Option.bind_eq_some_iff.mp H
  obtain ⟨⟨Jd5, dC, dD⟩, A500, H⟩ := H
  try dsimp only at H
  have A50 := hqZ A500
  clear A500
  by_cases c51 : Jd5 = true
  rotate_left
  ·replace c51 := Bool.eq_false_iff.mpr c51
   subst c51
   rw [if_neg (show ¬ (false = true) by decide)] at H
   simp only [Option.some.injEq, Prod.mk.injEq] at H
   obtain ⟨rfl, rfl, rfl⟩ := H
   go_wp2_with (((with_reducible refine ze0 (f := 34) rfl ?_); refine zM (some 49) Try.func34 #[.pointer (some ⟨g, 0, none⟩), .int .i64 2] ?_; (with_reducible refine (ys0.calls g J6 JD JE 2 false dC dD w0 _ ?side1 ?side2 A50.1).mono ?_); (case side1 => exact Jg.1); (case side2 => exact HB.1); rintro e w76 ⟨rfl, hi, hb, hk⟩; refine ⟨_, rfl, ?_⟩; replace Jd := hqZ (Kd.S_mono (Kd.S_keep (IsS46.apartS (show IsS46 w0 _ g J6 JD JE from Jg.1) (Jd.1) (by decide)) hk (fun _ h => h.2)) (fun _ h => h.1)); replace JC := hqZ (zh0.blk hk (g' := Vd) (JC.1) Yc.1 (by simp)); replace JK := hqZ (zh0.blk hk (g' := VS) (JK.1) YD.1 (by simp)); replace HK := hqZ (zh0.trans (HK.1) hk (.inl rfl)); replace HB := hqZ (hb); replace Jg := hqZ (hi); clear hb hk hi; have hnb77 := jT.1; have hnc77 := Yo.1; have hnb78 := YD.1; have hnc78 := jN.1; have Xh : w76.cell? ⟨VS, 0, none⟩ = some (u145000) := (zf0 JK.1 0).trans rfl; have Xi := zc0 JK.1 0; obtain ⟨DL, o7, eo80⟩ := Kd.S_slice Jd.1; subst eo80; have hnb81 := Yc.1; have hnc81 := vW.1; have Ny : w76.cell? ⟨Vd, 0, none⟩ = some (.slice none 0 0) := (zf0 JC.1 0).trans rfl; have Nz := zc0 JC.1 0))
   refine bodyPost_ret (results_cell_row rfl _ _ Vd 26 #[.slice DL JZ.length o7] (0, 0) _ rfl (by refine blk_put (cs := #[.slice none 0 0]) ?_ 0 _ rfl; exact JC.1) Try.underlying26 rfl (by kernel_rfl)) rfl ?_
   exact ⟨_, rfl, Kd.S_mono (Kd.S_far (p := ⟨Vd, 0, none⟩) (Kd.S_types Jd.1 JC.1 (by decide)) (fun _ hk => hk.2) (.slice DL JZ.length o7)) (fun _ hk => trivial), IsS46.far Jg.1 vW.1 _, zm0 HB.1 qR.1, keep_far HK.1 qQ.1 _⟩
  subst c51
  rw [if_pos rfl] at H
  have H' := hqZ H
  clear H
  go_wp2_with (((with_reducible refine ze0 (f := 34) rfl ?_); refine zM (some 49) Try.func34 #[.pointer (some ⟨g, 0, none⟩), .int .i64 2] ?_; (with_reducible refine (ys0.calls g J6 JD JE 2 true dC dD w0 _ ?side1 ?side2 A50.1).mono ?_); (case side1 => exact Jg.1); (case side2 => exact HB.1); rintro e w52 ⟨rfl, hi, hb, hk⟩; refine ⟨_, rfl, ?_⟩; replace Jd := hqZ (Kd.S_mono (Kd.S_keep (IsS46.apartS (show IsS46 w0 _ g J6 JD JE from Jg.1) (Jd.1) (by decide)) hk (fun _ h => h.2)) (fun _ h => h.1)); replace JC := hqZ (zh0.blk hk (g' := Vd) (JC.1) Yc.1 (by simp)); replace JK := hqZ (zh0.blk hk (g' := VS) (JK.1) YD.1 (by simp)); replace HK := hqZ (zh0.trans (HK.1) hk (.inl rfl)); replace HB := hqZ (hb); replace Jg := hqZ (hi); clear hb hk hi; have hnb53 := jT.1; have hnc53 := Yo.1; have hnb54 := YD.1; have hnc54 := jN.1; have uJ : w52.cell? ⟨VS, 0, none⟩ = some (u145000) := (zf0 JK.1 0).trans rfl; have uK := zc0 JK.1 0; obtain ⟨DM, DN, eo56⟩ := Kd.S_slice Jd.1; subst eo56))
  go_loopg [53] k1 (fun kq v53 w' => ∃ (Jq : Int) (JO : List (List Int)) (u145000 : Value), v53 = .int .i64 Jq ∧ zg0 (ye0.l2 kq (wrap64 (1 + jX)) (JZ.length : Int) Jq J6 dC dD JO = some (r1, r2, r3)) ∧ zg0 (kq ≤ k1) ∧ zg0 (Kd.S (Kd.slice 3 (Kd.int .i64)) 27 w' w.heap.size (fun _ => True) u145000 JO) ∧ zg0 (w'.heap[Vd]? = some (.cells #[(.slice none 0 0)] 26 (0, 0))) ∧ zg0 (w'.heap[VS]? = some (.cells #[u145000] 26 (0, 0))) ∧ zg0 (IsS46 w0 w' g J6 dC dD) ∧ zg0 (zh0 w w' g none) ∧ zg0 (Below w0.heap.size w0 w'))
  case atStart => exact ⟨(0), (JZ), (.slice DM JZ.length DN), (rfl), H', ⟨Nat.le_refl _⟩, ⟨Jd.1⟩, ⟨JC.1⟩, ⟨JK.1⟩, ⟨Jg.1⟩, ⟨HK.1⟩, ⟨HB.1⟩⟩
  case round =>
   clear H'
   try clear c1
   try clear c2
   try clear p2
   try clear c3
   try clear c4
   try clear c5
   try clear p6
   try clear c7
   try clear c14
   try clear c20
   try clear c21
   try clear c23
   try clear c23b0
   try clear c26
   try clear c26b0
   try clear c28
   try clear c32
   try clear c33
   try clear c34
   try clear c35
   try clear c36
   try clear c41
   try clear c43
   try clear c44
   try clear c51
   try clear c53
   try clear c54
   try clear c55
   try clear jL
   try clear Yp
   try clear Zp
   try clear qT
   try clear jg
   try clear Zs
   try clear uJ
   try clear jM
   try clear Yq
   try clear Zq
   try clear qU
   try clear jh
   try clear Zt
   try clear uK
   try clear p2
   try clear p6
   obtain ⟨Jq, JO, u145000, rfl, HA, YO, Jd, JC, JK, Jg, HK, HB⟩ := hrel
   obtain _ | k2 := gk
   ·exact absurd HA.1 (by simp [ye0.l2])
   have H := HA.1
   clear HA
   simp only [ye0.l2] at H
   by_cases c57 : Jq < (JZ.length : Int)
   rotate_left
   ·rw [if_neg c57] at H
    have c57b0 : decide (Jq < (JZ.length : Int)) = false := decide_eq_false c57
    clear c57
    simp only [Option.some.injEq, Prod.mk.injEq] at H
    obtain ⟨rfl, rfl, rfl⟩ := H
    have hnb70 := jT.1
    have hnc70 := Yo.1
    have hnb71 := YD.1
    have hnc71 := jN.1
    have NA : wr.cell? ⟨VS, 0, none⟩ = some (u145000) := (zf0 JK.1 0).trans rfl
    have NB := zc0 JK.1 0
    obtain ⟨bb, bc, eo73⟩ := Kd.S_slice Jd.1
    subst eo73
    have hnb74 := Yc.1
    have hnc74 := vW.1
    have NC : wr.cell? ⟨Vd, 0, none⟩ = some (.slice none 0 0) := (zf0 JC.1 0).trans rfl
    have ND := zc0 JC.1 0
    go_wp2
    refine bodyPost_ret (results_cell_row rfl _ _ Vd 26 #[.slice bb JO.length bc] (0, 0) _ rfl (by refine blk_put (cs := #[.slice none 0 0]) ?_ 0 _ rfl; exact JC.1) Try.underlying26 rfl (by kernel_rfl)) rfl ?_
    exact ⟨_, rfl, Kd.S_mono (Kd.S_far (p := ⟨Vd, 0, none⟩) (Kd.S_types Jd.1 JC.1 (by decide)) (fun _ hk => hk.2) (.slice bb JO.length bc)) (fun _ hk => trivial), IsS46.far Jg.1 vW.1 _, zm0 HB.1 qR.1, keep_far HK.1 qQ.1 _⟩
   rw [if_pos c57] at H
   have c57b0 : decide (Jq < (JZ.length : Int)) = true := decide_eq_true c57
   clear c57
   by_cases c58 : 0 ≤ Jq
   rotate_left
   ·rw [if_neg c58] at H
    exact absurd H (by simp)
   rw [if_pos c58] at H
   have c58b0 : decide (0 ≤ Jq) = true := decide_eq_true c58
   clear c58
   by_cases c59 : Jq < (JO.length : Int)
   rotate_left
   ·rw [if_neg c59] at H
    exact absurd H (by simp)
   rw [if_pos c59] at H
   have c59b0 : decide (Jq < (JO.length : Int)) = true := decide_eq_true c59
   clear c59
   by_cases c60 : (wrap64 (1 + jX)) = 0
   ·rw [if_pos c60] at H
    exact absurd H (by simp)
   rw [if_neg c60] at H
   have c60b0 : ((wrap64 (1 + jX)) == 0) = false := beq_eq_false_iff_ne.mpr c60
   have c60b1 : ((wrap64 (1 + jX)) != 0) = true := bne_iff_ne.mpr c60
   by_cases c61 : (rd_L2 JO Jq).length < 17592186044416
   rotate_left
   ·rw [if_neg c61] at H
    exact absurd H (by simp)
   rw [if_pos c61] at H
   have LMc61 := hqZ c61
   clear c61
   obtain ⟨Zu, hy167⟩ : ∃ y_ : List Int, y_ = ((rd_L2 JO Jq) ++ [Int.tmod (wrap64 (Jq + 1)) (wrap64 (1 + jX))]) := ⟨_, rfl⟩
   replace H : (ye0.l2 k2 (wrap64 (1 + jX)) (JZ.length : Int) (wrap64 (Jq + 1)) J6 dC dD (JO.set (Jq : Int).toNat Zu)) = some (r1, r2, r3) := by (rw [hy167]; with_reducible exact H)
   have Ny167 := hqZ hy167
   clear hy167
   obtain ⟨be, hy170⟩ : ∃ y_ : List (List Int), y_ = (JO.set (Jq : Int).toNat Zu) := ⟨_, rfl⟩
   replace H : (ye0.l2 k2 (wrap64 (1 + jX)) (JZ.length : Int) (wrap64 (Jq + 1)) J6 dC dD be) = some (r1, r2, r3) := by (rw [hy170]; with_reducible exact H)
   have Ny170 := hqZ hy170
   clear hy170
   have H' := hqZ H
   clear H
   try go_wp2
   have n0_ := hqZ (Kd.S_drew Jd.1)
   have n1_ := hqZ (blk_drew JC.1)
   have n2_ := hqZ (blk_drew JK.1)
   have n3_ := hqZ (IsS46.drew Jg.1)
   have n4_ := hqZ (keep_drew HK.1)
   have n5_ := hqZ (below_drew1 HB.1)
   clear Jd JC JK Jg HK HB
   have Jd := n0_
   have JC := n1_
   have JK := n2_
   have Jg := n3_
   have HK := n4_
   have HB := n5_
   clear n0_ n1_ n2_ n3_ n4_ n5_
   obtain ⟨Jd6, jO, eo64⟩ := Kd.S_slice Jd.1
   (subst eo64)
   have p166 : 0 ≤ (Jq : Int) := oA
   have q166 : Jq < (JO.length : Int) := oA
   obtain ⟨ad166, qq, qr, e166, hx166_0, hl166_0, hi166_0⟩ := at_L2 (Kd.S_reads' Jd.1).2.2 Jq p166 q166
   cases e166
   obtain ⟨ce166, hce166, hMe166, hcc166⟩ := Kd.S_get Jd.1 [] Jq p166 (by exact q166)
   obtain ⟨ve166_0, rfl, ge166_0⟩ := hMe166
   have hv166_0 := hcc166 0 _ rfl
   rw [Nat.add_zero, show ((Kd.slice 3 (Kd.int .i64))).sz = 1 from rfl, Nat.mul_one] at hv166_0
   replace hv166_0 := Option.some.inj (hv166_0.symm.trans hx166_0)
   rw [hv166_0] at ge166_0
   have HL166_0 := hqZ (show Kd.R (Kd.int .i64) 3 _ _ _ _ (rd_L2 JO Jq) from ge166_0)
   clear hv166_0 ge166_0
   have HX166_0 := hqZ hx166_0
   clear hcc166 hce166
   have Zv := hqZ hi166_0
   have HC166_0 := hqZ hl166_0
   clear hi166_0 hl166_0
   replace p166 := eq_true p166
   replace q166 := eq_true q166
   obtain ⟨qt, Jo7, eo65, bg, gl65, cl65, HG65⟩ := Kd.S_form Jd.1 (by have h_ : (Jq : Int) < ((JO.length : Int) : Int) := oA; have h2_ : 0 ≤ (Jq : Int) := (oA); omega)
   (cases eo65)
   have GB65 := hqZ bg
   have GG65 := hqZ HG65
   clear bg gl65 HG65
   (simp only [add_plain] at hx166_0)
   obtain ⟨oki65, ce65, hcl65, hM65, hcc65, _, _, hH65⟩ := Kd.S_elem Jd.1 [] (Jq : Int) (oA) (by have h_ : (Jq : Int) < ((JO.length : Int) : Int) := oA; exact h_)
   obtain ⟨ve65_0, rfl, ge65_0⟩ := hM65
   have hv65 := hcc65 0 _ rfl
   have hX65 := HX166_0.1
   (try simp only [add_plain] at hX65)
   (try simp only [Nat.add_zero] at hv65)
   (try rw [show ((Kd.slice 3 (Kd.int .i64))).sz = 1 from rfl, Nat.mul_one] at hv65)
   replace hv65 := Option.some.inj (hv65.symm.trans hX65)
   subst hv65
   clear hX65 hcc65 hcl65
   have UU65 := hqZ (show Kd.R (Kd.int .i64) 3 _ w.heap.size oki65 (.slice qq (rd_L2 JO Jq).length qr) (rd_L2 JO Jq) from ge65_0)
   have HH65 := hqZ hH65
   have HN65 := hqZ (Kd.S_reads' Jd.1).1
   clear hH65 ge65_0
   refine start_ (n := 16) (S := fun w' => w'.cell? ⟨VS, 0, none⟩ = some (.slice (some ⟨qt, 0, none⟩) JO.length jO) ∧ w'.cell? ⟨qt, (Jq).toNat, none⟩ = some (.slice qq (rd_L2 JO Jq).length qr)) (ds := [15]) #[false, false, false, false, false, false, false, false, false, false, false, false, false, false, false, false] (by kernel_rfl) rfl rfl ⟨(zf0 JK.1 0).trans rfl, hx166_0⟩ (fun hHeld => ?_); refine with_tabW ye0.tab20 ye0.bits20 (fun HT_ HW_ => ?_)
   generalize wr.drew = w63 at Jd JC JK Jg HK HB GG65 HH65 HL166_0 Zv HX166_0 UU65 hx166_0 hHeld ⊢
   refine pure_ (i := 0) (N := some 56) (v := ?_) (a' := ?_) (bf 16 1) rfl rfl (zt0 HT_.1 (by kernel_rfl)) (fun _ _ _ h => h) (Or.inl ⟨by rfl, ?_⟩) ?_ ?_
   rotate_left
   ·intro w'; go_simp; with_reducible rfl
   rotate_left
   ·simp only [Act.put, zA, zB, zC, i64_w, i32_w]; rfl
   refine pure_ (i := 2) (N := some 58) (v := ?_) (a' := ?_) (bf 16 5) rfl rfl (zt0 HT_.1 (by kernel_rfl)) (fun _ _ _ h => h) (Or.inl ⟨by rfl, ?_⟩) ?_ ?_
   rotate_left
   ·intro w'; go_simp; with_reducible rfl
   rotate_left
   ·simp only [Act.put, zA, zB, zC, i64_w, i32_w]; rfl
   refine pure_ (i := 3) (N := some 59) (v := ?_) (a' := ?_) (bf 16 13) rfl rfl (zt0 HT_.1 (by kernel_rfl)) (fun _ _ _ h => h) (Or.inl ⟨by rfl, ?_⟩) ?_ ?_
   rotate_left
   ·intro w'; go_simp; with_reducible rfl
   rotate_left
   ·simp only [Act.put, zA, zB, zC, i64_w, i32_w]; rfl
   refine pure_ (i := 5) (N := some 61) (v := ?_) (a' := ?_) (bf 16 45) rfl rfl (zt0 HT_.1 (by kernel_rfl)) (fun _ _ _ h => h) (Or.inl ⟨by rfl, ?_⟩) ?_ ?_
   rotate_left
   ·intro w'; go_simp; with_reducible rfl
   rotate_left
   ·simp only [Act.put, zA, zB, zC, i64_w, i32_w]; rfl
   refine pure_ (i := 8) (N := some 64) (v := ?_) (a' := ?_) (bf 16 301) rfl rfl (zt0 HT_.1 (by kernel_rfl)) (fun _ _ _ h => h) (Or.inl ⟨by rfl, ?_⟩) ?_ ?_
   rotate_left
   ·intro w'; go_simp; with_reducible rfl
   rotate_left
   ·simp only [Act.put, zA, zB, zC, i64_w, i32_w]; rfl
   refine pure_ (i := 9) (N := some 65) (v := ?_) (a' := ?_) (bf 16 813) rfl rfl (zt0 HT_.1 (by kernel_rfl)) (fun _ _ _ h => h) (Or.inl ⟨by rfl, ?_⟩) ?_ ?_
   rotate_left
   ·intro w'; go_simp; with_reducible rfl
   rotate_left
   ·simp only [Act.put, zA, zB, zC, i64_w, i32_w]; rfl
   refine pure_ (i := 10) (N := some 66) (v := ?_) (a' := ?_) (bf 16 1837) rfl rfl (zt0 HT_.1 (by kernel_rfl)) (fun _ _ _ h => h) (Or.inl ⟨by rfl, ?_⟩) ?_ ?_
   rotate_left
   ·intro w'; go_simp; with_reducible rfl
   rotate_left
   ·simp only [Act.put, zA, zB, zC, i64_w, i32_w]; rfl
   refine pure_ (i := 11) (N := some 67) (v := ?_) (a' := ?_) (bf 16 3885) rfl rfl (zt0 HT_.1 (by kernel_rfl)) (fun _ _ _ h => h) (Or.inl ⟨by rfl, ?_⟩) ?_ ?_
   rotate_left
   ·intro w'; go_simp; with_reducible rfl
   rotate_left
   ·simp only [Act.put, zA, zB, zC, i64_w, i32_w]; rfl
   refine take_ (i := 1) (N := some 57) (v := ?_) (a' := ?_) (bf 16 3887) rfl rfl (take_ofW HT_.1 HW_.1 (by kernel_rfl)) (fun _ _ _ h => h) (Or.inl ⟨by rfl, ?_⟩) hHeld ?_ ?_
   rotate_left
   ·rintro w' ⟨s0, s1⟩; go_simp; with_reducible rfl
   rotate_left
   ·simp only [Act.put, zA, zB, zC, i64_w, i32_w]; rfl
   refine take_ (i := 4) (N := some 60) (v := ?_) (a' := ?_) (bf 16 3903) rfl rfl (take_ofW HT_.1 HW_.1 (by kernel_rfl)) (fun _ _ _ h => h) (Or.inl ⟨by rfl, ?_⟩) hHeld ?_ ?_
   rotate_left
   ·rintro w' ⟨s0, s1⟩; go_simp; with_reducible rfl
   rotate_left
   ·simp only [Act.put, zA, zB, zC, i64_w, i32_w]; rfl
   refine pure_ (i := 6) (N := some 62) (v := ?_) (a' := ?_) (bf 16 3967) rfl rfl (zt0 HT_.1 (by kernel_rfl)) (fun _ _ _ h => h) (Or.inl ⟨by rfl, ?_⟩) ?_ ?_
   rotate_left
   ·intro w'; go_simp; with_reducible rfl
   rotate_left
   ·simp only [Act.put, zA, zB, zC, i64_w, i32_w]; rfl
   refine take_ (i := 7) (N := some 63) (v := ?_) (a' := ?_) (bf 16 4095) rfl rfl (take_ofW HT_.1 HW_.1 (by kernel_rfl)) (fun _ _ _ h => h) (Or.inl ⟨by rfl, ?_⟩) hHeld ?_ ?_
   rotate_left
   ·rintro w' ⟨s0, s1⟩; go_simp; with_reducible rfl
   rotate_left
   ·simp only [Act.put, zA, zB, zC, i64_w, i32_w]; rfl
   refine one_ (i := 12) (N := some 68) (bf 16 8191) rfl rfl (one_of HT_.1 (by kernel_rfl)) (by decide) (fun K hK => ?_)
   refine value_ (w1 := ?_) (v := ?_) (by rfl) rfl ?_ ?_
   rotate_left 2
   ·go_simp
    constructor
    ·rfl
    ·rfl
   refine hK.out _ _ ⟨(zf0 (blk_alloc JK.1 _) 0).trans rfl, (World.cell?_alloc_lt _ _ _ (World.block_lt_of_cell? _ _ (hHeld.2))).trans (hHeld.2)⟩ (fun hHeld => ?_)
   clear hK K
   refine norm_ (a' := ?_) ?_ ?_
   rotate_left
   ·show Act.put _ (some 68) _ = _; simp only [Act.put, zA, zB, zC, i64_w, i32_w]; rfl
   refine one_ (i := 13) (N := some 69) (bf 16 16383) rfl rfl (one_of HT_.1 (by kernel_rfl)) (by decide) (fun K hK => ?_)
   refine Kd.R_append_step (Kd.int .i64) w.heap.size (by rfl) (.tmp 63) (.tmp 68) 27 3 (.int .i64 0) 8 rfl Try.underlying27 info3 rfl (by decide) (by omega) (.slice qq (rd_L2 JO Jq).length qr) (rd_L2 JO Jq) (Int.tmod (wrap64 (Jq + 1)) (wrap64 (1 + jX))) [.int .i64 (Int.tmod (wrap64 (Jq + 1)) (wrap64 (1 + jX)))] (fun k_ => oki65 k_ ∨ ((fun _ => True)) k_ ∧ w63.heap.size ≤ k_) (fun _ => False) rfl rfl ?aP (fun _ hk => hk.elim) ?aF ?aO (Below.refl _ _) ?aS ?aL ?_
   (case aP => exact rfl)
   (case aF => exact (fun k_ hk => .inr ⟨by trivial, hk⟩))
   (case aO => exact (Kd.R_mono UU65.1 (fun _ hk => .inl hk)))
   (case aS => exact (zj0 (w := w) (g := g) (row := none) (HK.1)))
   (case aL => have := LMc61.1; omega)
   intro v168 w66 ho hb hg hat
   (have HS1_ := cell_grown hg (cell_unalloc (hHeld.2) (by exact Kd.S_lt Jd.1 _ rfl)) (by exact (fun e_ => ((HL166_0.1.1 _ e_.symm).2) rfl)))
   rw [← Ny167.1] at ho
   have n0_ := hqZ (zl0 (g := Vd) (JC.1) hg (Kd.R_ne HL166_0.1 JC.1 (by decide)))
   have n1_ := hqZ (zl0 (g := VS) (JK.1) hg (Kd.R_ne HL166_0.1 JK.1 (by decide)))
   have n2_ := hqZ (IsS46.grown (Jg.1) hg (IsS46.own_ne Jg.1 HL166_0.1 (by decide)))
   have n3_ := hqZ (below_weaken (HB.1) HL.1 hb)
   have n4_ := hqZ (zh0.trans (HK.1) (zh0.of_grown hg g) (Kd.R_base2 HL166_0.1))
   have n5_ := hqZ (Kd.H_grown (Kd.H_widen (by repeat (exact HH65.1))) hg (fun k_ e_ => .inl (UU65.1.1 k_ e_)))
   have n6_ := hqZ (ho)
   clear JC JK Jg HB HK HH65 Jd UU65 HL166_0
   have JC := n0_
   have JK := n1_
   have Jg := n2_
   have HB := n3_
   have HK := n4_
   have HH65 := n5_
   have D8 := n6_
   clear n0_ n1_ n2_ n3_ n4_ n5_ n6_ ho hb hg hat
   have p62 : 0 ≤ (Jq : Int) := oA
   have q62 : (Jq : Int) < ((JO.length : Int) : Int) := oA
   replace p62 := eq_true p62
   replace q62 := eq_true q62
   obtain ⟨Jd7, Jd8, eo69⟩ := Kd.R_slice D8.1
   (subst eo69)
   obtain ⟨_, _, hraw67, _, _, hcc67, _⟩ := Kd.H_raw HH65.1 (oA) (by have h_ : (Jq : Int) < ((JO.length : Int) : Int) := oA; exact h_)
   obtain ⟨_, hfr67⟩ := Kd.H_at HH65.1 (oA) (by have h_ : (Jq : Int) < ((JO.length : Int) : Int) := oA; exact h_)
   have hx67_0 := hcc67 0 _ rfl
   have hf67_0 := hfr67 0
   (try simp only [Nat.add_zero] at hx67_0 hf67_0)
   (try rw [show ((Kd.slice 3 (Kd.int .i64))).sz = 1 from rfl, Nat.mul_one] at hx67_0)
   (try rw [show ((Kd.slice 3 (Kd.int .i64))).sz = 1 from rfl, Nat.mul_one] at hf67_0)
   have HP67 := Kd.S_seg0 HH65.1 (oA) (by have h_ : (Jq : Int) < ((JO.length : Int) : Int) := oA; exact h_) (seg := [.slice Jd7 Zu.length Jd8]) (j := 0) (show 1 ≤ 1 from by decide) (x' := Zu) (Kd.M_row D8.1) (fun _ hk => hk)
   (try simp only [show ((Kd.slice 3 (Kd.int .i64))).sz = 1 from rfl, Nat.mul_one, Nat.add_zero] at HP67)
   clear hcc67 hfr67
   have HN0_go65 := hqZ (show g ≠ qt from by have h_ := IsS46.own_ne Jg.1 hraw67 (by decide); intro e_; exact h_ (by rw [e_]; rfl))
   have HNB131_go65 := hqZ (show Vd ≠ qt from by have h_ := Kd.R_ne hraw67 JC.1 (by decide); intro e_; exact h_ (by rw [e_]; rfl))
   have HNB144_go65 := hqZ (show VS ≠ qt from by have h_ := Kd.R_ne hraw67 JK.1 (by decide); intro e_; exact h_ (by rw [e_]; rfl))
   have HS67 := HP67.1
   rw [← Ny170.1] at HS67
   have Jd9 := hqZ HS67
   obtain ⟨_, hgg67⟩ := Kd.R_typed hraw67 qt rfl
   have GG67_ := hqZ hgg67
   clear HP67 HS67 hgg67
   refine hK.out _ _ ⟨(zf0 JK.1 0).trans rfl, HS1_⟩ (fun hHeld => ?_)
   clear hK K
   refine norm_ (a' := ?_) ?_ ?_
   rotate_left
   ·show Act.put _ (some 69) _ = _; simp only [Act.put, zA, zB, zC, i64_w, i32_w]; rfl
   refine pure_ (i := 14) (N := some 70) (v := ?_) (a' := ?_) (bf 16 32767) rfl rfl (zt0 HT_.1 (by kernel_rfl)) (fun _ _ _ h => h) (Or.inl ⟨by rfl, ?_⟩) ?_ ?_
   rotate_left
   ·intro w'; go_simp; with_reducible rfl
   rotate_left
   ·simp only [Act.put, zA, zB, zC, i64_w, i32_w]; rfl
   refine last_ (i := 15) (N := none) (bf 16 65535) rfl rfl (one_of HT_.1 (by kernel_rfl)) (by decide) (fun K hK => ?_)
   refine skip_ (w1 := ?_) (by rfl) rfl ?_ ?_
   rotate_left
   ·go_simp
    rfl
   refine hK.out _ _ ?_
   clear hK K
   refine done_ (done_of HT_.1 (by kernel_rfl)) ?_
   try go_wp2
   go_roundg k2
   case measure => have := V8.1; have := YO.1; omega
   case rel => exact ⟨(wrap64 (Jq + 1)), (be), (.slice (some ⟨qt, 0, none⟩) JO.length jO), (rfl), H', ⟨by have := V8.1; have := YO.1; omega⟩, ⟨Jd9.1⟩, ⟨by refine blk_far ?_ HNB131_go65.1 _; exact JC.1⟩, ⟨by refine blk_far ?_ HNB144_go65.1 _; exact JK.1⟩, ⟨IsS46.far Jg.1 HN0_go65.1 _⟩, ⟨keep_far HK.1 GB65.1 _⟩, ⟨zm0 HB.1 (Nat.le_trans HL.1 GB65.1)⟩⟩
mutual
def yd0.l0 : Nat → Int → List Int → Int → Int → List (List Int) → Option (List Int)
 | 0, _, _, _, _, _ => none
 | k + 1, x1, x5, Uh, uY, YP => if uY < Uh then (if 0 ≤ uY then (if uY < (x5.length : Int) then (yd0.l0 k x1 (x5.set (uY : Int).toNat (-1)) Uh (wrap64 (uY + 1)) YP) else (none)) else (none)) else (if 0 ≤ x1 then (if x1 < (x5.length : Int) then (yd0.l1 k (x5.set (x1 : Int).toNat 0) (([x1] : List Int)) 0 YP) else (none)) else (none))
def yd0.l1 : Nat → List Int → List Int → Int → List (List Int) → Option (List Int)
 | 0, _, _, _, _ => none
 | k + 1, x5, x7, x8, YP => if x8 < (x7.length : Int) then (if 0 ≤ x8 then (if 0 ≤ (rd x7 x8) then (if (rd x7 x8) < (YP.length : Int) then (yd0.l2 k x5 x7 x8 (rd_L2 YP (rd x7 x8)) ((rd_L2 YP (rd x7 x8)).length : Int) 0 YP) else (none)) else (none)) else (none)) else (some x5)
def yd0.l2 : Nat → List Int → List Int → Int → List Int → Int → Int → List (List Int) → Option (List Int)
 | 0, _, _, _, _, _, _, _ => none
 | k + 1, x5, x7, x8, D9, bh, ql, YP => if ql < bh then (if 0 ≤ ql then (if ql < (D9.length : Int) then (if 0 ≤ (rd D9 ql) then (if (rd D9 ql) < (x5.length : Int) then (if (rd x5 (rd D9 ql)) < 0 then (if 0 ≤ x8 then (if x8 < (x7.length : Int) then (if 0 ≤ (rd x7 x8) then (if (rd x7 x8) < (x5.length : Int) then (if x7.length < 17592186044416 then (yd0.l2 k (x5.set ((rd D9 ql) : Int).toNat (wrap64 ((rd x5 (rd x7 x8)) + 1))) (x7 ++ [rd D9 ql]) x8 D9 bh (wrap64 (ql + 1)) YP) else (none)) else (none)) else (none)) else (none)) else (none)) else (yd0.l2 k x5 x7 x8 D9 bh (wrap64 (ql + 1)) YP)) else (none)) else (none)) else (none)) else (none)) else (yd0.l1 k x5 x7 (wrap64 (x8 + 1)) YP)
end
def yd0.f (k : Nat) (J0 : List (List Int)) (a1 : Int) : Option (List Int) := if 0 ≤ (J0.length : Int) then (if ((J0.length : Int) : Int).toNat ≤ 35184372088832 then ((some (List.replicate ((J0.length : Int) : Int).toNat 0 : List Int)).bind fun X4 => (yd0.l0 k a1 X4 (X4.length : Int) 0 J0)) else (none)) else (none)
theorem yd0.mono_l : ∀ k, (∀ y0 y1 y2 y3 y4, LeO (yd0.l0 k y0 y1 y2 y3 y4) (yd0.l0 (k + 1) y0 y1 y2 y3 y4)) ∧ (∀ y0 y1 y2 y3, LeO (yd0.l1 k y0 y1 y2 y3) (yd0.l1 (k + 1) y0 y1 y2 y3)) ∧ (∀ y0 y1 y2 y3 y4 y5 y6, LeO (yd0.l2 k y0 y1 y2 y3 y4 y5 y6) (yd0.l2 (k + 1) y0 y1 y2 y3 y4 y5 y6))
 | 0 => ⟨fun _ _ _ _ _ r h => by simp [yd0.l0] at h, fun _ _ _ _ r h => by simp [yd0.l1] at h, fun _ _ _ _ _ _ _ r h => by simp [yd0.l2] at h⟩
 | k + 1 => by
  obtain ⟨ih0, ih1, ih2⟩ := yd0.mono_l k
  refine ⟨?_, ?_, ?_⟩
  ·intro y0 y1 y2 y3 y4
   unfold yd0.l0
   repeat' (with_reducible first | apply ih0 | apply ih1 | apply ih2 | apply LeO.refl | apply LeO.none | refine LeO.ite ?_ ?_ | refine LeO.bind ?_ (fun _ => ?_))
  ·intro y0 y1 y2 y3
   unfold yd0.l1
   repeat' (with_reducible first | apply ih0 | apply ih1 | apply ih2 | apply LeO.refl | apply LeO.none | refine LeO.ite ?_ ?_ | refine LeO.bind ?_ (fun _ => ?_))
  ·intro y0 y1 y2 y3 y4 y5 y6
   unfold yd0.l2
   repeat' (with_reducible first | apply ih0 | apply ih1 | apply ih2 | apply LeO.refl | apply LeO.none | refine LeO.ite ?_ ?_ | refine LeO.bind ?_ (fun _ => ?_))
theorem yd0.mono : ∀ a0 a1 k, LeO (yd0.f k a0 a1) (yd0.f (k + 1) a0 a1) := by
 intro a0 a1 k
 obtain ⟨ih0, ih1, ih2⟩ := yd0.mono_l k
 unfold yd0.f
 repeat' (with_reducible first | apply ih0 | apply ih1 | apply ih2 | apply LeO.refl | apply LeO.none | refine LeO.ite ?_ ?_ | refine LeO.bind ?_ (fun _ => ?_))
theorem yd0.calls (k : Nat) (J4 : Option Addr) (J2 : Nat) (J0 : List (List Int)) (a1 : Int) (r : List Int) (w : World) (hr0_0 : Kd.C (Kd.slice 3 (Kd.int .i64)) w J4 J0.length J0) (hc0_0 : J0.length ≤ J2) (h : yd0.f k J0 a1 = some r) :
  Calls Try.prog 71 #[.agg #[.slice J4 J0.length J2], .int .i64 a1] w fun e w' => ∃ v0_ : Value, e = .returned (v0_) ∧ Kd.R (Kd.int .i64) 3 w' w.heap.size (fun _ => True) v0_ r ∧ Below w.heap.size w w' := by
 have hu26 := Try.underlying26
 have Ja := hqZ hr0_0
 have HC0_0 := hqZ hc0_0
 clear hr0_0 hc0_0
 have HB := hqZ (Below.refl w.heap.size w)
 have H : (if 0 ≤ (J0.length : Int) then (if ((J0.length : Int) : Int).toNat ≤ 35184372088832 then ((some (List.replicate ((J0.length : Int) : Int).toNat 0 : List Int)).bind fun X4 => (yd0.l0 k a1 X4 (X4.length : Int) 0 J0)) else (none)) else (none)) = some r := h
 clear h
 by_cases c3 : 0 ≤ (J0.length : Int)
 rotate_left
 ·rw [if_neg c3] at H
  exact absurd H (by simp)
 rw [if_pos c3] at H
 have c3b0 := eq_true c3
 have c3b1 : decide (0 ≤ (J0.length : Int)) = true := decide_eq_true c3
 clear c3
 by_cases c4 : ((J0.length : Int) : Int).toNat ≤ 35184372088832
 rotate_left
 ·rw [if_neg c4] at H
  exact absurd H (by simp)
 rw [if_pos c4] at H
 have c4b0 := eq_true c4
 have c4b1 : decide (((J0.length : Int) : Int).toNat ≤ 35184372088832) = true := decide_eq_true c4
 clear c4
 obtain ⟨X4, hy172⟩ : ∃ y_ : List Int, y_ = (List.replicate ((J0.length : Int) : Int).toNat 0) := ⟨_, rfl⟩
 replace H : (yd0.l0 k a1 X4 (X4.length : Int) 0 J0) = some r := by (have H2_ := (Option.bind_some _ _).symm.trans H; rw [hy172]; with_reducible exact H2_)
 have Ny172 := hqZ hy172
 clear hy172
 have H' := hqZ H
 clear H
 go_enter Try.func71, Try.ntmps71
 go_wp2_with (first | ((with_reducible refine zi0 (N := 2) rfl ?_); refine zk0 ?hg (N := 2) ?hd (cs := #[.slice J4 J0.length J2]) (t := 26) ?hr ?_; (case hd | hg => rfl); (case hr => go_simp); intro VM hg w5 hbox hb; have Jl := hqZ (hbox); have Da := hqZ ((by rw [hg]; exact (zb0 (HB.1)) : w.heap.size ≤ VM)); have Db := hqZ ((by rw [hg]; exact (zb0 (HB.1)) : w.heap.size ≤ VM)); replace HB := hqZ (za0 (HB.1) hb); clear hb hbox hg; have Yk : w5.cell? ⟨VM, 0, none⟩ = some (.slice J4 J0.length J2) := (zf0 Jl.1 0).trans rfl; have Yz := zc0 Jl.1 0) | ((with_reducible refine zi0 (N := 14) rfl ?_); refine Kd.R_make (Kd.int .i64) _ 3 rfl (N := 14) rfl 27 _ _ rfl (J0.length : Int) rfl rfl Try.underlying27 (.int .i64 0) 8 info3 rfl (by decide) (by omega) 0 (ok := fun _ => True) (okp := fun _ => True) rfl (fun _ hk => hk) trivial (oA) (Nat.le_trans (Nat.mul_le_mul_right _ (oA : (J0.length : Int).toNat ≤ 35184372088832)) (by omega)) (Below.refl _ _) (Nat.le_refl _) ?_; intro v173 w7 ho8 hb hg_ hnew_; clear hg_ hnew_; (rw [← Ny172.1] at ho8); have U9 := hqZ (Kd.R_lower ho8 (zb0 (HB.1))); replace Jl := hqZ (zd0 (g := VM) (Jl.1) hb); replace HB := hqZ (za0 (HB.1) hb); clear hb ho8; obtain ⟨E8, uV, eo9⟩ := Kd.R_slice U9.1; subst eo9))
 repeat (go_quiet (first | ((with_reducible refine zi0 (N := 2) rfl ?_); refine zk0 ?hg (N := 2) ?hd (cs := #[.slice J4 J0.length J2]) (t := 26) ?hr ?_; (case hd | hg => rfl); (case hr => go_simp <;> rfl); intro VM hg w5 hbox hb; have Jl := hqZ (hbox); have Da := hqZ ((by rw [hg]; exact (zb0 (HB.1)) : w.heap.size ≤ VM)); have Db := hqZ ((by rw [hg]; exact (zb0 (HB.1)) : w.heap.size ≤ VM)); replace HB := hqZ (za0 (HB.1) hb); clear hb hbox hg; have Yk : w5.cell? ⟨VM, 0, none⟩ = some (.slice J4 J0.length J2) := (zf0 Jl.1 0).trans rfl; have Yz := zc0 Jl.1 0) | ((with_reducible refine zi0 (N := 14) rfl ?_); refine Kd.R_make (Kd.int .i64) _ 3 rfl (N := 14) rfl 27 _ _ rfl (J0.length : Int) rfl rfl Try.underlying27 (.int .i64 0) 8 info3 rfl (by decide) (by omega) 0 (ok := fun _ => True) (okp := fun _ => True) rfl (fun _ hk => hk) trivial (of_decide_eq_true (by assumption)) (Nat.le_trans (Nat.mul_le_mul_right _ (of_decide_eq_true (by assumption) : (J0.length : Int).toNat ≤ 35184372088832)) (by omega)) (Below.refl _ _) (Nat.le_refl _) ?_; intro v173 w7 ho8 hb hg_ hnew_; clear hg_ hnew_; (first | rw [← Ny172.1] at ho8 | (simp only [Int.reduceToNat] at ho8; rw [← Ny172.1] at ho8)); have U9 := hqZ (Kd.R_lower ho8 (zb0 (HB.1))); replace Jl := hqZ (zd0 (g := VM) (Jl.1) hb); replace HB := hqZ (za0 (HB.1) hb); clear hb ho8; obtain ⟨E8, uV, eo9⟩ := Kd.R_slice U9.1; subst eo9)); try go_wp2_with (first | ((with_reducible refine zi0 (N := 2) rfl ?_); refine zk0 ?hg (N := 2) ?hd (cs := #[.slice J4 J0.length J2]) (t := 26) ?hr ?_; (case hd | hg => rfl); (case hr => go_simp <;> rfl); intro VM hg w5 hbox hb; have Jl := hqZ (hbox); have Da := hqZ ((by rw [hg]; exact (zb0 (HB.1)) : w.heap.size ≤ VM)); have Db := hqZ ((by rw [hg]; exact (zb0 (HB.1)) : w.heap.size ≤ VM)); replace HB := hqZ (za0 (HB.1) hb); clear hb hbox hg; have Yk : w5.cell? ⟨VM, 0, none⟩ = some (.slice J4 J0.length J2) := (zf0 Jl.1 0).trans rfl; have Yz := zc0 Jl.1 0) | ((with_reducible refine zi0 (N := 14) rfl ?_); refine Kd.R_make (Kd.int .i64) _ 3 rfl (N := 14) rfl 27 _ _ rfl (J0.length : Int) rfl rfl Try.underlying27 (.int .i64 0) 8 info3 rfl (by decide) (by omega) 0 (ok := fun _ => True) (okp := fun _ => True) rfl (fun _ hk => hk) trivial (of_decide_eq_true (by assumption)) (Nat.le_trans (Nat.mul_le_mul_right _ (of_decide_eq_true (by assumption) : (J0.length : Int).toNat ≤ 35184372088832)) (by omega)) (Below.refl _ _) (Nat.le_refl _) ?_; intro v173 w7 ho8 hb hg_ hnew_; clear hg_ hnew_; (first | rw [← Ny172.1] at ho8 | (simp only [Int.reduceToNat] at ho8; rw [← Ny172.1] at ho8)); have U9 := hqZ (Kd.R_lower ho8 (zb0 (HB.1))); replace Jl := hqZ (zd0 (g := VM) (Jl.1) hb); replace HB := hqZ (za0 (HB.1) hb); clear hb ho8; obtain ⟨E8, uV, eo9⟩ := Kd.R_slice U9.1; subst eo9)))
 go_loopg [17] k (fun kq v17 w' => ∃ (Vv : List Int) (J7 : Int), v17 = .int .i64 J7 ∧ zg0 (yd0.l0 kq a1 Vv (X4.length : Int) J7 J0 = some r) ∧ zg0 (kq ≤ k) ∧ zg0 (Kd.R (Kd.int .i64) 3 w' w.heap.size (fun _ => True) (.slice E8 X4.length uV) Vv) ∧ zg0 (w'.heap[VM]? = some (.cells #[(.slice J4 J0.length J2)] 26 (0, 0))) ∧ zg0 (Below w.heap.size w w'))
 case atStart => exact ⟨(X4), (0), (rfl), H', ⟨Nat.le_refl _⟩, ⟨U9.1⟩, ⟨Jl.1⟩, ⟨HB.1⟩⟩
 case round =>
  clear H'
  try clear p2
  try clear c3
  try clear c3b0
  try clear c3b1
  try clear c4
  try clear c4b0
  try clear c4b1
  try clear c7
  try clear Yk
  try clear Yz
  obtain ⟨Vv, J7, rfl, HA, V8, Jc, Jl, HB⟩ := hrel
  have hl5_1 := (Kd.R_reads' Jc.1).1
  rw [hl5_1] at Jc
  (try simp only [hl5_1])
  (try simp only [hl5_1] at Jl)
  obtain _ | k1 := gk
  ·exact absurd HA.1 (by simp [yd0.l0])
  have H := HA.1
  clear HA
  simp only [yd0.l0] at H
  by_cases c10 : J7 < (X4.length : Int)
  ·rw [if_pos c10] at H
   have c10b0 : decide (J7 < (X4.length : Int)) = true := decide_eq_true c10
   (try (have c10b0h := c10b0; simp only [hl5_1] at c10b0h))
   clear c10
   by_cases c11 : 0 ≤ J7
   rotate_left
   ·rw [if_neg c11] at H
    exact absurd H (by simp)
   rw [if_pos c11] at H
   have c11b0 : decide (0 ≤ J7) = true := decide_eq_true c11
   (try (have c11b0h := c11b0; simp only [hl5_1] at c11b0h))
   clear c11
   by_cases c12 : J7 < (Vv.length : Int)
   rotate_left
   ·rw [if_neg c12] at H
    exact absurd H (by simp)
   rw [if_pos c12] at H
   have c12b0 : decide (J7 < (Vv.length : Int)) = true := decide_eq_true c12
   (try (have c12b0h := c12b0; simp only [hl5_1] at c12b0h))
   clear c12
   obtain ⟨E9, hy175⟩ : ∃ y_ : List Int, y_ = (Vv.set (J7 : Int).toNat (-1)) := ⟨_, rfl⟩
   replace H : (yd0.l0 k1 a1 E9 (X4.length : Int) (wrap64 (J7 + 1)) J0) = some r := by (rw [hy175]; with_reducible exact H)
   have Ny175 := hqZ hy175
   clear hy175
   have H' := hqZ H
   clear H
   have p13 : 0 ≤ (J7 : Int) := oA
   have q13 : (J7 : Int) < ((Vv.length : Int) : Int) := oA
   obtain ⟨Ui, JR, eo13, bi, gl13, cl13, HG13⟩ := Kd.R_form Jc.1 (by omega)
   (cases eo13)
   have GB13 := hqZ bi
   have GG13 := hqZ HG13
   clear bi gl13 HG13
   obtain ⟨hx13_0, hf13_0⟩ := Kd.R_celln 0 Jc.1 (J7 : Int) p13 q13
   replace p13 := eq_true p13
   replace q13 := eq_true q13
   have HP14 := Kd.R_putg Jc.1 (J7 : Int) (-1)
   go_wp2_with (((with_reducible refine gate_store (t := 3) (p := 22) rfl ?_); (try (rw [drewN_self wr]; generalize hq_ : World.drewN wr _ = wr; have n0_ := hqZ (Kd.R_at hq_ Jc.1); have n1_ := hqZ (blk_at hq_ Jl.1); have n2_ := hqZ (below_at hq_ HB.1); clear hq_ Jc Jl HB; have Jc := n0_; have Jl := n1_; have HB := n2_; clear n0_ n1_ n2_; (try (have HP14 := Kd.R_putg Jc.1 (J7 : Int) (-1))))); refine store_event (t := 3) (p := 22) (v := ?vo_w15) (w1 := (wr.setCell ⟨Ui, (J7 : Int).toNat, none⟩ (.int .i64 (-1)))) ?hg ?ho ?hn ?hr ?_; (case ho => rfl); (case hg => rfl); (case hn => rfl); (case hr => go_simp); intro w15 hw; have hg : wr.grownBy w15 (some Ui) := (by rw [hw]; exact HP14.2); have hp_ : Kd.R (Kd.int .i64) 3 w15 w.heap.size (fun _ => True) (.slice (some ⟨Ui, 0, none⟩) Vv.length uV) E9 := (by rw [hw, Ny175.1]; exact HP14.1); clear HP14; replace Jl := hqZ (zl0 (g := VM) (Jl.1) hg (Kd.R_ne Jc.1 Jl.1 (by decide))); replace Jc := hqZ (hp_); replace HB := hqZ ((by rw [hw]; exact zm0 (HB.1) GB13.1 : Below w.heap.size w w15)); clear hg hw hp_))
   repeat (go_quiet (first | ((with_reducible refine gate_store (t := 3) (p := 22) rfl ?_); (try (rw [drewN_self wr]; generalize hq_ : World.drewN wr _ = wr; have n0_ := hqZ (Kd.R_at hq_ Jc.1); have n1_ := hqZ (blk_at hq_ Jl.1); have n2_ := hqZ (below_at hq_ HB.1); clear hq_ Jc Jl HB; have Jc := n0_; have Jl := n1_; have HB := n2_; clear n0_ n1_ n2_; (try (have HP14 := Kd.R_putg Jc.1 (J7 : Int) (-1))))); refine store_event (t := 3) (p := 22) (v := ?vo_w15) (w1 := (wr.setCell ⟨Ui, (J7 : Int).toNat, none⟩ (.int .i64 (-1)))) ?hg ?ho ?hn ?hr ?_; (case ho => rfl); (case hg => rfl); (case hn => rfl); (case hr => go_simp <;> rfl); intro w15 hw; have hg : wr.grownBy w15 (some Ui) := (by rw [hw]; exact HP14.2); have hp_ : Kd.R (Kd.int .i64) 3 w15 w.heap.size (fun _ => True) (.slice (some ⟨Ui, 0, none⟩) Vv.length uV) E9 := (by rw [hw, Ny175.1]; exact HP14.1); clear HP14; replace Jl := hqZ (zl0 (g := VM) (Jl.1) hg (Kd.R_ne Jc.1 Jl.1 (by decide))); replace Jc := hqZ (hp_); replace HB := hqZ ((by rw [hw]; exact zm0 (HB.1) GB13.1 : Below w.heap.size w w15)); clear hg hw hp_)); try go_wp2_with (first | ((with_reducible refine gate_store (t := 3) (p := 22) rfl ?_); (try (rw [drewN_self wr]; generalize hq_ : World.drewN wr _ = wr; have n0_ := hqZ (Kd.R_at hq_ Jc.1); have n1_ := hqZ (blk_at hq_ Jl.1); have n2_ := hqZ (below_at hq_ HB.1); clear hq_ Jc Jl HB; have Jc := n0_; have Jl := n1_; have HB := n2_; clear n0_ n1_ n2_; (try (have HP14 := Kd.R_putg Jc.1 (J7 : Int) (-1))))); refine store_event (t := 3) (p := 22) (v := ?vo_w15) (w1 := (wr.setCell ⟨Ui, (J7 : Int).toNat, none⟩ (.int .i64 (-1)))) ?hg ?ho ?hn ?hr ?_; (case ho => rfl); (case hg => rfl); (case hn => rfl); (case hr => go_simp <;> rfl); intro w15 hw; have hg : wr.grownBy w15 (some Ui) := (by rw [hw]; exact HP14.2); have hp_ : Kd.R (Kd.int .i64) 3 w15 w.heap.size (fun _ => True) (.slice (some ⟨Ui, 0, none⟩) Vv.length uV) E9 := (by rw [hw, Ny175.1]; exact HP14.1); clear HP14; replace Jl := hqZ (zl0 (g := VM) (Jl.1) hg (Kd.R_ne Jc.1 Jl.1 (by decide))); replace Jc := hqZ (hp_); replace HB := hqZ ((by rw [hw]; exact zm0 (HB.1) GB13.1 : Below w.heap.size w w15)); clear hg hw hp_)))
   (try simp only [← hl5_1])
   go_roundg k1
   case measure => have := V8.1; omega
   case rel => exact ⟨(E9), (wrap64 (J7 + 1)), (rfl), H', ⟨by have := V8.1; omega⟩, ⟨by (try simp only [hl5_1]); exact Jc.1⟩, ⟨by (try simp only [hl5_1]); exact Jl.1⟩, ⟨HB.1⟩⟩
  rw [if_neg c10] at H
  have c10b0 : decide (J7 < (X4.length : Int)) = false := decide_eq_false c10
  (try (have c10b0h := c10b0; simp only [hl5_1] at c10b0h))
  clear c10
  by_cases c16 : 0 ≤ a1
  rotate_left
  ·rw [if_neg c16] at H
   exact absurd H (by simp)
  rw [if_pos c16] at H
  have c16b0 : decide (0 ≤ a1) = true := decide_eq_true c16
  (try (have c16b0h := c16b0; simp only [hl5_1] at c16b0h))
  clear c16
  by_cases c17 : a1 < (Vv.length : Int)
  rotate_left
  ·rw [if_neg c17] at H
   exact absurd H (by simp)
  rw [if_pos c17] at H
  have c17b0 : decide (a1 < (Vv.length : Int)) = true := decide_eq_true c17
  (try (have c17b0h := c17b0; simp only [hl5_1] at c17b0h))
  clear c17
  obtain ⟨dE, hy176⟩ : ∃ y_ : List Int, y_ = (Vv.set (a1 : Int).toNat 0) := ⟨_, rfl⟩
  replace H : (yd0.l1 k1 dE (([a1] : List Int)) 0 J0) = some r := by (rw [hy176]; with_reducible exact H)
  have Ny176 := hqZ hy176
  clear hy176
  obtain ⟨bj, hy177⟩ : ∃ y_ : List Int, y_ = (([a1] : List Int)) := ⟨_, rfl⟩
  replace H : (yd0.l1 k1 dE bj 0 J0) = some r := by (rw [hy177]; with_reducible exact H)
  have Ny177 := hqZ hy177
  clear hy177
  have H' := hqZ H
  clear H
  have p18 : 0 ≤ (a1 : Int) := oA
  have q18 : (a1 : Int) < ((Vv.length : Int) : Int) := oA
  obtain ⟨Yr, Uy, eo18, bk, gl18, cl18, HG18⟩ := Kd.R_form Jc.1 (by omega)
  (cases eo18)
  have GB18 := hqZ bk
  have GG18 := hqZ HG18
  clear bk gl18 HG18
  obtain ⟨hx18_0, hf18_0⟩ := Kd.R_celln 0 Jc.1 (a1 : Int) p18 q18
  replace p18 := eq_true p18
  replace q18 := eq_true q18
  have HP19 := Kd.R_putg Jc.1 (a1 : Int) 0
  go_wp2_with (first | ((with_reducible refine gate_store (t := 3) (p := 26) rfl ?_); (try (rw [drewN_self wr]; generalize hq_ : World.drewN wr _ = wr; have n0_ := hqZ (Kd.R_at hq_ Jc.1); have n1_ := hqZ (blk_at hq_ Jl.1); have n2_ := hqZ (below_at hq_ HB.1); clear hq_ Jc Jl HB; have Jc := n0_; have Jl := n1_; have HB := n2_; clear n0_ n1_ n2_; (try (have HP19 := Kd.R_putg Jc.1 (a1 : Int) 0)))); refine store_event (t := 3) (p := 26) (v := ?vo_w20) (w1 := (wr.setCell ⟨Yr, (a1 : Int).toNat, none⟩ (.int .i64 0))) ?hg ?ho ?hn ?hr ?_; (case ho => rfl); (case hg => rfl); (case hn => rfl); (case hr => go_simp); intro w20 hw; have hg : wr.grownBy w20 (some Yr) := (by rw [hw]; exact HP19.2); have hp_ : Kd.R (Kd.int .i64) 3 w20 w.heap.size (fun _ => True) (.slice (some ⟨Yr, 0, none⟩) Vv.length uV) dE := (by rw [hw, Ny176.1]; exact HP19.1); clear HP19; replace Jl := hqZ (zl0 (g := VM) (Jl.1) hg (Kd.R_ne Jc.1 Jl.1 (by decide))); replace Jc := hqZ (hp_); replace HB := hqZ ((by rw [hw]; exact zm0 (HB.1) GB18.1 : Below w.heap.size w w20)); clear hg hw hp_) | ((with_reducible refine zi0 (N := 28) rfl ?_); refine Kd.R_lit (Kd.int .i64) _ 3 ?hg (N := 28) ?hd (xs := ([a1] : List Int)) (inner := [.int .i64 a1]) (ok := fun _ => True) (okp := fun _ => True) ?hr ?hp (fun _ hk => hk) trivial (Below.refl _ _) (Nat.le_refl _) (by simp) ?_; (case hd | hg => rfl); (case hr => go_simp); (case hp => exact (Reps.one (show Kd.M (Kd.int .i64) _ _ _ a1 [.int .i64 a1] from rfl) (Reps.none _ _))); intro v178 w21 ho22 hb hg_ hnew_; clear hg_ hnew_; (rw [← Ny177.1] at ho22); have Ea := hqZ (Kd.R_lower (Kd.R_new' ho22 (Kd.R_lt (Jc.1))) (zb0 (HB.1))); replace Jc := hqZ (Kd.R_elder' (Jc.1) (Kd.R_base ho22) hb); replace Jl := hqZ (zd0 (g := VM) (Jl.1) hb); replace HB := hqZ (za0 (HB.1) hb); clear hb ho22))
  repeat (go_quiet (first | ((with_reducible refine gate_store (t := 3) (p := 26) rfl ?_); (try (rw [drewN_self wr]; generalize hq_ : World.drewN wr _ = wr; have n0_ := hqZ (Kd.R_at hq_ Jc.1); have n1_ := hqZ (blk_at hq_ Jl.1); have n2_ := hqZ (below_at hq_ HB.1); clear hq_ Jc Jl HB; have Jc := n0_; have Jl := n1_; have HB := n2_; clear n0_ n1_ n2_; (try (have HP19 := Kd.R_putg Jc.1 (a1 : Int) 0)))); refine store_event (t := 3) (p := 26) (v := ?vo_w20) (w1 := (wr.setCell ⟨Yr, (a1 : Int).toNat, none⟩ (.int .i64 0))) ?hg ?ho ?hn ?hr ?_; (case ho => rfl); (case hg => rfl); (case hn => rfl); (case hr => go_simp <;> rfl); intro w20 hw; have hg : wr.grownBy w20 (some Yr) := (by rw [hw]; exact HP19.2); have hp_ : Kd.R (Kd.int .i64) 3 w20 w.heap.size (fun _ => True) (.slice (some ⟨Yr, 0, none⟩) Vv.length uV) dE := (by rw [hw, Ny176.1]; exact HP19.1); clear HP19; replace Jl := hqZ (zl0 (g := VM) (Jl.1) hg (Kd.R_ne Jc.1 Jl.1 (by decide))); replace Jc := hqZ (hp_); replace HB := hqZ ((by rw [hw]; exact zm0 (HB.1) GB18.1 : Below w.heap.size w w20)); clear hg hw hp_) | ((with_reducible refine zi0 (N := 28) rfl ?_); refine Kd.R_lit (Kd.int .i64) _ 3 ?hg (N := 28) ?hd (xs := ([a1] : List Int)) (inner := [.int .i64 a1]) (ok := fun _ => True) (okp := fun _ => True) ?hr ?hp (fun _ hk => hk) trivial (Below.refl _ _) (Nat.le_refl _) (by simp) ?_; (case hd | hg => rfl); (case hr => go_simp <;> rfl); (case hp => exact (Reps.one (show Kd.M (Kd.int .i64) _ _ _ a1 [.int .i64 a1] from rfl) (Reps.none _ _))); intro v178 w21 ho22 hb hg_ hnew_; clear hg_ hnew_; (first | rw [← Ny177.1] at ho22 | (simp only [Int.reduceToNat] at ho22; rw [← Ny177.1] at ho22)); have Ea := hqZ (Kd.R_lower (Kd.R_new' ho22 (Kd.R_lt (Jc.1))) (zb0 (HB.1))); replace Jc := hqZ (Kd.R_elder' (Jc.1) (Kd.R_base ho22) hb); replace Jl := hqZ (zd0 (g := VM) (Jl.1) hb); replace HB := hqZ (za0 (HB.1) hb); clear hb ho22)); try go_wp2_with (first | ((with_reducible refine gate_store (t := 3) (p := 26) rfl ?_); (try (rw [drewN_self wr]; generalize hq_ : World.drewN wr _ = wr; have n0_ := hqZ (Kd.R_at hq_ Jc.1); have n1_ := hqZ (blk_at hq_ Jl.1); have n2_ := hqZ (below_at hq_ HB.1); clear hq_ Jc Jl HB; have Jc := n0_; have Jl := n1_; have HB := n2_; clear n0_ n1_ n2_; (try (have HP19 := Kd.R_putg Jc.1 (a1 : Int) 0)))); refine store_event (t := 3) (p := 26) (v := ?vo_w20) (w1 := (wr.setCell ⟨Yr, (a1 : Int).toNat, none⟩ (.int .i64 0))) ?hg ?ho ?hn ?hr ?_; (case ho => rfl); (case hg => rfl); (case hn => rfl); (case hr => go_simp <;> rfl); intro w20 hw; have hg : wr.grownBy w20 (some Yr) := (by rw [hw]; exact HP19.2); have hp_ : Kd.R (Kd.int .i64) 3 w20 w.heap.size (fun _ => True) (.slice (some ⟨Yr, 0, none⟩) Vv.length uV) dE := (by rw [hw, Ny176.1]; exact HP19.1); clear HP19; replace Jl := hqZ (zl0 (g := VM) (Jl.1) hg (Kd.R_ne Jc.1 Jl.1 (by decide))); replace Jc := hqZ (hp_); replace HB := hqZ ((by rw [hw]; exact zm0 (HB.1) GB18.1 : Below w.heap.size w w20)); clear hg hw hp_) | ((with_reducible refine zi0 (N := 28) rfl ?_); refine Kd.R_lit (Kd.int .i64) _ 3 ?hg (N := 28) ?hd (xs := ([a1] : List Int)) (inner := [.int .i64 a1]) (ok := fun _ => True) (okp := fun _ => True) ?hr ?hp (fun _ hk => hk) trivial (Below.refl _ _) (Nat.le_refl _) (by simp) ?_; (case hd | hg => rfl); (case hr => go_simp <;> rfl); (case hp => exact (Reps.one (show Kd.M (Kd.int .i64) _ _ _ a1 [.int .i64 a1] from rfl) (Reps.none _ _))); intro v178 w21 ho22 hb hg_ hnew_; clear hg_ hnew_; (first | rw [← Ny177.1] at ho22 | (simp only [Int.reduceToNat] at ho22; rw [← Ny177.1] at ho22)); have Ea := hqZ (Kd.R_lower (Kd.R_new' ho22 (Kd.R_lt (Jc.1))) (zb0 (HB.1))); replace Jc := hqZ (Kd.R_elder' (Jc.1) (Kd.R_base ho22) hb); replace Jl := hqZ (zd0 (g := VM) (Jl.1) hb); replace HB := hqZ (za0 (HB.1) hb); clear hb ho22)))
  go_loopg [7, 8] k1 (fun kq v7 v8 w' => ∃ (Vp : List Int) (Vt : List Int) (Jw : Int), v8 = .int .i64 Jw ∧ zg0 (yd0.l1 kq Vp Vt Jw J0 = some r) ∧ zg0 (kq ≤ k1) ∧ zg0 (Kd.R (Kd.int .i64) 3 w' w.heap.size (fun k_ => some k_ ≠ (v7 : Value).ownBlock) (.slice (some ⟨Yr, 0, none⟩) Vv.length uV) Vp) ∧ zg0 (Kd.R (Kd.int .i64) 3 w' w.heap.size (fun k_ => some k_ ≠ ((.slice (some ⟨Yr, 0, none⟩) Vv.length uV) : Value).ownBlock) v7 Vt) ∧ zg0 (w'.heap[VM]? = some (.cells #[(.slice J4 J0.length J2)] 26 (0, 0))) ∧ zg0 (Below w.heap.size w w'))
  case atStart => exact ⟨(dE), (bj), (0), (rfl), H', ⟨Nat.le_refl _⟩, ⟨by (try simp only [hl5_1]); exact Kd.R_mono Jc.1 (fun _ hk => hk.2)⟩, ⟨by (try simp only [hl5_1]); exact Kd.R_mono Ea.1 (fun _ hk => hk.2)⟩, ⟨by (try simp only [hl5_1]); exact Jl.1⟩, ⟨HB.1⟩⟩
  case round =>
   clear H'
   try clear c1
   try clear p1
   try clear q1
   try clear hx1
   try clear p2
   try clear c3
   try clear c3b0
   try clear c3b1
   try clear c4
   try clear c4b0
   try clear c4b1
   try clear p6
   try clear c7
   try clear c10
   try clear c10b0
   try clear c11
   try clear c11b0
   try clear c12
   try clear c12b0
   try clear p13
   try clear q13
   try clear hx13
   try clear hf13
   try clear c16
   try clear c16b0
   try clear c17
   try clear c17b0
   try clear p18
   try clear q18
   try clear hx18
   try clear hf18
   try clear Yk
   try clear Yz
   try clear hx13_0
   try clear hx18_0
   try clear p13
   try clear p18
   try clear p2
   try clear q13
   try clear q18
   obtain ⟨Vp, Vt, Jw, rfl, HA, YO, Jc, Yl, Jl, HB⟩ := hrel
   have hl5_2 := (Kd.R_reads' Jc.1).1
   rw [hl5_2] at Jc
   (try simp only [hl5_2])
   (try simp only [hl5_2] at Jl)
   (try simp only [hl5_2] at Yl)
   obtain _ | k2 := gk
   ·exact absurd HA.1 (by simp [yd0.l1])
   have H := HA.1
   clear HA
   simp only [yd0.l1] at H
   by_cases c23 : Jw < (Vt.length : Int)
   rotate_left
   ·rw [if_neg c23] at H
    have c23b0 : decide (Jw < (Vt.length : Int)) = false := decide_eq_false c23
    (try (have c23b0h := c23b0; simp only [hl5_1, hl5_2] at c23b0h))
    clear c23
    obtain rfl := Option.some.inj H
    obtain ⟨Jo8, Jo9, eo45⟩ := Kd.R_slice Yl.1
    subst eo45
    go_wp2
    repeat (go_quiet (fail); try go_wp2)
    go_ret
    exact ⟨_, rfl, Kd.R_mono Jc.1 (fun _ hk => trivial), HB.1⟩
   rw [if_pos c23] at H
   have c23b0 : decide (Jw < (Vt.length : Int)) = true := decide_eq_true c23
   (try (have c23b0h := c23b0; simp only [hl5_1, hl5_2] at c23b0h))
   clear c23
   by_cases c24 : 0 ≤ Jw
   rotate_left
   ·rw [if_neg c24] at H
    exact absurd H (by simp)
   rw [if_pos c24] at H
   have c24b0 : decide (0 ≤ Jw) = true := decide_eq_true c24
   (try (have c24b0h := c24b0; simp only [hl5_1, hl5_2] at c24b0h))
   clear c24
   by_cases c25 : 0 ≤ (rd Vt Jw)
   rotate_left
   ·rw [if_neg c25] at H
    exact absurd H (by simp)
   rw [if_pos c25] at H
   have c25b0 : decide (0 ≤ (rd Vt Jw)) = true := decide_eq_true c25
   (try (have c25b0h := c25b0; simp only [hl5_1, hl5_2] at c25b0h))
   clear c25
   by_cases c26 : (rd Vt Jw) < (J0.length : Int)
   rotate_left
   ·rw [if_neg c26] at H
    exact absurd H (by simp)
   rw [if_pos c26] at H
   have c26b0 : decide ((rd Vt Jw) < (J0.length : Int)) = true := decide_eq_true c26
   (try (have c26b0h := c26b0; simp only [hl5_1, hl5_2] at c26b0h))
   clear c26
   have H' := hqZ H
   clear H
   obtain ⟨uh, ui, eo27⟩ := Kd.R_slice Yl.1
   subst eo27
   have Zw : wr.cell? ⟨VM, 0, none⟩ = some (.slice J4 J0.length J2) := (zf0 Jl.1 0).trans rfl
   have Zx := zc0 Jl.1 0
   have p180 : 0 ≤ (Jw : Int) := oA
   have q180 : Jw < (Vt.length : Int) := oA
   obtain ⟨ad180, e180, hx180_0⟩ := Kd.at_int (Kd.R_reads' Yl.1).2.2 Jw p180 q180
   cases e180
   replace p180 := eq_true p180
   replace q180 := eq_true q180
   have p181 : 0 ≤ ((rd Vt Jw) : Int) := oA
   have q181 : (rd Vt Jw) < (J0.length : Int) := oA
   obtain ⟨ad181, Je0, Je1, e181, hx181_0, hl181_0, hi181_0⟩ := at_L2 Ja.1 (rd Vt Jw) p181 q181
   cases e181
   replace hx181_0 := (HB.1.cell (World.block_lt_of_cell? w _ hx181_0)).trans hx181_0
   have qV := hqZ hi181_0
   have HC181_0 := hqZ hl181_0
   clear hi181_0 hl181_0
   replace p181 := eq_true p181
   replace q181 := eq_true q181
   go_wp2
   repeat (go_quiet (fail); try go_wp2)
   go_loopg [7, 44] k2 (fun kq v7 v44 w' => ∃ (Yg : List Int) (Yi : List Int) (V2 : Int), v44 = .int .i64 V2 ∧ zg0 (yd0.l2 kq Yg Yi Jw (rd_L2 J0 (rd Vt Jw)) ((rd_L2 J0 (rd Vt Jw)).length : Int) V2 J0 = some r) ∧ zg0 (kq ≤ k2) ∧ zg0 (Kd.R (Kd.int .i64) 3 w' w.heap.size (fun k_ => some k_ ≠ (v7 : Value).ownBlock) (.slice (some ⟨Yr, 0, none⟩) Vp.length uV) Yg) ∧ zg0 (Kd.R (Kd.int .i64) 3 w' w.heap.size (fun k_ => some k_ ≠ ((.slice (some ⟨Yr, 0, none⟩) Vp.length uV) : Value).ownBlock) v7 Yi) ∧ zg0 (w'.heap[VM]? = some (.cells #[(.slice (some ad181) J0.length J2)] 26 (0, 0))) ∧ zg0 (Below w.heap.size w w'))
   case atStart => exact ⟨(Vp), (Vt), (0), (rfl), H', ⟨Nat.le_refl _⟩, ⟨by (try simp only [hl5_1]); (try simp only [hl5_2]); exact Jc.1⟩, ⟨by (try simp only [hl5_1]); (try simp only [hl5_2]); exact Yl.1⟩, ⟨by (try simp only [hl5_1]); (try simp only [hl5_2]); exact Jl.1⟩, ⟨hqB HB.1⟩⟩
   case round =>
    clear H'
    try clear c1
    try clear p1
    try clear q1
    try clear hx1
    try clear c2
    try clear p2
    try clear c3
    try clear c3b0
    try clear c3b1
    try clear c4
    try clear c4b0
    try clear c4b1
    try clear p6
    try clear c7
    try clear c10
    try clear c10b0
    try clear c11
    try clear c11b0
    try clear c12
    try clear c12b0
    try clear p13
    try clear q13
    try clear hx13
    try clear hf13
    try clear c16
    try clear c16b0
    try clear c17
    try clear c17b0
    try clear c18
    try clear p18
    try clear q18
    try clear hx18
    try clear hf18
    try clear c23
    try clear c23b0
    try clear c24
    try clear c24b0
    try clear c25
    try clear c25b0
    try clear c26
    try clear c26b0
    try clear Zw
    try clear Yk
    try clear Zx
    try clear Yz
    try clear hx13_0
    try clear hx180_0
    try clear hx181_0
    try clear hx18_0
    try clear p1
    try clear p13
    try clear p18
    try clear p180
    try clear p181
    try clear p2
    try clear p6
    try clear q1
    try clear q13
    try clear q18
    try clear q180
    try clear q181
    obtain ⟨Yg, Yi, V2, rfl, HA, Ux, Jc, Yl, Jl, HB⟩ := hrel
    have hl5_3 := (Kd.R_reads' Jc.1).1
    rw [hl5_3] at Jc
    (try simp only [hl5_3])
    (try simp only [hl5_3] at Jl)
    (try simp only [hl5_3] at Yl)
    obtain _ | k3 := gk
    ·exact absurd HA.1 (by simp [yd0.l2])
    have H := HA.1
    clear HA
    simp only [yd0.l2] at H
    by_cases c29 : V2 < ((rd_L2 J0 (rd Vt Jw)).length : Int)
    rotate_left
    ·rw [if_neg c29] at H
     have c29b0 : decide (V2 < ((rd_L2 J0 (rd Vt Jw)).length : Int)) = false := decide_eq_false c29
     (try (have c29b0h := c29b0; simp only [hl5_1, hl5_2, hl5_3] at c29b0h))
     clear c29
     have H' := hqZ H
     clear H
     go_wp2
     repeat (go_quiet (fail); try go_wp2)
     (try simp only [← hl5_2, ← hl5_3])
     go_roundg k3
     case measure => have := V8.1; have := YO.1; have := Ux.1; omega
     case rel => exact ⟨(Yg), (Yi), (wrap64 (Jw + 1)), (rfl), H', ⟨by have := V8.1; have := YO.1; have := Ux.1; omega⟩, ⟨by (try simp only [hl5_1]); (try simp only [hl5_2]); (try simp only [hl5_3]); exact Jc.1⟩, ⟨by (try simp only [hl5_1]); (try simp only [hl5_2]); (try simp only [hl5_3]); exact Yl.1⟩, ⟨by (try simp only [hl5_1]); (try simp only [hl5_2]); (try simp only [hl5_3]); exact Jl.1⟩, ⟨HB.1⟩⟩
    rw [if_pos c29] at H
    have c29b0 : decide (V2 < ((rd_L2 J0 (rd Vt Jw)).length : Int)) = true := decide_eq_true c29
    (try (have c29b0h := c29b0; simp only [hl5_1, hl5_2, hl5_3] at c29b0h))
    clear c29
    by_cases c30 : 0 ≤ V2
    rotate_left
    ·rw [if_neg c30] at H
     exact absurd H (by simp)
    rw [if_pos c30] at H
    have c30b0 : decide (0 ≤ V2) = true := decide_eq_true c30
    (try (have c30b0h := c30b0; simp only [hl5_1, hl5_2, hl5_3] at c30b0h))
    clear c30
    by_cases c31 : V2 < ((rd_L2 J0 (rd Vt Jw)).length : Int)
    rotate_left
    ·rw [if_neg c31] at H
     exact absurd H (by simp)
    rw [if_pos c31] at H
    have c31b0 : decide (V2 < ((rd_L2 J0 (rd Vt Jw)).length : Int)) = true := decide_eq_true c31
    (try (have c31b0h := c31b0; simp only [hl5_1, hl5_2, hl5_3] at c31b0h))
    clear c31
    by_cases c32 : 0 ≤ (rd (rd_L2 J0 (rd Vt Jw)) V2)
    rotate_left
    ·rw [if_neg c32] at H
     exact absurd H (by simp)
    rw [if_pos c32] at H
    have c32b0 : decide (0 ≤ (rd (rd_L2 J0 (rd Vt Jw)) V2)) = true := decide_eq_true c32
    (try (have c32b0h := c32b0; simp only [hl5_1, hl5_2, hl5_3] at c32b0h))
    clear c32
    by_cases c33 : (rd (rd_L2 J0 (rd Vt Jw)) V2) < (Yg.length : Int)
    rotate_left
    ·rw [if_neg c33] at H
     exact absurd H (by simp)
    rw [if_pos c33] at H
    have c33b0 : decide ((rd (rd_L2 J0 (rd Vt Jw)) V2) < (Yg.length : Int)) = true := decide_eq_true c33
    (try (have c33b0h := c33b0; simp only [hl5_1, hl5_2, hl5_3] at c33b0h))
    clear c33
    by_cases c34 : (rd Yg (rd (rd_L2 J0 (rd Vt Jw)) V2)) < 0
    rotate_left
    ·rw [if_neg c34] at H
     have c34b0 : decide ((rd Yg (rd (rd_L2 J0 (rd Vt Jw)) V2)) < 0) = false := decide_eq_false c34
     (try (have c34b0h := c34b0; simp only [hl5_1, hl5_2, hl5_3] at c34b0h))
     clear c34
     have H' := hqZ H
     clear H
     have p182 : 0 ≤ (V2 : Int) := oA
     have q182 : V2 < ((rd_L2 J0 (rd Vt Jw)).length : Int) := oA
     obtain ⟨ad182, e182, hx182_0⟩ := Kd.at_int qV.1 V2 p182 q182
     cases e182
     replace hx182_0 := (HB.1.cell (World.block_lt_of_cell? w _ hx182_0)).trans hx182_0
     replace p182 := eq_true p182
     replace q182 := eq_true q182
     have p183 : 0 ≤ ((rd (rd_L2 J0 (rd Vt Jw)) V2) : Int) := oA
     have q183 : (rd (rd_L2 J0 (rd Vt Jw)) V2) < (Yg.length : Int) := oA
     obtain ⟨ad183, e183, hx183_0⟩ := Kd.at_int (Kd.R_reads' Jc.1).2.2 (rd (rd_L2 J0 (rd Vt Jw)) V2) p183 q183
     obtain rfl : (⟨Yr, 0, none⟩ : Addr) = ad183 := (by injection e183)
     (simp only [add_plain] at hx183_0)
     replace p183 := eq_true p183
     replace q183 := eq_true q183
     go_wp2
     repeat (go_quiet (fail); try go_wp2)
     (try simp only [← hl5_3])
     go_roundg k3
     case measure => have := V8.1; have := YO.1; have := Ux.1; omega
     case rel => exact ⟨(Yg), (Yi), (wrap64 (V2 + 1)), (rfl), H', ⟨by have := V8.1; have := YO.1; have := Ux.1; omega⟩, ⟨by (try simp only [hl5_1]); (try simp only [hl5_2]); (try simp only [hl5_3]); exact Jc.1⟩, ⟨by (try simp only [hl5_1]); (try simp only [hl5_2]); (try simp only [hl5_3]); exact Yl.1⟩, ⟨by (try simp only [hl5_1]); (try simp only [hl5_2]); (try simp only [hl5_3]); exact Jl.1⟩, ⟨HB.1⟩⟩
    rw [if_pos c34] at H
    have c34b0 : decide ((rd Yg (rd (rd_L2 J0 (rd Vt Jw)) V2)) < 0) = true := decide_eq_true c34
    (try (have c34b0h := c34b0; simp only [hl5_1, hl5_2, hl5_3] at c34b0h))
    clear c34
    by_cases c35 : 0 ≤ Jw
    rotate_left
    ·rw [if_neg c35] at H
     exact absurd H (by simp)
    rw [if_pos c35] at H
    have c35b0 : decide (0 ≤ Jw) = true := decide_eq_true c35
    (try (have c35b0h := c35b0; simp only [hl5_1, hl5_2, hl5_3] at c35b0h))
    clear c35
    by_cases c36 : Jw < (Yi.length : Int)
    rotate_left
    ·rw [if_neg c36] at H
     exact absurd H (by simp)
    rw [if_pos c36] at H
    have c36b0 : decide (Jw < (Yi.length : Int)) = true := decide_eq_true c36
    (try (have c36b0h := c36b0; simp only [hl5_1, hl5_2, hl5_3] at c36b0h))
    clear c36
    by_cases c37 : 0 ≤ (rd Yi Jw)
    rotate_left
    ·rw [if_neg c37] at H
     exact absurd H (by simp)
    rw [if_pos c37] at H
    have c37b0 : decide (0 ≤ (rd Yi Jw)) = true := decide_eq_true c37
    (try (have c37b0h := c37b0; simp only [hl5_1, hl5_2, hl5_3] at c37b0h))
    clear c37
    by_cases c38 : (rd Yi Jw) < (Yg.length : Int)
    rotate_left
    ·rw [if_neg c38] at H
     exact absurd H (by simp)
    rw [if_pos c38] at H
    have c38b0 : decide ((rd Yi Jw) < (Yg.length : Int)) = true := decide_eq_true c38
    (try (have c38b0h := c38b0; simp only [hl5_1, hl5_2, hl5_3] at c38b0h))
    clear c38
    obtain ⟨dF, hy186⟩ : ∃ y_ : List Int, y_ = (Yg.set ((rd (rd_L2 J0 (rd Vt Jw)) V2) : Int).toNat (wrap64 ((rd Yg (rd Yi Jw)) + 1))) := ⟨_, rfl⟩
    replace H : (if Yi.length < 17592186044416 then (yd0.l2 k3 dF (Yi ++ [rd (rd_L2 J0 (rd Vt Jw)) V2]) Jw (rd_L2 J0 (rd Vt Jw)) ((rd_L2 J0 (rd Vt Jw)).length : Int) (wrap64 (V2 + 1)) J0) else (none)) = some r := by (rw [hy186]; with_reducible exact H)
    have Ny186 := hqZ hy186
    clear hy186
    by_cases c40 : Yi.length < 17592186044416
    rotate_left
    ·rw [if_neg c40] at H
     exact absurd H (by simp)
    rw [if_pos c40] at H
    have LMc40 := hqZ c40
    clear c40
    obtain ⟨bl, hy187⟩ : ∃ y_ : List Int, y_ = (Yi ++ [rd (rd_L2 J0 (rd Vt Jw)) V2]) := ⟨_, rfl⟩
    replace H : (yd0.l2 k3 dF bl Jw (rd_L2 J0 (rd Vt Jw)) ((rd_L2 J0 (rd Vt Jw)).length : Int) (wrap64 (V2 + 1)) J0) = some r := by (rw [hy187]; with_reducible exact H)
    have Ny187 := hqZ hy187
    clear hy187
    have H' := hqZ H
    clear H
    have p182 : 0 ≤ (V2 : Int) := oA
    have q182 : V2 < ((rd_L2 J0 (rd Vt Jw)).length : Int) := oA
    obtain ⟨ad182, e182, hx182_0⟩ := Kd.at_int qV.1 V2 p182 q182
    cases e182
    replace hx182_0 := (HB.1.cell (World.block_lt_of_cell? w _ hx182_0)).trans hx182_0
    replace p182 := eq_true p182
    replace q182 := eq_true q182
    have p183 : 0 ≤ ((rd (rd_L2 J0 (rd Vt Jw)) V2) : Int) := oA
    have q183 : (rd (rd_L2 J0 (rd Vt Jw)) V2) < (Yg.length : Int) := oA
    obtain ⟨ad183, e183, hx183_0⟩ := Kd.at_int (Kd.R_reads' Jc.1).2.2 (rd (rd_L2 J0 (rd Vt Jw)) V2) p183 q183
    obtain rfl : (⟨Yr, 0, none⟩ : Addr) = ad183 := (by injection e183)
    (simp only [add_plain] at hx183_0)
    replace p183 := eq_true p183
    replace q183 := eq_true q183
    obtain ⟨Je2, qu, eo41⟩ := Kd.R_slice Yl.1
    subst eo41
    have p184 : 0 ≤ (Jw : Int) := oA
    have q184 : Jw < (Yi.length : Int) := oA
    obtain ⟨ad184, e184, hx184_0⟩ := Kd.at_int (Kd.R_reads' Yl.1).2.2 Jw p184 q184
    cases e184
    replace p184 := eq_true p184
    replace q184 := eq_true q184
    have p185 : 0 ≤ ((rd Yi Jw) : Int) := oA
    have q185 : (rd Yi Jw) < (Yg.length : Int) := oA
    obtain ⟨ad185, e185, hx185_0⟩ := Kd.at_int (Kd.R_reads' Jc.1).2.2 (rd Yi Jw) p185 q185
    obtain rfl : (⟨Yr, 0, none⟩ : Addr) = ad185 := (by injection e185)
    (simp only [add_plain] at hx185_0)
    replace p185 := eq_true p185
    replace q185 := eq_true q185
    have p39 : 0 ≤ ((rd (rd_L2 J0 (rd Vt Jw)) V2) : Int) := oA
    have q39 : ((rd (rd_L2 J0 (rd Vt Jw)) V2) : Int) < ((Yg.length : Int) : Int) := oA
    obtain ⟨hx39_0, hf39_0⟩ := Kd.R_celln 0 Jc.1 ((rd (rd_L2 J0 (rd Vt Jw)) V2) : Int) p39 q39
    replace p39 := eq_true p39
    replace q39 := eq_true q39
    have HP42 := Kd.R_putg Jc.1 ((rd (rd_L2 J0 (rd Vt Jw)) V2) : Int) (wrap64 ((rd Yg (rd Yi Jw)) + 1))
    go_wp2_with (first | ((with_reducible refine gate_store (t := 3) (p := 63) rfl ?_); (try (rw [drewN_self wr]; generalize hq_ : World.drewN wr _ = wr; have n0_ := hqZ (Kd.R_at hq_ Jc.1); have n1_ := hqZ (Kd.R_at hq_ Yl.1); have n2_ := hqZ (blk_at hq_ Jl.1); have n3_ := hqZ (below_at hq_ HB.1); clear hq_ Jc Yl Jl HB; have Jc := n0_; have Yl := n1_; have Jl := n2_; have HB := n3_; clear n0_ n1_ n2_ n3_; (try (have HP42 := Kd.R_putg Jc.1 ((rd (rd_L2 J0 (rd Vt Jw)) V2) : Int) (wrap64 ((rd Yg (rd Yi Jw)) + 1)))))); refine store_event (t := 3) (p := 63) (v := ?vo_w43) (w1 := (wr.setCell ⟨Yr, ((rd (rd_L2 J0 (rd Vt Jw)) V2) : Int).toNat, none⟩ (.int .i64 (wrap64 ((rd Yg (rd Yi Jw)) + 1))))) ?hg ?ho ?hn ?hr ?_; (case ho => rfl); (case hg => rfl); (case hn => rfl); (case hr => go_simp); intro w43 hw; have hg : wr.grownBy w43 (some Yr) := (by rw [hw]; exact HP42.2); have hp_ : Kd.R (Kd.int .i64) 3 w43 w.heap.size (fun k_ => some k_ ≠ (.slice (some ad184) Yi.length qu : Value).ownBlock) (.slice (some ⟨Yr, 0, none⟩) Yg.length uV) dF := (by rw [hw, Ny186.1]; exact HP42.1); clear HP42; replace Yl := hqZ (Kd.R_after (v := (.slice (some ⟨Yr, 0, none⟩) Yg.length uV)) (v1 := (.slice (some ⟨Yr, 0, none⟩) Yg.length uV)) (ok := (fun _ => True)) (Kd.R_mono Yl.1 (fun _ hk => ⟨trivial, hk⟩)) hg (.inl rfl)); replace Jl := hqZ (zl0 (g := VM) (Jl.1) hg (Kd.R_ne Jc.1 Jl.1 (by decide))); replace Jc := hqZ (hp_); replace HB := hqZ ((by rw [hw]; exact zm0 (HB.1) GB18.1 : Below w.heap.size w w43)); clear hg hw hp_) | ((with_reducible refine zu0 (b := .append) (xs := #[.tmp 64, .tmp 66]) rfl ?_); at_builtin; refine Kd.R_append (Kd.int .i64) (w0 := w) w.heap.size rfl (.tmp 64) (.tmp 66) 27 3 (.int .i64 0) 8 rfl Try.underlying27 info3 rfl (by decide) (by omega) (.slice (some ad184) Yi.length qu) Yi (rd (rd_L2 J0 (rd Vt Jw)) V2) [.int .i64 (rd (rd_L2 J0 (rd Vt Jw)) V2)] (fun k_ => some k_ ≠ (.slice (some ⟨Yr, 0, none⟩) Yg.length uV : Value).ownBlock) (fun _ => False) rfl rfl ?aP (fun _ hk => hk.elim) ?aF ?aO ?aB ?aS ?aL ?_; (case aP => exact rfl); (case aB => exact (HB.1)); (case aF => exact (fun k_ hk => Kd.fresh' (Kd.R_lt (Jc.1)) k_ hk)); (case aO => exact (Kd.R_mono Yl.1 (fun _ hk => hk.2))); (case aS => exact (zb0 (HB.1))); (case aL => have := LMc40.1; omega); intro v188 w44 ho hb hg hat; rw [← Ny187.1] at ho; have n0_ := hqZ (Kd.R_after (ok := (fun _ => True)) (Kd.R_mono Jc.1 (fun _ hk => ⟨trivial, hk⟩)) hg hat); have n1_ := hqZ (zl0 (g := VM) (Jl.1) hg (Kd.R_ne Yl.1 Jl.1 (by decide))); have n2_ := hqZ (hb); have n3_ := hqZ (ho); clear Jc; clear Jl; clear HB; clear Yl; have Jc := n0_; have Jl := n1_; have HB := n2_; have Eb := n3_; clear n0_ n1_ n2_ n3_; clear ho hb hg hat))
    repeat (go_quiet (first | ((with_reducible refine gate_store (t := 3) (p := 63) rfl ?_); (try (rw [drewN_self wr]; generalize hq_ : World.drewN wr _ = wr; have n0_ := hqZ (Kd.R_at hq_ Jc.1); have n1_ := hqZ (Kd.R_at hq_ Yl.1); have n2_ := hqZ (blk_at hq_ Jl.1); have n3_ := hqZ (below_at hq_ HB.1); clear hq_ Jc Yl Jl HB; have Jc := n0_; have Yl := n1_; have Jl := n2_; have HB := n3_; clear n0_ n1_ n2_ n3_; (try (have HP42 := Kd.R_putg Jc.1 ((rd (rd_L2 J0 (rd Vt Jw)) V2) : Int) (wrap64 ((rd Yg (rd Yi Jw)) + 1)))))); refine store_event (t := 3) (p := 63) (v := ?vo_w43) (w1 := (wr.setCell ⟨Yr, ((rd (rd_L2 J0 (rd Vt Jw)) V2) : Int).toNat, none⟩ (.int .i64 (wrap64 ((rd Yg (rd Yi Jw)) + 1))))) ?hg ?ho ?hn ?hr ?_; (case ho => rfl); (case hg => rfl); (case hn => rfl); (case hr => go_simp <;> rfl); intro w43 hw; have hg : wr.grownBy w43 (some Yr) := (by rw [hw]; exact HP42.2); have hp_ : Kd.R (Kd.int .i64) 3 w43 w.heap.size (fun k_ => some k_ ≠ (.slice (some ad184) Yi.length qu : Value).ownBlock) (.slice (some ⟨Yr, 0, none⟩) Yg.length uV) dF := (by rw [hw, Ny186.1]; exact HP42.1); clear HP42; replace Yl := hqZ (Kd.R_after (v := (.slice (some ⟨Yr, 0, none⟩) Yg.length uV)) (v1 := (.slice (some ⟨Yr, 0, none⟩) Yg.length uV)) (ok := (fun _ => True)) (Kd.R_mono Yl.1 (fun _ hk => ⟨trivial, hk⟩)) hg (.inl rfl)); replace Jl := hqZ (zl0 (g := VM) (Jl.1) hg (Kd.R_ne Jc.1 Jl.1 (by decide))); replace Jc := hqZ (hp_); replace HB := hqZ ((by rw [hw]; exact zm0 (HB.1) GB18.1 : Below w.heap.size w w43)); clear hg hw hp_) | ((with_reducible refine zu0 (b := .append) (xs := #[.tmp 64, .tmp 66]) rfl ?_); at_builtin; refine Kd.R_append (Kd.int .i64) (w0 := w) w.heap.size rfl (.tmp 64) (.tmp 66) 27 3 (.int .i64 0) 8 rfl Try.underlying27 info3 rfl (by decide) (by omega) (.slice (some ad184) Yi.length qu) Yi (rd (rd_L2 J0 (rd Vt Jw)) V2) [.int .i64 (rd (rd_L2 J0 (rd Vt Jw)) V2)] (fun k_ => some k_ ≠ (.slice (some ⟨Yr, 0, none⟩) Yg.length uV : Value).ownBlock) (fun _ => False) rfl rfl ?aP (fun _ hk => hk.elim) ?aF ?aO ?aB ?aS ?aL ?_; (case aP => exact rfl); (case aB => exact (HB.1)); (case aF => exact (fun k_ hk => Kd.fresh' (Kd.R_lt (Jc.1)) k_ hk)); (case aO => exact (Kd.R_mono Yl.1 (fun _ hk => hk.2))); (case aS => exact (zb0 (HB.1))); (case aL => have := LMc40.1; omega); intro v188 w44 ho hb hg hat; rw [← Ny187.1] at ho; have n0_ := hqZ (Kd.R_after (ok := (fun _ => True)) (Kd.R_mono Jc.1 (fun _ hk => ⟨trivial, hk⟩)) hg hat); have n1_ := hqZ (zl0 (g := VM) (Jl.1) hg (Kd.R_ne Yl.1 Jl.1 (by decide))); have n2_ := hqZ (hb); have n3_ := hqZ (ho); clear Jc; clear Jl; clear HB; clear Yl; have Jc := n0_; have Jl := n1_; have HB := n2_; have Eb := n3_; clear n0_ n1_ n2_ n3_; clear ho hb hg hat)); try go_wp2_with (first | ((with_reducible refine gate_store (t := 3) (p := 63) rfl ?_); (try (rw [drewN_self wr]; generalize hq_ : World.drewN wr _ = wr; have n0_ := hqZ (Kd.R_at hq_ Jc.1); have n1_ := hqZ (Kd.R_at hq_ Yl.1); have n2_ := hqZ (blk_at hq_ Jl.1); have n3_ := hqZ (below_at hq_ HB.1); clear hq_ Jc Yl Jl HB; have Jc := n0_; have Yl := n1_; have Jl := n2_; have HB := n3_; clear n0_ n1_ n2_ n3_; (try (have HP42 := Kd.R_putg Jc.1 ((rd (rd_L2 J0 (rd Vt Jw)) V2) : Int) (wrap64 ((rd Yg (rd Yi Jw)) + 1)))))); refine store_event (t := 3) (p := 63) (v := ?vo_w43) (w1 := (wr.setCell ⟨Yr, ((rd (rd_L2 J0 (rd Vt Jw)) V2) : Int).toNat, none⟩ (.int .i64 (wrap64 ((rd Yg (rd Yi Jw)) + 1))))) ?hg ?ho ?hn ?hr ?_; (case ho => rfl); (case hg => rfl); (case hn => rfl); (case hr => go_simp <;> rfl); intro w43 hw; have hg : wr.grownBy w43 (some Yr) := (by rw [hw]; exact HP42.2); have hp_ : Kd.R (Kd.int .i64) 3 w43 w.heap.size (fun k_ => some k_ ≠ (.slice (some ad184) Yi.length qu : Value).ownBlock) (.slice (some ⟨Yr, 0, none⟩) Yg.length uV) dF := (by rw [hw, Ny186.1]; exact HP42.1); clear HP42; replace Yl := hqZ (Kd.R_after (v := (.slice (some ⟨Yr, 0, none⟩) Yg.length uV)) (v1 := (.slice (some ⟨Yr, 0, none⟩) Yg.length uV)) (ok := (fun _ => True)) (Kd.R_mono Yl.1 (fun _ hk => ⟨trivial, hk⟩)) hg (.inl rfl)); replace Jl := hqZ (zl0 (g := VM) (Jl.1) hg (Kd.R_ne Jc.1 Jl.1 (by decide))); replace Jc := hqZ (hp_); replace HB := hqZ ((by rw [hw]; exact zm0 (HB.1) GB18.1 : Below w.heap.size w w43)); clear hg hw hp_) | ((with_reducible refine zu0 (b := .append) (xs := #[.tmp 64, .tmp 66]) rfl ?_); at_builtin; refine Kd.R_append (Kd.int .i64) (w0 := w) w.heap.size rfl (.tmp 64) (.tmp 66) 27 3 (.int .i64 0) 8 rfl Try.underlying27 info3 rfl (by decide) (by omega) (.slice (some ad184) Yi.length qu) Yi (rd (rd_L2 J0 (rd Vt Jw)) V2) [.int .i64 (rd (rd_L2 J0 (rd Vt Jw)) V2)] (fun k_ => some k_ ≠ (.slice (some ⟨Yr, 0, none⟩) Yg.length uV : Value).ownBlock) (fun _ => False) rfl rfl ?aP (fun _ hk => hk.elim) ?aF ?aO ?aB ?aS ?aL ?_; (case aP => exact rfl); (case aB => exact (HB.1)); (case aF => exact (fun k_ hk => Kd.fresh' (Kd.R_lt (Jc.1)) k_ hk)); (case aO => exact (Kd.R_mono Yl.1 (fun _ hk => hk.2))); (case aS => exact (zb0 (HB.1))); (case aL => have := LMc40.1; omega); intro v188 w44 ho hb hg hat; rw [← Ny187.1] at ho; have n0_ := hqZ (Kd.R_after (ok := (fun _ => True)) (Kd.R_mono Jc.1 (fun _ hk => ⟨trivial, hk⟩)) hg hat); have n1_ := hqZ (zl0 (g := VM) (Jl.1) hg (Kd.R_ne Yl.1 Jl.1 (by decide))); have n2_ := hqZ (hb); have n3_ := hqZ (ho); clear Jc; clear Jl; clear HB; clear Yl; have Jc := n0_; have Jl := n1_; have HB := n2_; have Eb := n3_; clear n0_ n1_ n2_ n3_; clear ho hb hg hat)))
    (try simp only [← hl5_3])
    go_roundg k3
    case measure => have := V8.1; have := YO.1; have := Ux.1; omega
    case rel => exact ⟨(dF), (bl), (wrap64 (V2 + 1)), (rfl), H', ⟨by have := V8.1; have := YO.1; have := Ux.1; omega⟩, ⟨by (try simp only [hl5_1]); (try simp only [hl5_2]); (try simp only [hl5_3]); exact Kd.R_mono Jc.1 (fun _ hk => hk.2)⟩, ⟨by (try simp only [hl5_1]); (try simp only [hl5_2]); (try simp only [hl5_3]); exact Eb.1⟩, ⟨by (try simp only [hl5_1]); (try simp only [hl5_2]); (try simp only [hl5_3]); exact Jl.1⟩, ⟨HB.1⟩⟩
end Go.Proofs.Ytdfabioienofhaa.P
