/- Texts of this session on the way to the law FnHeapsTopple, part 2: words of the print, walks, plain laws; only what the law's proof uses. -/
import Derived.Test.YtdfabioienofhaaCFnHeapsTopplea
namespace Go.Proofs.Ytdfabioienofhaa.P
set_option maxHeartbeats 8000000
set_option maxRecDepth 100000
open Go.RowKit Go.Proofs.YtdfabioienofhaaW.PrintWords Go.Proofs.YtdfabioienofhaaW.PrintLast Go.Proofs.YtdfabioienofhaaW.PrintMore
attribute [local go_sem] zx0 zu0 max_two min_two zt0 zs0 zw0 zv0
set_option linter.unusedVariables false
set_option linter.unusedSimpArgs false
def IsS46 (w0 W : World) (g : Nat) (f0 : List Int) (f1 : Int) (f2 : Int) : Prop := ∃ A0 c0, W.heap[g]? = some (.cells #[.slice A0 f0.length c0, .int .i64 f1, .int .u64 f2] 46 (0, 0)) ∧ w0.heap.size ≤ g ∧ Kd.C (Kd.int .u8) w0 A0 f0.length f0
theorem IsS46.grown {w0 W : World} {g : Nat} {f0 : List Int} {f1 : Int} {f2 : Int} {W1 : World} {row : Option Nat} (h : IsS46 w0 W g f0 f1 f2) (hw : W.grownBy W1 row) (hne : some g ≠ row) : IsS46 w0 W1 g f0 f1 f2 := by
 obtain ⟨A0, c0, hb, hg, hr0⟩ := h
 exact ⟨A0, c0, zr0 hb hw hne, hg, hr0⟩
theorem IsS46.own_neN {w0 W : World} {g : Nat} {f0 : List Int} {f1 : Int} {f2 : Int} {α : Type} {d : Kd α} {e : Nat} {base : Nat} {ok : Nat → Prop} {v : Value} {xs : List α} (h : IsS46 w0 W g f0 f1 f2) (ho : Kd.N d e W base ok v xs) (ht : e ≠ 46) : some g ≠ v.ownBlock := by
 obtain ⟨A0, c0, hb, hg, hr0⟩ := h
 exact Kd.N_ne ho hb ht
theorem IsS46.fresh {w0 W : World} {g : Nat} {f0 : List Int} {f1 : Int} {f2 : Int} (h : IsS46 w0 W g f0 f1 f2) : ∀ k, W.heap.size ≤ k → k ≠ g := by
 obtain ⟨A0, c0, hb, hg, hr0⟩ := h
 exact Kd.freshB hb
theorem IsS46.below {w0 W : World} {g : Nat} {f0 : List Int} {f1 : Int} {f2 : Int} {W1 : World} (h : IsS46 w0 W g f0 f1 f2) (hw : Below W.heap.size W W1) : IsS46 w0 W1 g f0 f1 f2 := h.grown (grown_of_below hw none) (by simp)
theorem IsS46.drewN {w0 W : World} {g : Nat} {f0 : List Int} {f1 : Int} {f2 : Int} (h : IsS46 w0 W g f0 f1 f2) (m : Nat) : IsS46 w0 (W.drewN m) g f0 f1 f2 := h
theorem IsS46.drew {w0 W : World} {g : Nat} {f0 : List Int} {f1 : Int} {f2 : Int} (h : IsS46 w0 W g f0 f1 f2) : IsS46 w0 W.drew g f0 f1 f2 := h
theorem IsS46.at_ {w0 W : World} {g : Nat} {f0 : List Int} {f1 : Int} {f2 : Int} {w' : World} {m : Nat} (hq : W.drewN m = w') (h : IsS46 w0 W g f0 f1 f2) : IsS46 w0 w' g f0 f1 f2 := by subst hq; exact IsS46.drewN h m
theorem IsS46.apart {w0 W : World} {g : Nat} {f0 : List Int} {f1 : Int} {f2 : Int} {α : Type} {d : Kd α} {e : Nat} {base : Nat} {ok : Nat → Prop} {v : Value} {xs : List α} (h : IsS46 w0 W g f0 f1 f2) (ho : d.R e W base ok v xs) (ht : ∀ q, q ∈ e :: d.E → q ≠ 46) : d.R e W base (fun k => ok k ∧ k ≠ g) v xs := by
 obtain ⟨A0, c0, hb, hg, hr0⟩ := h
 exact Kd.R_types ho hb ht
theorem IsS46.own_ne {w0 W : World} {g : Nat} {f0 : List Int} {f1 : Int} {f2 : Int} {α : Type} {d : Kd α} {e : Nat} {base : Nat} {ok : Nat → Prop} {v : Value} {xs : List α} (h : IsS46 w0 W g f0 f1 f2) (ho : d.R e W base ok v xs) (ht : e ≠ 46) : some g ≠ v.ownBlock := by
 obtain ⟨A0, c0, hb, hg, hr0⟩ := h
 exact Kd.R_ne ho hb ht
theorem IsS46.apartS {w0 W : World} {g : Nat} {f0 : List Int} {f1 : Int} {f2 : Int} {α : Type} {d : Kd α} {e : Nat} {base : Nat} {ok : Nat → Prop} {v : Value} {xs : List α} (h : IsS46 w0 W g f0 f1 f2) (ho : d.S e W base ok v xs) (ht : ∀ q, q ∈ e :: d.E → q ≠ 46) : d.S e W base (fun k => ok k ∧ k ≠ g) v xs := by
 obtain ⟨A0, c0, hb, hg, hr0⟩ := h
 exact Kd.S_types ho hb ht
theorem IsS46.own_neS {w0 W : World} {g : Nat} {f0 : List Int} {f1 : Int} {f2 : Int} {α : Type} {d : Kd α} {e : Nat} {base : Nat} {ok : Nat → Prop} {v : Value} {xs : List α} (h : IsS46 w0 W g f0 f1 f2) (ho : d.S e W base ok v xs) (ht : e ≠ 46) : some g ≠ v.ownBlock := by
 obtain ⟨A0, c0, hb, hg, hr0⟩ := h
 exact Kd.S_ne ho hb ht
theorem IsS46.lt {w0 W : World} {g : Nat} {f0 : List Int} {f1 : Int} {f2 : Int} (h : IsS46 w0 W g f0 f1 f2) : g < W.heap.size := by
 obtain ⟨A0, c0, hb, hg, hr0⟩ := h
 exact blk_lt hb
theorem IsS46.ge {w0 W : World} {g : Nat} {f0 : List Int} {f1 : Int} {f2 : Int} (h : IsS46 w0 W g f0 f1 f2) : w0.heap.size ≤ g := by
 obtain ⟨A0, c0, hb, hg, hr0⟩ := h
 exact hg
theorem IsS46.far {w0 W : World} {g : Nat} {f0 : List Int} {f1 : Int} {f2 : Int} {p : Addr} (h : IsS46 w0 W g f0 f1 f2) (hne : g ≠ p.block) (u : Value) : IsS46 w0 (W.setCell p u) g f0 f1 f2 := by
 obtain ⟨A0, c0, hb, hg, hr0⟩ := h
 exact ⟨A0, c0, blk_far hb hne u, hg, hr0⟩
theorem cellS46_0 {W : World} {g : Nat} {A0 : Option Addr} {c0 : Nat} {f0 : List Int} {f1 : Int} {f2 : Int} (h : W.heap[g]? = some (.cells #[.slice A0 f0.length c0, .int .i64 f1, .int .u64 f2] 46 (0, 0))) : W.cell? ⟨g, 0, none⟩ = some (.slice A0 f0.length c0) := (zh0 h 0).trans rfl
theorem cellS46_1 {W : World} {g : Nat} {A0 : Option Addr} {c0 : Nat} {f0 : List Int} {f1 : Int} {f2 : Int} (h : W.heap[g]? = some (.cells #[.slice A0 f0.length c0, .int .i64 f1, .int .u64 f2] 46 (0, 0))) : W.cell? ⟨g, 1, none⟩ = some (.int .i64 f1) := (zh0 h 1).trans rfl
theorem IsS46.set_1 {w0 W : World} {g : Nat} {f0 : List Int} {f1 : Int} {f2 : Int} (h : IsS46 w0 W g f0 f1 f2) (x : Int) : IsS46 w0 (W.setCell ⟨g, 1, none⟩ (.int .i64 x)) g f0 x f2 := by
 obtain ⟨A0, c0, hb, hg, hr0⟩ := h
 exact ⟨A0, c0, by simpa using blk_set hb 1 (.int .i64 x), hg, hr0⟩
theorem cellS46_2 {W : World} {g : Nat} {A0 : Option Addr} {c0 : Nat} {f0 : List Int} {f1 : Int} {f2 : Int} (h : W.heap[g]? = some (.cells #[.slice A0 f0.length c0, .int .i64 f1, .int .u64 f2] 46 (0, 0))) : W.cell? ⟨g, 2, none⟩ = some (.int .u64 f2) := (zh0 h 2).trans rfl
theorem IsS46.set_2 {w0 W : World} {g : Nat} {f0 : List Int} {f1 : Int} {f2 : Int} (h : IsS46 w0 W g f0 f1 f2) (x : Int) : IsS46 w0 (W.setCell ⟨g, 2, none⟩ (.int .u64 x)) g f0 f1 x := by
 obtain ⟨A0, c0, hb, hg, hr0⟩ := h
 exact ⟨A0, c0, by simpa using blk_set hb 2 (.int .u64 x), hg, hr0⟩
theorem IsS46.new (w0 W : World) (A0 : Option Addr) (c0 : Nat) (f0 : List Int) (f1 : Int) (f2 : Int) (hB : Below w0.heap.size w0 W) (hr0 : Kd.C (Kd.int .u8) w0 A0 f0.length f0) : IsS46 w0 (W.alloc (.cells #[.slice A0 f0.length c0, .int .i64 f1, .int .u64 f2] 46)) W.heap.size f0 f1 f2 := ⟨A0, c0, by simpa using heap_alloc_new W _, hB.size, hr0⟩
def yt1.f (s0_0 : List Int) (s0_1 : Int) (s0_2 : Int) : Option (Int × Int × Int) := if s0_1 < (s0_0.length : Int) then (if 0 ≤ s0_1 then (if (wrap64 (s0_1 + 1)) ≤ (s0_0.length : Int) then (some (wrap64 (rd s0_0 s0_1), wrap64 (s0_1 + 1), IntKind.u64.wrap ((IntKind.u64.wrap ((IntKind.u64.wrap (s0_2 * 6364136223846793005)) + (IntKind.u64.wrap (wrap64 (rd s0_0 s0_1))))) + 1442695040888963407))) else (some (wrap64 (Go.bits .and .u64 ((IntKind.u64.wrap ((IntKind.u64.wrap ((IntKind.u64.wrap (s0_2 * 6364136223846793005)) + (IntKind.u64.wrap (wrap64 (rd s0_0 s0_1))))) + 1442695040888963407)) / 1099511627776) 255), wrap64 (s0_1 + 1), IntKind.u64.wrap ((IntKind.u64.wrap ((IntKind.u64.wrap (s0_2 * 6364136223846793005)) + (IntKind.u64.wrap (wrap64 (rd s0_0 s0_1))))) + 1442695040888963407)))) else (none)) else (if (wrap64 (s0_1 + 1)) ≤ (s0_0.length : Int) then (some (0, wrap64 (s0_1 + 1), IntKind.u64.wrap ((IntKind.u64.wrap ((IntKind.u64.wrap (s0_2 * 6364136223846793005)))) + 1442695040888963407))) else (some (wrap64 (Go.bits .and .u64 ((IntKind.u64.wrap ((IntKind.u64.wrap ((IntKind.u64.wrap (s0_2 * 6364136223846793005)))) + 1442695040888963407)) / 1099511627776) 255), wrap64 (s0_1 + 1), IntKind.u64.wrap ((IntKind.u64.wrap ((IntKind.u64.wrap (s0_2 * 6364136223846793005)))) + 1442695040888963407))))
theorem yt1.calls (g : Nat) (s0_0 : List Int) (s0_1 : Int) (s0_2 : Int) (r1 : Int) (r2 : Int) (r3 : Int) (w0 w : World) (hI : IsS46 w0 w g s0_0 s0_1 s0_2) (hB : Below w0.heap.size w0 w) (h : yt1.f s0_0 s0_1 s0_2 = some (r1, r2, r3)) :
  Calls Try.prog 72 #[.pointer (some ⟨g, 0, none⟩)] w fun e w' => e = .returned (.int .i64 r1) ∧ IsS46 w0 w' g s0_0 r2 r3 ∧ Below w0.heap.size w0 w' ∧ zg0 w w' g none := by
 have HI0 := hqZ hI
 have HK := hqZ (zg0.refl w g none)
 have HL := hqZ hB.size
 clear hI
 have HW0 := hqZ hB.size
 have HB := hqZ hB
 clear hB
 have H : (if s0_1 < (s0_0.length : Int) then (if 0 ≤ s0_1 then (if (wrap64 (s0_1 + 1)) ≤ (s0_0.length : Int) then (some (wrap64 (rd s0_0 s0_1), wrap64 (s0_1 + 1), IntKind.u64.wrap ((IntKind.u64.wrap ((IntKind.u64.wrap (s0_2 * 6364136223846793005)) + (IntKind.u64.wrap (wrap64 (rd s0_0 s0_1))))) + 1442695040888963407))) else (some (wrap64 (Go.bits .and .u64 ((IntKind.u64.wrap ((IntKind.u64.wrap ((IntKind.u64.wrap (s0_2 * 6364136223846793005)) + (IntKind.u64.wrap (wrap64 (rd s0_0 s0_1))))) + 1442695040888963407)) / 1099511627776) 255), wrap64 (s0_1 + 1), IntKind.u64.wrap ((IntKind.u64.wrap ((IntKind.u64.wrap (s0_2 * 6364136223846793005)) + (IntKind.u64.wrap (wrap64 (rd s0_0 s0_1))))) + 1442695040888963407)))) else (none)) else (if (wrap64 (s0_1 + 1)) ≤ (s0_0.length : Int) then (some (0, wrap64 (s0_1 + 1), IntKind.u64.wrap ((IntKind.u64.wrap ((IntKind.u64.wrap (s0_2 * 6364136223846793005)))) + 1442695040888963407))) else (some (wrap64 (Go.bits .and .u64 ((IntKind.u64.wrap ((IntKind.u64.wrap ((IntKind.u64.wrap (s0_2 * 6364136223846793005)))) + 1442695040888963407)) / 1099511627776) 255), wrap64 (s0_1 + 1), IntKind.u64.wrap ((IntKind.u64.wrap ((IntKind.u64.wrap (s0_2 * 6364136223846793005)))) + 1442695040888963407))))) = some (r1, r2, r3) := h
 clear h
 by_cases c2 : s0_1 < (s0_0.length : Int)
 rotate_left
 ·rw [if_neg c2] at H
  have c2b0 : decide (s0_1 < (s0_0.length : Int)) = false := decide_eq_false c2
  clear c2
  by_cases c7 : (wrap64 (s0_1 + 1)) ≤ (s0_0.length : Int)
  ·rw [if_pos c7] at H
   have c7b0 : decide ((wrap64 (s0_1 + 1)) ≤ (s0_0.length : Int)) = true := decide_eq_true c7
   clear c7
   simp only [Option.some.injEq, Prod.mk.injEq] at H
   obtain ⟨rfl, rfl, rfl⟩ := H
   obtain ⟨ASz8_0, cSz8_0, HGz8, hgz8, HSz8_0⟩ := HI0.1
   have hcz8_0 := cellS46_0 HGz8
   have hcz8_1 := cellS46_1 HGz8
   have hcz8_2 := cellS46_2 HGz8
   have hfz8_1 := zd0 HGz8 1
   have hfz8_2 := zd0 HGz8 2
   clear HGz8 hgz8
   go_enter Try.func72, Try.ntmps72
   go_wp2
   repeat (go_quiet (fail); try go_wp2)
   go_ret
   exact ⟨rfl, by repeat (first | exact HI0.1 | apply IsS46.alloc | apply IsS46.drewN | apply IsS46.drew | apply IsS46.set_1 | apply IsS46.set_2), by repeat (first | (with_reducible first | exact HB.1 | apply zn0 | apply zj0 | apply zk0 | refine zf0 ?_ (IsS46.ge HI0.1)) | exact HB.1), by repeat (first | exact HK.1 | apply zg0.set_ | apply keep_drewN | apply keep_drew | apply keep_alloc)⟩
  rw [if_neg c7] at H
  have c7b0 : decide ((wrap64 (s0_1 + 1)) ≤ (s0_0.length : Int)) = false := decide_eq_false c7
  clear c7
  simp only [Option.some.injEq, Prod.mk.injEq] at H
  obtain ⟨rfl, rfl, rfl⟩ := H
  obtain ⟨ASz9_0, cSz9_0, HGz9, hgz9, HSz9_0⟩ := HI0.1
  have hcz9_0 := cellS46_0 HGz9
  have hcz9_1 := cellS46_1 HGz9
  have hcz9_2 := cellS46_2 HGz9
  have hfz9_1 := zd0 HGz9 1
  have hfz9_2 := zd0 HGz9 2
  clear HGz9 hgz9
  go_enter Try.func72, Try.ntmps72
  go_wp2
  repeat (go_quiet (fail); try go_wp2)
  go_ret
  exact ⟨rfl, by repeat (first | exact HI0.1 | apply IsS46.alloc | apply IsS46.drewN | apply IsS46.drew | apply IsS46.set_1 | apply IsS46.set_2), by repeat (first | (with_reducible first | exact HB.1 | apply zn0 | apply zj0 | apply zk0 | refine zf0 ?_ (IsS46.ge HI0.1)) | exact HB.1), by repeat (first | exact HK.1 | apply zg0.set_ | apply keep_drewN | apply keep_drew | apply keep_alloc)⟩
 rw [if_pos c2] at H
 have c2b0 : decide (s0_1 < (s0_0.length : Int)) = true := decide_eq_true c2
 clear c2
 by_cases c3 : 0 ≤ s0_1
 rotate_left
 ·rw [if_neg c3] at H
  exact absurd H (by simp)
 rw [if_pos c3] at H
 have c3b0 : decide (0 ≤ s0_1) = true := decide_eq_true c3
 clear c3
 by_cases c4 : (wrap64 (s0_1 + 1)) ≤ (s0_0.length : Int)
 ·rw [if_pos c4] at H
  have c4b0 : decide ((wrap64 (s0_1 + 1)) ≤ (s0_0.length : Int)) = true := decide_eq_true c4
  clear c4
  simp only [Option.some.injEq, Prod.mk.injEq] at H
  obtain ⟨rfl, rfl, rfl⟩ := H
  obtain ⟨ASz5_0, cSz5_0, HGz5, hgz5, HSz5_0⟩ := HI0.1
  have hcz5_0 := cellS46_0 HGz5
  have hcz5_1 := cellS46_1 HGz5
  have hcz5_2 := cellS46_2 HGz5
  have hfz5_1 := zd0 HGz5 1
  have hfz5_2 := zd0 HGz5 2
  clear HGz5 hgz5
  have p101 : 0 ≤ (s0_1 : Int) := of_decide_eq_true (by assumption)
  have q101 : s0_1 < (s0_0.length : Int) := of_decide_eq_true (by assumption)
  obtain ⟨ad101, e101, hx101_0⟩ := Kd.at_int HSz5_0 s0_1 p101 q101
  cases e101
  replace hx101_0 := pw_cell_below HB.1 hx101_0
  replace p101 := eq_true p101
  replace q101 := eq_true q101
  go_enter Try.func72, Try.ntmps72
  go_wp2
  repeat (go_quiet (fail); try go_wp2)
  go_ret
  exact ⟨rfl, by repeat (first | exact HI0.1 | apply IsS46.alloc | apply IsS46.drewN | apply IsS46.drew | apply IsS46.set_1 | apply IsS46.set_2), by repeat (first | (with_reducible first | exact HB.1 | apply zn0 | apply zj0 | apply zk0 | refine zf0 ?_ (IsS46.ge HI0.1)) | exact HB.1), by repeat (first | exact HK.1 | apply zg0.set_ | apply keep_drewN | apply keep_drew | apply keep_alloc)⟩
 rw [if_neg c4] at H
 have c4b0 : decide ((wrap64 (s0_1 + 1)) ≤ (s0_0.length : Int)) = false := decide_eq_false c4
 clear c4
 simp only [Option.some.injEq, Prod.mk.injEq] at H
 obtain ⟨rfl, rfl, rfl⟩ := H
 obtain ⟨ASz6_0, cSz6_0, HGz6, hgz6, HSz6_0⟩ := HI0.1
 have hcz6_0 := cellS46_0 HGz6
 have hcz6_1 := cellS46_1 HGz6
 have hcz6_2 := cellS46_2 HGz6
 have hfz6_1 := zd0 HGz6 1
 have hfz6_2 := zd0 HGz6 2
 clear HGz6 hgz6
 have p101 : 0 ≤ (s0_1 : Int) := of_decide_eq_true (by assumption)
 have q101 : s0_1 < (s0_0.length : Int) := of_decide_eq_true (by assumption)
 obtain ⟨ad101, e101, hx101_0⟩ := Kd.at_int HSz6_0 s0_1 p101 q101
 cases e101
 replace hx101_0 := pw_cell_below HB.1 hx101_0
 replace p101 := eq_true p101
 replace q101 := eq_true q101
 go_enter Try.func72, Try.ntmps72
 go_wp2
 repeat (go_quiet (fail); try go_wp2)
 go_ret
 exact ⟨rfl, by repeat (first | exact HI0.1 | apply IsS46.alloc | apply IsS46.drewN | apply IsS46.drew | apply IsS46.set_1 | apply IsS46.set_2), by repeat (first | (with_reducible first | exact HB.1 | apply zn0 | apply zj0 | apply zk0 | refine zf0 ?_ (IsS46.ge HI0.1)) | exact HB.1), by repeat (first | exact HK.1 | apply zg0.set_ | apply keep_drewN | apply keep_drew | apply keep_alloc)⟩
def yu0.f (s0_0 : List Int) (s0_1 : Int) (s0_2 : Int) (a1 : Int) : Option (Int × Int × Int) := if a1 ≤ 1 then (some (0, s0_1, s0_2)) else ((yt1.f s0_0 s0_1 s0_2).bind fun bt102 => (if a1 > 200 then ((yt1.f s0_0 bt102.2.1 bt102.2.2).bind fun bt105 => (if a1 = 0 then (none) else (some (Int.tmod (wrap64 ((wrap64 (bt102.1 * 256)) + bt105.1)) a1, bt105.2.1, bt105.2.2)))) else (if a1 = 0 then (none) else (some (Int.tmod bt102.1 a1, bt102.2.1, bt102.2.2)))))
theorem yu0.calls (g : Nat) (s0_0 : List Int) (s0_1 : Int) (s0_2 : Int) (a1 : Int) (r1 : Int) (r2 : Int) (r3 : Int) (w0 w : World) (hI : IsS46 w0 w g s0_0 s0_1 s0_2) (hB : Below w0.heap.size w0 w) (h : yu0.f s0_0 s0_1 s0_2 a1 = some (r1, r2, r3)) :
  Calls Try.prog 55 #[.pointer (some ⟨g, 0, none⟩), .int .i64 a1] w fun e w' => e = .returned (.int .i64 r1) ∧ IsS46 w0 w' g s0_0 r2 r3 ∧ Below w0.heap.size w0 w' ∧ zg0 w w' g none := by
 have HI0 := hqZ hI
 have HK := hqZ (zg0.refl w g none)
 have HL := hqZ hB.size
 clear hI
 have HW0 := hqZ hB.size
 have HB := hqZ hB
 clear hB
 have H : (if a1 ≤ 1 then (some (0, s0_1, s0_2)) else ((yt1.f s0_0 s0_1 s0_2).bind fun bt102 => (if a1 > 200 then ((yt1.f s0_0 bt102.2.1 bt102.2.2).bind fun bt105 => (if a1 = 0 then (none) else (some (Int.tmod (wrap64 ((wrap64 (bt102.1 * 256)) + bt105.1)) a1, bt105.2.1, bt105.2.2)))) else (if a1 = 0 then (none) else (some (Int.tmod bt102.1 a1, bt102.2.1, bt102.2.2)))))) = some (r1, r2, r3) := h
 clear h
 by_cases c3 : a1 ≤ 1
 ·rw [if_pos c3] at H
  have c3b0 : decide (a1 ≤ 1) = true := decide_eq_true c3
  clear c3
  simp only [Option.some.injEq, Prod.mk.injEq] at H
  obtain ⟨rfl, rfl, rfl⟩ := H
  go_enter Try.func55, Try.ntmps55
  go_wp2
  go_ret
  exact ⟨rfl, HI0.1, HB.1, HK.1⟩
 rw [if_neg c3] at H
 have c3b0 : decide (a1 ≤ 1) = false := decide_eq_false c3
 clear c3
 replace H := Option.bind_eq_some_iff.mp H
 obtain ⟨⟨t102, t103, t104⟩, A40, H⟩ := H
 try dsimp only at H
 have A4 := hqZ A40
 clear A40
 by_cases c5 : a1 > 200
 rotate_left
 ·rw [if_neg c5] at H
  have c5b0 : decide (200 < a1) = false := decide_eq_false c5
  clear c5
  by_cases c10 : a1 = 0
  ·rw [if_pos c10] at H
   exact absurd H (by simp)
  rw [if_neg c10] at H
  have c10b0 : (a1 == 0) = false := beq_eq_false_iff_ne.mpr c10
  have c10b1 : (a1 != 0) = true := bne_iff_ne.mpr c10
  simp only [Option.some.injEq, Prod.mk.injEq] at H
  obtain ⟨rfl, rfl, rfl⟩ := H
  go_enter Try.func55, Try.ntmps55
  go_wp2_with (first | ((with_reducible refine ze0 (f := 72) rfl ?_); refine zq0 (some 9) rfl rfl Try.func72 (by kernel_rfl) rfl #[.pointer (some ⟨g, 0, none⟩)] rfl (by simp only [hqa, hqb, hqc]; rfl) ?_; (with_reducible refine (yt1.calls g s0_0 s0_1 s0_2 t102 t103 t104 w0 _ ?side1 ?side2 A4.1).mono ?_); (case side1 => repeat (first | exact HI0.1 | apply IsS46.alloc | apply IsS46.drewN | apply IsS46.drew | apply IsS46.set_1 | apply IsS46.set_2)); (case side2 => repeat (first | (with_reducible first | exact HB.1 | apply zn0 | apply zj0 | apply zk0 | refine zf0 ?_ (IsS46.ge HI0.1)) | exact HB.1)); rintro e w11 ⟨rfl, hi, hb, hk⟩; refine ⟨_, rfl, ?_⟩; replace HK := hqZ (zg0.trans (HK.1) hk (.inl rfl)); replace HB := hqZ (hb); replace HI0 := hqZ (hi); clear hb hk hi))
  go_ret
  exact ⟨rfl, HI0.1, HB.1, HK.1⟩
 rw [if_pos c5] at H
 have c5b0 : decide (200 < a1) = true := decide_eq_true c5
 clear c5
 replace H := Option.bind_eq_some_iff.mp H
 obtain ⟨⟨t105, t106, t107⟩, A60, H⟩ := H
 try dsimp only at H
 have A6 := hqZ A60
 clear A60
 by_cases c7 : a1 = 0
 ·rw [if_pos c7] at H
  exact absurd H (by simp)
 rw [if_neg c7] at H
 have c7b0 : (a1 == 0) = false := beq_eq_false_iff_ne.mpr c7
 have c7b1 : (a1 != 0) = true := bne_iff_ne.mpr c7
 simp only [Option.some.injEq, Prod.mk.injEq] at H
 obtain ⟨rfl, rfl, rfl⟩ := H
 go_enter Try.func55, Try.ntmps55
 go_wp2_with (first | ((with_reducible refine ze0 (f := 72) rfl ?_); refine zq0 (some 9) rfl rfl Try.func72 (by kernel_rfl) rfl #[.pointer (some ⟨g, 0, none⟩)] rfl (by simp only [hqa, hqb, hqc]; rfl) ?_; (with_reducible refine (yt1.calls g s0_0 s0_1 s0_2 t102 t103 t104 w0 _ ?side1 ?side2 A4.1).mono ?_); (case side1 => repeat (first | exact HI0.1 | apply IsS46.alloc | apply IsS46.drewN | apply IsS46.drew | apply IsS46.set_1 | apply IsS46.set_2)); (case side2 => repeat (first | (with_reducible first | exact HB.1 | apply zn0 | apply zj0 | apply zk0 | refine zf0 ?_ (IsS46.ge HI0.1)) | exact HB.1)); rintro e w8 ⟨rfl, hi, hb, hk⟩; refine ⟨_, rfl, ?_⟩; replace HK := hqZ (zg0.trans (HK.1) hk (.inl rfl)); replace HB := hqZ (hb); replace HI0 := hqZ (hi); clear hb hk hi) | ((with_reducible refine ze0 (f := 72) rfl ?_); refine zq0 (some 15) rfl rfl Try.func72 (by kernel_rfl) rfl #[.pointer (some ⟨g, 0, none⟩)] rfl (by simp only [hqa, hqb, hqc]; rfl) ?_; (with_reducible refine (yt1.calls g s0_0 t103 t104 t105 t106 t107 w0 _ ?side1 ?side2 A6.1).mono ?_); (case side1 => repeat (first | exact HI0.1 | apply IsS46.alloc | apply IsS46.drewN | apply IsS46.drew | apply IsS46.set_1 | apply IsS46.set_2)); (case side2 => repeat (first | (with_reducible first | exact HB.1 | apply zn0 | apply zj0 | apply zk0 | refine zf0 ?_ (IsS46.ge HI0.1)) | exact HB.1)); rintro e w9 ⟨rfl, hi, hb, hk⟩; refine ⟨_, rfl, ?_⟩; replace HK := hqZ (zg0.trans (HK.1) hk (.inl rfl)); replace HB := hqZ (hb); replace HI0 := hqZ (hi); clear hb hk hi))
 go_ret
 exact ⟨rfl, HI0.1, HB.1, HK.1⟩
def yt0.f (s0_0 : List Int) (s0_1 : Int) (s0_2 : Int) (a1 : Int) : Option (Bool × Int × Int) := (yu0.f s0_0 s0_1 s0_2 a1).bind fun bt108 => (some ((bt108.1 == 0), bt108.2.1, bt108.2.2))
theorem yt0.calls (g : Nat) (s0_0 : List Int) (s0_1 : Int) (s0_2 : Int) (a1 : Int) (r1 : Bool) (r2 : Int) (r3 : Int) (w0 w : World) (hI : IsS46 w0 w g s0_0 s0_1 s0_2) (hB : Below w0.heap.size w0 w) (h : yt0.f s0_0 s0_1 s0_2 a1 = some (r1, r2, r3)) :
  Calls Try.prog 34 #[.pointer (some ⟨g, 0, none⟩), .int .i64 a1] w fun e w' => e = .returned (.bool r1) ∧ IsS46 w0 w' g s0_0 r2 r3 ∧ Below w0.heap.size w0 w' ∧ zg0 w w' g none := by
 have HI0 := hqZ hI
 have HK := hqZ (zg0.refl w g none)
 have HL := hqZ hB.size
 clear hI
 have HW0 := hqZ hB.size
 have HB := hqZ hB
 clear hB
 have H : ((yu0.f s0_0 s0_1 s0_2 a1).bind fun bt108 => (some ((bt108.1 == 0), bt108.2.1, bt108.2.2))) = some (r1, r2, r3) := h
 clear h
 replace H := Option.bind_eq_some_iff.mp H
 obtain ⟨⟨t108, t109, t110⟩, A30, H⟩ := H
 try dsimp only at H
 have A3 := hqZ A30
 clear A30
 simp only [Option.some.injEq, Prod.mk.injEq] at H
 obtain ⟨rfl, rfl, rfl⟩ := H
 go_enter Try.func34, Try.ntmps34
 go_wp2_with (first | ((with_reducible refine ze0 (f := 55) rfl ?_); refine zq0 (some 7) rfl rfl Try.func55 (by kernel_rfl) rfl #[.pointer (some ⟨g, 0, none⟩), .int .i64 a1] rfl (by simp only [hqa, hqb, hqc]; rfl) ?_; (with_reducible refine (yu0.calls g s0_0 s0_1 s0_2 a1 t108 t109 t110 w0 _ ?side1 ?side2 A3.1).mono ?_); (case side1 => repeat (first | exact HI0.1 | apply IsS46.alloc | apply IsS46.drewN | apply IsS46.drew | apply IsS46.set_1 | apply IsS46.set_2)); (case side2 => repeat (first | (with_reducible first | exact HB.1 | apply zn0 | apply zj0 | apply zk0 | refine zf0 ?_ (IsS46.ge HI0.1)) | exact HB.1)); rintro e w4 ⟨rfl, hi, hb, hk⟩; refine ⟨_, rfl, ?_⟩; replace HK := hqZ (zg0.trans (HK.1) hk (.inl rfl)); replace HB := hqZ (hb); replace HI0 := hqZ (hi); clear hb hk hi))
 go_ret
 exact ⟨rfl, HI0.1, HB.1, HK.1⟩
def ym1.f (l0 : List Int) : Option (List Int) := (some (([] : List Int) : List Int)).bind fun y111 => (if y111.length + l0.length < 17592186044416 then (some (y111 ++ l0)) else (none))
theorem ym1.calls (A0 : Option Addr) (c0 : Nat) (l0 : List Int) (r : List Int) (w : World) (hr0 : Kd.C (Kd.int .i64) w A0 l0.length l0) (hc0 : l0.length ≤ c0) (h : ym1.f l0 = some r) :
  Calls Try.prog 42 #[.slice A0 l0.length c0] w fun e w' => ∃ v0_ : Value, e = .returned (v0_) ∧ Kd.R (Kd.int .i64) 3 w' w.heap.size (fun _ => True) v0_ r ∧ Below w.heap.size w w' := by
 have HR0 := hqZ hr0
 have HC0 := hqZ hc0
 clear hr0 hc0
 have HB := hqZ (Below.refl w.heap.size w)
 have H : ((some (([] : List Int) : List Int)).bind fun y111 => (if y111.length + l0.length < 17592186044416 then (some (y111 ++ l0)) else (none))) = some r := h
 clear h
 obtain ⟨y111, hy111⟩ : ∃ y_ : List Int, y_ = (([] : List Int)) := ⟨_, rfl⟩
 replace H : (if y111.length + l0.length < 17592186044416 then (some (y111 ++ l0)) else (none)) = some r := by first | (rw [hy111]; with_reducible exact H) | (have H2_ := (Option.bind_some _ _).symm.trans H; rw [hy111]; with_reducible exact H2_) | (have H2_ := (Option.bind_some _ _).symm.trans H; with_reducible exact H2_) | with_reducible exact H | (rw [hy111]; exact H) | exact H
 have Ny111 := hqZ hy111
 clear hy111
 by_cases c2 : y111.length + l0.length < 17592186044416
 rotate_left
 ·rw [if_neg c2] at H
  exact absurd H (by simp)
 rw [if_pos c2] at H
 have LMc2 := hqZ c2
 clear c2
 obtain ⟨y114, hy114⟩ : ∃ y_ : List Int, y_ = (y111 ++ l0) := ⟨_, rfl⟩
 replace H : (some y114) = some r := by first | (rw [hy114]; with_reducible exact H) | (have H2_ := (Option.bind_some _ _).symm.trans H; rw [hy114]; with_reducible exact H2_) | (have H2_ := (Option.bind_some _ _).symm.trans H; with_reducible exact H2_) | with_reducible exact H | (rw [hy114]; exact H) | exact H
 have Ny114 := hqZ hy114
 clear hy114
 obtain rfl := Option.some.inj H
 go_enter Try.func42, Try.ntmps42
 go_wp2_with (first | ((with_reducible refine zo0 (N := 3) rfl ?_); refine Kd.R_lit (Kd.int .i64) _ 3 ?hg (N := 3) ?hd (xs := ([] : List Int)) (inner := []) (ok := fun _ => True) (okp := fun _ => True) ?hr ?hp (fun _ hk => hk) trivial (Below.refl _ _) (Nat.le_refl _) (by simp) ?_; (case hd | hg => rfl); (case hr => go_simp <;> rfl); (case hp => exact (Reps.none _ _)); intro v112 w3 ho4 hb hg_ hnew_; clear hg_ hnew_; (first | rw [← Ny111.1] at ho4 | (simp only [Int.reduceToNat] at ho4; rw [← Ny111.1] at ho4)); have HO113 := hqZ (Kd.R_lower ho4 (zb0 (HB.1))); replace HB := hqZ (za0 (HB.1) hb); clear hb ho4) | ((with_reducible refine gate_builtin (b := .append) (xs := #[.tmp 3, .tmp 4]) rfl ?_); at_builtin; refine Kd.R_append_rows (Kd.int .i64) (w0 := w) w.heap.size rfl (.tmp 3) (.tmp 4) 27 3 (.int .i64 0) 8 rfl Try.underlying27 info3 rfl (by decide) (by omega) v112 y111 l0 _ _ _ (fun _ => True) (fun _ => False) rfl rfl ?aO ?aR (fun _ _ h => h) (fun _ h => h.elim) ?aF ?aB ?aS ?aL ?_; (case aR => exact (Kd.C_below HR0.1 HB.1)); (case aB => exact (HB.1)); (case aF => exact (fun _ _ => trivial)); (case aO => exact (HO113.1)); (case aS => exact (zb0 (HB.1))); (case aL => have := LMc2.1; omega); intro v115 w5 ho hb hg hat; rw [← Ny114.1] at ho; have n0_ := hqZ (hb); have n1_ := hqZ (ho); clear HB; clear HO113; have HB := n0_; have HO116 := n1_; clear n0_ n1_; clear ho hb hg hat))
 go_ret
 exact ⟨_, rfl, HO116.1, HB.1⟩
def yr0.l0 : Nat → Int → Bool → Int → List (List Int) → Option ((List (List Int)))
 | 0, _, _, _, _ => none
 | k + 1, x0, x1, x6, x119000 => if x6 < x0 then (if x0 = 0 then (none) else ((some (([Int.tmod (wrap64 (x6 + 1)) x0] : List Int) : List Int)).bind fun y119 => (if x1 = true then (if y119.length < 17592186044416 then (if x119000.length < 5864062014805 then (yr0.l0 k x0 x1 (wrap64 (x6 + 1)) (x119000 ++ [(y119 ++ [Int.tmod (wrap64 ((wrap64 (x6 + x0)) - 1)) x0])])) else (none)) else (none)) else (if x119000.length < 5864062014805 then (yr0.l0 k x0 x1 (wrap64 (x6 + 1)) (x119000 ++ [y119])) else (none))))) else (some x119000)
def yr0.f (k : Nat) (a0 : Int) (a1 : Bool) : Option ((List (List Int))) := yr0.l0 k a0 a1 0 ([] : List (List Int))
theorem yr0.mono_l : ∀ k, (∀ y0 y1 y2 y3, LeO (yr0.l0 k y0 y1 y2 y3) (yr0.l0 (k + 1) y0 y1 y2 y3))
 | 0 => fun _ _ _ _ r h => by simp [yr0.l0] at h
 | k + 1 => by
  have ih0 := yr0.mono_l k
  ·intro y0 y1 y2 y3
   unfold yr0.l0
   repeat' (with_reducible first | exact ih0 _ _ _ _ | exact LeO.refl _ | exact LeO.none _ | refine LeO.ite ?_ ?_ | refine LeO.bind ?_ (fun _ => ?_))
theorem yr0.mono : ∀ a0 a1 k, LeO (yr0.f k a0 a1) (yr0.f (k + 1) a0 a1) := by
 intro a0 a1 k
 have ih0 := yr0.mono_l k
 unfold yr0.f
 repeat' (with_reducible first | exact ih0 _ _ _ _ | exact LeO.refl _ | exact LeO.none _ | refine LeO.ite ?_ ?_ | refine LeO.bind ?_ (fun _ => ?_))
theorem yr0.calls (k : Nat) (a0 : Int) (a1 : Bool) (r : List (List Int)) (w : World) (h : yr0.f k a0 a1 = some r) :
  Calls Try.prog 76 #[.int .i64 a0, .bool a1] w fun e w' => ∃ v0_ : Value, e = .returned (.agg #[v0_]) ∧ Kd.S (Kd.slice 3 (Kd.int .i64)) 27 w' w.heap.size (fun _ => True) v0_ r ∧ Below w.heap.size w w' := by
 have hu26 := Try.underlying26
 have HB := hqZ (Below.refl w.heap.size w)
 have H : (yr0.l0 k a0 a1 0 ([] : List (List Int))) = some r := h
 clear h
 have H' := hqZ H
 clear H
 go_enter Try.func76, Try.ntmps76
 go_wp2_with (first | ((with_reducible refine zo0 (N := 4) rfl ?_); refine zp0 ?hg (N := 4) ?hd (cs := #[.slice none 0 0]) (t := 26) ?hr ?_; (case hd | hg => rfl); (case hr => go_simp <;> rfl); intro gb117 hg w3 hbox hb; have BK117 := hqZ (hbox); have GW117 := hqZ ((by rw [hg]; exact (zb0 (HB.1)) : w.heap.size ≤ gb117)); have GE117 := hqZ ((by rw [hg]; exact (zb0 (HB.1)) : w.heap.size ≤ gb117)); replace HB := hqZ (za0 (HB.1) hb); clear hb hbox hg) | ((with_reducible refine zo0 (N := 5) rfl ?_); refine zp0 ?hg (N := 5) ?hd (cs := #[.slice none 0 0]) (t := 26) ?hr ?_; (case hd | hg => rfl); (case hr => go_simp <;> rfl); intro gb118 hg w4 hbox hb; have BK118 := hqZ (hbox); have GW118 := hqZ ((by rw [hg]; exact (zb0 (HB.1)) : w.heap.size ≤ gb118)); have GE118 := hqZ ((by rw [hg]; exact (zb0 (HB.1)) : w.heap.size ≤ gb118)); replace HB := hqZ (za0 (HB.1) hb); have NB117_118 := hqZ ((by rw [hg]; exact Nat.ne_of_lt (blk_lt (g := gb117) (BK117.1)) : gb117 ≠ gb118)); have NB118_117 := hqZ ((by rw [hg]; exact Nat.ne_of_gt (blk_lt (g := gb117) (BK117.1)) : gb118 ≠ gb117)); replace BK117 := hqZ (zc0 (g := gb117) (BK117.1) hb); clear hb hbox hg; have hnb5 := NB118_117.1; have hnc5 := NB117_118.1; have hcz6_0 : w4.cell? ⟨gb118, 0, none⟩ = some (.slice none 0 0) := (zh0 BK118.1 0).trans rfl; have hfz6_0 := zd0 BK118.1 0))
 go_loopg [6] k (fun kq v6 w' => ∃ (x6_1 : Int) (x119000_1 : List (List Int)) (u119000 : Value), v6 = .int .i64 x6_1 ∧ zi0 (yr0.l0 kq a0 a1 x6_1 x119000_1 = some r) ∧ zi0 (kq ≤ k) ∧ zi0 (Kd.S (Kd.slice 3 (Kd.int .i64)) 27 w' w.heap.size (fun _ => True) u119000 x119000_1) ∧ zi0 (w'.heap[gb117]? = some (.cells #[(.slice none 0 0)] 26 (0, 0))) ∧ zi0 (w'.heap[gb118]? = some (.cells #[u119000] 26 (0, 0))) ∧ zi0 (Below w.heap.size w w'))
 case atStart => exact ⟨(0), (([] : List (List Int))), (.slice none 0 0), (rfl), H', ⟨Nat.le_refl _⟩, ⟨by first | exact Kd.S_nil _ _ _ _ _ | exact Kd.N_nil _ _ _ _ _ | exact Kd.V_nil _ _ _ _ _ | exact Kd.Q_nil _ _ _ _ _ | exact Kd.R_nil _ _ _ _ _⟩, ⟨by refine blk_far ?_ NB117_118.1 _; exact BK117.1⟩, ⟨by refine blk_put (cs := #[.slice none 0 0]) ?_ 0 _ rfl; exact BK118.1⟩, ⟨zf0 HB.1 GE118.1⟩⟩
 case round =>
  clear H'
  try clear p2
  try clear c5
  try clear hcz6_0
  try clear hfz6_0
  obtain ⟨x6_1, x119000_1, u119000, rfl, HA, HK1, HO_119000, BK117, BK118, HB⟩ := hrel
  obtain _ | k1 := gk
  ·exact absurd HA.1 (by simp [yr0.l0])
  have H := HA.1
  clear HA
  simp only [yr0.l0] at H
  by_cases c7 : x6_1 < a0
  rotate_left
  ·rw [if_neg c7] at H
   have c7b0 : decide (x6_1 < a0) = false := decide_eq_false c7
   clear c7
   obtain rfl := Option.some.inj H
   have hnb30 := NB118_117.1
   have hnc30 := NB117_118.1
   have hcz31_0 : wr.cell? ⟨gb118, 0, none⟩ = some (u119000) := (zh0 BK118.1 0).trans rfl
   have hfz31_0 := zd0 BK118.1 0
   obtain ⟨Ao32, co32, eo32⟩ := Kd.S_slice HO_119000.1
   subst eo32
   have hcz33_0 : wr.cell? ⟨gb117, 0, none⟩ = some (.slice none 0 0) := (zh0 BK117.1 0).trans rfl
   have hfz33_0 := zd0 BK117.1 0
   go_wp2
   refine bodyPost_ret (results_cell_row rfl _ _ gb117 26 #[.slice Ao32 x119000_1.length co32] (0, 0) _ rfl (by refine blk_put (cs := #[.slice none 0 0]) ?_ 0 _ rfl; exact BK117.1) Try.underlying26 rfl (by kernel_rfl)) rfl ?_
   exact ⟨_, rfl, Kd.S_mono (Kd.S_far (p := ⟨gb117, 0, none⟩) (Kd.S_types HO_119000.1 BK117.1 (by decide)) (fun _ hk => hk.2) (.slice Ao32 x119000_1.length co32)) (fun _ hk => trivial), zf0 HB.1 GE117.1⟩
  rw [if_pos c7] at H
  have c7b0 : decide (x6_1 < a0) = true := decide_eq_true c7
  clear c7
  by_cases c8 : a0 = 0
  ·rw [if_pos c8] at H
   exact absurd H (by simp)
  rw [if_neg c8] at H
  have c8b0 : (a0 == 0) = false := beq_eq_false_iff_ne.mpr c8
  have c8b1 : (a0 != 0) = true := bne_iff_ne.mpr c8
  obtain ⟨y119, hy119⟩ : ∃ y_ : List Int, y_ = (([Int.tmod (wrap64 (x6_1 + 1)) a0] : List Int)) := ⟨_, rfl⟩
  replace H : (if a1 = true then (if y119.length < 17592186044416 then (if x119000_1.length < 5864062014805 then (yr0.l0 k1 a0 a1 (wrap64 (x6_1 + 1)) (x119000_1 ++ [(y119 ++ [Int.tmod (wrap64 ((wrap64 (x6_1 + a0)) - 1)) a0])])) else (none)) else (none)) else (if x119000_1.length < 5864062014805 then (yr0.l0 k1 a0 a1 (wrap64 (x6_1 + 1)) (x119000_1 ++ [y119])) else (none))) = some r := by first | (rw [hy119]; with_reducible exact H) | (have H2_ := (Option.bind_some _ _).symm.trans H; rw [hy119]; with_reducible exact H2_) | (have H2_ := (Option.bind_some _ _).symm.trans H; with_reducible exact H2_) | with_reducible exact H | (rw [hy119]; exact H) | exact H
  have Ny119 := hqZ hy119
  clear hy119
  by_cases c9 : a1 = true
  rotate_left
  ·replace c9 := Bool.eq_false_iff.mpr c9
   subst c9
   rw [if_neg (show ¬ (false = true) by decide)] at H
   by_cases c21 : x119000_1.length < 5864062014805
   rotate_left
   ·rw [if_neg c21] at H
    exact absurd H (by simp)
   rw [if_pos c21] at H
   have LMc21 := hqZ c21
   clear c21
   obtain ⟨y128, hy128⟩ : ∃ y_ : List (List Int), y_ = (x119000_1 ++ [y119]) := ⟨_, rfl⟩
   replace H : (yr0.l0 k1 a0 false (wrap64 (x6_1 + 1)) y128) = some r := by first | (rw [hy128]; with_reducible exact H) | (have H2_ := (Option.bind_some _ _).symm.trans H; rw [hy128]; with_reducible exact H2_) | (have H2_ := (Option.bind_some _ _).symm.trans H; with_reducible exact H2_) | with_reducible exact H | (rw [hy128]; exact H) | exact H
   have Ny128 := hqZ hy128
   clear hy128
   have H' := hqZ H
   clear H
   go_wp2_with (first | ((with_reducible refine zo0 (N := 18) rfl ?_); refine Kd.R_lit (Kd.int .i64) _ 3 ?hg (N := 18) ?hd (xs := ([Int.tmod (wrap64 (x6_1 + 1)) a0] : List Int)) (inner := [.int .i64 (Int.tmod (wrap64 (x6_1 + 1)) a0)]) (ok := fun _ => True) (okp := fun _ => True) ?hr ?hp (fun _ hk => hk) trivial (Below.refl _ _) (Nat.le_refl _) (by simp) ?_; (case hd | hg => rfl); (case hr => go_simp <;> rfl); (case hp => exact (Reps.one (show Kd.M (Kd.int .i64) _ _ _ (Int.tmod (wrap64 (x6_1 + 1)) a0) [.int .i64 (Int.tmod (wrap64 (x6_1 + 1)) a0)] from rfl) (Reps.none _ _))); intro v120 w22 ho23 hb hg_ hnew_; clear hg_ hnew_; (first | rw [← Ny119.1] at ho23 | (simp only [Int.reduceToNat] at ho23; rw [← Ny119.1] at ho23)); replace HO_119000 := hqZ (Kd.S_elder' (HO_119000.1) (Kd.R_base ho23) hb); have HO121 := hqZ (Kd.R_lower ho23 (zb0 (HB.1))); replace BK117 := hqZ (zc0 (g := gb117) (BK117.1) hb); replace BK118 := hqZ (zc0 (g := gb118) (BK118.1) hb); replace HB := hqZ (za0 (HB.1) hb); clear hb ho23; have hnb24 := NB118_117.1; have hnc24 := NB117_118.1; have hcz25_0 : w22.cell? ⟨gb118, 0, none⟩ = some (u119000) := (zh0 BK118.1 0).trans rfl; have hfz25_0 := zd0 BK118.1 0; obtain ⟨Ao27, co27, eo27⟩ := Kd.R_slice HO121.1; subst eo27) | ((with_reducible refine gate_builtin (b := .append) (xs := #[.tmp 30, .tmp 32]) rfl ?_); at_builtin; refine Kd.S_append (Kd.slice 3 (Kd.int .i64)) (w0 := w) w.heap.size rfl (.tmp 30) (.tmp 32) 24 27 (.slice none 0 0) 24 rfl Try.underlying24 info27 rfl (by decide) (by omega) u119000 x119000_1 y119 [.slice Ao27 y119.length co27] (fun _ => True) (fun k_ => some k_ = (.slice Ao27 y119.length co27 : Value).ownBlock) rfl rfl ?aP (fun k_ hk_ => ((Kd.R_mono (ok' := fun k_ => ((fun _ => True)) k_ ∧ some k_ ≠ (u119000 : Value).ownBlock) (Kd.R_apart' (HO121.1) (Kd.S_typed HO_119000.1) (by decide)) (fun k_ hk => ⟨trivial, hk.2⟩))).1 k_ hk_.symm) ?aF ?aO ?aB ?aS ?aL ?_; (case aP => exact Kd.M_row (Kd.R_mono (Kd.R_tight rfl (Kd.R_mono (ok' := fun k_ => ((fun _ => True)) k_ ∧ some k_ ≠ (u119000 : Value).ownBlock) (Kd.R_apart' (HO121.1) (Kd.S_typed HO_119000.1) (by decide)) (fun k_ hk => ⟨trivial, hk.2⟩))) (fun _ h_ => h_))); (case aB => exact (HB.1)); (case aF => exact (fun _ _ => trivial)); (case aO => exact (Kd.S_mono HO_119000.1 (fun k_ hk => ⟨trivial, fun e_ => hk.2 e_⟩))); (case aS => exact (zb0 (HB.1))); (case aL => have := LMc21.1; omega); intro v129 w26 ho hb hg hat; rw [← Ny128.1] at ho; have n0_ := hqZ (zr0 (g := gb117) (BK117.1) hg (Kd.S_ne HO_119000.1 BK117.1 (by decide))); have n1_ := hqZ (zr0 (g := gb118) (BK118.1) hg (Kd.S_ne HO_119000.1 BK118.1 (by decide))); have n2_ := hqZ (hb); have n3_ := hqZ (ho); clear BK117; clear BK118; clear HB; clear HO_119000; clear HO121; have BK117 := n0_; have BK118 := n1_; have HB := n2_; have HO130 := n3_; clear n0_ n1_ n2_ n3_; clear ho hb hg hat; obtain ⟨Ao28, co28, eo28⟩ := Kd.S_slice HO130.1; subst eo28; have hcz29_0 : w26.cell? ⟨gb118, 0, none⟩ = some (u119000) := (zh0 BK118.1 0).trans rfl; have hfz29_0 := zd0 BK118.1 0))
   go_roundg k1
   case measure => have := HK1.1; omega
   case rel => exact ⟨(wrap64 (x6_1 + 1)), (y128), (.slice Ao28 y128.length co28), (rfl), H', ⟨by have := HK1.1; omega⟩, ⟨Kd.S_mono (Kd.S_far (p := ⟨gb118, 0, none⟩) (Kd.S_types HO130.1 BK118.1 (by decide)) (fun _ hk => hk.2) (.slice Ao28 y128.length co28)) (fun _ hk => trivial)⟩, ⟨by refine blk_far ?_ NB117_118.1 _; exact BK117.1⟩, ⟨by refine blk_put (cs := #[u119000]) ?_ 0 _ rfl; exact BK118.1⟩, ⟨zf0 HB.1 GE118.1⟩⟩
  subst c9
  rw [if_pos rfl] at H
  by_cases c10 : y119.length < 17592186044416
  rotate_left
  ·rw [if_neg c10] at H
   exact absurd H (by simp)
  rw [if_pos c10] at H
  have LMc10 := hqZ c10
  clear c10
  obtain ⟨y122, hy122⟩ : ∃ y_ : List Int, y_ = (y119 ++ [Int.tmod (wrap64 ((wrap64 (x6_1 + a0)) - 1)) a0]) := ⟨_, rfl⟩
  replace H : (if x119000_1.length < 5864062014805 then (yr0.l0 k1 a0 true (wrap64 (x6_1 + 1)) (x119000_1 ++ [y122])) else (none)) = some r := by first | (rw [hy122]; with_reducible exact H) | (have H2_ := (Option.bind_some _ _).symm.trans H; rw [hy122]; with_reducible exact H2_) | (have H2_ := (Option.bind_some _ _).symm.trans H; with_reducible exact H2_) | with_reducible exact H | (rw [hy122]; exact H) | exact H
  have Ny122 := hqZ hy122
  clear hy122
  by_cases c11 : x119000_1.length < 5864062014805
  rotate_left
  ·rw [if_neg c11] at H
   exact absurd H (by simp)
  rw [if_pos c11] at H
  have LMc11 := hqZ c11
  clear c11
  obtain ⟨y125, hy125⟩ : ∃ y_ : List (List Int), y_ = (x119000_1 ++ [y122]) := ⟨_, rfl⟩
  replace H : (yr0.l0 k1 a0 true (wrap64 (x6_1 + 1)) y125) = some r := by first | (rw [hy125]; with_reducible exact H) | (have H2_ := (Option.bind_some _ _).symm.trans H; rw [hy125]; with_reducible exact H2_) | (have H2_ := (Option.bind_some _ _).symm.trans H; with_reducible exact H2_) | with_reducible exact H | (rw [hy125]; exact H) | exact H
  have Ny125 := hqZ hy125
  clear hy125
  have H' := hqZ H
  clear H
  go_wp2_with (first | ((with_reducible refine zo0 (N := 18) rfl ?_); refine Kd.R_lit (Kd.int .i64) _ 3 ?hg (N := 18) ?hd (xs := ([Int.tmod (wrap64 (x6_1 + 1)) a0] : List Int)) (inner := [.int .i64 (Int.tmod (wrap64 (x6_1 + 1)) a0)]) (ok := fun _ => True) (okp := fun _ => True) ?hr ?hp (fun _ hk => hk) trivial (Below.refl _ _) (Nat.le_refl _) (by simp) ?_; (case hd | hg => rfl); (case hr => go_simp <;> rfl); (case hp => exact (Reps.one (show Kd.M (Kd.int .i64) _ _ _ (Int.tmod (wrap64 (x6_1 + 1)) a0) [.int .i64 (Int.tmod (wrap64 (x6_1 + 1)) a0)] from rfl) (Reps.none _ _))); intro v120 w12 ho13 hb hg_ hnew_; clear hg_ hnew_; (first | rw [← Ny119.1] at ho13 | (simp only [Int.reduceToNat] at ho13; rw [← Ny119.1] at ho13)); replace HO_119000 := hqZ (Kd.S_elder' (HO_119000.1) (Kd.R_base ho13) hb); have HO121 := hqZ (Kd.R_lower ho13 (zb0 (HB.1))); replace BK117 := hqZ (zc0 (g := gb117) (BK117.1) hb); replace BK118 := hqZ (zc0 (g := gb118) (BK118.1) hb); replace HB := hqZ (za0 (HB.1) hb); clear hb ho13) | ((with_reducible refine gate_builtin (b := .append) (xs := #[.tmp 20, .tmp 27]) rfl ?_); at_builtin; refine Kd.R_append (Kd.int .i64) (w0 := w) w.heap.size rfl (.tmp 20) (.tmp 27) 27 3 (.int .i64 0) 8 rfl Try.underlying27 info3 rfl (by decide) (by omega) v120 y119 (Int.tmod (wrap64 ((wrap64 (x6_1 + a0)) - 1)) a0) [.int .i64 (Int.tmod (wrap64 ((wrap64 (x6_1 + a0)) - 1)) a0)] (fun _ => True) (fun _ => False) rfl rfl ?aP (fun _ hk => hk.elim) ?aF ?aO ?aB ?aS ?aL ?_; (case aP => exact rfl); (case aB => exact (HB.1)); (case aF => exact (fun _ _ => trivial)); (case aO => exact (HO121.1)); (case aS => exact (zb0 (HB.1))); (case aL => have := LMc10.1; omega); intro v123 w14 ho hb hg hat; rw [← Ny122.1] at ho; have n0_ := hqZ (Kd.S_after (ok := (fun _ => True)) (HO_119000.1) hg hat); have n1_ := hqZ (zr0 (g := gb117) (BK117.1) hg (Kd.R_ne HO121.1 BK117.1 (by decide))); have n2_ := hqZ (zr0 (g := gb118) (BK118.1) hg (Kd.R_ne HO121.1 BK118.1 (by decide))); have n3_ := hqZ (hb); have n4_ := hqZ (ho); clear HO_119000; clear BK117; clear BK118; clear HB; clear HO121; have HO_119000 := n0_; have BK117 := n1_; have BK118 := n2_; have HB := n3_; have HO124 := n4_; clear n0_ n1_ n2_ n3_ n4_; clear ho hb hg hat; have hnb15 := NB118_117.1; have hnc15 := NB117_118.1; have hcz16_0 : w14.cell? ⟨gb118, 0, none⟩ = some (u119000) := (zh0 BK118.1 0).trans rfl; have hfz16_0 := zd0 BK118.1 0; obtain ⟨Ao18, co18, eo18⟩ := Kd.R_slice HO124.1; subst eo18) | ((with_reducible refine gate_builtin (b := .append) (xs := #[.tmp 30, .tmp 32]) rfl ?_); at_builtin; refine Kd.S_append (Kd.slice 3 (Kd.int .i64)) (w0 := w) w.heap.size rfl (.tmp 30) (.tmp 32) 24 27 (.slice none 0 0) 24 rfl Try.underlying24 info27 rfl (by decide) (by omega) u119000 x119000_1 y122 [.slice Ao18 y122.length co18] (fun _ => True) (fun k_ => some k_ = (.slice Ao18 y122.length co18 : Value).ownBlock) rfl rfl ?aP (fun k_ hk_ => ((Kd.R_mono (ok' := fun k_ => ((fun _ => True)) k_ ∧ some k_ ≠ (u119000 : Value).ownBlock) (Kd.R_apart' (HO124.1) (Kd.S_typed HO_119000.1) (by decide)) (fun k_ hk => ⟨trivial, hk.2⟩))).1 k_ hk_.symm) ?aF ?aO ?aB ?aS ?aL ?_; (case aP => exact Kd.M_row (Kd.R_mono (Kd.R_tight rfl (Kd.R_mono (ok' := fun k_ => ((fun _ => True)) k_ ∧ some k_ ≠ (u119000 : Value).ownBlock) (Kd.R_apart' (HO124.1) (Kd.S_typed HO_119000.1) (by decide)) (fun k_ hk => ⟨trivial, hk.2⟩))) (fun _ h_ => h_))); (case aB => exact (HB.1)); (case aF => exact (fun _ _ => trivial)); (case aO => exact (Kd.S_mono HO_119000.1 (fun k_ hk => ⟨trivial, fun e_ => hk.2 e_⟩))); (case aS => exact (zb0 (HB.1))); (case aL => have := LMc11.1; omega); intro v126 w17 ho hb hg hat; rw [← Ny125.1] at ho; have n0_ := hqZ (zr0 (g := gb117) (BK117.1) hg (Kd.S_ne HO_119000.1 BK117.1 (by decide))); have n1_ := hqZ (zr0 (g := gb118) (BK118.1) hg (Kd.S_ne HO_119000.1 BK118.1 (by decide))); have n2_ := hqZ (hb); have n3_ := hqZ (ho); clear BK117; clear BK118; clear HB; clear HO_119000; clear HO124; have BK117 := n0_; have BK118 := n1_; have HB := n2_; have HO127 := n3_; clear n0_ n1_ n2_ n3_; clear ho hb hg hat; obtain ⟨Ao19, co19, eo19⟩ := Kd.S_slice HO127.1; subst eo19; have hcz20_0 : w17.cell? ⟨gb118, 0, none⟩ = some (u119000) := (zh0 BK118.1 0).trans rfl; have hfz20_0 := zd0 BK118.1 0))
  go_roundg k1
  case measure => have := HK1.1; omega
  case rel => exact ⟨(wrap64 (x6_1 + 1)), (y125), (.slice Ao19 y125.length co19), (rfl), H', ⟨by have := HK1.1; omega⟩, ⟨Kd.S_mono (Kd.S_far (p := ⟨gb118, 0, none⟩) (Kd.S_types HO127.1 BK118.1 (by decide)) (fun _ hk => hk.2) (.slice Ao19 y125.length co19)) (fun _ hk => trivial)⟩, ⟨by refine blk_far ?_ NB117_118.1 _; exact BK117.1⟩, ⟨by refine blk_put (cs := #[u119000]) ?_ 0 _ rfl; exact BK118.1⟩, ⟨zf0 HB.1 GE118.1⟩⟩
mutual
def ye0.l0 : Nat → Int → Int → List Int → Int → Int → List (List Int) → Option ((List (List Int)) × Int × Int)
 | 0, _, _, _, _, _, _ => none
 | k + 1, x5, x7, x1000, x1001, x1002, x145000 => if x7 < x5 then ((yu0.f x1000 x1001 x1002 3).bind fun bt145 => (ye0.l1 k x5 x7 ([] : List Int) (wrap64 (1 + bt145.1)) x1000 bt145.2.1 bt145.2.2 x145000)) else ((yt0.f x1000 x1001 x1002 2).bind fun bt163 => (if bt163.1 = true then (ye0.l2 k x5 (x145000.length : Int) 0 x1000 bt163.2.1 bt163.2.2 x145000) else (some (x145000, bt163.2.1, bt163.2.2))))
def ye0.l1 : Nat → Int → Int → List Int → Int → List Int → Int → Int → List (List Int) → Option ((List (List Int)) × Int × Int)
 | 0, _, _, _, _, _, _, _, _ => none
 | k + 1, x5, x7, x8, x9, x1000, x1001, x1002, x145000 => if x9 > 0 then ((yu0.f x1000 x1001 x1002 x5).bind fun bt148 => (if x8.length < 17592186044416 then (ye0.l1 k x5 x7 (x8 ++ [bt148.1]) (wrap64 (x9 - 1)) x1000 bt148.2.1 bt148.2.2 x145000) else (none))) else ((yt0.f x1000 x1001 x1002 8).bind fun bt154 => (if bt154.1 = true then (if x145000.length < 5864062014805 then (ye0.l0 k x5 (wrap64 (x7 + 1)) x1000 bt154.2.1 bt154.2.2 (x145000 ++ [([] : List Int)])) else (none)) else (if x145000.length < 5864062014805 then (ye0.l0 k x5 (wrap64 (x7 + 1)) x1000 bt154.2.1 bt154.2.2 (x145000 ++ [x8])) else (none))))
def ye0.l2 : Nat → Int → Int → Int → List Int → Int → Int → List (List Int) → Option ((List (List Int)) × Int × Int)
 | 0, _, _, _, _, _, _, _ => none
 | k + 1, x5, x52, x53, x1000, x1001, x1002, x145000 => if x53 < x52 then (if 0 ≤ x53 then (if x53 < (x145000.length : Int) then (if x5 = 0 then (none) else (if (rd_L2 x145000 x53).length < 17592186044416 then (ye0.l2 k x5 x52 (wrap64 (x53 + 1)) x1000 x1001 x1002 (x145000.set (x53 : Int).toNat ((rd_L2 x145000 x53) ++ [Int.tmod (wrap64 (x53 + 1)) x5]))) else (none))) else (none)) else (none)) else (some (x145000, x1001, x1002))
end
def ye0.f (k : Nat) (s0_0 : List Int) (s0_1 : Int) (s0_2 : Int) (a1 : Int) : Option ((List (List Int)) × Int × Int) := (yu0.f s0_0 s0_1 s0_2 a1).bind fun bt132 => ((yt0.f s0_0 bt132.2.1 bt132.2.2 4).bind fun bt135 => (if bt135.1 = true then ((yt0.f s0_0 bt135.2.1 bt135.2.2 2).bind fun bt138 => ((yr0.f k (wrap64 (1 + bt132.1)) bt138.1).bind fun t141 => (some (t141, bt138.2.1, bt138.2.2)))) else (ye0.l0 k (wrap64 (1 + bt132.1)) 0 s0_0 bt135.2.1 bt135.2.2 ([] : List (List Int)))))
theorem ye0.mono_l : ∀ k, (∀ y0 y1 y2 y3 y4 y5, LeO (ye0.l0 k y0 y1 y2 y3 y4 y5) (ye0.l0 (k + 1) y0 y1 y2 y3 y4 y5)) ∧ (∀ y0 y1 y2 y3 y4 y5 y6 y7, LeO (ye0.l1 k y0 y1 y2 y3 y4 y5 y6 y7) (ye0.l1 (k + 1) y0 y1 y2 y3 y4 y5 y6 y7)) ∧ (∀ y0 y1 y2 y3 y4 y5 y6, LeO (ye0.l2 k y0 y1 y2 y3 y4 y5 y6) (ye0.l2 (k + 1) y0 y1 y2 y3 y4 y5 y6))
 | 0 => ⟨fun _ _ _ _ _ _ r h => by simp [ye0.l0] at h, fun _ _ _ _ _ _ _ _ r h => by simp [ye0.l1] at h, fun _ _ _ _ _ _ _ r h => by simp [ye0.l2] at h⟩
 | k + 1 => by
  obtain ⟨ih0, ih1, ih2⟩ := ye0.mono_l k
  refine ⟨?_, ?_, ?_⟩
  ·intro y0 y1 y2 y3 y4 y5
   unfold ye0.l0
   repeat' (with_reducible first | exact ih0 _ _ _ _ _ _ | exact ih1 _ _ _ _ _ _ _ _ | exact ih2 _ _ _ _ _ _ _ | exact yr0.mono _ _ _ | exact LeO.refl _ | exact LeO.none _ | refine LeO.ite ?_ ?_ | refine LeO.bind ?_ (fun _ => ?_))
  ·intro y0 y1 y2 y3 y4 y5 y6 y7
   unfold ye0.l1
   repeat' (with_reducible first | exact ih0 _ _ _ _ _ _ | exact ih1 _ _ _ _ _ _ _ _ | exact ih2 _ _ _ _ _ _ _ | exact yr0.mono _ _ _ | exact LeO.refl _ | exact LeO.none _ | refine LeO.ite ?_ ?_ | refine LeO.bind ?_ (fun _ => ?_))
  ·intro y0 y1 y2 y3 y4 y5 y6
   unfold ye0.l2
   repeat' (with_reducible first | exact ih0 _ _ _ _ _ _ | exact ih1 _ _ _ _ _ _ _ _ | exact ih2 _ _ _ _ _ _ _ | exact yr0.mono _ _ _ | exact LeO.refl _ | exact LeO.none _ | refine LeO.ite ?_ ?_ | refine LeO.bind ?_ (fun _ => ?_))
theorem ye0.mono : ∀ a0 a1 a2 a3 k, LeO (ye0.f k a0 a1 a2 a3) (ye0.f (k + 1) a0 a1 a2 a3) := by
 intro a0 a1 a2 a3 k
 obtain ⟨ih0, ih1, ih2⟩ := ye0.mono_l k
 unfold ye0.f
 repeat' (with_reducible first | exact ih0 _ _ _ _ _ _ | exact ih1 _ _ _ _ _ _ _ _ | exact ih2 _ _ _ _ _ _ _ | exact yr0.mono _ _ _ | exact LeO.refl _ | exact LeO.none _ | refine LeO.ite ?_ ?_ | refine LeO.bind ?_ (fun _ => ?_))
def ye0.T20 : Bool × List (List Nat × List Nat) := (true, [([], []), ([0], [0]), ([], []), ([], []), ([3], [3]), ([], []), ([4, 5], [4, 5]), ([6], [6]), ([], []), ([8], [8]), ([], []), ([9, 10], [9, 10]), ([11], [11]), ([7, 12], [7, 12]), ([1, 2, 0, 1, 2, 3, 4, 5, 6, 7, 8, 9, 10, 11, 12, 13], [1, 2]), ([14, 13, 13, 0, 1, 2, 3, 4, 5, 6, 7, 8, 9, 10, 11, 12, 13], [13, 14])])
def ye0.B20 : List Nat := [0, 1, 0, 0, 8, 0, 56, 120, 0, 256, 0, 1792, 3840, 8184, 16383, 32767]
theorem ye0.tab20 : rtab .any (opsOf Try.f70 20) = ye0.T20 := by kernel_rfl
theorem ye0.bits20 : waitsOk ye0.T20.2 ye0.B20 = true := by kernel_rfl
theorem ye0.calls (k : Nat) (g : Nat) (s0_0 : List Int) (s0_1 : Int) (s0_2 : Int) (a1 : Int) (r1 : List (List Int)) (r2 : Int) (r3 : Int) (w0 w : World) (hI : IsS46 w0 w g s0_0 s0_1 s0_2) (hB : Below w0.heap.size w0 w) (h : ye0.f k s0_0 s0_1 s0_2 a1 = some (r1, r2, r3)) :
  Calls Try.prog 70 #[.pointer (some ⟨g, 0, none⟩), .int .i64 a1] w fun e w' => ∃ v0_ : Value, e = .returned (.agg #[v0_]) ∧ Kd.S (Kd.slice 3 (Kd.int .i64)) 27 w' w.heap.size (fun _ => True) v0_ r1 ∧ IsS46 w0 w' g s0_0 r2 r3 ∧ Below w0.heap.size w0 w' ∧ zg0 w w' g none := by
 have hu26 := Try.underlying26
 have HI0 := hqZ hI
 have HK := hqZ (zg0.refl w g none)
 have HL := hqZ hB.size
 clear hI
 have HW0 := hqZ hB.size
 have HB := hqZ hB
 clear hB
 have H : ((yu0.f s0_0 s0_1 s0_2 a1).bind fun bt132 => ((yt0.f s0_0 bt132.2.1 bt132.2.2 4).bind fun bt135 => (if bt135.1 = true then ((yt0.f s0_0 bt135.2.1 bt135.2.2 2).bind fun bt138 => ((yr0.f k (wrap64 (1 + bt132.1)) bt138.1).bind fun t141 => (some (t141, bt138.2.1, bt138.2.2)))) else (ye0.l0 k (wrap64 (1 + bt132.1)) 0 s0_0 bt135.2.1 bt135.2.2 ([] : List (List Int)))))) = some (r1, r2, r3) := h
 clear h
 replace H := Option.bind_eq_some_iff.mp H
 obtain ⟨⟨t132, t133, t134⟩, A30, H⟩ := H
 try dsimp only at H
 have A3 := hqZ A30
 clear A30
 replace H := Option.bind_eq_some_iff.mp H
 obtain ⟨⟨t135, t136, t137⟩, A40, H⟩ := H
 try dsimp only at H
 have A4 := hqZ A40
 clear A40
 by_cases c5 : t135 = true
 ·subst c5
  rw [if_pos rfl] at H
  replace H := Option.bind_eq_some_iff.mp H
  obtain ⟨⟨t138, t139, t140⟩, A60, H⟩ := H
  try dsimp only at H
  have A6 := hqZ A60
  clear A60
  replace H := Option.bind_eq_some_iff.mp H
  obtain ⟨t141, A70, H⟩ := H
  try dsimp only at H
  have A7 := hqZ A70
  clear A70
  simp only [Option.some.injEq, Prod.mk.injEq] at H
  obtain ⟨rfl, rfl, rfl⟩ := H
  go_enter Try.func70, Try.ntmps70
  go_wp2_with (first | ((with_reducible refine zo0 (N := 4) rfl ?_); refine zp0 ?hg (N := 4) ?hd (cs := #[.slice none 0 0]) (t := 26) ?hr ?_; (case hd | hg => rfl); (case hr => go_simp <;> rfl); intro gb131 hg w8 hbox hb; replace HB := hqZ (za0 (HB.1) hb); have BK131 := hqZ (hbox); have GW131 := hqZ ((by rw [hg]; exact (zl0 (w := w) (g := g) (row := none) (HK.1)) : w.heap.size ≤ gb131)); have GE131 := hqZ ((Nat.le_trans HW0.1 (by rw [hg]; exact (zl0 (w := w) (g := g) (row := none) (HK.1)) : w.heap.size ≤ gb131) : w0.heap.size ≤ gb131)); replace HK := hqZ (zg0.trans (HK.1) (zg0.of_below hb g none) (.inl rfl)); have NB0_131 := hqZ ((by rw [hg]; exact Nat.ne_of_lt (IsS46.lt (show IsS46 w0 _ g s0_0 s0_1 s0_2 from HI0.1)) : g ≠ gb131)); have NB131_0 := hqZ ((by rw [hg]; exact Nat.ne_of_gt (IsS46.lt (show IsS46 w0 _ g s0_0 s0_1 s0_2 from HI0.1)) : gb131 ≠ g)); replace HI0 := hqZ (IsS46.below (HI0.1) hb); clear hb hbox hg) | ((with_reducible refine ze0 (f := 55) rfl ?_); refine zq0 (some 13) rfl rfl Try.func55 (by kernel_rfl) rfl #[.pointer (some ⟨g, 0, none⟩), .int .i64 a1] rfl (by simp only [hqa, hqb, hqc]; rfl) ?_; (with_reducible refine (yu0.calls g s0_0 s0_1 s0_2 a1 t132 t133 t134 w0 _ ?side1 ?side2 A3.1).mono ?_); (case side1 => repeat (first | exact HI0.1 | apply IsS46.alloc | apply IsS46.drewN | apply IsS46.drew | apply IsS46.set_1 | apply IsS46.set_2 | refine IsS46.far ?_ NB0_131.1 _)); (case side2 => repeat (first | (with_reducible first | exact HB.1 | apply zn0 | apply zj0 | apply zk0 | refine zf0 ?_ (IsS46.ge HI0.1) | refine zf0 ?_ GE131.1) | exact HB.1)); rintro e w9 ⟨rfl, hi, hb, hk⟩; refine ⟨_, rfl, ?_⟩; replace BK131 := hqZ (zg0.blk hk (g' := gb131) (BK131.1) NB131_0.1 (by simp)); replace HK := hqZ (zg0.trans (HK.1) hk (.inl rfl)); replace HB := hqZ (hb); replace HI0 := hqZ (hi); clear hb hk hi) | ((with_reducible refine ze0 (f := 34) rfl ?_); refine zq0 (some 16) rfl rfl Try.func34 (by kernel_rfl) rfl #[.pointer (some ⟨g, 0, none⟩), .int .i64 4] rfl (by simp only [hqa, hqb, hqc]; rfl) ?_; (with_reducible refine (yt0.calls g s0_0 t133 t134 4 true t136 t137 w0 _ ?side1 ?side2 A4.1).mono ?_); (case side1 => repeat (first | exact HI0.1 | apply IsS46.alloc | apply IsS46.drewN | apply IsS46.drew | apply IsS46.set_1 | apply IsS46.set_2 | refine IsS46.far ?_ NB0_131.1 _)); (case side2 => repeat (first | (with_reducible first | exact HB.1 | apply zn0 | apply zj0 | apply zk0 | refine zf0 ?_ (IsS46.ge HI0.1) | refine zf0 ?_ GE131.1) | exact HB.1)); rintro e w10 ⟨rfl, hi, hb, hk⟩; refine ⟨_, rfl, ?_⟩; replace BK131 := hqZ (zg0.blk hk (g' := gb131) (BK131.1) NB131_0.1 (by simp)); replace HK := hqZ (zg0.trans (HK.1) hk (.inl rfl)); replace HB := hqZ (hb); replace HI0 := hqZ (hi); clear hb hk hi) | ((with_reducible refine ze0 (f := 34) rfl ?_); refine zq0 (some 19) rfl rfl Try.func34 (by kernel_rfl) rfl #[.pointer (some ⟨g, 0, none⟩), .int .i64 2] rfl (by simp only [hqa, hqb, hqc]; rfl) ?_; (with_reducible refine (yt0.calls g s0_0 t136 t137 2 t138 t139 t140 w0 _ ?side1 ?side2 A6.1).mono ?_); (case side1 => repeat (first | exact HI0.1 | apply IsS46.alloc | apply IsS46.drewN | apply IsS46.drew | apply IsS46.set_1 | apply IsS46.set_2 | refine IsS46.far ?_ NB0_131.1 _)); (case side2 => repeat (first | (with_reducible first | exact HB.1 | apply zn0 | apply zj0 | apply zk0 | refine zf0 ?_ (IsS46.ge HI0.1) | refine zf0 ?_ GE131.1) | exact HB.1)); rintro e w11 ⟨rfl, hi, hb, hk⟩; refine ⟨_, rfl, ?_⟩; replace BK131 := hqZ (zg0.blk hk (g' := gb131) (BK131.1) NB131_0.1 (by simp)); replace HK := hqZ (zg0.trans (HK.1) hk (.inl rfl)); replace HB := hqZ (hb); replace HI0 := hqZ (hi); clear hb hk hi) | ((with_reducible refine ze0 (f := 76) rfl ?_); refine zq0 (some 20) rfl rfl Try.func76 (by kernel_rfl) rfl #[.int .i64 (wrap64 (1 + t132)), .bool t138] rfl (by simp only [hqa, hqb, hqc]; rfl) ?_; (with_reducible refine (yr0.calls k (wrap64 (1 + t132)) t138 t141 _ A7.1).mono ?_); rintro e w12 ⟨v142, rfl, ho0, hb⟩; refine ⟨_, rfl, ?_⟩; have HO143 := hqZ (Kd.S_lower ho0 (zl0 (w := w) (g := g) (row := none) (HK.1))); replace BK131 := hqZ (zc0 (g := gb131) (BK131.1) hb); replace HK := hqZ (zg0.trans (HK.1) (zg0.of_below hb g none) (.inl rfl)); replace HB := hqZ (za0 (HB.1) hb); replace HI0 := hqZ (IsS46.below (HI0.1) hb); clear hb ho0; obtain ⟨Ao13, co13, eo13⟩ := Kd.S_slice HO143.1; subst eo13; have hnb14 := NB131_0.1; have hnc14 := NB0_131.1; have hcz15_0 : w12.cell? ⟨gb131, 0, none⟩ = some (.slice none 0 0) := (zh0 BK131.1 0).trans rfl; have hfz15_0 := zd0 BK131.1 0))
  refine bodyPost_ret (results_cell_row rfl _ _ gb131 26 #[.slice Ao13 t141.length co13] (0, 0) _ rfl (by refine blk_put (cs := #[.slice none 0 0]) ?_ 0 _ rfl; exact BK131.1) Try.underlying26 rfl (by kernel_rfl)) rfl ?_
  exact ⟨_, rfl, Kd.S_mono (Kd.S_far (p := ⟨gb131, 0, none⟩) (Kd.S_types HO143.1 BK131.1 (by decide)) (fun _ hk => hk.2) (.slice Ao13 t141.length co13)) (fun _ hk => trivial), IsS46.far HI0.1 NB0_131.1 _, zf0 HB.1 GE131.1, keep_far HK.1 GW131.1 _⟩
 replace c5 := Bool.eq_false_iff.mpr c5
 subst c5
 rw [if_neg (show ¬ (false = true) by decide)] at H
 have H' := hqZ H
 clear H
 go_enter Try.func70, Try.ntmps70
 go_wp2_with (first | ((with_reducible refine zo0 (N := 4) rfl ?_); refine zp0 ?hg (N := 4) ?hd (cs := #[.slice none 0 0]) (t := 26) ?hr ?_; (case hd | hg => rfl); (case hr => go_simp <;> rfl); intro gb131 hg w16 hbox hb; replace HB := hqZ (za0 (HB.1) hb); have BK131 := hqZ (hbox); have GW131 := hqZ ((by rw [hg]; exact (zl0 (w := w) (g := g) (row := none) (HK.1)) : w.heap.size ≤ gb131)); have GE131 := hqZ ((Nat.le_trans HW0.1 (by rw [hg]; exact (zl0 (w := w) (g := g) (row := none) (HK.1)) : w.heap.size ≤ gb131) : w0.heap.size ≤ gb131)); replace HK := hqZ (zg0.trans (HK.1) (zg0.of_below hb g none) (.inl rfl)); have NB0_131 := hqZ ((by rw [hg]; exact Nat.ne_of_lt (IsS46.lt (show IsS46 w0 _ g s0_0 s0_1 s0_2 from HI0.1)) : g ≠ gb131)); have NB131_0 := hqZ ((by rw [hg]; exact Nat.ne_of_gt (IsS46.lt (show IsS46 w0 _ g s0_0 s0_1 s0_2 from HI0.1)) : gb131 ≠ g)); replace HI0 := hqZ (IsS46.below (HI0.1) hb); clear hb hbox hg) | ((with_reducible refine ze0 (f := 55) rfl ?_); refine zq0 (some 13) rfl rfl Try.func55 (by kernel_rfl) rfl #[.pointer (some ⟨g, 0, none⟩), .int .i64 a1] rfl (by simp only [hqa, hqb, hqc]; rfl) ?_; (with_reducible refine (yu0.calls g s0_0 s0_1 s0_2 a1 t132 t133 t134 w0 _ ?side1 ?side2 A3.1).mono ?_); (case side1 => repeat (first | exact HI0.1 | apply IsS46.alloc | apply IsS46.drewN | apply IsS46.drew | apply IsS46.set_1 | apply IsS46.set_2 | refine IsS46.far ?_ NB0_131.1 _)); (case side2 => repeat (first | (with_reducible first | exact HB.1 | apply zn0 | apply zj0 | apply zk0 | refine zf0 ?_ (IsS46.ge HI0.1) | refine zf0 ?_ GE131.1) | exact HB.1)); rintro e w17 ⟨rfl, hi, hb, hk⟩; refine ⟨_, rfl, ?_⟩; replace BK131 := hqZ (zg0.blk hk (g' := gb131) (BK131.1) NB131_0.1 (by simp)); replace HK := hqZ (zg0.trans (HK.1) hk (.inl rfl)); replace HB := hqZ (hb); replace HI0 := hqZ (hi); clear hb hk hi) | ((with_reducible refine ze0 (f := 34) rfl ?_); refine zq0 (some 16) rfl rfl Try.func34 (by kernel_rfl) rfl #[.pointer (some ⟨g, 0, none⟩), .int .i64 4] rfl (by simp only [hqa, hqb, hqc]; rfl) ?_; (with_reducible refine (yt0.calls g s0_0 t133 t134 4 false t136 t137 w0 _ ?side1 ?side2 A4.1).mono ?_); (case side1 => repeat (first | exact HI0.1 | apply IsS46.alloc | apply IsS46.drewN | apply IsS46.drew | apply IsS46.set_1 | apply IsS46.set_2 | refine IsS46.far ?_ NB0_131.1 _)); (case side2 => repeat (first | (with_reducible first | exact HB.1 | apply zn0 | apply zj0 | apply zk0 | refine zf0 ?_ (IsS46.ge HI0.1) | refine zf0 ?_ GE131.1) | exact HB.1)); rintro e w18 ⟨rfl, hi, hb, hk⟩; refine ⟨_, rfl, ?_⟩; replace BK131 := hqZ (zg0.blk hk (g' := gb131) (BK131.1) NB131_0.1 (by simp)); replace HK := hqZ (zg0.trans (HK.1) hk (.inl rfl)); replace HB := hqZ (hb); replace HI0 := hqZ (hi); clear hb hk hi) | ((with_reducible refine zo0 (N := 6) rfl ?_); refine zp0 ?hg (N := 6) ?hd (cs := #[.slice none 0 0]) (t := 26) ?hr ?_; (case hd | hg => rfl); (case hr => go_simp <;> rfl); intro gb144 hg w19 hbox hb; replace HB := hqZ (za0 (HB.1) hb); have BK144 := hqZ (hbox); have GW144 := hqZ ((by rw [hg]; exact (zl0 (w := w) (g := g) (row := none) (HK.1)) : w.heap.size ≤ gb144)); have GE144 := hqZ ((Nat.le_trans HW0.1 (by rw [hg]; exact (zl0 (w := w) (g := g) (row := none) (HK.1)) : w.heap.size ≤ gb144) : w0.heap.size ≤ gb144)); replace HK := hqZ (zg0.trans (HK.1) (zg0.of_below hb g none) (.inl rfl)); have NB131_144 := hqZ ((by rw [hg]; exact Nat.ne_of_lt (blk_lt (g := gb131) (BK131.1)) : gb131 ≠ gb144)); have NB144_131 := hqZ ((by rw [hg]; exact Nat.ne_of_gt (blk_lt (g := gb131) (BK131.1)) : gb144 ≠ gb131)); replace BK131 := hqZ (zc0 (g := gb131) (BK131.1) hb); have NB0_144 := hqZ ((by rw [hg]; exact Nat.ne_of_lt (IsS46.lt (show IsS46 w0 _ g s0_0 t136 t137 from HI0.1)) : g ≠ gb144)); have NB144_0 := hqZ ((by rw [hg]; exact Nat.ne_of_gt (IsS46.lt (show IsS46 w0 _ g s0_0 t136 t137 from HI0.1)) : gb144 ≠ g)); replace HI0 := hqZ (IsS46.below (HI0.1) hb); clear hb hbox hg; have hnb20 := NB144_131.1; have hnc20 := NB131_144.1; have hnb21 := NB144_0.1; have hnc21 := NB0_144.1; have hcz22_0 : w19.cell? ⟨gb144, 0, none⟩ = some (.slice none 0 0) := (zh0 BK144.1 0).trans rfl; have hfz22_0 := zd0 BK144.1 0))
 go_loopg [7] k (fun kq v7 w' => ∃ (x7_1 : Int) (x1001_1 : Int) (x1002_1 : Int) (x145000_1 : List (List Int)) (u145000 : Value), v7 = .int .i64 x7_1 ∧ zi0 (ye0.l0 kq (wrap64 (1 + t132)) x7_1 s0_0 x1001_1 x1002_1 x145000_1 = some (r1, r2, r3)) ∧ zi0 (kq ≤ k) ∧ zi0 (Kd.S (Kd.slice 3 (Kd.int .i64)) 27 w' w.heap.size (fun _ => True) u145000 x145000_1) ∧ zi0 (w'.heap[gb131]? = some (.cells #[(.slice none 0 0)] 26 (0, 0))) ∧ zi0 (w'.heap[gb144]? = some (.cells #[u145000] 26 (0, 0))) ∧ zi0 (IsS46 w0 w' g s0_0 x1001_1 x1002_1) ∧ zi0 (zg0 w w' g none) ∧ zi0 (Below w0.heap.size w0 w'))
 case atStart => exact ⟨(0), (t136), (t137), (([] : List (List Int))), (.slice none 0 0), (rfl), H', ⟨Nat.le_refl _⟩, ⟨by first | exact Kd.S_nil _ _ _ _ _ | exact Kd.N_nil _ _ _ _ _ | exact Kd.V_nil _ _ _ _ _ | exact Kd.Q_nil _ _ _ _ _ | exact Kd.R_nil _ _ _ _ _⟩, ⟨by refine blk_far ?_ NB131_144.1 _; exact BK131.1⟩, ⟨by refine blk_put (cs := #[.slice none 0 0]) ?_ 0 _ rfl; exact BK144.1⟩, ⟨IsS46.far HI0.1 NB0_144.1 _⟩, ⟨keep_far HK.1 GW144.1 _⟩, ⟨zf0 HB.1 GE144.1⟩⟩
 case round =>
  clear H'
  try clear c1
  try clear c2
  try clear p2
  try clear c3
  try clear c5
  try clear p6
  try clear c7
  try clear c14
  try clear c20
  try clear c21
  try clear hcz15_0
  try clear hcz22_0
  try clear hfz15_0
  try clear hfz22_0
  obtain ⟨x7_1, x1001_1, x1002_1, x145000_1, u145000, rfl, HA, HK1, HO_145000, BK131, BK144, HI0, HK, HB⟩ := hrel
  obtain _ | k1 := gk
  ·exact absurd HA.1 (by simp [ye0.l0])
  have H := HA.1
  clear HA
  simp only [ye0.l0] at H
  by_cases c23 : x7_1 < (wrap64 (1 + t132))
  ·rw [if_pos c23] at H
   have c23b0 : decide (x7_1 < (wrap64 (1 + t132))) = true := decide_eq_true c23
   clear c23
   replace H := Option.bind_eq_some_iff.mp H
   obtain ⟨⟨t145, t146, t147⟩, A240, H⟩ := H
   try dsimp only at H
   have A24 := hqZ A240
   clear A240
   have H' := hqZ H
   clear H
   go_wp2_with (first | ((with_reducible refine ze0 (f := 55) rfl ?_); refine zq0 (some 28) rfl rfl Try.func55 (by kernel_rfl) rfl #[.pointer (some ⟨g, 0, none⟩), .int .i64 3] rfl (by simp only [hqa, hqb, hqc]; rfl) ?_; (with_reducible refine (yu0.calls g s0_0 x1001_1 x1002_1 3 t145 t146 t147 w0 _ ?side1 ?side2 A24.1).mono ?_); (case side1 => repeat (first | exact HI0.1 | apply IsS46.alloc | apply IsS46.drewN | apply IsS46.drew | apply IsS46.set_1 | apply IsS46.set_2 | refine IsS46.far ?_ NB0_131.1 _ | refine IsS46.far ?_ NB0_144.1 _)); (case side2 => repeat (first | (with_reducible first | exact HB.1 | apply zn0 | apply zj0 | apply zk0 | refine zf0 ?_ (IsS46.ge HI0.1) | refine zf0 ?_ GE131.1 | refine zf0 ?_ GE144.1) | exact HB.1)); rintro e w25 ⟨rfl, hi, hb, hk⟩; refine ⟨_, rfl, ?_⟩; replace HO_145000 := hqZ (Kd.S_mono (Kd.S_keep (IsS46.apartS (show IsS46 w0 _ g s0_0 x1001_1 x1002_1 from HI0.1) (HO_145000.1) (by decide)) hk (fun _ h => h.2)) (fun _ h => h.1)); replace BK131 := hqZ (zg0.blk hk (g' := gb131) (BK131.1) NB131_0.1 (by simp)); replace BK144 := hqZ (zg0.blk hk (g' := gb144) (BK144.1) NB144_0.1 (by simp)); replace HK := hqZ (zg0.trans (HK.1) hk (.inl rfl)); replace HB := hqZ (hb); replace HI0 := hqZ (hi); clear hb hk hi))
   go_loopg [8, 9] k1 (fun kq v8 v9 w' => ∃ (x8_2 : List Int) (x9_2 : Int) (x1001_2 : Int) (x1002_2 : Int), v9 = .int .i64 x9_2 ∧ zi0 (ye0.l1 kq (wrap64 (1 + t132)) x7_1 x8_2 x9_2 s0_0 x1001_2 x1002_2 x145000_1 = some (r1, r2, r3)) ∧ zi0 (kq ≤ k1) ∧ zi0 (Kd.R (Kd.int .i64) 3 w' w.heap.size (fun _ => True) v8 x8_2) ∧ zi0 (Kd.S (Kd.slice 3 (Kd.int .i64)) 27 w' w.heap.size (fun k_ => some k_ ≠ (v8 : Value).ownBlock) u145000 x145000_1) ∧ zi0 (w'.heap[gb131]? = some (.cells #[(.slice none 0 0)] 26 (0, 0))) ∧ zi0 (w'.heap[gb144]? = some (.cells #[u145000] 26 (0, 0))) ∧ zi0 (IsS46 w0 w' g s0_0 x1001_2 x1002_2) ∧ zi0 (zg0 w w' g none) ∧ zi0 (Below w0.heap.size w0 w'))
   case atStart => exact ⟨(([] : List Int)), (wrap64 (1 + t145)), (t146), (t147), (rfl), H', ⟨Nat.le_refl _⟩, ⟨by first | exact Kd.R_nil _ _ _ _ _ | exact Kd.N_nil _ _ _ _ _ | exact Kd.V_nil _ _ _ _ _ | exact Kd.Q_nil _ _ _ _ _ | exact Kd.S_nil _ _ _ _ _⟩, ⟨Kd.S_mono HO_145000.1 (fun _ hk => (by simp [Value.ownBlock]))⟩, ⟨BK131.1⟩, ⟨BK144.1⟩, ⟨HI0.1⟩, ⟨HK.1⟩, ⟨HB.1⟩⟩
   case round =>
    clear H'
    try clear c1
    try clear c2
    try clear p2
    try clear c3
    try clear c5
    try clear p6
    try clear c7
    try clear c14
    try clear c20
    try clear c21
    try clear c23
    try clear c23b0
    try clear hcz15_0
    try clear hcz22_0
    try clear hfz15_0
    try clear hfz22_0
    try clear p2
    try clear p6
    obtain ⟨x8_2, x9_2, x1001_2, x1002_2, rfl, HA, HK2, HO_8, HO_145000, BK131, BK144, HI0, HK, HB⟩ := hrel
    obtain _ | k2 := gk
    ·exact absurd HA.1 (by simp [ye0.l1])
    have H := HA.1
    clear HA
    simp only [ye0.l1] at H
    by_cases c26 : x9_2 > 0
    ·rw [if_pos c26] at H
     have c26b0 : decide (0 < x9_2) = true := decide_eq_true c26
     clear c26
     replace H := Option.bind_eq_some_iff.mp H
     obtain ⟨⟨t148, t149, t150⟩, A270, H⟩ := H
     try dsimp only at H
     have A27 := hqZ A270
     clear A270
     by_cases c28 : x8_2.length < 17592186044416
     rotate_left
     ·rw [if_neg c28] at H
      exact absurd H (by simp)
     rw [if_pos c28] at H
     have LMc28 := hqZ c28
     clear c28
     obtain ⟨y151, hy151⟩ : ∃ y_ : List Int, y_ = (x8_2 ++ [t148]) := ⟨_, rfl⟩
     replace H : (ye0.l1 k2 (wrap64 (1 + t132)) x7_1 y151 (wrap64 (x9_2 - 1)) s0_0 t149 t150 x145000_1) = some (r1, r2, r3) := by first | (rw [hy151]; with_reducible exact H) | (have H2_ := (Option.bind_some _ _).symm.trans H; rw [hy151]; with_reducible exact H2_) | (have H2_ := (Option.bind_some _ _).symm.trans H; with_reducible exact H2_) | with_reducible exact H | (rw [hy151]; exact H) | exact H
     have Ny151 := hqZ hy151
     clear hy151
     have H' := hqZ H
     clear H
     go_wp2_with (first | ((with_reducible refine ze0 (f := 55) rfl ?_); refine zq0 (some 37) rfl rfl Try.func55 (by kernel_rfl) rfl #[.pointer (some ⟨g, 0, none⟩), .int .i64 (wrap64 (1 + t132))] rfl (by simp only [hqa, hqb, hqc]; rfl) ?_; (with_reducible refine (yu0.calls g s0_0 x1001_2 x1002_2 (wrap64 (1 + t132)) t148 t149 t150 w0 _ ?side1 ?side2 A27.1).mono ?_); (case side1 => repeat (first | exact HI0.1 | apply IsS46.alloc | apply IsS46.drewN | apply IsS46.drew | apply IsS46.set_1 | apply IsS46.set_2 | refine IsS46.far ?_ NB0_131.1 _ | refine IsS46.far ?_ NB0_144.1 _)); (case side2 => repeat (first | (with_reducible first | exact HB.1 | apply zn0 | apply zj0 | apply zk0 | refine zf0 ?_ (IsS46.ge HI0.1) | refine zf0 ?_ GE131.1 | refine zf0 ?_ GE144.1) | exact HB.1)); rintro e w29 ⟨rfl, hi, hb, hk⟩; refine ⟨_, rfl, ?_⟩; replace HO_8 := hqZ (Kd.R_mono (Kd.R_keep (IsS46.apart (show IsS46 w0 _ g s0_0 x1001_2 x1002_2 from HI0.1) (HO_8.1) (by decide)) hk (fun _ h => h.2)) (fun _ h => h.1)); replace HO_145000 := hqZ (Kd.S_mono (Kd.S_keep (IsS46.apartS (show IsS46 w0 _ g s0_0 x1001_2 x1002_2 from HI0.1) (HO_145000.1) (by decide)) hk (fun _ h => h.2)) (fun _ h => h.1)); replace BK131 := hqZ (zg0.blk hk (g' := gb131) (BK131.1) NB131_0.1 (by simp)); replace BK144 := hqZ (zg0.blk hk (g' := gb144) (BK144.1) NB144_0.1 (by simp)); replace HK := hqZ (zg0.trans (HK.1) hk (.inl rfl)); replace HB := hqZ (hb); replace HI0 := hqZ (hi); clear hb hk hi) | ((with_reducible refine gate_builtin (b := .append) (xs := #[.tmp 34, .tmp 38]) rfl ?_); at_builtin; refine Kd.R_append (Kd.int .i64) w.heap.size rfl (.tmp 34) (.tmp 38) 27 3 (.int .i64 0) 8 rfl Try.underlying27 info3 rfl (by decide) (by omega) u8 x8_2 t148 [.int .i64 t148] (fun _ => True) (fun _ => False) rfl rfl ?aP (fun _ hk => hk.elim) ?aF ?aO (Below.refl _ _) ?aS ?aL ?_; (case aP => exact rfl); (case aF => exact (fun _ _ => trivial)); (case aO => exact (by (with_reducible repeat (first | apply Kd.R_alloc | apply Kd.R_drewN | apply Kd.R_drew)); first | exact HO_8.1 | exact Kd.R_mono HO_8.1 (fun _ hk => ⟨hk.2, hk.1⟩))); (case aS => exact (zl0 (w := w) (g := g) (row := none) (HK.1))); (case aL => have := LMc28.1; omega); intro v152 w30 ho hb hg hat; rw [← Ny151.1] at ho; have n0_ := hqZ (Kd.S_after (ok := (fun _ => True)) (Kd.S_mono HO_145000.1 (fun _ hk => ⟨trivial, hk⟩)) hg hat); have n1_ := hqZ (zr0 (g := gb131) (BK131.1) hg (Kd.R_ne HO_8.1 BK131.1 (by decide))); have n2_ := hqZ (zr0 (g := gb144) (BK144.1) hg (Kd.R_ne HO_8.1 BK144.1 (by decide))); have n3_ := hqZ (IsS46.grown (HI0.1) hg (IsS46.own_ne HI0.1 HO_8.1 (by decide))); have n4_ := hqZ (below_weaken (HB.1) HL.1 hb); have n5_ := hqZ (zg0.trans (HK.1) (zg0.of_grown hg g) (Kd.R_base2 HO_8.1)); have n6_ := hqZ (ho); clear HO_145000; clear BK131; clear BK144; clear HI0; clear HB; clear HK; clear HO_8; have HO_145000 := n0_; have BK131 := n1_; have BK144 := n2_; have HI0 := n3_; have HB := n4_; have HK := n5_; have HO153 := n6_; clear n0_ n1_ n2_ n3_ n4_ n5_ n6_; clear ho hb hg hat))
     go_roundg k2
     case measure => have := HK1.1; have := HK2.1; omega
     case rel => exact ⟨(y151), (wrap64 (x9_2 - 1)), (t149), (t150), (rfl), H', ⟨by have := HK1.1; have := HK2.1; omega⟩, ⟨HO153.1⟩, ⟨Kd.S_mono HO_145000.1 (fun _ hk => hk.2)⟩, ⟨BK131.1⟩, ⟨BK144.1⟩, ⟨HI0.1⟩, ⟨HK.1⟩, ⟨HB.1⟩⟩
    rw [if_neg c26] at H
    have c26b0 : decide (0 < x9_2) = false := decide_eq_false c26
    clear c26
    replace H := Option.bind_eq_some_iff.mp H
    obtain ⟨⟨t154, t155, t156⟩, A310, H⟩ := H
    try dsimp only at H
    have A31 := hqZ A310
    clear A310
    by_cases c32 : t154 = true
    ·subst c32
     rw [if_pos rfl] at H
     by_cases c33 : x145000_1.length < 5864062014805
     rotate_left
     ·rw [if_neg c33] at H
      exact absurd H (by simp)
     rw [if_pos c33] at H
     have LMc33 := hqZ c33
     clear c33
     obtain ⟨y157, hy157⟩ : ∃ y_ : List (List Int), y_ = (x145000_1 ++ [([] : List Int)]) := ⟨_, rfl⟩
     replace H : (ye0.l0 k2 (wrap64 (1 + t132)) (wrap64 (x7_1 + 1)) s0_0 t155 t156 y157) = some (r1, r2, r3) := by first | (rw [hy157]; with_reducible exact H) | (have H2_ := (Option.bind_some _ _).symm.trans H; rw [hy157]; with_reducible exact H2_) | (have H2_ := (Option.bind_some _ _).symm.trans H; with_reducible exact H2_) | with_reducible exact H | (rw [hy157]; exact H) | exact H
     have Ny157 := hqZ hy157
     clear hy157
     have H' := hqZ H
     clear H
     go_wp2_with (first | ((with_reducible refine ze0 (f := 34) rfl ?_); refine zq0 (some 41) rfl rfl Try.func34 (by kernel_rfl) rfl #[.pointer (some ⟨g, 0, none⟩), .int .i64 8] rfl (by simp only [hqa, hqb, hqc]; rfl) ?_; (with_reducible refine (yt0.calls g s0_0 x1001_2 x1002_2 8 true t155 t156 w0 _ ?side1 ?side2 A31.1).mono ?_); (case side1 => repeat (first | exact HI0.1 | apply IsS46.alloc | apply IsS46.drewN | apply IsS46.drew | apply IsS46.set_1 | apply IsS46.set_2 | refine IsS46.far ?_ NB0_131.1 _ | refine IsS46.far ?_ NB0_144.1 _)); (case side2 => repeat (first | (with_reducible first | exact HB.1 | apply zn0 | apply zj0 | apply zk0 | refine zf0 ?_ (IsS46.ge HI0.1) | refine zf0 ?_ GE131.1 | refine zf0 ?_ GE144.1) | exact HB.1)); rintro e w34 ⟨rfl, hi, hb, hk⟩; refine ⟨_, rfl, ?_⟩; replace HO_8 := hqZ (Kd.R_mono (Kd.R_keep (IsS46.apart (show IsS46 w0 _ g s0_0 x1001_2 x1002_2 from HI0.1) (HO_8.1) (by decide)) hk (fun _ h => h.2)) (fun _ h => h.1)); replace HO_145000 := hqZ (Kd.S_mono (Kd.S_keep (IsS46.apartS (show IsS46 w0 _ g s0_0 x1001_2 x1002_2 from HI0.1) (HO_145000.1) (by decide)) hk (fun _ h => h.2)) (fun _ h => h.1)); replace BK131 := hqZ (zg0.blk hk (g' := gb131) (BK131.1) NB131_0.1 (by simp)); replace BK144 := hqZ (zg0.blk hk (g' := gb144) (BK144.1) NB144_0.1 (by simp)); replace HK := hqZ (zg0.trans (HK.1) hk (.inl rfl)); replace HB := hqZ (hb); replace HI0 := hqZ (hi); clear hb hk hi; have hnb35 := NB144_131.1; have hnc35 := NB131_144.1; have hnb36 := NB144_0.1; have hnc36 := NB0_144.1; have hcz37_0 : w34.cell? ⟨gb144, 0, none⟩ = some (u145000) := (zh0 BK144.1 0).trans rfl; have hfz37_0 := zd0 BK144.1 0) | ((with_reducible refine gate_builtin (b := .append) (xs := #[.tmp 43, .tmp 45]) rfl ?_); at_builtin; refine Kd.S_append (Kd.slice 3 (Kd.int .i64)) w.heap.size rfl (.tmp 43) (.tmp 45) 24 27 (.slice none 0 0) 24 rfl Try.underlying24 info27 rfl (by decide) (by omega) u145000 x145000_1 ([] : List Int) [.slice none 0 0] (fun k_ => some k_ ≠ (u8 : Value).ownBlock) (fun _ => False) rfl rfl ?aP (fun k_ hk_ => hk_.elim) ?aF ?aO (Below.refl _ _) ?aS ?aL ?_; (case aP => exact Kd.M_row (Kd.R_nil _ _ _ _ _)); (case aF => exact (fun k_ hk => Kd.fresh' (Kd.R_lt (HO_8.1)) k_ hk)); (case aO => exact (Kd.S_mono HO_145000.1 (fun k_ hk => ⟨hk, fun e_ => e_⟩))); (case aS => exact (zl0 (w := w) (g := g) (row := none) (HK.1))); (case aL => have := LMc33.1; omega); intro v158 w38 ho hb hg hat; rw [← Ny157.1] at ho; have n0_ := hqZ (Kd.R_over' (HO_8.1) (Kd.S_typed (HO_145000.1)) (by decide) hg); have n1_ := hqZ (zr0 (g := gb131) (BK131.1) hg (Kd.S_ne HO_145000.1 BK131.1 (by decide))); have n2_ := hqZ (zr0 (g := gb144) (BK144.1) hg (Kd.S_ne HO_145000.1 BK144.1 (by decide))); have n3_ := hqZ (IsS46.grown (HI0.1) hg (IsS46.own_neS HI0.1 HO_145000.1 (by decide))); have n4_ := hqZ (below_weaken (HB.1) HL.1 hb); have n5_ := hqZ (zg0.trans (HK.1) (zg0.of_grown hg g) (Kd.S_base2 HO_145000.1)); have n6_ := hqZ (ho); clear HO_8; clear BK131; clear BK144; clear HI0; clear HB; clear HK; clear HO_145000; have HO_8 := n0_; have BK131 := n1_; have BK144 := n2_; have HI0 := n3_; have HB := n4_; have HK := n5_; have HO159 := n6_; clear n0_ n1_ n2_ n3_ n4_ n5_ n6_; clear ho hb hg hat; obtain ⟨Ao39, co39, eo39⟩ := Kd.S_slice HO159.1; subst eo39; have hcz40_0 : w38.cell? ⟨gb144, 0, none⟩ = some (u145000) := (zh0 BK144.1 0).trans rfl; have hfz40_0 := zd0 BK144.1 0))
     go_roundg k2
     case measure => have := HK1.1; have := HK2.1; omega
     case rel => exact ⟨(wrap64 (x7_1 + 1)), (t155), (t156), (y157), (.slice Ao39 y157.length co39), (rfl), H', ⟨by have := HK1.1; have := HK2.1; omega⟩, ⟨Kd.S_mono (Kd.S_far (p := ⟨gb144, 0, none⟩) (Kd.S_types HO159.1 BK144.1 (by decide)) (fun _ hk => hk.2) (.slice Ao39 y157.length co39)) (fun _ hk => trivial)⟩, ⟨by refine blk_far ?_ NB131_144.1 _; exact BK131.1⟩, ⟨by refine blk_put (cs := #[u145000]) ?_ 0 _ rfl; exact BK144.1⟩, ⟨IsS46.far HI0.1 NB0_144.1 _⟩, ⟨keep_far HK.1 GW144.1 _⟩, ⟨zf0 HB.1 GE144.1⟩⟩
    replace c32 := Bool.eq_false_iff.mpr c32
    subst c32
    rw [if_neg (show ¬ (false = true) by decide)] at H
    by_cases c41 : x145000_1.length < 5864062014805
    rotate_left
    ·rw [if_neg c41] at H
     exact absurd H (by simp)
    rw [if_pos c41] at H
    have LMc41 := hqZ c41
    clear c41
    obtain ⟨y160, hy160⟩ : ∃ y_ : List (List Int), y_ = (x145000_1 ++ [x8_2]) := ⟨_, rfl⟩
    replace H : (ye0.l0 k2 (wrap64 (1 + t132)) (wrap64 (x7_1 + 1)) s0_0 t155 t156 y160) = some (r1, r2, r3) := by first | (rw [hy160]; with_reducible exact H) | (have H2_ := (Option.bind_some _ _).symm.trans H; rw [hy160]; with_reducible exact H2_) | (have H2_ := (Option.bind_some _ _).symm.trans H; with_reducible exact H2_) | with_reducible exact H | (rw [hy160]; exact H) | exact H
    have Ny160 := hqZ hy160
    clear hy160
    have H' := hqZ H
    clear H
    go_wp2_with (first | ((with_reducible refine ze0 (f := 34) rfl ?_); refine zq0 (some 41) rfl rfl Try.func34 (by kernel_rfl) rfl #[.pointer (some ⟨g, 0, none⟩), .int .i64 8] rfl (by simp only [hqa, hqb, hqc]; rfl) ?_; (with_reducible refine (yt0.calls g s0_0 x1001_2 x1002_2 8 false t155 t156 w0 _ ?side1 ?side2 A31.1).mono ?_); (case side1 => repeat (first | exact HI0.1 | apply IsS46.alloc | apply IsS46.drewN | apply IsS46.drew | apply IsS46.set_1 | apply IsS46.set_2 | refine IsS46.far ?_ NB0_131.1 _ | refine IsS46.far ?_ NB0_144.1 _)); (case side2 => repeat (first | (with_reducible first | exact HB.1 | apply zn0 | apply zj0 | apply zk0 | refine zf0 ?_ (IsS46.ge HI0.1) | refine zf0 ?_ GE131.1 | refine zf0 ?_ GE144.1) | exact HB.1)); rintro e w42 ⟨rfl, hi, hb, hk⟩; refine ⟨_, rfl, ?_⟩; replace HO_8 := hqZ (Kd.R_mono (Kd.R_keep (IsS46.apart (show IsS46 w0 _ g s0_0 x1001_2 x1002_2 from HI0.1) (HO_8.1) (by decide)) hk (fun _ h => h.2)) (fun _ h => h.1)); replace HO_145000 := hqZ (Kd.S_mono (Kd.S_keep (IsS46.apartS (show IsS46 w0 _ g s0_0 x1001_2 x1002_2 from HI0.1) (HO_145000.1) (by decide)) hk (fun _ h => h.2)) (fun _ h => h.1)); replace BK131 := hqZ (zg0.blk hk (g' := gb131) (BK131.1) NB131_0.1 (by simp)); replace BK144 := hqZ (zg0.blk hk (g' := gb144) (BK144.1) NB144_0.1 (by simp)); replace HK := hqZ (zg0.trans (HK.1) hk (.inl rfl)); replace HB := hqZ (hb); replace HI0 := hqZ (hi); clear hb hk hi; have hnb43 := NB144_131.1; have hnc43 := NB131_144.1; have hnb44 := NB144_0.1; have hnc44 := NB0_144.1; have hcz45_0 : w42.cell? ⟨gb144, 0, none⟩ = some (u145000) := (zh0 BK144.1 0).trans rfl; have hfz45_0 := zd0 BK144.1 0; obtain ⟨Ao47, co47, eo47⟩ := Kd.R_slice HO_8.1; subst eo47) | ((with_reducible refine gate_builtin (b := .append) (xs := #[.tmp 43, .tmp 45]) rfl ?_); at_builtin; refine Kd.S_append (Kd.slice 3 (Kd.int .i64)) w.heap.size rfl (.tmp 43) (.tmp 45) 24 27 (.slice none 0 0) 24 rfl Try.underlying24 info27 rfl (by decide) (by omega) u145000 x145000_1 x8_2 [.slice Ao47 x8_2.length co47] (fun _ => True) (fun k_ => some k_ = (.slice Ao47 x8_2.length co47 : Value).ownBlock) rfl rfl ?aP (fun k_ hk_ => ((Kd.R_mono (ok' := fun k_ => ((fun _ => True)) k_ ∧ some k_ ≠ (u145000 : Value).ownBlock) (Kd.R_apart' (HO_8.1) (Kd.S_typed HO_145000.1) (by decide)) (fun k_ hk => ⟨trivial, hk.2⟩))).1 k_ hk_.symm) ?aF ?aO (Below.refl _ _) ?aS ?aL ?_; (case aP => exact Kd.M_row (Kd.R_mono (Kd.R_tight rfl (Kd.R_mono (ok' := fun k_ => ((fun _ => True)) k_ ∧ some k_ ≠ (u145000 : Value).ownBlock) (Kd.R_apart' (HO_8.1) (Kd.S_typed HO_145000.1) (by decide)) (fun k_ hk => ⟨trivial, hk.2⟩))) (fun _ h_ => h_))); (case aF => exact (fun _ _ => trivial)); (case aO => exact (Kd.S_mono HO_145000.1 (fun k_ hk => ⟨trivial, fun e_ => hk e_⟩))); (case aS => exact (zl0 (w := w) (g := g) (row := none) (HK.1))); (case aL => have := LMc41.1; omega); intro v161 w46 ho hb hg hat; rw [← Ny160.1] at ho; have n0_ := hqZ (zr0 (g := gb131) (BK131.1) hg (Kd.S_ne HO_145000.1 BK131.1 (by decide))); have n1_ := hqZ (zr0 (g := gb144) (BK144.1) hg (Kd.S_ne HO_145000.1 BK144.1 (by decide))); have n2_ := hqZ (IsS46.grown (HI0.1) hg (IsS46.own_neS HI0.1 HO_145000.1 (by decide))); have n3_ := hqZ (below_weaken (HB.1) HL.1 hb); have n4_ := hqZ (zg0.trans (HK.1) (zg0.of_grown hg g) (Kd.S_base2 HO_145000.1)); have n5_ := hqZ (ho); clear BK131; clear BK144; clear HI0; clear HB; clear HK; clear HO_145000; clear HO_8; have BK131 := n0_; have BK144 := n1_; have HI0 := n2_; have HB := n3_; have HK := n4_; have HO162 := n5_; clear n0_ n1_ n2_ n3_ n4_ n5_; clear ho hb hg hat; obtain ⟨Ao48, co48, eo48⟩ := Kd.S_slice HO162.1; subst eo48; have hcz49_0 : w46.cell? ⟨gb144, 0, none⟩ = some (u145000) := (zh0 BK144.1 0).trans rfl; have hfz49_0 := zd0 BK144.1 0))
    go_roundg k2
    case measure => have := HK1.1; have := HK2.1; omega
    case rel => exact ⟨(wrap64 (x7_1 + 1)), (t155), (t156), (y160), (.slice Ao48 y160.length co48), (rfl), H', ⟨by have := HK1.1; have := HK2.1; omega⟩, ⟨Kd.S_mono (Kd.S_far (p := ⟨gb144, 0, none⟩) (Kd.S_types HO162.1 BK144.1 (by decide)) (fun _ hk => hk.2) (.slice Ao48 y160.length co48)) (fun _ hk => trivial)⟩, ⟨by refine blk_far ?_ NB131_144.1 _; exact BK131.1⟩, ⟨by refine blk_put (cs := #[u145000]) ?_ 0 _ rfl; exact BK144.1⟩, ⟨IsS46.far HI0.1 NB0_144.1 _⟩, ⟨keep_far HK.1 GW144.1 _⟩, ⟨zf0 HB.1 GE144.1⟩⟩
  rw [if_neg c23] at H
  have c23b0 : decide (x7_1 < (wrap64 (1 + t132))) = false := decide_eq_false c23
  clear c23
  replace H := Option.bind_eq_some_iff.mp H
  obtain ⟨⟨t163, t164, t165⟩, A500, H⟩ := H
  try dsimp only at H
  have A50 := hqZ A500
  clear A500
  by_cases c51 : t163 = true
  rotate_left
  ·replace c51 := Bool.eq_false_iff.mpr c51
   subst c51
   rw [if_neg (show ¬ (false = true) by decide)] at H
   simp only [Option.some.injEq, Prod.mk.injEq] at H
   obtain ⟨rfl, rfl, rfl⟩ := H
   go_wp2_with (first | ((with_reducible refine ze0 (f := 34) rfl ?_); refine zq0 (some 49) rfl rfl Try.func34 (by kernel_rfl) rfl #[.pointer (some ⟨g, 0, none⟩), .int .i64 2] rfl (by simp only [hqa, hqb, hqc]; rfl) ?_; (with_reducible refine (yt0.calls g s0_0 x1001_1 x1002_1 2 false t164 t165 w0 _ ?side1 ?side2 A50.1).mono ?_); (case side1 => repeat (first | exact HI0.1 | apply IsS46.alloc | apply IsS46.drewN | apply IsS46.drew | apply IsS46.set_1 | apply IsS46.set_2 | refine IsS46.far ?_ NB0_131.1 _ | refine IsS46.far ?_ NB0_144.1 _)); (case side2 => repeat (first | (with_reducible first | exact HB.1 | apply zn0 | apply zj0 | apply zk0 | refine zf0 ?_ (IsS46.ge HI0.1) | refine zf0 ?_ GE131.1 | refine zf0 ?_ GE144.1) | exact HB.1)); rintro e w76 ⟨rfl, hi, hb, hk⟩; refine ⟨_, rfl, ?_⟩; replace HO_145000 := hqZ (Kd.S_mono (Kd.S_keep (IsS46.apartS (show IsS46 w0 _ g s0_0 x1001_1 x1002_1 from HI0.1) (HO_145000.1) (by decide)) hk (fun _ h => h.2)) (fun _ h => h.1)); replace BK131 := hqZ (zg0.blk hk (g' := gb131) (BK131.1) NB131_0.1 (by simp)); replace BK144 := hqZ (zg0.blk hk (g' := gb144) (BK144.1) NB144_0.1 (by simp)); replace HK := hqZ (zg0.trans (HK.1) hk (.inl rfl)); replace HB := hqZ (hb); replace HI0 := hqZ (hi); clear hb hk hi; have hnb77 := NB144_131.1; have hnc77 := NB131_144.1; have hnb78 := NB144_0.1; have hnc78 := NB0_144.1; have hcz79_0 : w76.cell? ⟨gb144, 0, none⟩ = some (u145000) := (zh0 BK144.1 0).trans rfl; have hfz79_0 := zd0 BK144.1 0; obtain ⟨Ao80, co80, eo80⟩ := Kd.S_slice HO_145000.1; subst eo80; have hnb81 := NB131_0.1; have hnc81 := NB0_131.1; have hcz82_0 : w76.cell? ⟨gb131, 0, none⟩ = some (.slice none 0 0) := (zh0 BK131.1 0).trans rfl; have hfz82_0 := zd0 BK131.1 0))
   refine bodyPost_ret (results_cell_row rfl _ _ gb131 26 #[.slice Ao80 x145000_1.length co80] (0, 0) _ rfl (by refine blk_put (cs := #[.slice none 0 0]) ?_ 0 _ rfl; exact BK131.1) Try.underlying26 rfl (by kernel_rfl)) rfl ?_
   exact ⟨_, rfl, Kd.S_mono (Kd.S_far (p := ⟨gb131, 0, none⟩) (Kd.S_types HO_145000.1 BK131.1 (by decide)) (fun _ hk => hk.2) (.slice Ao80 x145000_1.length co80)) (fun _ hk => trivial), IsS46.far HI0.1 NB0_131.1 _, zf0 HB.1 GE131.1, keep_far HK.1 GW131.1 _⟩
  subst c51
  rw [if_pos rfl] at H
  have H' := hqZ H
  clear H
  go_wp2_with (first | ((with_reducible refine ze0 (f := 34) rfl ?_); refine zq0 (some 49) rfl rfl Try.func34 (by kernel_rfl) rfl #[.pointer (some ⟨g, 0, none⟩), .int .i64 2] rfl (by simp only [hqa, hqb, hqc]; rfl) ?_; (with_reducible refine (yt0.calls g s0_0 x1001_1 x1002_1 2 true t164 t165 w0 _ ?side1 ?side2 A50.1).mono ?_); (case side1 => repeat (first | exact HI0.1 | apply IsS46.alloc | apply IsS46.drewN | apply IsS46.drew | apply IsS46.set_1 | apply IsS46.set_2 | refine IsS46.far ?_ NB0_131.1 _ | refine IsS46.far ?_ NB0_144.1 _)); (case side2 => repeat (first | (with_reducible first | exact HB.1 | apply zn0 | apply zj0 | apply zk0 | refine zf0 ?_ (IsS46.ge HI0.1) | refine zf0 ?_ GE131.1 | refine zf0 ?_ GE144.1) | exact HB.1)); rintro e w52 ⟨rfl, hi, hb, hk⟩; refine ⟨_, rfl, ?_⟩; replace HO_145000 := hqZ (Kd.S_mono (Kd.S_keep (IsS46.apartS (show IsS46 w0 _ g s0_0 x1001_1 x1002_1 from HI0.1) (HO_145000.1) (by decide)) hk (fun _ h => h.2)) (fun _ h => h.1)); replace BK131 := hqZ (zg0.blk hk (g' := gb131) (BK131.1) NB131_0.1 (by simp)); replace BK144 := hqZ (zg0.blk hk (g' := gb144) (BK144.1) NB144_0.1 (by simp)); replace HK := hqZ (zg0.trans (HK.1) hk (.inl rfl)); replace HB := hqZ (hb); replace HI0 := hqZ (hi); clear hb hk hi; have hnb53 := NB144_131.1; have hnc53 := NB131_144.1; have hnb54 := NB144_0.1; have hnc54 := NB0_144.1; have hcz55_0 : w52.cell? ⟨gb144, 0, none⟩ = some (u145000) := (zh0 BK144.1 0).trans rfl; have hfz55_0 := zd0 BK144.1 0; obtain ⟨Ao56, co56, eo56⟩ := Kd.S_slice HO_145000.1; subst eo56))
  go_loopg [53] k1 (fun kq v53 w' => ∃ (x53_2 : Int) (x145000_2 : List (List Int)) (u145000 : Value), v53 = .int .i64 x53_2 ∧ zi0 (ye0.l2 kq (wrap64 (1 + t132)) (x145000_1.length : Int) x53_2 s0_0 t164 t165 x145000_2 = some (r1, r2, r3)) ∧ zi0 (kq ≤ k1) ∧ zi0 (Kd.S (Kd.slice 3 (Kd.int .i64)) 27 w' w.heap.size (fun _ => True) u145000 x145000_2) ∧ zi0 (w'.heap[gb131]? = some (.cells #[(.slice none 0 0)] 26 (0, 0))) ∧ zi0 (w'.heap[gb144]? = some (.cells #[u145000] 26 (0, 0))) ∧ zi0 (IsS46 w0 w' g s0_0 t164 t165) ∧ zi0 (zg0 w w' g none) ∧ zi0 (Below w0.heap.size w0 w'))
  case atStart => exact ⟨(0), (x145000_1), (.slice Ao56 x145000_1.length co56), (rfl), H', ⟨Nat.le_refl _⟩, ⟨HO_145000.1⟩, ⟨BK131.1⟩, ⟨BK144.1⟩, ⟨HI0.1⟩, ⟨HK.1⟩, ⟨HB.1⟩⟩
  case round =>
   clear H'
   try clear c1
   try clear c2
   try clear p2
   try clear c3
   try clear c4
   try clear c5
   try clear p6
   try clear c7
   try clear c14
   try clear c20
   try clear c21
   try clear c23
   try clear c23b0
   try clear c26
   try clear c26b0
   try clear c28
   try clear c32
   try clear c33
   try clear c34
   try clear c35
   try clear c36
   try clear c41
   try clear c43
   try clear c44
   try clear c51
   try clear c53
   try clear c54
   try clear c55
   try clear hcz15_0
   try clear hcz22_0
   try clear hcz37_0
   try clear hcz40_0
   try clear hcz45_0
   try clear hcz49_0
   try clear hcz55_0
   try clear hfz15_0
   try clear hfz22_0
   try clear hfz37_0
   try clear hfz40_0
   try clear hfz45_0
   try clear hfz49_0
   try clear hfz55_0
   try clear p2
   try clear p6
   obtain ⟨x53_2, x145000_2, u145000, rfl, HA, HK2, HO_145000, BK131, BK144, HI0, HK, HB⟩ := hrel
   obtain _ | k2 := gk
   ·exact absurd HA.1 (by simp [ye0.l2])
   have H := HA.1
   clear HA
   simp only [ye0.l2] at H
   by_cases c57 : x53_2 < (x145000_1.length : Int)
   rotate_left
   ·rw [if_neg c57] at H
    have c57b0 : decide (x53_2 < (x145000_1.length : Int)) = false := decide_eq_false c57
    clear c57
    simp only [Option.some.injEq, Prod.mk.injEq] at H
    obtain ⟨rfl, rfl, rfl⟩ := H
    have hnb70 := NB144_131.1
    have hnc70 := NB131_144.1
    have hnb71 := NB144_0.1
    have hnc71 := NB0_144.1
    have hcz72_0 : wr.cell? ⟨gb144, 0, none⟩ = some (u145000) := (zh0 BK144.1 0).trans rfl
    have hfz72_0 := zd0 BK144.1 0
    obtain ⟨Ao73, co73, eo73⟩ := Kd.S_slice HO_145000.1
    subst eo73
    have hnb74 := NB131_0.1
    have hnc74 := NB0_131.1
    have hcz75_0 : wr.cell? ⟨gb131, 0, none⟩ = some (.slice none 0 0) := (zh0 BK131.1 0).trans rfl
    have hfz75_0 := zd0 BK131.1 0
    go_wp2
    refine bodyPost_ret (results_cell_row rfl _ _ gb131 26 #[.slice Ao73 x145000_2.length co73] (0, 0) _ rfl (by refine blk_put (cs := #[.slice none 0 0]) ?_ 0 _ rfl; exact BK131.1) Try.underlying26 rfl (by kernel_rfl)) rfl ?_
    exact ⟨_, rfl, Kd.S_mono (Kd.S_far (p := ⟨gb131, 0, none⟩) (Kd.S_types HO_145000.1 BK131.1 (by decide)) (fun _ hk => hk.2) (.slice Ao73 x145000_2.length co73)) (fun _ hk => trivial), IsS46.far HI0.1 NB0_131.1 _, zf0 HB.1 GE131.1, keep_far HK.1 GW131.1 _⟩
   rw [if_pos c57] at H
   have c57b0 : decide (x53_2 < (x145000_1.length : Int)) = true := decide_eq_true c57
   clear c57
   by_cases c58 : 0 ≤ x53_2
   rotate_left
   ·rw [if_neg c58] at H
    exact absurd H (by simp)
   rw [if_pos c58] at H
   have c58b0 : decide (0 ≤ x53_2) = true := decide_eq_true c58
   clear c58
   by_cases c59 : x53_2 < (x145000_2.length : Int)
   rotate_left
   ·rw [if_neg c59] at H
    exact absurd H (by simp)
   rw [if_pos c59] at H
   have c59b0 : decide (x53_2 < (x145000_2.length : Int)) = true := decide_eq_true c59
   clear c59
   by_cases c60 : (wrap64 (1 + t132)) = 0
   ·rw [if_pos c60] at H
    exact absurd H (by simp)
   rw [if_neg c60] at H
   have c60b0 : ((wrap64 (1 + t132)) == 0) = false := beq_eq_false_iff_ne.mpr c60
   have c60b1 : ((wrap64 (1 + t132)) != 0) = true := bne_iff_ne.mpr c60
   by_cases c61 : (rd_L2 x145000_2 x53_2).length < 17592186044416
   rotate_left
   ·rw [if_neg c61] at H
    exact absurd H (by simp)
   rw [if_pos c61] at H
   have LMc61 := hqZ c61
   clear c61
   obtain ⟨y167, hy167⟩ : ∃ y_ : List Int, y_ = ((rd_L2 x145000_2 x53_2) ++ [Int.tmod (wrap64 (x53_2 + 1)) (wrap64 (1 + t132))]) := ⟨_, rfl⟩
   replace H : (ye0.l2 k2 (wrap64 (1 + t132)) (x145000_1.length : Int) (wrap64 (x53_2 + 1)) s0_0 t164 t165 (x145000_2.set (x53_2 : Int).toNat y167)) = some (r1, r2, r3) := by first | (rw [hy167]; with_reducible exact H) | (have H2_ := (Option.bind_some _ _).symm.trans H; rw [hy167]; with_reducible exact H2_) | (have H2_ := (Option.bind_some _ _).symm.trans H; with_reducible exact H2_) | with_reducible exact H | (rw [hy167]; exact H) | exact H
   have Ny167 := hqZ hy167
   clear hy167
   obtain ⟨y170, hy170⟩ : ∃ y_ : List (List Int), y_ = (x145000_2.set (x53_2 : Int).toNat y167) := ⟨_, rfl⟩
   replace H : (ye0.l2 k2 (wrap64 (1 + t132)) (x145000_1.length : Int) (wrap64 (x53_2 + 1)) s0_0 t164 t165 y170) = some (r1, r2, r3) := by first | (rw [hy170]; with_reducible exact H) | (have H2_ := (Option.bind_some _ _).symm.trans H; rw [hy170]; with_reducible exact H2_) | (have H2_ := (Option.bind_some _ _).symm.trans H; with_reducible exact H2_) | with_reducible exact H | (rw [hy170]; exact H) | exact H
   have Ny170 := hqZ hy170
   clear hy170
   have H' := hqZ H
   clear H
   try go_wp2
   have n0_ := hqZ (Kd.S_drew HO_145000.1)
   have n1_ := hqZ (blk_drew BK131.1)
   have n2_ := hqZ (blk_drew BK144.1)
   have n3_ := hqZ (IsS46.drew HI0.1)
   have n4_ := hqZ (keep_drew HK.1)
   have n5_ := hqZ (zk0 HB.1)
   clear HO_145000 BK131 BK144 HI0 HK HB
   have HO_145000 := n0_
   have BK131 := n1_
   have BK144 := n2_
   have HI0 := n3_
   have HK := n4_
   have HB := n5_
   clear n0_ n1_ n2_ n3_ n4_ n5_
   obtain ⟨Ao64, co64, eo64⟩ := Kd.S_slice HO_145000.1
   (first | subst eo64 | (injection eo64 with f1_ f2_ f3_; have f4_ := f1_.symm; have f5_ := f3_.symm; clear f1_ f2_ f3_; subst f4_; subst f5_))
   have p166 : 0 ≤ (x53_2 : Int) := of_decide_eq_true (by assumption)
   have q166 : x53_2 < (x145000_2.length : Int) := of_decide_eq_true (by assumption)
   obtain ⟨ad166, A166_0, c166_0, e166, hx166_0, hl166_0, hi166_0⟩ := at_L2 (Kd.S_reads' HO_145000.1).2.2 x53_2 p166 q166
   cases e166
   obtain ⟨ce166, hce166, hMe166, hcc166⟩ := Kd.S_get HO_145000.1 [] x53_2 p166 (by first | exact q166 | exact of_decide_eq_true (by assumption) | (have e_ := (Kd.S_reads' HO_145000.1).1; omega))
   obtain ⟨ve166_0, rfl, ge166_0⟩ := hMe166
   have hv166_0 := hcc166 0 _ rfl
   rw [Nat.add_zero, show ((Kd.slice 3 (Kd.int .i64))).sz = 1 from rfl, Nat.mul_one] at hv166_0
   replace hv166_0 := Option.some.inj (hv166_0.symm.trans hx166_0)
   rw [hv166_0] at ge166_0
   have HL166_0 := hqZ (show Kd.R (Kd.int .i64) 3 _ _ _ _ (rd_L2 x145000_2 x53_2) from ge166_0)
   clear hv166_0 ge166_0
   have HX166_0 := hqZ hx166_0
   clear hcc166 hce166
   have HR166_0 := hqZ hi166_0
   have HC166_0 := hqZ hl166_0
   clear hi166_0 hl166_0
   replace p166 := eq_true p166
   replace q166 := eq_true q166
   obtain ⟨go65, co65, eo65, gb65, gl65, cl65, HG65⟩ := Kd.S_form HO_145000.1 (by have h_ : (x53_2 : Int) < ((x145000_2.length : Int) : Int) := of_decide_eq_true (by assumption); have h2_ : 0 ≤ (x53_2 : Int) := (of_decide_eq_true (by assumption)); omega)
   (first | cases eo65 | (injection eo65 with ea_ en_ ec_; (first | subst ea_ | (injection ea_ with ea_; subst ea_)); subst ec_; clear en_))
   have GB65 := hqZ gb65
   have GG65 := hqZ HG65
   clear gb65 gl65 HG65
   (first | simp only [add_plain] at hx166_0 | skip)
   obtain ⟨oki65, ce65, hcl65, hM65, hcc65, _, _, hH65⟩ := Kd.S_elem HO_145000.1 [] (x53_2 : Int) (of_decide_eq_true (by assumption)) (by have h_ : (x53_2 : Int) < ((x145000_2.length : Int) : Int) := of_decide_eq_true (by assumption); first | exact h_ | (have e_ := (Kd.S_reads' HO_145000.1).1; omega) | simpa using h_)
   obtain ⟨ve65_0, rfl, ge65_0⟩ := hM65
   have hv65 := hcc65 0 _ rfl
   have hX65 := HX166_0.1
   (try simp only [add_plain] at hX65)
   (try simp only [Nat.add_zero] at hv65)
   (try rw [show ((Kd.slice 3 (Kd.int .i64))).sz = 1 from rfl, Nat.mul_one] at hv65)
   replace hv65 := Option.some.inj (hv65.symm.trans hX65)
   subst hv65
   clear hX65 hcc65 hcl65
   have UU65 := hqZ (show Kd.R (Kd.int .i64) 3 _ w.heap.size oki65 (.slice A166_0 (rd_L2 x145000_2 x53_2).length c166_0) (rd_L2 x145000_2 x53_2) from ge65_0)
   have HH65 := hqZ hH65
   have HN65 := hqZ (Kd.S_reads' HO_145000.1).1
   clear hH65 ge65_0
   refine start_ (n := 16) (S := fun w' => w'.cell? ⟨gb144, 0, none⟩ = some (.slice (some ⟨go65, 0, none⟩) x145000_2.length co64) ∧ w'.cell? ⟨go65, (x53_2).toNat, none⟩ = some (.slice A166_0 (rd_L2 x145000_2 x53_2).length c166_0)) (ds := [15]) #[false, false, false, false, false, false, false, false, false, false, false, false, false, false, false, false] (by kernel_rfl) rfl rfl ⟨(zh0 BK144.1 0).trans rfl, hx166_0⟩ (fun hHeld => ?_); refine with_tabW ye0.tab20 ye0.bits20 (fun HT_ HW_ => ?_)
   generalize wr.drew = w63 at HO_145000 BK131 BK144 HI0 HK HB GG65 HH65 HL166_0 HR166_0 HX166_0 UU65 hx166_0 hHeld ⊢
   refine pure_ (i := 0) (N := some 56) (v := ?_) (a' := ?_) (bf 16 1) rfl rfl (zm0 HT_.1 (by kernel_rfl)) (fun _ _ _ h => h) (Or.inl ⟨by rfl, ?_⟩) ?_ ?_
   rotate_left
   ·intro w'; go_simp; with_reducible rfl
   rotate_left
   ·simp only [Act.put, zA, zB, zC, i64_w, i32_w]; rfl
   refine pure_ (i := 2) (N := some 58) (v := ?_) (a' := ?_) (bf 16 5) rfl rfl (zm0 HT_.1 (by kernel_rfl)) (fun _ _ _ h => h) (Or.inl ⟨by rfl, ?_⟩) ?_ ?_
   rotate_left
   ·intro w'; go_simp; with_reducible rfl
   rotate_left
   ·simp only [Act.put, zA, zB, zC, i64_w, i32_w]; rfl
   refine pure_ (i := 3) (N := some 59) (v := ?_) (a' := ?_) (bf 16 13) rfl rfl (zm0 HT_.1 (by kernel_rfl)) (fun _ _ _ h => h) (Or.inl ⟨by rfl, ?_⟩) ?_ ?_
   rotate_left
   ·intro w'; go_simp; with_reducible rfl
   rotate_left
   ·simp only [Act.put, zA, zB, zC, i64_w, i32_w]; rfl
   refine pure_ (i := 5) (N := some 61) (v := ?_) (a' := ?_) (bf 16 45) rfl rfl (zm0 HT_.1 (by kernel_rfl)) (fun _ _ _ h => h) (Or.inl ⟨by rfl, ?_⟩) ?_ ?_
   rotate_left
   ·intro w'; go_simp; with_reducible rfl
   rotate_left
   ·simp only [Act.put, zA, zB, zC, i64_w, i32_w]; rfl
   refine pure_ (i := 8) (N := some 64) (v := ?_) (a' := ?_) (bf 16 301) rfl rfl (zm0 HT_.1 (by kernel_rfl)) (fun _ _ _ h => h) (Or.inl ⟨by rfl, ?_⟩) ?_ ?_
   rotate_left
   ·intro w'; go_simp; with_reducible rfl
   rotate_left
   ·simp only [Act.put, zA, zB, zC, i64_w, i32_w]; rfl
   refine pure_ (i := 9) (N := some 65) (v := ?_) (a' := ?_) (bf 16 813) rfl rfl (zm0 HT_.1 (by kernel_rfl)) (fun _ _ _ h => h) (Or.inl ⟨by rfl, ?_⟩) ?_ ?_
   rotate_left
   ·intro w'; go_simp; with_reducible rfl
   rotate_left
   ·simp only [Act.put, zA, zB, zC, i64_w, i32_w]; rfl
   refine pure_ (i := 10) (N := some 66) (v := ?_) (a' := ?_) (bf 16 1837) rfl rfl (zm0 HT_.1 (by kernel_rfl)) (fun _ _ _ h => h) (Or.inl ⟨by rfl, ?_⟩) ?_ ?_
   rotate_left
   ·intro w'; go_simp; with_reducible rfl
   rotate_left
   ·simp only [Act.put, zA, zB, zC, i64_w, i32_w]; rfl
   refine pure_ (i := 11) (N := some 67) (v := ?_) (a' := ?_) (bf 16 3885) rfl rfl (zm0 HT_.1 (by kernel_rfl)) (fun _ _ _ h => h) (Or.inl ⟨by rfl, ?_⟩) ?_ ?_
   rotate_left
   ·intro w'; go_simp; with_reducible rfl
   rotate_left
   ·simp only [Act.put, zA, zB, zC, i64_w, i32_w]; rfl
   refine take_ (i := 1) (N := some 57) (v := ?_) (a' := ?_) (bf 16 3887) rfl rfl (take_ofW HT_.1 HW_.1 (by kernel_rfl)) (fun _ _ _ h => h) (Or.inl ⟨by rfl, ?_⟩) hHeld ?_ ?_
   rotate_left
   ·rintro w' ⟨s0, s1⟩; go_simp; with_reducible rfl
   rotate_left
   ·simp only [Act.put, zA, zB, zC, i64_w, i32_w]; rfl
   refine take_ (i := 4) (N := some 60) (v := ?_) (a' := ?_) (bf 16 3903) rfl rfl (take_ofW HT_.1 HW_.1 (by kernel_rfl)) (fun _ _ _ h => h) (Or.inl ⟨by rfl, ?_⟩) hHeld ?_ ?_
   rotate_left
   ·rintro w' ⟨s0, s1⟩; go_simp; with_reducible rfl
   rotate_left
   ·simp only [Act.put, zA, zB, zC, i64_w, i32_w]; rfl
   refine pure_ (i := 6) (N := some 62) (v := ?_) (a' := ?_) (bf 16 3967) rfl rfl (zm0 HT_.1 (by kernel_rfl)) (fun _ _ _ h => h) (Or.inl ⟨by rfl, ?_⟩) ?_ ?_
   rotate_left
   ·intro w'; go_simp; with_reducible rfl
   rotate_left
   ·simp only [Act.put, zA, zB, zC, i64_w, i32_w]; rfl
   refine take_ (i := 7) (N := some 63) (v := ?_) (a' := ?_) (bf 16 4095) rfl rfl (take_ofW HT_.1 HW_.1 (by kernel_rfl)) (fun _ _ _ h => h) (Or.inl ⟨by rfl, ?_⟩) hHeld ?_ ?_
   rotate_left
   ·rintro w' ⟨s0, s1⟩; go_simp; with_reducible rfl
   rotate_left
   ·simp only [Act.put, zA, zB, zC, i64_w, i32_w]; rfl
   refine one_ (i := 12) (N := some 68) (bf 16 8191) rfl rfl (one_of HT_.1 (by kernel_rfl)) (by decide) (fun K hK => ?_)
   refine value_ (w1 := ?_) (v := ?_) (by rfl) rfl ?_ ?_
   rotate_left 2
   ·go_simp
    constructor
    ·rfl
    ·rfl
   refine hK.out _ _ ⟨(zh0 (blk_alloc BK144.1 _) 0).trans rfl, (World.cell?_alloc_lt _ _ _ (World.block_lt_of_cell? _ _ (hHeld.2))).trans (hHeld.2)⟩ (fun hHeld => ?_)
   clear hK K
   refine norm_ (a' := ?_) ?_ ?_
   rotate_left
   ·show Act.put _ (some 68) _ = _; simp only [Act.put, zA, zB, zC, i64_w, i32_w]; rfl
   refine one_ (i := 13) (N := some 69) (bf 16 16383) rfl rfl (one_of HT_.1 (by kernel_rfl)) (by decide) (fun K hK => ?_)
   refine Kd.R_append_step (Kd.int .i64) w.heap.size (by rfl) (.tmp 63) (.tmp 68) 27 3 (.int .i64 0) 8 rfl Try.underlying27 info3 rfl (by decide) (by omega) (.slice A166_0 (rd_L2 x145000_2 x53_2).length c166_0) (rd_L2 x145000_2 x53_2) (Int.tmod (wrap64 (x53_2 + 1)) (wrap64 (1 + t132))) [.int .i64 (Int.tmod (wrap64 (x53_2 + 1)) (wrap64 (1 + t132)))] (fun k_ => oki65 k_ ∨ ((fun _ => True)) k_ ∧ w63.heap.size ≤ k_) (fun _ => False) rfl rfl ?aP (fun _ hk => hk.elim) ?aF ?aO (Below.refl _ _) ?aS ?aL ?_
   (case aP => exact rfl)
   (case aF => exact (fun k_ hk => .inr ⟨by first | trivial | exact Nat.le_trans (zb0 HB.1) hk, hk⟩))
   (case aO => exact (Kd.R_mono UU65.1 (fun _ hk => .inl hk)))
   (case aS => exact (zl0 (w := w) (g := g) (row := none) (HK.1)))
   (case aL => have := LMc61.1; omega)
   intro v168 w66 ho hb hg hat
   (first | have HS1_ := cell_grown hg (hHeld.2) (by first | (rw [add_block]; exact (fun e_ => ((HL166_0.1.1 _ e_.symm).2) rfl)) | (show some (Addr.add _ _).block ≠ _; rw [add_block]; exact (fun e_ => ((HL166_0.1.1 _ e_.symm).2) rfl)) | exact (fun e_ => ((HL166_0.1.1 _ e_.symm).2) rfl)) | have HS1_ := cell_grown hg (cell_unalloc (hHeld.2) (by first | (rw [add_block]; exact Kd.S_lt HO_145000.1 _ rfl) | (show (Addr.add _ _).block < _; rw [add_block]; exact Kd.S_lt HO_145000.1 _ rfl) | exact Kd.S_lt HO_145000.1 _ rfl)) (by first | (rw [add_block]; exact (fun e_ => ((HL166_0.1.1 _ e_.symm).2) rfl)) | (show some (Addr.add _ _).block ≠ _; rw [add_block]; exact (fun e_ => ((HL166_0.1.1 _ e_.symm).2) rfl)) | exact (fun e_ => ((HL166_0.1.1 _ e_.symm).2) rfl)))
   rw [← Ny167.1] at ho
   have n0_ := hqZ (zr0 (g := gb131) (BK131.1) hg (Kd.R_ne HL166_0.1 BK131.1 (by decide)))
   have n1_ := hqZ (zr0 (g := gb144) (BK144.1) hg (Kd.R_ne HL166_0.1 BK144.1 (by decide)))
   have n2_ := hqZ (IsS46.grown (HI0.1) hg (IsS46.own_ne HI0.1 HL166_0.1 (by decide)))
   have n3_ := hqZ (below_weaken (HB.1) HL.1 hb)
   have n4_ := hqZ (zg0.trans (HK.1) (zg0.of_grown hg g) (Kd.R_base2 HL166_0.1))
   have n5_ := hqZ (Kd.H_grown (Kd.H_widen (by repeat (first | exact HH65.1 | refine Kd.H_alloc ?_ _ | refine Kd.H_drewN ?_ _ | refine Kd.H_drew ?_))) hg (fun k_ e_ => .inl (UU65.1.1 k_ e_)))
   have n6_ := hqZ (ho)
   clear BK131 BK144 HI0 HB HK HH65 HO_145000 UU65 HL166_0
   have BK131 := n0_
   have BK144 := n1_
   have HI0 := n2_
   have HB := n3_
   have HK := n4_
   have HH65 := n5_
   have HO169 := n6_
   clear n0_ n1_ n2_ n3_ n4_ n5_ n6_ ho hb hg hat
   have p62 : 0 ≤ (x53_2 : Int) := of_decide_eq_true (by assumption)
   have q62 : (x53_2 : Int) < ((x145000_2.length : Int) : Int) := of_decide_eq_true (by assumption)
   replace p62 := eq_true p62
   replace q62 := eq_true q62
   obtain ⟨Ao69, co69, eo69⟩ := Kd.R_slice HO169.1
   (first | subst eo69 | (injection eo69 with f1_ f2_ f3_; have f4_ := f1_.symm; have f5_ := f3_.symm; clear f1_ f2_ f3_; subst f4_; subst f5_))
   obtain ⟨_, _, hraw67, _, _, hcc67, _⟩ := Kd.H_raw HH65.1 (of_decide_eq_true (by assumption)) (by have h_ : (x53_2 : Int) < ((x145000_2.length : Int) : Int) := of_decide_eq_true (by assumption); first | exact h_ | (have e_ := (HN65.1); omega) | simpa using h_)
   obtain ⟨_, hfr67⟩ := Kd.H_at HH65.1 (of_decide_eq_true (by assumption)) (by have h_ : (x53_2 : Int) < ((x145000_2.length : Int) : Int) := of_decide_eq_true (by assumption); first | exact h_ | (have e_ := (HN65.1); omega) | simpa using h_)
   have hx67_0 := hcc67 0 _ rfl
   have hf67_0 := hfr67 0
   (try simp only [Nat.add_zero] at hx67_0 hf67_0)
   (try rw [show ((Kd.slice 3 (Kd.int .i64))).sz = 1 from rfl, Nat.mul_one] at hx67_0)
   (try rw [show ((Kd.slice 3 (Kd.int .i64))).sz = 1 from rfl, Nat.mul_one] at hf67_0)
   have HP67 := Kd.S_seg0 HH65.1 (of_decide_eq_true (by assumption)) (by have h_ : (x53_2 : Int) < ((x145000_2.length : Int) : Int) := of_decide_eq_true (by assumption); first | exact h_ | (have e_ := (HN65.1); omega) | simpa using h_) (seg := [.slice Ao69 y167.length co69]) (j := 0) (show 1 ≤ 1 from by decide) (x' := y167) (Kd.M_row HO169.1) (fun _ hk => hk)
   (try simp only [show ((Kd.slice 3 (Kd.int .i64))).sz = 1 from rfl, Nat.mul_one, Nat.add_zero] at HP67)
   clear hcc67 hfr67
   have HN0_go65 := hqZ (show g ≠ go65 from by have h_ := IsS46.own_ne HI0.1 hraw67 (by decide); intro e_; exact h_ (by rw [e_]; rfl))
   have HNB131_go65 := hqZ (show gb131 ≠ go65 from by have h_ := Kd.R_ne hraw67 BK131.1 (by decide); intro e_; exact h_ (by rw [e_]; rfl))
   have HNB144_go65 := hqZ (show gb144 ≠ go65 from by have h_ := Kd.R_ne hraw67 BK144.1 (by decide); intro e_; exact h_ (by rw [e_]; rfl))
   have HS67 := HP67.1
   rw [← Ny170.1] at HS67
   have HQ67 := hqZ HS67
   obtain ⟨_, hgg67⟩ := Kd.R_typed hraw67 go65 rfl
   have GG67_ := hqZ hgg67
   clear HP67 HS67 hgg67
   refine hK.out _ _ ⟨(zh0 BK144.1 0).trans rfl, HS1_⟩ (fun hHeld => ?_)
   clear hK K
   refine norm_ (a' := ?_) ?_ ?_
   rotate_left
   ·show Act.put _ (some 69) _ = _; simp only [Act.put, zA, zB, zC, i64_w, i32_w]; rfl
   refine pure_ (i := 14) (N := some 70) (v := ?_) (a' := ?_) (bf 16 32767) rfl rfl (zm0 HT_.1 (by kernel_rfl)) (fun _ _ _ h => h) (Or.inl ⟨by rfl, ?_⟩) ?_ ?_
   rotate_left
   ·intro w'; go_simp; with_reducible rfl
   rotate_left
   ·simp only [Act.put, zA, zB, zC, i64_w, i32_w]; rfl
   refine last_ (i := 15) (N := none) (bf 16 65535) rfl rfl (one_of HT_.1 (by kernel_rfl)) (by decide) (fun K hK => ?_)
   refine skip_ (w1 := ?_) (by rfl) rfl ?_ ?_
   rotate_left
   ·go_simp
    rfl
   refine hK.out _ _ ?_
   clear hK K
   refine done_ (done_of HT_.1 (by kernel_rfl)) ?_
   try go_wp2
   go_roundg k2
   case measure => have := HK1.1; have := HK2.1; omega
   case rel => exact ⟨(wrap64 (x53_2 + 1)), (y170), (.slice (some ⟨go65, 0, none⟩) x145000_2.length co64), (rfl), H', ⟨by have := HK1.1; have := HK2.1; omega⟩, ⟨HQ67.1⟩, ⟨by refine blk_far ?_ HNB131_go65.1 _; exact BK131.1⟩, ⟨by refine blk_far ?_ HNB144_go65.1 _; exact BK144.1⟩, ⟨IsS46.far HI0.1 HN0_go65.1 _⟩, ⟨keep_far HK.1 GB65.1 _⟩, ⟨zf0 HB.1 (Nat.le_trans HL.1 GB65.1)⟩⟩
mutual
def yd0.l0 : Nat → Int → List Int → Int → Int → List (List Int) → Option (List Int)
 | 0, _, _, _, _, _ => none
 | k + 1, x1, x5, x16, x17, x172000 => if x17 < x16 then (if 0 ≤ x17 then (if x17 < (x5.length : Int) then (yd0.l0 k x1 (x5.set (x17 : Int).toNat (-1)) x16 (wrap64 (x17 + 1)) x172000) else (none)) else (none)) else (if 0 ≤ x1 then (if x1 < (x5.length : Int) then (yd0.l1 k (x5.set (x1 : Int).toNat 0) (([x1] : List Int)) 0 x172000) else (none)) else (none))
def yd0.l1 : Nat → List Int → List Int → Int → List (List Int) → Option (List Int)
 | 0, _, _, _, _ => none
 | k + 1, x5, x7, x8, x172000 => if x8 < (x7.length : Int) then (if 0 ≤ x8 then (if 0 ≤ (rd x7 x8) then (if (rd x7 x8) < (x172000.length : Int) then (yd0.l2 k x5 x7 x8 (rd_L2 x172000 (rd x7 x8)) ((rd_L2 x172000 (rd x7 x8)).length : Int) 0 x172000) else (none)) else (none)) else (none)) else (some x5)
def yd0.l2 : Nat → List Int → List Int → Int → List Int → Int → Int → List (List Int) → Option (List Int)
 | 0, _, _, _, _, _, _, _ => none
 | k + 1, x5, x7, x8, x42, x43, x44, x172000 => if x44 < x43 then (if 0 ≤ x44 then (if x44 < (x42.length : Int) then (if 0 ≤ (rd x42 x44) then (if (rd x42 x44) < (x5.length : Int) then (if (rd x5 (rd x42 x44)) < 0 then (if 0 ≤ x8 then (if x8 < (x7.length : Int) then (if 0 ≤ (rd x7 x8) then (if (rd x7 x8) < (x5.length : Int) then (if x7.length < 17592186044416 then (yd0.l2 k (x5.set ((rd x42 x44) : Int).toNat (wrap64 ((rd x5 (rd x7 x8)) + 1))) (x7 ++ [rd x42 x44]) x8 x42 x43 (wrap64 (x44 + 1)) x172000) else (none)) else (none)) else (none)) else (none)) else (none)) else (yd0.l2 k x5 x7 x8 x42 x43 (wrap64 (x44 + 1)) x172000)) else (none)) else (none)) else (none)) else (none)) else (yd0.l1 k x5 x7 (wrap64 (x8 + 1)) x172000)
end
def yd0.f (k : Nat) (l0_0 : List (List Int)) (a1 : Int) : Option (List Int) := if 0 ≤ (l0_0.length : Int) then (if ((l0_0.length : Int) : Int).toNat ≤ 35184372088832 then ((some (List.replicate ((l0_0.length : Int) : Int).toNat 0 : List Int)).bind fun y172 => (yd0.l0 k a1 y172 (y172.length : Int) 0 l0_0)) else (none)) else (none)
theorem yd0.mono_l : ∀ k, (∀ y0 y1 y2 y3 y4, LeO (yd0.l0 k y0 y1 y2 y3 y4) (yd0.l0 (k + 1) y0 y1 y2 y3 y4)) ∧ (∀ y0 y1 y2 y3, LeO (yd0.l1 k y0 y1 y2 y3) (yd0.l1 (k + 1) y0 y1 y2 y3)) ∧ (∀ y0 y1 y2 y3 y4 y5 y6, LeO (yd0.l2 k y0 y1 y2 y3 y4 y5 y6) (yd0.l2 (k + 1) y0 y1 y2 y3 y4 y5 y6))
 | 0 => ⟨fun _ _ _ _ _ r h => by simp [yd0.l0] at h, fun _ _ _ _ r h => by simp [yd0.l1] at h, fun _ _ _ _ _ _ _ r h => by simp [yd0.l2] at h⟩
 | k + 1 => by
  obtain ⟨ih0, ih1, ih2⟩ := yd0.mono_l k
  refine ⟨?_, ?_, ?_⟩
  ·intro y0 y1 y2 y3 y4
   unfold yd0.l0
   repeat' (with_reducible first | exact ih0 _ _ _ _ _ | exact ih1 _ _ _ _ | exact ih2 _ _ _ _ _ _ _ | exact LeO.refl _ | exact LeO.none _ | refine LeO.ite ?_ ?_ | refine LeO.bind ?_ (fun _ => ?_))
  ·intro y0 y1 y2 y3
   unfold yd0.l1
   repeat' (with_reducible first | exact ih0 _ _ _ _ _ | exact ih1 _ _ _ _ | exact ih2 _ _ _ _ _ _ _ | exact LeO.refl _ | exact LeO.none _ | refine LeO.ite ?_ ?_ | refine LeO.bind ?_ (fun _ => ?_))
  ·intro y0 y1 y2 y3 y4 y5 y6
   unfold yd0.l2
   repeat' (with_reducible first | exact ih0 _ _ _ _ _ | exact ih1 _ _ _ _ | exact ih2 _ _ _ _ _ _ _ | exact LeO.refl _ | exact LeO.none _ | refine LeO.ite ?_ ?_ | refine LeO.bind ?_ (fun _ => ?_))
theorem yd0.mono : ∀ a0 a1 k, LeO (yd0.f k a0 a1) (yd0.f (k + 1) a0 a1) := by
 intro a0 a1 k
 obtain ⟨ih0, ih1, ih2⟩ := yd0.mono_l k
 unfold yd0.f
 repeat' (with_reducible first | exact ih0 _ _ _ _ _ | exact ih1 _ _ _ _ | exact ih2 _ _ _ _ _ _ _ | exact LeO.refl _ | exact LeO.none _ | refine LeO.ite ?_ ?_ | refine LeO.bind ?_ (fun _ => ?_))
theorem yd0.calls (k : Nat) (A0_0 : Option Addr) (c0_0 : Nat) (l0_0 : List (List Int)) (a1 : Int) (r : List Int) (w : World) (hr0_0 : Kd.C (Kd.slice 3 (Kd.int .i64)) w A0_0 l0_0.length l0_0) (hc0_0 : l0_0.length ≤ c0_0) (h : yd0.f k l0_0 a1 = some r) :
  Calls Try.prog 71 #[.agg #[.slice A0_0 l0_0.length c0_0], .int .i64 a1] w fun e w' => ∃ v0_ : Value, e = .returned (v0_) ∧ Kd.R (Kd.int .i64) 3 w' w.heap.size (fun _ => True) v0_ r ∧ Below w.heap.size w w' := by
 have hu26 := Try.underlying26
 have HR0_0 := hqZ hr0_0
 have HC0_0 := hqZ hc0_0
 clear hr0_0 hc0_0
 have HB := hqZ (Below.refl w.heap.size w)
 have H : (if 0 ≤ (l0_0.length : Int) then (if ((l0_0.length : Int) : Int).toNat ≤ 35184372088832 then ((some (List.replicate ((l0_0.length : Int) : Int).toNat 0 : List Int)).bind fun y172 => (yd0.l0 k a1 y172 (y172.length : Int) 0 l0_0)) else (none)) else (none)) = some r := h
 clear h
 by_cases c3 : 0 ≤ (l0_0.length : Int)
 rotate_left
 ·rw [if_neg c3] at H
  exact absurd H (by simp)
 rw [if_pos c3] at H
 have c3b0 := eq_true c3
 have c3b1 : decide (0 ≤ (l0_0.length : Int)) = true := decide_eq_true c3
 clear c3
 by_cases c4 : ((l0_0.length : Int) : Int).toNat ≤ 35184372088832
 rotate_left
 ·rw [if_neg c4] at H
  exact absurd H (by simp)
 rw [if_pos c4] at H
 have c4b0 := eq_true c4
 have c4b1 : decide (((l0_0.length : Int) : Int).toNat ≤ 35184372088832) = true := decide_eq_true c4
 clear c4
 obtain ⟨y172, hy172⟩ : ∃ y_ : List Int, y_ = (List.replicate ((l0_0.length : Int) : Int).toNat 0) := ⟨_, rfl⟩
 replace H : (yd0.l0 k a1 y172 (y172.length : Int) 0 l0_0) = some r := by first | (rw [hy172]; with_reducible exact H) | (have H2_ := (Option.bind_some _ _).symm.trans H; rw [hy172]; with_reducible exact H2_) | (have H2_ := (Option.bind_some _ _).symm.trans H; with_reducible exact H2_) | with_reducible exact H | (rw [hy172]; exact H) | exact H
 have Ny172 := hqZ hy172
 clear hy172
 have H' := hqZ H
 clear H
 go_enter Try.func71, Try.ntmps71
 go_wp2_with (first | ((with_reducible refine zo0 (N := 2) rfl ?_); refine zp0 ?hg (N := 2) ?hd (cs := #[.slice A0_0 l0_0.length c0_0]) (t := 26) ?hr ?_; (case hd | hg => rfl); (case hr => go_simp <;> rfl); intro gb171 hg w5 hbox hb; have BK171 := hqZ (hbox); have GW171 := hqZ ((by rw [hg]; exact (zb0 (HB.1)) : w.heap.size ≤ gb171)); have GE171 := hqZ ((by rw [hg]; exact (zb0 (HB.1)) : w.heap.size ≤ gb171)); replace HB := hqZ (za0 (HB.1) hb); clear hb hbox hg; have hcz6_0 : w5.cell? ⟨gb171, 0, none⟩ = some (.slice A0_0 l0_0.length c0_0) := (zh0 BK171.1 0).trans rfl; have hfz6_0 := zd0 BK171.1 0) | ((with_reducible refine zo0 (N := 14) rfl ?_); refine Kd.R_make (Kd.int .i64) _ 3 rfl (N := 14) rfl 27 _ _ rfl (l0_0.length : Int) rfl rfl Try.underlying27 (.int .i64 0) 8 info3 rfl (by decide) (by omega) 0 (ok := fun _ => True) (okp := fun _ => True) rfl (fun _ hk => hk) trivial (of_decide_eq_true (by assumption)) (Nat.le_trans (Nat.mul_le_mul_right _ (of_decide_eq_true (by assumption) : (l0_0.length : Int).toNat ≤ 35184372088832)) (by omega)) (Below.refl _ _) (Nat.le_refl _) ?_; intro v173 w7 ho8 hb hg_ hnew_; clear hg_ hnew_; (first | rw [← Ny172.1] at ho8 | (simp only [Int.reduceToNat] at ho8; rw [← Ny172.1] at ho8)); have HO174 := hqZ (Kd.R_lower ho8 (zb0 (HB.1))); replace BK171 := hqZ (zc0 (g := gb171) (BK171.1) hb); replace HB := hqZ (za0 (HB.1) hb); clear hb ho8; obtain ⟨Ao9, co9, eo9⟩ := Kd.R_slice HO174.1; subst eo9))
 repeat (go_quiet (first | ((with_reducible refine zo0 (N := 2) rfl ?_); refine zp0 ?hg (N := 2) ?hd (cs := #[.slice A0_0 l0_0.length c0_0]) (t := 26) ?hr ?_; (case hd | hg => rfl); (case hr => go_simp <;> rfl); intro gb171 hg w5 hbox hb; have BK171 := hqZ (hbox); have GW171 := hqZ ((by rw [hg]; exact (zb0 (HB.1)) : w.heap.size ≤ gb171)); have GE171 := hqZ ((by rw [hg]; exact (zb0 (HB.1)) : w.heap.size ≤ gb171)); replace HB := hqZ (za0 (HB.1) hb); clear hb hbox hg; have hcz6_0 : w5.cell? ⟨gb171, 0, none⟩ = some (.slice A0_0 l0_0.length c0_0) := (zh0 BK171.1 0).trans rfl; have hfz6_0 := zd0 BK171.1 0) | ((with_reducible refine zo0 (N := 14) rfl ?_); refine Kd.R_make (Kd.int .i64) _ 3 rfl (N := 14) rfl 27 _ _ rfl (l0_0.length : Int) rfl rfl Try.underlying27 (.int .i64 0) 8 info3 rfl (by decide) (by omega) 0 (ok := fun _ => True) (okp := fun _ => True) rfl (fun _ hk => hk) trivial (of_decide_eq_true (by assumption)) (Nat.le_trans (Nat.mul_le_mul_right _ (of_decide_eq_true (by assumption) : (l0_0.length : Int).toNat ≤ 35184372088832)) (by omega)) (Below.refl _ _) (Nat.le_refl _) ?_; intro v173 w7 ho8 hb hg_ hnew_; clear hg_ hnew_; (first | rw [← Ny172.1] at ho8 | (simp only [Int.reduceToNat] at ho8; rw [← Ny172.1] at ho8)); have HO174 := hqZ (Kd.R_lower ho8 (zb0 (HB.1))); replace BK171 := hqZ (zc0 (g := gb171) (BK171.1) hb); replace HB := hqZ (za0 (HB.1) hb); clear hb ho8; obtain ⟨Ao9, co9, eo9⟩ := Kd.R_slice HO174.1; subst eo9)); try go_wp2_with (first | ((with_reducible refine zo0 (N := 2) rfl ?_); refine zp0 ?hg (N := 2) ?hd (cs := #[.slice A0_0 l0_0.length c0_0]) (t := 26) ?hr ?_; (case hd | hg => rfl); (case hr => go_simp <;> rfl); intro gb171 hg w5 hbox hb; have BK171 := hqZ (hbox); have GW171 := hqZ ((by rw [hg]; exact (zb0 (HB.1)) : w.heap.size ≤ gb171)); have GE171 := hqZ ((by rw [hg]; exact (zb0 (HB.1)) : w.heap.size ≤ gb171)); replace HB := hqZ (za0 (HB.1) hb); clear hb hbox hg; have hcz6_0 : w5.cell? ⟨gb171, 0, none⟩ = some (.slice A0_0 l0_0.length c0_0) := (zh0 BK171.1 0).trans rfl; have hfz6_0 := zd0 BK171.1 0) | ((with_reducible refine zo0 (N := 14) rfl ?_); refine Kd.R_make (Kd.int .i64) _ 3 rfl (N := 14) rfl 27 _ _ rfl (l0_0.length : Int) rfl rfl Try.underlying27 (.int .i64 0) 8 info3 rfl (by decide) (by omega) 0 (ok := fun _ => True) (okp := fun _ => True) rfl (fun _ hk => hk) trivial (of_decide_eq_true (by assumption)) (Nat.le_trans (Nat.mul_le_mul_right _ (of_decide_eq_true (by assumption) : (l0_0.length : Int).toNat ≤ 35184372088832)) (by omega)) (Below.refl _ _) (Nat.le_refl _) ?_; intro v173 w7 ho8 hb hg_ hnew_; clear hg_ hnew_; (first | rw [← Ny172.1] at ho8 | (simp only [Int.reduceToNat] at ho8; rw [← Ny172.1] at ho8)); have HO174 := hqZ (Kd.R_lower ho8 (zb0 (HB.1))); replace BK171 := hqZ (zc0 (g := gb171) (BK171.1) hb); replace HB := hqZ (za0 (HB.1) hb); clear hb ho8; obtain ⟨Ao9, co9, eo9⟩ := Kd.R_slice HO174.1; subst eo9)))
 go_loopg [17] k (fun kq v17 w' => ∃ (x5_1 : List Int) (x17_1 : Int), v17 = .int .i64 x17_1 ∧ zi0 (yd0.l0 kq a1 x5_1 (y172.length : Int) x17_1 l0_0 = some r) ∧ zi0 (kq ≤ k) ∧ zi0 (Kd.R (Kd.int .i64) 3 w' w.heap.size (fun _ => True) (.slice Ao9 y172.length co9) x5_1) ∧ zi0 (w'.heap[gb171]? = some (.cells #[(.slice A0_0 l0_0.length c0_0)] 26 (0, 0))) ∧ zi0 (Below w.heap.size w w'))
 case atStart => exact ⟨(y172), (0), (rfl), H', ⟨Nat.le_refl _⟩, ⟨HO174.1⟩, ⟨BK171.1⟩, ⟨HB.1⟩⟩
 case round =>
  clear H'
  try clear p2
  try clear c3
  try clear c3b0
  try clear c3b1
  try clear c4
  try clear c4b0
  try clear c4b1
  try clear c7
  try clear hcz6_0
  try clear hfz6_0
  obtain ⟨x5_1, x17_1, rfl, HA, HK1, HO_5, BK171, HB⟩ := hrel
  have hl5_1 := (Kd.R_reads' HO_5.1).1
  rw [hl5_1] at HO_5
  (try simp only [hl5_1])
  (try simp only [hl5_1] at BK171)
  obtain _ | k1 := gk
  ·exact absurd HA.1 (by simp [yd0.l0])
  have H := HA.1
  clear HA
  simp only [yd0.l0] at H
  by_cases c10 : x17_1 < (y172.length : Int)
  ·rw [if_pos c10] at H
   have c10b0 : decide (x17_1 < (y172.length : Int)) = true := decide_eq_true c10
   (try (have c10b0h := c10b0; simp only [hl5_1] at c10b0h))
   clear c10
   by_cases c11 : 0 ≤ x17_1
   rotate_left
   ·rw [if_neg c11] at H
    exact absurd H (by simp)
   rw [if_pos c11] at H
   have c11b0 : decide (0 ≤ x17_1) = true := decide_eq_true c11
   (try (have c11b0h := c11b0; simp only [hl5_1] at c11b0h))
   clear c11
   by_cases c12 : x17_1 < (x5_1.length : Int)
   rotate_left
   ·rw [if_neg c12] at H
    exact absurd H (by simp)
   rw [if_pos c12] at H
   have c12b0 : decide (x17_1 < (x5_1.length : Int)) = true := decide_eq_true c12
   (try (have c12b0h := c12b0; simp only [hl5_1] at c12b0h))
   clear c12
   obtain ⟨y175, hy175⟩ : ∃ y_ : List Int, y_ = (x5_1.set (x17_1 : Int).toNat (-1)) := ⟨_, rfl⟩
   replace H : (yd0.l0 k1 a1 y175 (y172.length : Int) (wrap64 (x17_1 + 1)) l0_0) = some r := by first | (rw [hy175]; with_reducible exact H) | (have H2_ := (Option.bind_some _ _).symm.trans H; rw [hy175]; with_reducible exact H2_) | (have H2_ := (Option.bind_some _ _).symm.trans H; with_reducible exact H2_) | with_reducible exact H | (rw [hy175]; exact H) | exact H
   have Ny175 := hqZ hy175
   clear hy175
   have H' := hqZ H
   clear H
   have p13 : 0 ≤ (x17_1 : Int) := of_decide_eq_true (by assumption)
   have q13 : (x17_1 : Int) < ((x5_1.length : Int) : Int) := of_decide_eq_true (by assumption)
   obtain ⟨go13, co13, eo13, gb13, gl13, cl13, HG13⟩ := Kd.R_form HO_5.1 (by omega)
   (first | cases eo13 | (injection eo13 with ea_ en_ ec_; (first | subst ea_ | (injection ea_ with ea_; subst ea_)); subst ec_; clear en_))
   have GB13 := hqZ gb13
   have GG13 := hqZ HG13
   clear gb13 gl13 HG13
   obtain ⟨hx13_0, hf13_0⟩ := Kd.R_celln 0 HO_5.1 (x17_1 : Int) p13 q13
   replace p13 := eq_true p13
   replace q13 := eq_true q13
   have HP14 := Kd.R_putg HO_5.1 (x17_1 : Int) (-1)
   go_wp2_with (first | ((with_reducible refine gate_store (t := 3) (p := 22) rfl ?_); (try (rw [drewN_self wr]; generalize hq_ : World.drewN wr _ = wr; have n0_ := hqZ (Kd.R_at hq_ HO_5.1); have n1_ := hqZ (blk_at hq_ BK171.1); have n2_ := hqZ (below_at hq_ HB.1); clear hq_ HO_5 BK171 HB; have HO_5 := n0_; have BK171 := n1_; have HB := n2_; clear n0_ n1_ n2_; (try (have HP14 := Kd.R_putg HO_5.1 (x17_1 : Int) (-1))))); refine store_event (t := 3) (p := 22) (v := ?vo_w15) (w1 := (wr.setCell ⟨go13, (x17_1 : Int).toNat, none⟩ (.int .i64 (-1)))) ?hg ?ho ?hn ?hr ?_; (case ho => rfl); (case hg => rfl); (case hn => rfl); (case hr => go_simp <;> rfl); intro w15 hw; have hg : wr.grownBy w15 (some go13) := (by rw [hw]; exact HP14.2); have hp_ : Kd.R (Kd.int .i64) 3 w15 w.heap.size (fun _ => True) (.slice (some ⟨go13, 0, none⟩) x5_1.length co9) y175 := (by rw [hw, Ny175.1]; exact HP14.1); clear HP14; replace BK171 := hqZ (zr0 (g := gb171) (BK171.1) hg (Kd.R_ne HO_5.1 BK171.1 (by decide))); replace HO_5 := hqZ (hp_); replace HB := hqZ ((by rw [hw]; exact zf0 (HB.1) GB13.1 : Below w.heap.size w w15)); clear hg hw hp_))
   repeat (go_quiet (first | ((with_reducible refine gate_store (t := 3) (p := 22) rfl ?_); (try (rw [drewN_self wr]; generalize hq_ : World.drewN wr _ = wr; have n0_ := hqZ (Kd.R_at hq_ HO_5.1); have n1_ := hqZ (blk_at hq_ BK171.1); have n2_ := hqZ (below_at hq_ HB.1); clear hq_ HO_5 BK171 HB; have HO_5 := n0_; have BK171 := n1_; have HB := n2_; clear n0_ n1_ n2_; (try (have HP14 := Kd.R_putg HO_5.1 (x17_1 : Int) (-1))))); refine store_event (t := 3) (p := 22) (v := ?vo_w15) (w1 := (wr.setCell ⟨go13, (x17_1 : Int).toNat, none⟩ (.int .i64 (-1)))) ?hg ?ho ?hn ?hr ?_; (case ho => rfl); (case hg => rfl); (case hn => rfl); (case hr => go_simp <;> rfl); intro w15 hw; have hg : wr.grownBy w15 (some go13) := (by rw [hw]; exact HP14.2); have hp_ : Kd.R (Kd.int .i64) 3 w15 w.heap.size (fun _ => True) (.slice (some ⟨go13, 0, none⟩) x5_1.length co9) y175 := (by rw [hw, Ny175.1]; exact HP14.1); clear HP14; replace BK171 := hqZ (zr0 (g := gb171) (BK171.1) hg (Kd.R_ne HO_5.1 BK171.1 (by decide))); replace HO_5 := hqZ (hp_); replace HB := hqZ ((by rw [hw]; exact zf0 (HB.1) GB13.1 : Below w.heap.size w w15)); clear hg hw hp_)); try go_wp2_with (first | ((with_reducible refine gate_store (t := 3) (p := 22) rfl ?_); (try (rw [drewN_self wr]; generalize hq_ : World.drewN wr _ = wr; have n0_ := hqZ (Kd.R_at hq_ HO_5.1); have n1_ := hqZ (blk_at hq_ BK171.1); have n2_ := hqZ (below_at hq_ HB.1); clear hq_ HO_5 BK171 HB; have HO_5 := n0_; have BK171 := n1_; have HB := n2_; clear n0_ n1_ n2_; (try (have HP14 := Kd.R_putg HO_5.1 (x17_1 : Int) (-1))))); refine store_event (t := 3) (p := 22) (v := ?vo_w15) (w1 := (wr.setCell ⟨go13, (x17_1 : Int).toNat, none⟩ (.int .i64 (-1)))) ?hg ?ho ?hn ?hr ?_; (case ho => rfl); (case hg => rfl); (case hn => rfl); (case hr => go_simp <;> rfl); intro w15 hw; have hg : wr.grownBy w15 (some go13) := (by rw [hw]; exact HP14.2); have hp_ : Kd.R (Kd.int .i64) 3 w15 w.heap.size (fun _ => True) (.slice (some ⟨go13, 0, none⟩) x5_1.length co9) y175 := (by rw [hw, Ny175.1]; exact HP14.1); clear HP14; replace BK171 := hqZ (zr0 (g := gb171) (BK171.1) hg (Kd.R_ne HO_5.1 BK171.1 (by decide))); replace HO_5 := hqZ (hp_); replace HB := hqZ ((by rw [hw]; exact zf0 (HB.1) GB13.1 : Below w.heap.size w w15)); clear hg hw hp_)))
   (try simp only [← hl5_1])
   go_roundg k1
   case measure => have := HK1.1; omega
   case rel => exact ⟨(y175), (wrap64 (x17_1 + 1)), (rfl), H', ⟨by have := HK1.1; omega⟩, ⟨by (try simp only [hl5_1]); exact HO_5.1⟩, ⟨by (try simp only [hl5_1]); exact BK171.1⟩, ⟨HB.1⟩⟩
  rw [if_neg c10] at H
  have c10b0 : decide (x17_1 < (y172.length : Int)) = false := decide_eq_false c10
  (try (have c10b0h := c10b0; simp only [hl5_1] at c10b0h))
  clear c10
  by_cases c16 : 0 ≤ a1
  rotate_left
  ·rw [if_neg c16] at H
   exact absurd H (by simp)
  rw [if_pos c16] at H
  have c16b0 : decide (0 ≤ a1) = true := decide_eq_true c16
  (try (have c16b0h := c16b0; simp only [hl5_1] at c16b0h))
  clear c16
  by_cases c17 : a1 < (x5_1.length : Int)
  rotate_left
  ·rw [if_neg c17] at H
   exact absurd H (by simp)
  rw [if_pos c17] at H
  have c17b0 : decide (a1 < (x5_1.length : Int)) = true := decide_eq_true c17
  (try (have c17b0h := c17b0; simp only [hl5_1] at c17b0h))
  clear c17
  obtain ⟨y176, hy176⟩ : ∃ y_ : List Int, y_ = (x5_1.set (a1 : Int).toNat 0) := ⟨_, rfl⟩
  replace H : (yd0.l1 k1 y176 (([a1] : List Int)) 0 l0_0) = some r := by first | (rw [hy176]; with_reducible exact H) | (have H2_ := (Option.bind_some _ _).symm.trans H; rw [hy176]; with_reducible exact H2_) | (have H2_ := (Option.bind_some _ _).symm.trans H; with_reducible exact H2_) | with_reducible exact H | (rw [hy176]; exact H) | exact H
  have Ny176 := hqZ hy176
  clear hy176
  obtain ⟨y177, hy177⟩ : ∃ y_ : List Int, y_ = (([a1] : List Int)) := ⟨_, rfl⟩
  replace H : (yd0.l1 k1 y176 y177 0 l0_0) = some r := by first | (rw [hy177]; with_reducible exact H) | (have H2_ := (Option.bind_some _ _).symm.trans H; rw [hy177]; with_reducible exact H2_) | (have H2_ := (Option.bind_some _ _).symm.trans H; with_reducible exact H2_) | with_reducible exact H | (rw [hy177]; exact H) | exact H
  have Ny177 := hqZ hy177
  clear hy177
  have H' := hqZ H
  clear H
  have p18 : 0 ≤ (a1 : Int) := of_decide_eq_true (by assumption)
  have q18 : (a1 : Int) < ((x5_1.length : Int) : Int) := of_decide_eq_true (by assumption)
  obtain ⟨go18, co18, eo18, gb18, gl18, cl18, HG18⟩ := Kd.R_form HO_5.1 (by omega)
  (first | cases eo18 | (injection eo18 with ea_ en_ ec_; (first | subst ea_ | (injection ea_ with ea_; subst ea_)); subst ec_; clear en_))
  have GB18 := hqZ gb18
  have GG18 := hqZ HG18
  clear gb18 gl18 HG18
  obtain ⟨hx18_0, hf18_0⟩ := Kd.R_celln 0 HO_5.1 (a1 : Int) p18 q18
  replace p18 := eq_true p18
  replace q18 := eq_true q18
  have HP19 := Kd.R_putg HO_5.1 (a1 : Int) 0
  go_wp2_with (first | ((with_reducible refine gate_store (t := 3) (p := 26) rfl ?_); (try (rw [drewN_self wr]; generalize hq_ : World.drewN wr _ = wr; have n0_ := hqZ (Kd.R_at hq_ HO_5.1); have n1_ := hqZ (blk_at hq_ BK171.1); have n2_ := hqZ (below_at hq_ HB.1); clear hq_ HO_5 BK171 HB; have HO_5 := n0_; have BK171 := n1_; have HB := n2_; clear n0_ n1_ n2_; (try (have HP19 := Kd.R_putg HO_5.1 (a1 : Int) 0)))); refine store_event (t := 3) (p := 26) (v := ?vo_w20) (w1 := (wr.setCell ⟨go18, (a1 : Int).toNat, none⟩ (.int .i64 0))) ?hg ?ho ?hn ?hr ?_; (case ho => rfl); (case hg => rfl); (case hn => rfl); (case hr => go_simp <;> rfl); intro w20 hw; have hg : wr.grownBy w20 (some go18) := (by rw [hw]; exact HP19.2); have hp_ : Kd.R (Kd.int .i64) 3 w20 w.heap.size (fun _ => True) (.slice (some ⟨go18, 0, none⟩) x5_1.length co9) y176 := (by rw [hw, Ny176.1]; exact HP19.1); clear HP19; replace BK171 := hqZ (zr0 (g := gb171) (BK171.1) hg (Kd.R_ne HO_5.1 BK171.1 (by decide))); replace HO_5 := hqZ (hp_); replace HB := hqZ ((by rw [hw]; exact zf0 (HB.1) GB18.1 : Below w.heap.size w w20)); clear hg hw hp_) | ((with_reducible refine zo0 (N := 28) rfl ?_); refine Kd.R_lit (Kd.int .i64) _ 3 ?hg (N := 28) ?hd (xs := ([a1] : List Int)) (inner := [.int .i64 a1]) (ok := fun _ => True) (okp := fun _ => True) ?hr ?hp (fun _ hk => hk) trivial (Below.refl _ _) (Nat.le_refl _) (by simp) ?_; (case hd | hg => rfl); (case hr => go_simp <;> rfl); (case hp => exact (Reps.one (show Kd.M (Kd.int .i64) _ _ _ a1 [.int .i64 a1] from rfl) (Reps.none _ _))); intro v178 w21 ho22 hb hg_ hnew_; clear hg_ hnew_; (first | rw [← Ny177.1] at ho22 | (simp only [Int.reduceToNat] at ho22; rw [← Ny177.1] at ho22)); have HO179 := hqZ (Kd.R_lower (Kd.R_new' ho22 (Kd.R_lt (HO_5.1))) (zb0 (HB.1))); replace HO_5 := hqZ (Kd.R_elder' (HO_5.1) (Kd.R_base ho22) hb); replace BK171 := hqZ (zc0 (g := gb171) (BK171.1) hb); replace HB := hqZ (za0 (HB.1) hb); clear hb ho22))
  repeat (go_quiet (first | ((with_reducible refine gate_store (t := 3) (p := 26) rfl ?_); (try (rw [drewN_self wr]; generalize hq_ : World.drewN wr _ = wr; have n0_ := hqZ (Kd.R_at hq_ HO_5.1); have n1_ := hqZ (blk_at hq_ BK171.1); have n2_ := hqZ (below_at hq_ HB.1); clear hq_ HO_5 BK171 HB; have HO_5 := n0_; have BK171 := n1_; have HB := n2_; clear n0_ n1_ n2_; (try (have HP19 := Kd.R_putg HO_5.1 (a1 : Int) 0)))); refine store_event (t := 3) (p := 26) (v := ?vo_w20) (w1 := (wr.setCell ⟨go18, (a1 : Int).toNat, none⟩ (.int .i64 0))) ?hg ?ho ?hn ?hr ?_; (case ho => rfl); (case hg => rfl); (case hn => rfl); (case hr => go_simp <;> rfl); intro w20 hw; have hg : wr.grownBy w20 (some go18) := (by rw [hw]; exact HP19.2); have hp_ : Kd.R (Kd.int .i64) 3 w20 w.heap.size (fun _ => True) (.slice (some ⟨go18, 0, none⟩) x5_1.length co9) y176 := (by rw [hw, Ny176.1]; exact HP19.1); clear HP19; replace BK171 := hqZ (zr0 (g := gb171) (BK171.1) hg (Kd.R_ne HO_5.1 BK171.1 (by decide))); replace HO_5 := hqZ (hp_); replace HB := hqZ ((by rw [hw]; exact zf0 (HB.1) GB18.1 : Below w.heap.size w w20)); clear hg hw hp_) | ((with_reducible refine zo0 (N := 28) rfl ?_); refine Kd.R_lit (Kd.int .i64) _ 3 ?hg (N := 28) ?hd (xs := ([a1] : List Int)) (inner := [.int .i64 a1]) (ok := fun _ => True) (okp := fun _ => True) ?hr ?hp (fun _ hk => hk) trivial (Below.refl _ _) (Nat.le_refl _) (by simp) ?_; (case hd | hg => rfl); (case hr => go_simp <;> rfl); (case hp => exact (Reps.one (show Kd.M (Kd.int .i64) _ _ _ a1 [.int .i64 a1] from rfl) (Reps.none _ _))); intro v178 w21 ho22 hb hg_ hnew_; clear hg_ hnew_; (first | rw [← Ny177.1] at ho22 | (simp only [Int.reduceToNat] at ho22; rw [← Ny177.1] at ho22)); have HO179 := hqZ (Kd.R_lower (Kd.R_new' ho22 (Kd.R_lt (HO_5.1))) (zb0 (HB.1))); replace HO_5 := hqZ (Kd.R_elder' (HO_5.1) (Kd.R_base ho22) hb); replace BK171 := hqZ (zc0 (g := gb171) (BK171.1) hb); replace HB := hqZ (za0 (HB.1) hb); clear hb ho22)); try go_wp2_with (first | ((with_reducible refine gate_store (t := 3) (p := 26) rfl ?_); (try (rw [drewN_self wr]; generalize hq_ : World.drewN wr _ = wr; have n0_ := hqZ (Kd.R_at hq_ HO_5.1); have n1_ := hqZ (blk_at hq_ BK171.1); have n2_ := hqZ (below_at hq_ HB.1); clear hq_ HO_5 BK171 HB; have HO_5 := n0_; have BK171 := n1_; have HB := n2_; clear n0_ n1_ n2_; (try (have HP19 := Kd.R_putg HO_5.1 (a1 : Int) 0)))); refine store_event (t := 3) (p := 26) (v := ?vo_w20) (w1 := (wr.setCell ⟨go18, (a1 : Int).toNat, none⟩ (.int .i64 0))) ?hg ?ho ?hn ?hr ?_; (case ho => rfl); (case hg => rfl); (case hn => rfl); (case hr => go_simp <;> rfl); intro w20 hw; have hg : wr.grownBy w20 (some go18) := (by rw [hw]; exact HP19.2); have hp_ : Kd.R (Kd.int .i64) 3 w20 w.heap.size (fun _ => True) (.slice (some ⟨go18, 0, none⟩) x5_1.length co9) y176 := (by rw [hw, Ny176.1]; exact HP19.1); clear HP19; replace BK171 := hqZ (zr0 (g := gb171) (BK171.1) hg (Kd.R_ne HO_5.1 BK171.1 (by decide))); replace HO_5 := hqZ (hp_); replace HB := hqZ ((by rw [hw]; exact zf0 (HB.1) GB18.1 : Below w.heap.size w w20)); clear hg hw hp_) | ((with_reducible refine zo0 (N := 28) rfl ?_); refine Kd.R_lit (Kd.int .i64) _ 3 ?hg (N := 28) ?hd (xs := ([a1] : List Int)) (inner := [.int .i64 a1]) (ok := fun _ => True) (okp := fun _ => True) ?hr ?hp (fun _ hk => hk) trivial (Below.refl _ _) (Nat.le_refl _) (by simp) ?_; (case hd | hg => rfl); (case hr => go_simp <;> rfl); (case hp => exact (Reps.one (show Kd.M (Kd.int .i64) _ _ _ a1 [.int .i64 a1] from rfl) (Reps.none _ _))); intro v178 w21 ho22 hb hg_ hnew_; clear hg_ hnew_; (first | rw [← Ny177.1] at ho22 | (simp only [Int.reduceToNat] at ho22; rw [← Ny177.1] at ho22)); have HO179 := hqZ (Kd.R_lower (Kd.R_new' ho22 (Kd.R_lt (HO_5.1))) (zb0 (HB.1))); replace HO_5 := hqZ (Kd.R_elder' (HO_5.1) (Kd.R_base ho22) hb); replace BK171 := hqZ (zc0 (g := gb171) (BK171.1) hb); replace HB := hqZ (za0 (HB.1) hb); clear hb ho22)))
  go_loopg [7, 8] k1 (fun kq v7 v8 w' => ∃ (x5_2 : List Int) (x7_2 : List Int) (x8_2 : Int), v8 = .int .i64 x8_2 ∧ zi0 (yd0.l1 kq x5_2 x7_2 x8_2 l0_0 = some r) ∧ zi0 (kq ≤ k1) ∧ zi0 (Kd.R (Kd.int .i64) 3 w' w.heap.size (fun k_ => some k_ ≠ (v7 : Value).ownBlock) (.slice (some ⟨go18, 0, none⟩) x5_1.length co9) x5_2) ∧ zi0 (Kd.R (Kd.int .i64) 3 w' w.heap.size (fun k_ => some k_ ≠ ((.slice (some ⟨go18, 0, none⟩) x5_1.length co9) : Value).ownBlock) v7 x7_2) ∧ zi0 (w'.heap[gb171]? = some (.cells #[(.slice A0_0 l0_0.length c0_0)] 26 (0, 0))) ∧ zi0 (Below w.heap.size w w'))
  case atStart => exact ⟨(y176), (y177), (0), (rfl), H', ⟨Nat.le_refl _⟩, ⟨by (try simp only [hl5_1]); exact Kd.R_mono HO_5.1 (fun _ hk => hk.2)⟩, ⟨by (try simp only [hl5_1]); exact Kd.R_mono HO179.1 (fun _ hk => hk.2)⟩, ⟨by (try simp only [hl5_1]); exact BK171.1⟩, ⟨HB.1⟩⟩
  case round =>
   clear H'
   try clear c1
   try clear p1
   try clear q1
   try clear hx1
   try clear p2
   try clear c3
   try clear c3b0
   try clear c3b1
   try clear c4
   try clear c4b0
   try clear c4b1
   try clear p6
   try clear c7
   try clear c10
   try clear c10b0
   try clear c11
   try clear c11b0
   try clear c12
   try clear c12b0
   try clear p13
   try clear q13
   try clear hx13
   try clear hf13
   try clear c16
   try clear c16b0
   try clear c17
   try clear c17b0
   try clear p18
   try clear q18
   try clear hx18
   try clear hf18
   try clear hcz6_0
   try clear hfz6_0
   try clear hx13_0
   try clear hx18_0
   try clear p13
   try clear p18
   try clear p2
   try clear q13
   try clear q18
   obtain ⟨x5_2, x7_2, x8_2, rfl, HA, HK2, HO_5, HO_7, BK171, HB⟩ := hrel
   have hl5_2 := (Kd.R_reads' HO_5.1).1
   rw [hl5_2] at HO_5
   (try simp only [hl5_2])
   (try simp only [hl5_2] at BK171)
   (try simp only [hl5_2] at HO_7)
   obtain _ | k2 := gk
   ·exact absurd HA.1 (by simp [yd0.l1])
   have H := HA.1
   clear HA
   simp only [yd0.l1] at H
   by_cases c23 : x8_2 < (x7_2.length : Int)
   rotate_left
   ·rw [if_neg c23] at H
    have c23b0 : decide (x8_2 < (x7_2.length : Int)) = false := decide_eq_false c23
    (try (have c23b0h := c23b0; simp only [hl5_1, hl5_2] at c23b0h))
    clear c23
    obtain rfl := Option.some.inj H
    obtain ⟨Ao45, co45, eo45⟩ := Kd.R_slice HO_7.1
    subst eo45
    go_wp2
    repeat (go_quiet (fail); try go_wp2)
    go_ret
    exact ⟨_, rfl, Kd.R_mono HO_5.1 (fun _ hk => trivial), HB.1⟩
   rw [if_pos c23] at H
   have c23b0 : decide (x8_2 < (x7_2.length : Int)) = true := decide_eq_true c23
   (try (have c23b0h := c23b0; simp only [hl5_1, hl5_2] at c23b0h))
   clear c23
   by_cases c24 : 0 ≤ x8_2
   rotate_left
   ·rw [if_neg c24] at H
    exact absurd H (by simp)
   rw [if_pos c24] at H
   have c24b0 : decide (0 ≤ x8_2) = true := decide_eq_true c24
   (try (have c24b0h := c24b0; simp only [hl5_1, hl5_2] at c24b0h))
   clear c24
   by_cases c25 : 0 ≤ (rd x7_2 x8_2)
   rotate_left
   ·rw [if_neg c25] at H
    exact absurd H (by simp)
   rw [if_pos c25] at H
   have c25b0 : decide (0 ≤ (rd x7_2 x8_2)) = true := decide_eq_true c25
   (try (have c25b0h := c25b0; simp only [hl5_1, hl5_2] at c25b0h))
   clear c25
   by_cases c26 : (rd x7_2 x8_2) < (l0_0.length : Int)
   rotate_left
   ·rw [if_neg c26] at H
    exact absurd H (by simp)
   rw [if_pos c26] at H
   have c26b0 : decide ((rd x7_2 x8_2) < (l0_0.length : Int)) = true := decide_eq_true c26
   (try (have c26b0h := c26b0; simp only [hl5_1, hl5_2] at c26b0h))
   clear c26
   have H' := hqZ H
   clear H
   obtain ⟨Ao27, co27, eo27⟩ := Kd.R_slice HO_7.1
   subst eo27
   have hcz28_0 : wr.cell? ⟨gb171, 0, none⟩ = some (.slice A0_0 l0_0.length c0_0) := (zh0 BK171.1 0).trans rfl
   have hfz28_0 := zd0 BK171.1 0
   have p180 : 0 ≤ (x8_2 : Int) := of_decide_eq_true (by assumption)
   have q180 : x8_2 < (x7_2.length : Int) := of_decide_eq_true (by assumption)
   obtain ⟨ad180, e180, hx180_0⟩ := Kd.at_int (Kd.R_reads' HO_7.1).2.2 x8_2 p180 q180
   cases e180
   replace p180 := eq_true p180
   replace q180 := eq_true q180
   have p181 : 0 ≤ ((rd x7_2 x8_2) : Int) := of_decide_eq_true (by assumption)
   have q181 : (rd x7_2 x8_2) < (l0_0.length : Int) := of_decide_eq_true (by assumption)
   obtain ⟨ad181, A181_0, c181_0, e181, hx181_0, hl181_0, hi181_0⟩ := at_L2 HR0_0.1 (rd x7_2 x8_2) p181 q181
   cases e181
   replace hx181_0 := (HB.1.cell (World.block_lt_of_cell? w _ hx181_0)).trans hx181_0
   have HR181_0 := hqZ hi181_0
   have HC181_0 := hqZ hl181_0
   clear hi181_0 hl181_0
   replace p181 := eq_true p181
   replace q181 := eq_true q181
   go_wp2
   repeat (go_quiet (fail); try go_wp2)
   go_loopg [7, 44] k2 (fun kq v7 v44 w' => ∃ (x5_3 : List Int) (x7_3 : List Int) (x44_3 : Int), v44 = .int .i64 x44_3 ∧ zi0 (yd0.l2 kq x5_3 x7_3 x8_2 (rd_L2 l0_0 (rd x7_2 x8_2)) ((rd_L2 l0_0 (rd x7_2 x8_2)).length : Int) x44_3 l0_0 = some r) ∧ zi0 (kq ≤ k2) ∧ zi0 (Kd.R (Kd.int .i64) 3 w' w.heap.size (fun k_ => some k_ ≠ (v7 : Value).ownBlock) (.slice (some ⟨go18, 0, none⟩) x5_2.length co9) x5_3) ∧ zi0 (Kd.R (Kd.int .i64) 3 w' w.heap.size (fun k_ => some k_ ≠ ((.slice (some ⟨go18, 0, none⟩) x5_2.length co9) : Value).ownBlock) v7 x7_3) ∧ zi0 (w'.heap[gb171]? = some (.cells #[(.slice (some ad181) l0_0.length c0_0)] 26 (0, 0))) ∧ zi0 (Below w.heap.size w w'))
   case atStart => exact ⟨(x5_2), (x7_2), (0), (rfl), H', ⟨Nat.le_refl _⟩, ⟨by (try simp only [hl5_1]); (try simp only [hl5_2]); exact HO_5.1⟩, ⟨by (try simp only [hl5_1]); (try simp only [hl5_2]); exact HO_7.1⟩, ⟨by (try simp only [hl5_1]); (try simp only [hl5_2]); exact BK171.1⟩, ⟨hqB HB.1⟩⟩
   case round =>
    clear H'
    try clear c1
    try clear p1
    try clear q1
    try clear hx1
    try clear c2
    try clear p2
    try clear c3
    try clear c3b0
    try clear c3b1
    try clear c4
    try clear c4b0
    try clear c4b1
    try clear p6
    try clear c7
    try clear c10
    try clear c10b0
    try clear c11
    try clear c11b0
    try clear c12
    try clear c12b0
    try clear p13
    try clear q13
    try clear hx13
    try clear hf13
    try clear c16
    try clear c16b0
    try clear c17
    try clear c17b0
    try clear c18
    try clear p18
    try clear q18
    try clear hx18
    try clear hf18
    try clear c23
    try clear c23b0
    try clear c24
    try clear c24b0
    try clear c25
    try clear c25b0
    try clear c26
    try clear c26b0
    try clear hcz28_0
    try clear hcz6_0
    try clear hfz28_0
    try clear hfz6_0
    try clear hx13_0
    try clear hx180_0
    try clear hx181_0
    try clear hx18_0
    try clear p1
    try clear p13
    try clear p18
    try clear p180
    try clear p181
    try clear p2
    try clear p6
    try clear q1
    try clear q13
    try clear q18
    try clear q180
    try clear q181
    obtain ⟨x5_3, x7_3, x44_3, rfl, HA, HK3, HO_5, HO_7, BK171, HB⟩ := hrel
    have hl5_3 := (Kd.R_reads' HO_5.1).1
    rw [hl5_3] at HO_5
    (try simp only [hl5_3])
    (try simp only [hl5_3] at BK171)
    (try simp only [hl5_3] at HO_7)
    obtain _ | k3 := gk
    ·exact absurd HA.1 (by simp [yd0.l2])
    have H := HA.1
    clear HA
    simp only [yd0.l2] at H
    by_cases c29 : x44_3 < ((rd_L2 l0_0 (rd x7_2 x8_2)).length : Int)
    rotate_left
    ·rw [if_neg c29] at H
     have c29b0 : decide (x44_3 < ((rd_L2 l0_0 (rd x7_2 x8_2)).length : Int)) = false := decide_eq_false c29
     (try (have c29b0h := c29b0; simp only [hl5_1, hl5_2, hl5_3] at c29b0h))
     clear c29
     have H' := hqZ H
     clear H
     go_wp2
     repeat (go_quiet (fail); try go_wp2)
     (try simp only [← hl5_2, ← hl5_3])
     go_roundg k3
     case measure => have := HK1.1; have := HK2.1; have := HK3.1; omega
     case rel => exact ⟨(x5_3), (x7_3), (wrap64 (x8_2 + 1)), (rfl), H', ⟨by have := HK1.1; have := HK2.1; have := HK3.1; omega⟩, ⟨by (try simp only [hl5_1]); (try simp only [hl5_2]); (try simp only [hl5_3]); exact HO_5.1⟩, ⟨by (try simp only [hl5_1]); (try simp only [hl5_2]); (try simp only [hl5_3]); exact HO_7.1⟩, ⟨by (try simp only [hl5_1]); (try simp only [hl5_2]); (try simp only [hl5_3]); exact BK171.1⟩, ⟨HB.1⟩⟩
    rw [if_pos c29] at H
    have c29b0 : decide (x44_3 < ((rd_L2 l0_0 (rd x7_2 x8_2)).length : Int)) = true := decide_eq_true c29
    (try (have c29b0h := c29b0; simp only [hl5_1, hl5_2, hl5_3] at c29b0h))
    clear c29
    by_cases c30 : 0 ≤ x44_3
    rotate_left
    ·rw [if_neg c30] at H
     exact absurd H (by simp)
    rw [if_pos c30] at H
    have c30b0 : decide (0 ≤ x44_3) = true := decide_eq_true c30
    (try (have c30b0h := c30b0; simp only [hl5_1, hl5_2, hl5_3] at c30b0h))
    clear c30
    by_cases c31 : x44_3 < ((rd_L2 l0_0 (rd x7_2 x8_2)).length : Int)
    rotate_left
    ·rw [if_neg c31] at H
     exact absurd H (by simp)
    rw [if_pos c31] at H
    have c31b0 : decide (x44_3 < ((rd_L2 l0_0 (rd x7_2 x8_2)).length : Int)) = true := decide_eq_true c31
    (try (have c31b0h := c31b0; simp only [hl5_1, hl5_2, hl5_3] at c31b0h))
    clear c31
    by_cases c32 : 0 ≤ (rd (rd_L2 l0_0 (rd x7_2 x8_2)) x44_3)
    rotate_left
    ·rw [if_neg c32] at H
     exact absurd H (by simp)
    rw [if_pos c32] at H
    have c32b0 : decide (0 ≤ (rd (rd_L2 l0_0 (rd x7_2 x8_2)) x44_3)) = true := decide_eq_true c32
    (try (have c32b0h := c32b0; simp only [hl5_1, hl5_2, hl5_3] at c32b0h))
    clear c32
    by_cases c33 : (rd (rd_L2 l0_0 (rd x7_2 x8_2)) x44_3) < (x5_3.length : Int)
    rotate_left
    ·rw [if_neg c33] at H
     exact absurd H (by simp)
    rw [if_pos c33] at H
    have c33b0 : decide ((rd (rd_L2 l0_0 (rd x7_2 x8_2)) x44_3) < (x5_3.length : Int)) = true := decide_eq_true c33
    (try (have c33b0h := c33b0; simp only [hl5_1, hl5_2, hl5_3] at c33b0h))
    clear c33
    by_cases c34 : (rd x5_3 (rd (rd_L2 l0_0 (rd x7_2 x8_2)) x44_3)) < 0
    rotate_left
    ·rw [if_neg c34] at H
     have c34b0 : decide ((rd x5_3 (rd (rd_L2 l0_0 (rd x7_2 x8_2)) x44_3)) < 0) = false := decide_eq_false c34
     (try (have c34b0h := c34b0; simp only [hl5_1, hl5_2, hl5_3] at c34b0h))
     clear c34
     have H' := hqZ H
     clear H
     have p182 : 0 ≤ (x44_3 : Int) := of_decide_eq_true (by assumption)
     have q182 : x44_3 < ((rd_L2 l0_0 (rd x7_2 x8_2)).length : Int) := of_decide_eq_true (by assumption)
     obtain ⟨ad182, e182, hx182_0⟩ := Kd.at_int HR181_0.1 x44_3 p182 q182
     cases e182
     replace hx182_0 := (HB.1.cell (World.block_lt_of_cell? w _ hx182_0)).trans hx182_0
     replace p182 := eq_true p182
     replace q182 := eq_true q182
     have p183 : 0 ≤ ((rd (rd_L2 l0_0 (rd x7_2 x8_2)) x44_3) : Int) := of_decide_eq_true (by assumption)
     have q183 : (rd (rd_L2 l0_0 (rd x7_2 x8_2)) x44_3) < (x5_3.length : Int) := of_decide_eq_true (by assumption)
     obtain ⟨ad183, e183, hx183_0⟩ := Kd.at_int (Kd.R_reads' HO_5.1).2.2 (rd (rd_L2 l0_0 (rd x7_2 x8_2)) x44_3) p183 q183
     obtain rfl : (⟨go18, 0, none⟩ : Addr) = ad183 := (by injection e183)
     (first | simp only [add_plain] at hx183_0 | simp only [add_at] at hx183_0 | simp only [Addr.add, Nat.zero_add] at hx183_0 | skip)
     replace p183 := eq_true p183
     replace q183 := eq_true q183
     go_wp2
     repeat (go_quiet (fail); try go_wp2)
     (try simp only [← hl5_3])
     go_roundg k3
     case measure => have := HK1.1; have := HK2.1; have := HK3.1; omega
     case rel => exact ⟨(x5_3), (x7_3), (wrap64 (x44_3 + 1)), (rfl), H', ⟨by have := HK1.1; have := HK2.1; have := HK3.1; omega⟩, ⟨by (try simp only [hl5_1]); (try simp only [hl5_2]); (try simp only [hl5_3]); exact HO_5.1⟩, ⟨by (try simp only [hl5_1]); (try simp only [hl5_2]); (try simp only [hl5_3]); exact HO_7.1⟩, ⟨by (try simp only [hl5_1]); (try simp only [hl5_2]); (try simp only [hl5_3]); exact BK171.1⟩, ⟨HB.1⟩⟩
    rw [if_pos c34] at H
    have c34b0 : decide ((rd x5_3 (rd (rd_L2 l0_0 (rd x7_2 x8_2)) x44_3)) < 0) = true := decide_eq_true c34
    (try (have c34b0h := c34b0; simp only [hl5_1, hl5_2, hl5_3] at c34b0h))
    clear c34
    by_cases c35 : 0 ≤ x8_2
    rotate_left
    ·rw [if_neg c35] at H
     exact absurd H (by simp)
    rw [if_pos c35] at H
    have c35b0 : decide (0 ≤ x8_2) = true := decide_eq_true c35
    (try (have c35b0h := c35b0; simp only [hl5_1, hl5_2, hl5_3] at c35b0h))
    clear c35
    by_cases c36 : x8_2 < (x7_3.length : Int)
    rotate_left
    ·rw [if_neg c36] at H
     exact absurd H (by simp)
    rw [if_pos c36] at H
    have c36b0 : decide (x8_2 < (x7_3.length : Int)) = true := decide_eq_true c36
    (try (have c36b0h := c36b0; simp only [hl5_1, hl5_2, hl5_3] at c36b0h))
    clear c36
    by_cases c37 : 0 ≤ (rd x7_3 x8_2)
    rotate_left
    ·rw [if_neg c37] at H
     exact absurd H (by simp)
    rw [if_pos c37] at H
    have c37b0 : decide (0 ≤ (rd x7_3 x8_2)) = true := decide_eq_true c37
    (try (have c37b0h := c37b0; simp only [hl5_1, hl5_2, hl5_3] at c37b0h))
    clear c37
    by_cases c38 : (rd x7_3 x8_2) < (x5_3.length : Int)
    rotate_left
    ·rw [if_neg c38] at H
     exact absurd H (by simp)
    rw [if_pos c38] at H
    have c38b0 : decide ((rd x7_3 x8_2) < (x5_3.length : Int)) = true := decide_eq_true c38
    (try (have c38b0h := c38b0; simp only [hl5_1, hl5_2, hl5_3] at c38b0h))
    clear c38
    obtain ⟨y186, hy186⟩ : ∃ y_ : List Int, y_ = (x5_3.set ((rd (rd_L2 l0_0 (rd x7_2 x8_2)) x44_3) : Int).toNat (wrap64 ((rd x5_3 (rd x7_3 x8_2)) + 1))) := ⟨_, rfl⟩
    replace H : (if x7_3.length < 17592186044416 then (yd0.l2 k3 y186 (x7_3 ++ [rd (rd_L2 l0_0 (rd x7_2 x8_2)) x44_3]) x8_2 (rd_L2 l0_0 (rd x7_2 x8_2)) ((rd_L2 l0_0 (rd x7_2 x8_2)).length : Int) (wrap64 (x44_3 + 1)) l0_0) else (none)) = some r := by first | (rw [hy186]; with_reducible exact H) | (have H2_ := (Option.bind_some _ _).symm.trans H; rw [hy186]; with_reducible exact H2_) | (have H2_ := (Option.bind_some _ _).symm.trans H; with_reducible exact H2_) | with_reducible exact H | (rw [hy186]; exact H) | exact H
    have Ny186 := hqZ hy186
    clear hy186
    by_cases c40 : x7_3.length < 17592186044416
    rotate_left
    ·rw [if_neg c40] at H
     exact absurd H (by simp)
    rw [if_pos c40] at H
    have LMc40 := hqZ c40
    clear c40
    obtain ⟨y187, hy187⟩ : ∃ y_ : List Int, y_ = (x7_3 ++ [rd (rd_L2 l0_0 (rd x7_2 x8_2)) x44_3]) := ⟨_, rfl⟩
    replace H : (yd0.l2 k3 y186 y187 x8_2 (rd_L2 l0_0 (rd x7_2 x8_2)) ((rd_L2 l0_0 (rd x7_2 x8_2)).length : Int) (wrap64 (x44_3 + 1)) l0_0) = some r := by first | (rw [hy187]; with_reducible exact H) | (have H2_ := (Option.bind_some _ _).symm.trans H; rw [hy187]; with_reducible exact H2_) | (have H2_ := (Option.bind_some _ _).symm.trans H; with_reducible exact H2_) | with_reducible exact H | (rw [hy187]; exact H) | exact H
    have Ny187 := hqZ hy187
    clear hy187
    have H' := hqZ H
    clear H
    have p182 : 0 ≤ (x44_3 : Int) := of_decide_eq_true (by assumption)
    have q182 : x44_3 < ((rd_L2 l0_0 (rd x7_2 x8_2)).length : Int) := of_decide_eq_true (by assumption)
    obtain ⟨ad182, e182, hx182_0⟩ := Kd.at_int HR181_0.1 x44_3 p182 q182
    cases e182
    replace hx182_0 := (HB.1.cell (World.block_lt_of_cell? w _ hx182_0)).trans hx182_0
    replace p182 := eq_true p182
    replace q182 := eq_true q182
    have p183 : 0 ≤ ((rd (rd_L2 l0_0 (rd x7_2 x8_2)) x44_3) : Int) := of_decide_eq_true (by assumption)
    have q183 : (rd (rd_L2 l0_0 (rd x7_2 x8_2)) x44_3) < (x5_3.length : Int) := of_decide_eq_true (by assumption)
    obtain ⟨ad183, e183, hx183_0⟩ := Kd.at_int (Kd.R_reads' HO_5.1).2.2 (rd (rd_L2 l0_0 (rd x7_2 x8_2)) x44_3) p183 q183
    obtain rfl : (⟨go18, 0, none⟩ : Addr) = ad183 := (by injection e183)
    (first | simp only [add_plain] at hx183_0 | simp only [add_at] at hx183_0 | simp only [Addr.add, Nat.zero_add] at hx183_0 | skip)
    replace p183 := eq_true p183
    replace q183 := eq_true q183
    obtain ⟨Ao41, co41, eo41⟩ := Kd.R_slice HO_7.1
    subst eo41
    have p184 : 0 ≤ (x8_2 : Int) := of_decide_eq_true (by assumption)
    have q184 : x8_2 < (x7_3.length : Int) := of_decide_eq_true (by assumption)
    obtain ⟨ad184, e184, hx184_0⟩ := Kd.at_int (Kd.R_reads' HO_7.1).2.2 x8_2 p184 q184
    cases e184
    replace p184 := eq_true p184
    replace q184 := eq_true q184
    have p185 : 0 ≤ ((rd x7_3 x8_2) : Int) := of_decide_eq_true (by assumption)
    have q185 : (rd x7_3 x8_2) < (x5_3.length : Int) := of_decide_eq_true (by assumption)
    obtain ⟨ad185, e185, hx185_0⟩ := Kd.at_int (Kd.R_reads' HO_5.1).2.2 (rd x7_3 x8_2) p185 q185
    obtain rfl : (⟨go18, 0, none⟩ : Addr) = ad185 := (by injection e185)
    (first | simp only [add_plain] at hx185_0 | simp only [add_at] at hx185_0 | simp only [Addr.add, Nat.zero_add] at hx185_0 | skip)
    replace p185 := eq_true p185
    replace q185 := eq_true q185
    have p39 : 0 ≤ ((rd (rd_L2 l0_0 (rd x7_2 x8_2)) x44_3) : Int) := of_decide_eq_true (by assumption)
    have q39 : ((rd (rd_L2 l0_0 (rd x7_2 x8_2)) x44_3) : Int) < ((x5_3.length : Int) : Int) := of_decide_eq_true (by assumption)
    obtain ⟨hx39_0, hf39_0⟩ := Kd.R_celln 0 HO_5.1 ((rd (rd_L2 l0_0 (rd x7_2 x8_2)) x44_3) : Int) p39 q39
    replace p39 := eq_true p39
    replace q39 := eq_true q39
    have HP42 := Kd.R_putg HO_5.1 ((rd (rd_L2 l0_0 (rd x7_2 x8_2)) x44_3) : Int) (wrap64 ((rd x5_3 (rd x7_3 x8_2)) + 1))
    go_wp2_with (first | ((with_reducible refine gate_store (t := 3) (p := 63) rfl ?_); (try (rw [drewN_self wr]; generalize hq_ : World.drewN wr _ = wr; have n0_ := hqZ (Kd.R_at hq_ HO_5.1); have n1_ := hqZ (Kd.R_at hq_ HO_7.1); have n2_ := hqZ (blk_at hq_ BK171.1); have n3_ := hqZ (below_at hq_ HB.1); clear hq_ HO_5 HO_7 BK171 HB; have HO_5 := n0_; have HO_7 := n1_; have BK171 := n2_; have HB := n3_; clear n0_ n1_ n2_ n3_; (try (have HP42 := Kd.R_putg HO_5.1 ((rd (rd_L2 l0_0 (rd x7_2 x8_2)) x44_3) : Int) (wrap64 ((rd x5_3 (rd x7_3 x8_2)) + 1)))))); refine store_event (t := 3) (p := 63) (v := ?vo_w43) (w1 := (wr.setCell ⟨go18, ((rd (rd_L2 l0_0 (rd x7_2 x8_2)) x44_3) : Int).toNat, none⟩ (.int .i64 (wrap64 ((rd x5_3 (rd x7_3 x8_2)) + 1))))) ?hg ?ho ?hn ?hr ?_; (case ho => rfl); (case hg => rfl); (case hn => rfl); (case hr => go_simp <;> rfl); intro w43 hw; have hg : wr.grownBy w43 (some go18) := (by rw [hw]; exact HP42.2); have hp_ : Kd.R (Kd.int .i64) 3 w43 w.heap.size (fun k_ => some k_ ≠ (.slice (some ad184) x7_3.length co41 : Value).ownBlock) (.slice (some ⟨go18, 0, none⟩) x5_3.length co9) y186 := (by rw [hw, Ny186.1]; exact HP42.1); clear HP42; replace HO_7 := hqZ (Kd.R_after (v := (.slice (some ⟨go18, 0, none⟩) x5_3.length co9)) (v1 := (.slice (some ⟨go18, 0, none⟩) x5_3.length co9)) (ok := (fun _ => True)) (Kd.R_mono HO_7.1 (fun _ hk => ⟨trivial, hk⟩)) hg (.inl rfl)); replace BK171 := hqZ (zr0 (g := gb171) (BK171.1) hg (Kd.R_ne HO_5.1 BK171.1 (by decide))); replace HO_5 := hqZ (hp_); replace HB := hqZ ((by rw [hw]; exact zf0 (HB.1) GB18.1 : Below w.heap.size w w43)); clear hg hw hp_) | ((with_reducible refine gate_builtin (b := .append) (xs := #[.tmp 64, .tmp 66]) rfl ?_); at_builtin; refine Kd.R_append (Kd.int .i64) (w0 := w) w.heap.size rfl (.tmp 64) (.tmp 66) 27 3 (.int .i64 0) 8 rfl Try.underlying27 info3 rfl (by decide) (by omega) (.slice (some ad184) x7_3.length co41) x7_3 (rd (rd_L2 l0_0 (rd x7_2 x8_2)) x44_3) [.int .i64 (rd (rd_L2 l0_0 (rd x7_2 x8_2)) x44_3)] (fun k_ => some k_ ≠ (.slice (some ⟨go18, 0, none⟩) x5_3.length co9 : Value).ownBlock) (fun _ => False) rfl rfl ?aP (fun _ hk => hk.elim) ?aF ?aO ?aB ?aS ?aL ?_; (case aP => exact rfl); (case aB => exact (HB.1)); (case aF => exact (fun k_ hk => Kd.fresh' (Kd.R_lt (HO_5.1)) k_ hk)); (case aO => exact (Kd.R_mono HO_7.1 (fun _ hk => hk.2))); (case aS => exact (zb0 (HB.1))); (case aL => have := LMc40.1; omega); intro v188 w44 ho hb hg hat; rw [← Ny187.1] at ho; have n0_ := hqZ (Kd.R_after (ok := (fun _ => True)) (Kd.R_mono HO_5.1 (fun _ hk => ⟨trivial, hk⟩)) hg hat); have n1_ := hqZ (zr0 (g := gb171) (BK171.1) hg (Kd.R_ne HO_7.1 BK171.1 (by decide))); have n2_ := hqZ (hb); have n3_ := hqZ (ho); clear HO_5; clear BK171; clear HB; clear HO_7; have HO_5 := n0_; have BK171 := n1_; have HB := n2_; have HO189 := n3_; clear n0_ n1_ n2_ n3_; clear ho hb hg hat))
    repeat (go_quiet (first | ((with_reducible refine gate_store (t := 3) (p := 63) rfl ?_); (try (rw [drewN_self wr]; generalize hq_ : World.drewN wr _ = wr; have n0_ := hqZ (Kd.R_at hq_ HO_5.1); have n1_ := hqZ (Kd.R_at hq_ HO_7.1); have n2_ := hqZ (blk_at hq_ BK171.1); have n3_ := hqZ (below_at hq_ HB.1); clear hq_ HO_5 HO_7 BK171 HB; have HO_5 := n0_; have HO_7 := n1_; have BK171 := n2_; have HB := n3_; clear n0_ n1_ n2_ n3_; (try (have HP42 := Kd.R_putg HO_5.1 ((rd (rd_L2 l0_0 (rd x7_2 x8_2)) x44_3) : Int) (wrap64 ((rd x5_3 (rd x7_3 x8_2)) + 1)))))); refine store_event (t := 3) (p := 63) (v := ?vo_w43) (w1 := (wr.setCell ⟨go18, ((rd (rd_L2 l0_0 (rd x7_2 x8_2)) x44_3) : Int).toNat, none⟩ (.int .i64 (wrap64 ((rd x5_3 (rd x7_3 x8_2)) + 1))))) ?hg ?ho ?hn ?hr ?_; (case ho => rfl); (case hg => rfl); (case hn => rfl); (case hr => go_simp <;> rfl); intro w43 hw; have hg : wr.grownBy w43 (some go18) := (by rw [hw]; exact HP42.2); have hp_ : Kd.R (Kd.int .i64) 3 w43 w.heap.size (fun k_ => some k_ ≠ (.slice (some ad184) x7_3.length co41 : Value).ownBlock) (.slice (some ⟨go18, 0, none⟩) x5_3.length co9) y186 := (by rw [hw, Ny186.1]; exact HP42.1); clear HP42; replace HO_7 := hqZ (Kd.R_after (v := (.slice (some ⟨go18, 0, none⟩) x5_3.length co9)) (v1 := (.slice (some ⟨go18, 0, none⟩) x5_3.length co9)) (ok := (fun _ => True)) (Kd.R_mono HO_7.1 (fun _ hk => ⟨trivial, hk⟩)) hg (.inl rfl)); replace BK171 := hqZ (zr0 (g := gb171) (BK171.1) hg (Kd.R_ne HO_5.1 BK171.1 (by decide))); replace HO_5 := hqZ (hp_); replace HB := hqZ ((by rw [hw]; exact zf0 (HB.1) GB18.1 : Below w.heap.size w w43)); clear hg hw hp_) | ((with_reducible refine gate_builtin (b := .append) (xs := #[.tmp 64, .tmp 66]) rfl ?_); at_builtin; refine Kd.R_append (Kd.int .i64) (w0 := w) w.heap.size rfl (.tmp 64) (.tmp 66) 27 3 (.int .i64 0) 8 rfl Try.underlying27 info3 rfl (by decide) (by omega) (.slice (some ad184) x7_3.length co41) x7_3 (rd (rd_L2 l0_0 (rd x7_2 x8_2)) x44_3) [.int .i64 (rd (rd_L2 l0_0 (rd x7_2 x8_2)) x44_3)] (fun k_ => some k_ ≠ (.slice (some ⟨go18, 0, none⟩) x5_3.length co9 : Value).ownBlock) (fun _ => False) rfl rfl ?aP (fun _ hk => hk.elim) ?aF ?aO ?aB ?aS ?aL ?_; (case aP => exact rfl); (case aB => exact (HB.1)); (case aF => exact (fun k_ hk => Kd.fresh' (Kd.R_lt (HO_5.1)) k_ hk)); (case aO => exact (Kd.R_mono HO_7.1 (fun _ hk => hk.2))); (case aS => exact (zb0 (HB.1))); (case aL => have := LMc40.1; omega); intro v188 w44 ho hb hg hat; rw [← Ny187.1] at ho; have n0_ := hqZ (Kd.R_after (ok := (fun _ => True)) (Kd.R_mono HO_5.1 (fun _ hk => ⟨trivial, hk⟩)) hg hat); have n1_ := hqZ (zr0 (g := gb171) (BK171.1) hg (Kd.R_ne HO_7.1 BK171.1 (by decide))); have n2_ := hqZ (hb); have n3_ := hqZ (ho); clear HO_5; clear BK171; clear HB; clear HO_7; have HO_5 := n0_; have BK171 := n1_; have HB := n2_; have HO189 := n3_; clear n0_ n1_ n2_ n3_; clear ho hb hg hat)); try go_wp2_with (first | ((with_reducible refine gate_store (t := 3) (p := 63) rfl ?_); (try (rw [drewN_self wr]; generalize hq_ : World.drewN wr _ = wr; have n0_ := hqZ (Kd.R_at hq_ HO_5.1); have n1_ := hqZ (Kd.R_at hq_ HO_7.1); have n2_ := hqZ (blk_at hq_ BK171.1); have n3_ := hqZ (below_at hq_ HB.1); clear hq_ HO_5 HO_7 BK171 HB; have HO_5 := n0_; have HO_7 := n1_; have BK171 := n2_; have HB := n3_; clear n0_ n1_ n2_ n3_; (try (have HP42 := Kd.R_putg HO_5.1 ((rd (rd_L2 l0_0 (rd x7_2 x8_2)) x44_3) : Int) (wrap64 ((rd x5_3 (rd x7_3 x8_2)) + 1)))))); refine store_event (t := 3) (p := 63) (v := ?vo_w43) (w1 := (wr.setCell ⟨go18, ((rd (rd_L2 l0_0 (rd x7_2 x8_2)) x44_3) : Int).toNat, none⟩ (.int .i64 (wrap64 ((rd x5_3 (rd x7_3 x8_2)) + 1))))) ?hg ?ho ?hn ?hr ?_; (case ho => rfl); (case hg => rfl); (case hn => rfl); (case hr => go_simp <;> rfl); intro w43 hw; have hg : wr.grownBy w43 (some go18) := (by rw [hw]; exact HP42.2); have hp_ : Kd.R (Kd.int .i64) 3 w43 w.heap.size (fun k_ => some k_ ≠ (.slice (some ad184) x7_3.length co41 : Value).ownBlock) (.slice (some ⟨go18, 0, none⟩) x5_3.length co9) y186 := (by rw [hw, Ny186.1]; exact HP42.1); clear HP42; replace HO_7 := hqZ (Kd.R_after (v := (.slice (some ⟨go18, 0, none⟩) x5_3.length co9)) (v1 := (.slice (some ⟨go18, 0, none⟩) x5_3.length co9)) (ok := (fun _ => True)) (Kd.R_mono HO_7.1 (fun _ hk => ⟨trivial, hk⟩)) hg (.inl rfl)); replace BK171 := hqZ (zr0 (g := gb171) (BK171.1) hg (Kd.R_ne HO_5.1 BK171.1 (by decide))); replace HO_5 := hqZ (hp_); replace HB := hqZ ((by rw [hw]; exact zf0 (HB.1) GB18.1 : Below w.heap.size w w43)); clear hg hw hp_) | ((with_reducible refine gate_builtin (b := .append) (xs := #[.tmp 64, .tmp 66]) rfl ?_); at_builtin; refine Kd.R_append (Kd.int .i64) (w0 := w) w.heap.size rfl (.tmp 64) (.tmp 66) 27 3 (.int .i64 0) 8 rfl Try.underlying27 info3 rfl (by decide) (by omega) (.slice (some ad184) x7_3.length co41) x7_3 (rd (rd_L2 l0_0 (rd x7_2 x8_2)) x44_3) [.int .i64 (rd (rd_L2 l0_0 (rd x7_2 x8_2)) x44_3)] (fun k_ => some k_ ≠ (.slice (some ⟨go18, 0, none⟩) x5_3.length co9 : Value).ownBlock) (fun _ => False) rfl rfl ?aP (fun _ hk => hk.elim) ?aF ?aO ?aB ?aS ?aL ?_; (case aP => exact rfl); (case aB => exact (HB.1)); (case aF => exact (fun k_ hk => Kd.fresh' (Kd.R_lt (HO_5.1)) k_ hk)); (case aO => exact (Kd.R_mono HO_7.1 (fun _ hk => hk.2))); (case aS => exact (zb0 (HB.1))); (case aL => have := LMc40.1; omega); intro v188 w44 ho hb hg hat; rw [← Ny187.1] at ho; have n0_ := hqZ (Kd.R_after (ok := (fun _ => True)) (Kd.R_mono HO_5.1 (fun _ hk => ⟨trivial, hk⟩)) hg hat); have n1_ := hqZ (zr0 (g := gb171) (BK171.1) hg (Kd.R_ne HO_7.1 BK171.1 (by decide))); have n2_ := hqZ (hb); have n3_ := hqZ (ho); clear HO_5; clear BK171; clear HB; clear HO_7; have HO_5 := n0_; have BK171 := n1_; have HB := n2_; have HO189 := n3_; clear n0_ n1_ n2_ n3_; clear ho hb hg hat)))
    (try simp only [← hl5_3])
    go_roundg k3
    case measure => have := HK1.1; have := HK2.1; have := HK3.1; omega
    case rel => exact ⟨(y186), (y187), (wrap64 (x44_3 + 1)), (rfl), H', ⟨by have := HK1.1; have := HK2.1; have := HK3.1; omega⟩, ⟨by (try simp only [hl5_1]); (try simp only [hl5_2]); (try simp only [hl5_3]); exact Kd.R_mono HO_5.1 (fun _ hk => hk.2)⟩, ⟨by (try simp only [hl5_1]); (try simp only [hl5_2]); (try simp only [hl5_3]); exact HO189.1⟩, ⟨by (try simp only [hl5_1]); (try simp only [hl5_2]); (try simp only [hl5_3]); exact BK171.1⟩, ⟨HB.1⟩⟩
end Go.Proofs.Ytdfabioienofhaa.P
