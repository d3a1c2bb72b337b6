-- Printed by a program of this session (pp.sh), out of the translation; Lean checks it.
import Derived.RangeFuncBox
import Derived.RangeFuncLeaves
import Derived.Shelf.Abstract
import Derived.OwnWalkIn
import Derived.TacticsInMore
import Derived.LoopNIn
import Derived.LoopIn
import Derived.Test.YtokmlipjicigcaaP0
import Derived.Test.YtokmlipjicigcaaPslicesinsertionSortOrderedint
namespace Go.Proofs.Ytokmlipjicigcaa.P
open Go.RowKit Go.Proofs.YtokmlipjicigcaaW.PrintWords Go.Proofs.YtokmlipjicigcaaW.PrintLast Go.Proofs.YtokmlipjicigcaaW.PrintMore
attribute [local go_sem] max2_int min2_int max_two min_two max_three min_three max_four min_four   -- for this text's walks alone
set_option linter.unusedVariables false
set_option linter.unusedSimpArgs false

/-! ### impl_areNames: function 40 -/
attribute [local go_sem] Oper.semAt_some
open Go.Shelf
/-- What has come when k rounds are over. -/
def upI (zs : List Int) (k : Nat) : List Int := (List.range k).map (fun j : Nat => rd zs (j : Int))
theorem upI_succ (zs : List Int) (k : Nat) : upI zs (k + 1) = upI zs k ++ [rd zs (k : Int)] := by simp [upI, List.range_succ]
theorem upI_length (zs : List Int) (k : Nat) : (upI zs k).length = k := by simp [upI]
theorem upI_all (zs : List Int) : upI zs zs.length = zs := by
  apply List.ext_getElem
  · simp [upI]
  · intro i h1 h2
    simp [upI, rd, h2]
set_option maxRecDepth 100000 in
set_option maxHeartbeats 2000000 in
theorem values1_in (F : Fence) (n : Nat) (h7 : F.fn 66) (hro : F.round = none) (hn : 1 ≤ n) (l Bs n₀ : Nat) (ad : Addr) (cap : Nat) (zs : List Int) (hl0 : 0 < zs.length) (hreach : zs.length ≤ 1000) (J Jx : List Int → World → Prop)
    (hY : ∀ pre x W, J pre W → pre.length < zs.length → YieldAt F (n - 1) Try.prog l #[.int .i64 x] W fun e W' =>
      (e = .returned (.bool true) ∧ J (pre ++ [x]) W' ∧ Below n₀ W W') ∨ (e = .returned (.bool false) ∧ Jx (pre ++ [x]) W'))
    (W : World) (hb : ad.block < n₀) (hBs : W.cell? ⟨Bs, 0, none⟩ = some (.slice (some ad) zs.length cap)) (hc : ∀ j, j < zs.length → W.cell? (ad.add j) = some (.int .i64 (rd zs (j : Int)))) (h0 : J [] W) :
    CallsIn F n Try.prog 66 #[.func (.yield l) #[] #[], .pointer (some ⟨Bs, 0, none⟩)] W fun e W' => (∃ v, e = .returned v) ∧
      ((∃ ys, ys = zs ∧ J ys W') ∨ (∃ pre, (∃ k, k ≤ zs.length ∧ pre = upI zs k) ∧ Jx pre W')) := by
  refine callsIn_of_wp Try.func66 rfl h7 ?_ hro
  simp only [Try.ntmps66, List.size_toArray, List.length_cons, List.length_nil, Nat.reduceAdd, Nat.reduceSub, Array.replicate_succ, Array.replicate_zero, List.push_toArray, List.append_toArray, List.nil_append, List.cons_append]
  gi_wp2
  gi_loopw [7] (fun i wr => ∃ k : Nat, k ≤ zs.length ∧ i = .int .i64 k ∧ J (upI zs k) wr ∧ Below n₀ W wr)
    (fun i _ => zs.length - (intOf i).toNat)
  case atStart => exact ⟨0, Nat.zero_le _, rfl, h0, Below.refl _ _⟩
  case round =>
    obtain ⟨k, hk, rfl, hJs, hnx⟩ := hrel
    have hcx : k < zs.length → wr.cell? (ad.add k) = some (.int .i64 (rd zs (k : Int))) := fun h => (hnx.cell (p := ad.add k) (by rw [add_block]; exact hb)).trans (hc k h)
    by_cases hlt : k < zs.length
    · obtain ⟨fn, tmps, assign, body, hy, hR⟩ := hY _ (rd zs (k : Int)) wr hJs (by rw [upI_length]; exact hlt)
      have hcx' := hcx hlt
      have hltz : (k : Int) < (zs.length : Int) := by omega
      have c0b := decide_eq_true hltz
      gi_wp2
      refine hR.mono ?_
      rintro e W3 (⟨rfl, hJ3, hk3⟩ | ⟨rfl, hJx3⟩)
      · gi_wp2
        go_roundw
        case rel => exact ⟨k + 1, by omega, by simp, by rw [upI_succ]; exact hJ3, hnx.trans hk3⟩
        case measure => simp [intOf]; omega
      · gi_wp2
        refine bodyPost_ret (results_none rfl _ _ _) rfl ?_
        exact ⟨⟨_, rfl⟩, .inr ⟨_, ⟨k + 1, by omega, (upI_succ _ _).symm⟩, hJx3⟩⟩
    · obtain rfl : k = zs.length := by omega
      gi_wp2
      go_end0
      exact ⟨⟨_, rfl⟩, .inl ⟨_, rfl, by rw [← upI_all zs]; exact hJs⟩⟩
theorem values_stops (F : Fence) (n : Nat) (h7 : F.fn 66) (hro : F.round = none) (hn : 1 ≤ n) (Bs n₀ : Nat) (ad : Addr) (cap : Nat) (zs : List Int) (hl0 : 0 < zs.length) (hreach : zs.length ≤ 1000) (w : World) (hBs : Bs < w.heap.size) (hn₀ : n₀ ≤ w.heap.size) (hb : ad.block < n₀)
    (hc : w.cell? ⟨Bs, 0, none⟩ = some (.slice (some ad) zs.length cap)) (hI : ∀ j, j < zs.length → w.cell? (ad.add j) = some (.int .i64 (rd zs (j : Int)))) :
    SeqStopsK F n Try.prog 66 #[.pointer (some ⟨Bs, 0, none⟩)] (fun x : Int => #[Value.int .i64 x]) (Below n₀) (fun ys => ys = zs) (fun pre => ∃ k, k ≤ zs.length ∧ pre = upI zs k) zs.length w := fun l J Jx W hW _ _ hY h0 =>
  values1_in F n h7 hro hn l Bs n₀ ad cap zs hl0 hreach J Jx hY W hb ((hW.cell (p := ⟨Bs, 0, none⟩) hBs).trans hc) (fun j hj => (hW.cell (p := ad.add j) (by rw [add_block]; omega)).trans (hI j hj)) h0
set_option maxRecDepth 100000 in
set_option maxHeartbeats 2000000 in
theorem appendSeq_in (F : Fence) (n : Nat) (h7 : F.fn 66) (h3 : F.fn 70) (hro : F.round = none) (hn : 3 ≤ n) (Bs : Nat) (ad : Addr) (cap : Nat) (zs : List Int) (hl0 : 0 < zs.length) (hreach : zs.length ≤ 1000) (w : World) (hBs : Bs < w.heap.size) (hb : ad.block < w.heap.size)
    (hc : w.cell? ⟨Bs, 0, none⟩ = some (.slice (some ad) zs.length cap)) (hI : ∀ j, j < zs.length → w.cell? (ad.add j) = some (.int .i64 (rd zs (j : Int)))) :
    CallsIn F n Try.prog 70 #[.slice none 0 0, .func (.func 66) #[] #[.pointer (some ⟨Bs, 0, none⟩)]] w fun e W' => ∃ v, e = .returned v ∧ W'.ownsRow w.heap.size 3 1 v zs.length (zs.map (Value.int .i64)) ∧ Below w.heap.size w W' := by
  have h1 : 1 ≤ n := by omega
  obtain ⟨i0, hi, hz0, hz1, hz2⟩ := info_parts (show (Try.prog.info? 3).map (fun i => (i.zero, i.size, i.bytes)) = some (some (.int .i64 0), 1, 8) by kernel_rfl)
  refine callsIn_of_wp_marks Try.func70 rfl h3 ?_ hro
  simp only [Try.ntmps70, List.size_toArray, List.length_cons, List.length_nil, Nat.reduceAdd, Nat.reduceSub, Array.replicate_succ, Array.replicate_zero, List.push_toArray, List.append_toArray, List.nil_append, List.cons_append]
  gi_wp2
  have bO := Boxed.new w 35 (.slice none 0 0)
  have hB0 : Below w.heap.size w (w.alloc (.cells #[.slice none 0 0] 35)) := (Below.refl _ w).alloc (Nat.le_refl _) _
  refine wpIn_rangeFunc_ownG hro h1 (gf := 66) (lb := #[.pointer (some ⟨Bs, 0, none⟩)]) rfl h7 (enters_of Try.func66 (by kernel_rfl) rfl)
    (values_stops F (n - 1) h7 hro (by omega) Bs w.heap.size ad cap zs hl0 hreach (w.alloc (.cells #[.slice none 0 0] 35)) (by simp; omega) (by simp) hb ((hB0.cell (p := ⟨Bs, 0, none⟩) hBs).trans hc) (fun j hj => (hB0.cell (p := ad.add j) (by rw [add_block]; exact hb)).trans (hI j hj))) belowK_t (belowK_b (by simp)) (Below.refl _ _) (fun _ => rfl)
    (fun pre W => (∃ v, Boxed W w.heap.size 35 v ∧ W.ownsRow w.heap.size 3 1 v pre.length (pre.map (Value.int .i64)) ∧ True) ∧ Below w.heap.size w W)
    (fun _ _ _ => False)
    (OwnFrom.and (Own.from (holdsRow_own w.heap.size w.heap.size 35 3 1 (fun pre : List Int => pre.length) (fun pre => pre.map (Value.int .i64)) (fun pre v => True)) _) (ownFrom_below (Nat.le_refl _) (by simp)))
    (fun _ _ _ _ _ hs _ _ => hs)
    ⟨⟨_, bO, World.ownsRow_nil _ _ _ _, trivial⟩, hB0⟩
    (fun x => { tmps := #[.slice none 0 0, .func (.func 66) #[] #[.pointer (some ⟨Bs, 0, none⟩)], .pointer (some ⟨w.heap.size, 0, none⟩), undef, .slice none 0 0, .int .i64 x, .func (.func 66) #[] #[.pointer (some ⟨Bs, 0, none⟩)], .int .i64 x, undef, undef, undef, undef, undef], defers := [] }) ?assign ?body ?done ?stop
  case assign =>
    intro l x W K hK
    gi_wp2
    exact hK
  case body =>
    rintro l pre x W ⟨⟨v, hv, hrow, _⟩, hB⟩ hlt
    have hc := hv.cell
    gi_wp2_with (gi_at_builtin; refine wpListIn_append_own _ rfl _ _ 35 rfl w.heap.size 3 i0 (.int .i64 0) 1 8 Try.underlying35 hi hz0 hz1 hz2 rfl (by decide) _ _ _ rfl (hrow.alloc _) ⟨W.heap.size, 0, none⟩ 1 1 [.int .i64 x] rfl rfl (cell_one_new _ _ _) (by simp [Value.oneCell']) (by simp [maxLen]; omega) (by omega) (by have := hB.size; simp; omega) ?_; intro v' w1 hown' hgrow _; obtain ⟨g', cap', rfl⟩ := ownsRow_succ hown'; obtain ⟨hv1, hv2, hr2, hk2, hb2⟩ := hv.appended (by decide) hrow hB.size (Nat.le_refl _) hown' hgrow; have hc1 := hv1.cell; have hf1 := hv1.frozen)
    exact ⟨hk2.from _, hb2, ⟨_, hv2, by simpa using hr2, trivial⟩, hB.trans hb2⟩
  case done =>
    rintro D ys W hD rfl ⟨⟨v, hv, hrow, _⟩, hB⟩ hK
    have hc := hv.cell
    gi_wp2
    refine ⟨by simp, .inl ⟨_, _, rfl, run_takeDeferred hK, ?_⟩⟩
    exact ⟨_, results_tmp rfl _ _ _, v, rfl, ownsRow_putObj hrow _ hK rfl, hB.trans (belowK_b (w := w) (Nat.le_refl _) W D _ _ (by simp at hD; omega) hK rfl rfl)⟩
  case stop =>
    rintro D c pre W _ _ h _
    exact h.elim
set_option maxRecDepth 100000 in
theorem collect_calls (Bs : Nat) (ad : Addr) (cap : Nat) (zs : List Int) (hl0 : 0 < zs.length) (hreach : zs.length ≤ 1000) (w : World) (hBs : Bs < w.heap.size) (hb : ad.block < w.heap.size)
    (hc : w.cell? ⟨Bs, 0, none⟩ = some (.slice (some ad) zs.length cap)) (hI : ∀ j, j < zs.length → w.cell? (ad.add j) = some (.int .i64 (rd zs (j : Int)))) :
    Calls Try.prog 64 #[.func (.func 66) #[] #[.pointer (some ⟨Bs, 0, none⟩)]] w fun e W' => ∃ v, e = .returned v ∧ W'.ownsRow w.heap.size 3 1 v zs.length (zs.map (Value.int .i64)) ∧ Below w.heap.size w W' := by
  have HA := Aside0.mk (callsIn_wide.1 (appendSeq_in Fence.wide 3 trivial trivial rfl (Nat.le_refl _) Bs ad cap zs hl0 hreach w hBs hb hc hI))
  go_enter Try.func64, Try.ntmps64
  go_wp2_with (go_at_call 70; refine HA.out.mono ?_; rintro e w' ⟨v, rfl, hv, hb⟩)
  go_ret
  exact ⟨_, rfl, hv, hb⟩
set_option maxHeartbeats 4000000 in
set_option maxRecDepth 100000 in
theorem bitsLen64_calls (n : Nat) (h : n ≤ 12) (w : World) : Calls Try.prog 84 #[.int .u64 n] w fun e w' => ∃ j : Int, e = .returned (.int .i64 j) ∧ Drawn0 w w' := by
  have hs : n = 0 ∨ n = 1 ∨ n = 2 ∨ n = 3 ∨ n = 4 ∨ n = 5 ∨ n = 6 ∨ n = 7 ∨ n = 8 ∨ n = 9 ∨ n = 10 ∨ n = 11 ∨ n = 12 := by omega
  rcases hs with rfl | rfl | rfl | rfl | rfl | rfl | rfl | rfl | rfl | rfl | rfl | rfl | rfl
  all_goals
    go_enter Try.func84, Try.ntmps84
    go_wp2
    go_ret
    exact ⟨_, rfl, by repeat (first | exact Drawn0.refl _ | apply Drawn0.step)⟩
theorem bitsLen_calls (n : Nat) (h : n ≤ 12) (w : World) : Calls Try.prog 72 #[.int .u64 n] w fun e w' => ∃ j : Int, e = .returned (.int .i64 j) ∧ Drawn0 w w' := by
  go_enter Try.func72, Try.ntmps72
  go_wp2_with (go_at_call 84; refine (bitsLen64_calls n h _).mono ?_; rintro e w' ⟨j, rfl, ⟨nd, rfl⟩⟩)
  go_ret
  exact ⟨_, rfl, by repeat (first | exact Drawn0.refl _ | apply Drawn0.step)⟩
set_option maxRecDepth 100000 in
theorem pdq_calls (k : Nat) (P0_ : Nat → Prop) (u : Value) (l0 : List Int) (r : List Int) (lim : Int) (hn : l0.length ≤ 12) (w0 w : World) (hB : Below w0.heap.size w0 w) (ho0 : Kd.R (Kd.int .i64) 3 w w0.heap.size P0_ u l0) (h : slices_insertionSortOrdered_int.f k l0 0 (l0.length : Int) = some r) :
    Calls Try.prog 71 #[u, .int .i64 0, .int .i64 (l0.length : Int), .int .i64 lim] w fun e w' => e = .returned (.tuple #[]) ∧ Kd.R (Kd.int .i64) 3 w' w0.heap.size (fun k_ => (P0_ k_ ∨ w.heap.size ≤ k_)) u r ∧ Below w0.heap.size w0 w' := by
  have HO := Aside0.mk ho0
  have HB := Aside0.mk hB
  have HA := Aside0.mk h
  have hw : IntKind.i64.wrap ((l0.length : Int) - 0) = (l0.length : Int) := by rw [i64_w]; unfold wrap64; omega
  have hd : decide ((l0.length : Int) ≤ 12) = true := decide_eq_true (by omega)
  clear ho0 hB h
  go_enter Try.func71, Try.ntmps71
  go_wp2
  refine wp_loop_once ?_
  go_wp2_with (go_at_call 74; refine (slices_insertionSortOrdered_int.calls k P0_ u l0 0 (l0.length : Int) r w0 _ (by repeat (first | exact HB.out | apply pw_below_drewN | apply below_drew1)) (by (with_reducible repeat (first | apply Kd.R_alloc | apply Kd.R_drewN | apply Kd.R_drew)); exact HO.out) HA.out).mono ?_; rintro e w' ⟨rfl, hO, hB, hK⟩)
  refine bodyPost_ret (results_none rfl _ _ _) rfl ?_
  exact ⟨rfl, Kd.R_mono hO (fun _ h => h), hB⟩
set_option maxRecDepth 100000 in
theorem sort_calls (k : Nat) (P0_ : Nat → Prop) (u : Value) (l0 : List Int) (r : List Int) (hn : l0.length ≤ 12) (w0 w : World) (hB : Below w0.heap.size w0 w) (ho0 : Kd.R (Kd.int .i64) 3 w w0.heap.size P0_ u l0) (h : slices_insertionSortOrdered_int.f k l0 0 (l0.length : Int) = some r) :
    Calls Try.prog 65 #[u] w fun e w' => e = .returned (.tuple #[]) ∧ Kd.R (Kd.int .i64) 3 w' w0.heap.size (fun k_ => (P0_ k_ ∨ w.heap.size ≤ k_)) u r ∧ Below w0.heap.size w0 w' := by
  obtain ⟨A, c, rfl⟩ := Kd.R_slice ho0
  have HO := Aside0.mk ho0
  have HB := Aside0.mk hB
  have HA := Aside0.mk h
  have hw : IntKind.u64.wrap (l0.length : Int) = (l0.length : Int) := by unfold IntKind.wrap; simp [IntKind.bits, IntKind.signed]; omega
  clear ho0 hB h
  go_enter Try.func65, Try.ntmps65
  go_wp2_with (first | (go_at_call 72; refine (bitsLen_calls l0.length hn _).mono ?_; rintro e w' ⟨j, rfl, ⟨nd, rfl⟩⟩) | (go_at_call 71; refine (pdq_calls k P0_ _ l0 r _ hn w0 _ (by repeat (first | exact HB.out | apply pw_below_drewN | apply below_drew1)) (by (with_reducible repeat (first | apply Kd.R_alloc | apply Kd.R_drewN | apply Kd.R_drew)); exact HO.out) HA.out).mono ?_; rintro e w' ⟨rfl, hO, hB⟩))
  go_end0
  exact ⟨rfl, Kd.R_mono hO (fun _ h => by simpa using h), hB⟩
set_option maxRecDepth 100000 in
theorem sorted_calls (k : Nat) (Bs : Nat) (ad : Addr) (cap : Nat) (zs r : List Int) (hl0 : 0 < zs.length) (hn : zs.length ≤ 12) (w : World) (hBs : Bs < w.heap.size) (hb : ad.block < w.heap.size)
    (hc : w.cell? ⟨Bs, 0, none⟩ = some (.slice (some ad) zs.length cap)) (hI : ∀ j, j < zs.length → w.cell? (ad.add j) = some (.int .i64 (rd zs (j : Int)))) (h : slices_insertionSortOrdered_int.f k zs 0 (zs.length : Int) = some r) :
    Calls Try.prog 58 #[.func (.func 66) #[] #[.pointer (some ⟨Bs, 0, none⟩)]] w fun e W' => ∃ v, e = .returned v ∧ Kd.R (Kd.int .i64) 3 W' w.heap.size (fun _ => True) v r ∧ Below w.heap.size w W' := by
  have HA := Aside0.mk h
  have HC := Aside0.mk (collect_calls Bs ad cap zs hl0 (by omega) w hBs hb hc hI)
  clear h hc hI
  go_enter Try.func58, Try.ntmps58
  go_wp2_with (first | (go_at_call 64; refine HC.out.mono ?_; rintro e w1 ⟨v, rfl, hv, hb1⟩; have HO1 := Aside0.mk (Kd.R_of_own (enc := Value.int .i64) (h1 := fun _ => rfl) (ok := fun _ => True) hv (fun _ _ => trivial)); have HB1 := Aside0.mk hb1; clear hv hb1) | (go_at_call 65; refine (sort_calls k (fun _ => True) _ zs r hn w _ (by repeat (first | exact HB1.out | apply pw_below_drewN | apply below_drew1)) (by (with_reducible repeat (first | apply Kd.R_alloc | apply Kd.R_drewN | apply Kd.R_drew)); exact HO1.out) HA.out).mono ?_; rintro e w2 ⟨rfl, hO2, hB2⟩))
  go_ret
  exact ⟨_, rfl, Kd.R_mono hO2 (fun _ _ => trivial), hB2⟩
theorem values_calls (A1 : Option Addr) (n c1 : Nat) (w : World) :
    Calls Try.prog 59 #[.slice A1 n c1] w fun e W' => ∃ Bs, e = .returned (.func (.func 66) #[] #[.pointer (some ⟨Bs, 0, none⟩)]) ∧ Bs < W'.heap.size ∧ W'.cell? ⟨Bs, 0, none⟩ = some (.slice A1 n c1) ∧ Below w.heap.size w W' := by
  go_enter Try.func59, Try.ntmps59
  go_wp2
  go_ret
  exact ⟨_, rfl, by simp, by simp [World.cell?_alloc_new], by repeat (first | exact Below.refl _ _ | apply below_alloc | apply pw_below_drewN | apply below_drew1)⟩
def isRun (s : List Int) : Bool := (List.range s.length).all (fun i : Nat => decide ((i : Int) = rd s (i : Int)))
def impl_areNames.f (k : Nat) (l0_0 : List (List Int)) (l1 : List Int) : Option Bool :=
  if l1.length = l0_0.length then (if 0 < l1.length ∧ l1.length ≤ 12 then (slices_insertionSortOrdered_int.f k l1 0 (l1.length : Int)).bind (fun s => some (isRun s)) else none) else some false
theorem impl_areNames.mono : ∀ a0 a1 k, LeO (impl_areNames.f k a0 a1) (impl_areNames.f (k + 1) a0 a1) := by
  intro a0 a1 k
  unfold impl_areNames.f
  exact LeO.ite (LeO.ite (LeO.bind (slices_insertionSortOrdered_int.mono _ _ _ _) (fun _ => LeO.refl _)) (LeO.none _)) (LeO.refl _)
theorem isRun_true {s : List Int} (h : ∀ j : Nat, j < s.length → (j : Int) = rd s (j : Int)) : isRun s = true := by
  unfold isRun; rw [List.all_eq_true]; intro j hj; exact decide_eq_true (h j (List.mem_range.1 hj))
theorem isRun_false {s : List Int} {j : Nat} (hj : j < s.length) (h : ¬ (j : Int) = rd s (j : Int)) : isRun s = false := by
  unfold isRun; rw [List.all_eq_false]; exact ⟨j, List.mem_range.2 hj, by simp [h]⟩
set_option maxHeartbeats 8000000 in
set_option maxRecDepth 100000 in
theorem impl_areNames.calls (k : Nat) (A0_0 : Option Addr) (c0_0 : Nat) (l0_0 : List (List Int)) (A1 : Option Addr) (c1 : Nat) (l1 : List Int) (r : Bool) (w : World) (hr0_0 : Kd.C (Kd.slice 3 (Kd.int .i64)) w A0_0 l0_0.length l0_0) (hc0_0 : l0_0.length ≤ c0_0) (hr1 : Kd.C (Kd.int .i64) w A1 l1.length l1) (hc1 : l1.length ≤ c1) (h : impl_areNames.f k l0_0 l1 = some r) :
    Calls Try.prog 40 #[.agg #[.slice A0_0 l0_0.length c0_0], .slice A1 l1.length c1] w fun e w' => e = .returned (.bool r) ∧ Below w.heap.size w w' := by
  have hu25 := Try.underlying28
  have HR1 := Aside0.mk hr1
  clear hr1 hr0_0
  unfold impl_areNames.f at h
  by_cases hlen : l1.length = l0_0.length
  · rw [if_pos hlen] at h
    have hne : ((l1.length : Int) != (l0_0.length : Int)) = false := by simp [hlen]
    by_cases hn : 0 < l1.length ∧ l1.length ≤ 12
    · rw [if_pos hn] at h
      obtain ⟨s, hs, h⟩ := Option.bind_eq_some_iff.mp h
      have HS := Aside0.mk hs
      have HRr := Aside0.mk h
      clear hs h
      obtain ⟨ad, e, hcell⟩ : ∃ ad, A1 = some ad ∧ ∀ j : Nat, j < l1.length → w.cell? (ad.add j) = some (.int .i64 (rd l1 (j : Int))) := by
        obtain ⟨ad, e, _⟩ := Kd.at_int HR1.out 0 (by omega) (by omega)
        refine ⟨ad, e, fun j hj => ?_⟩
        obtain ⟨ad', e', hx⟩ := Kd.at_int HR1.out (j : Int) (by omega) (by omega)
        rw [e] at e'; injection e' with e'; subst e'
        simpa using hx
      subst e
      have HC := Aside0.mk hcell
      have HAD := Aside0.mk (show ad.block < w.heap.size by
        have h0 := hcell 0 hn.1
        exact World.block_lt_of_cell? _ _ h0)
      clear hcell
      have HLEN := Aside0.mk hlen
      have HN := Aside0.mk hn
      clear hlen hn
      go_enter Try.func40, Try.ntmps40
      go_wp2_with (first | (go_at_call 59; refine (values_calls _ _ _ _).mono ?_; rintro e w1 ⟨Bs, rfl, hBs, hcB, hb1⟩; have HB := Aside0.mk (show Below w.heap.size w w1 from below_step (by repeat (first | exact Below.refl _ _ | apply below_alloc | apply pw_below_drewN | apply below_drew1)) hb1); clear hb1; have HCB := Aside0.mk hcB; have HBs := Aside0.mk hBs; clear hcB hBs) | (go_at_call 58; refine (sorted_calls k Bs ad c1 l1 s HN.out.1 HN.out.2 w1 HBs.out (Nat.lt_of_lt_of_le HAD.out (below_size HB.out)) HCB.out (fun j hj => pw_cell_below HB.out (HC.out j hj)) HS.out).mono ?_; rintro e w2 ⟨v, rfl, ho, hb2⟩; obtain ⟨As, cs, rfl⟩ := Kd.R_slice ho; have HO := Aside0.mk ho; have HB2 := Aside0.mk (below_step HB.out hb2); clear ho hb2))
      have hsl : s.length ≤ 9223372036854775807 := (Kd.R_reads' HO.out).2.2.2.1
      have HSL := Aside0.mk hsl
      clear hsl
      go_loopw [17] (fun i wr => ∃ j : Nat, i = .int .i64 j ∧ Aside0 (j ≤ s.length) ∧ Aside0 (∀ t : Nat, t < j → (t : Int) = rd s (t : Int)) ∧ Aside0 (Kd.R (Kd.int .i64) 3 wr w1.heap.size (fun _ => True) (.slice As s.length cs) s) ∧ Aside0 (Below w.heap.size w wr)) (fun i _ => s.length - (intOf i).toNat)
      case atStart => exact ⟨0, rfl, ⟨Nat.zero_le _⟩, ⟨fun t h => absurd h (Nat.not_lt_zero _)⟩, HO, HB2⟩
      case round =>
        obtain ⟨j, rfl, HJ, HALL, HOr, HBr⟩ := hrel
        by_cases hj : j < s.length
        · obtain ⟨ad', e', hx⟩ := Kd.at_int (Kd.R_reads' HOr.out).2.2 (j : Int) (by omega) (by omega)
          cases e'
          have hxx : wr.cell? (ad'.add j) = some (.int .i64 (rd s (j : Int))) := by simpa using hx
          clear hx
          have hj1 : (j : Int) < (s.length : Int) := by omega
          have hjd := decide_eq_true hj1
          have p1 := eq_true (show (0 : Int) ≤ (j : Int) by omega)
          have q1 := eq_true hj1
          have hwj : wrap64 ((j : Int) + 1) = ((j + 1 : Nat) : Int) := by have := HSL.out; unfold wrap64; omega
          have HWJ := Aside0.mk hwj
          have HJL := Aside0.mk hj
          clear hj hj1 hwj
          by_cases he : (j : Int) = rd s (j : Int)
          · have hed : ((j : Int) != rd s (j : Int)) = false := by simpa using he
            have HE := Aside0.mk he
            clear he
            go_wp2
            go_roundw
            case rel => exact ⟨j + 1, by rw [HWJ.out], ⟨HJL.out⟩, ⟨fun t ht => by rcases Nat.lt_succ_iff_lt_or_eq.1 ht with h | rfl; exact HALL.out t h; exact HE.out⟩, HOr, HBr⟩
            case measure => rw [HWJ.out]; simp [intOf]; have := HJL.out; omega
          · have hed : ((j : Int) != rd s (j : Int)) = true := by simpa using he
            have HRES := Aside0.mk (show r = false by rw [isRun_false HJL.out he] at HRr; exact (Option.some.inj HRr.out).symm)
            clear he
            go_wp2
            go_ret
            exact ⟨by rw [HRES.out]; rfl, HBr.out⟩
        · have hjn := decide_eq_false hj
          have hjd := decide_eq_false (show ¬ (j : Int) < (s.length : Int) by omega)
          have HRES := Aside0.mk (show r = true by
            have : j = s.length := by have := HJ.out; omega
            subst this
            rw [isRun_true HALL.out] at HRr; exact (Option.some.inj HRr.out).symm)
          clear hj
          go_wp2
          go_ret
          exact ⟨by rw [HRES.out]; rfl, HBr.out⟩
    · rw [if_neg hn] at h; cases h
  · rw [if_neg hlen] at h
    obtain rfl := Option.some.inj h
    have hne : ((l1.length : Int) != (l0_0.length : Int)) = true := by simp; omega
    go_enter Try.func40, Try.ntmps40
    go_wp2
    go_ret
    exact ⟨rfl, by repeat (first | exact Below.refl _ _ | apply below_alloc | apply pw_below_drewN | apply below_drew1)⟩


end Go.Proofs.Ytokmlipjicigcaa.P
