-- Printed by a program of this session (pp.sh), out of the translation; Lean checks it.
import Derived.Test.YthjkhbfaenidpaaP0
import Derived.Test.YthjkhbfaenidpaaPbitsMul
namespace Go.Proofs.Ythjkhbfaenidpaa.P
open Go.RowKit Go.Proofs.YthjkhbfaenidpaaW.PrintWords Go.Proofs.YthjkhbfaenidpaaW.PrintLast Go.Proofs.YthjkhbfaenidpaaW.PrintMore
attribute [local go_sem] max2_int min2_int max_two min_two max_three min_three max_four min_four   -- for this text's walks alone
set_option linter.unusedVariables false
set_option linter.unusedSimpArgs false

/-! ### slices_Repeat_int_int: function 69 -/
def slices_Repeat_int_int.f (l0 : List Int) (a1 : Int) : Option (List Int) := if l0.length = 1 ∧ 1 ≤ a1 ∧ a1 ≤ 8 then some (List.replicate a1.toNat (l0.getD 0 0)) else none
theorem own_row {w : World} {b : Nat} {v : Value} {l : List Int} (h : Kd.R (Kd.int .i64) 3 w b (fun _ => True) v l) (hl : 0 < l.length) : ∃ (g cap : Nat) (cur : List Value), v = .slice (some ⟨g, 0, none⟩) l.length cap ∧ b ≤ g ∧ Aside0 (w.heap[g]? = some (.cells cur.toArray 3 (0, 0))) ∧ l.length ≤ cap ∧ cap ≤ maxLen ∧ cur.length = cap ∧ Aside0 (cur.take l.length = l.map (Value.int .i64)) := by
  obtain ⟨h1, h2⟩ := Kd.own_of_R h
  rcases h2 with ⟨_, h2⟩ | ⟨g, cap, cur, rfl, hg, hh, hn, hc, hs, ht⟩
  · omega
  · exact ⟨g, cap, cur.toList, rfl, hg, ⟨by simpa using hh⟩, hn, hc, by simpa using hs, ⟨by simpa [encs] using ht⟩⟩
theorem rep_at {f : Int → Value} {cu : List Value} {c n : Nat} {x z : Int} (h : cu.take n = (List.replicate c x ++ List.replicate (n - c) z).map f) {i : Nat} (hi : i < n) (hc : c ≤ n) : cu[i]? = some (f (if i < c then x else z)) := by
  have h1 : (cu.take n)[i]? = cu[i]? := by rw [List.getElem?_take, if_pos hi]
  rw [← h1, h, List.getElem?_map, List.getElem?_append, List.length_replicate]
  by_cases hic : i < c
  · rw [if_pos hic, if_pos hic, List.getElem?_replicate, if_pos hic]; rfl
  · rw [if_neg hic, if_neg hic, List.getElem?_replicate, if_pos (by omega)]; rfl
theorem splice_rep {f : Int → Value} (cu : List Value) (c m n : Nat) (x z : Int) (h : cu.take n = (List.replicate c x ++ List.replicate (n - c) z).map f) (hn : n ≤ cu.length) (h1 : m ≤ c) (h2 : c + m ≤ n) : (splice cu c (cu.take m)).take n = (List.replicate (c + m) x ++ List.replicate (n - (c + m)) z).map f := by
  have hl : (cu.take m).length = m := by rw [List.length_take]; omega
  apply List.ext_getElem?
  intro i
  by_cases hi : i < n
  · rw [List.getElem?_take, if_pos hi, List.getElem?_map, List.getElem?_append (l₁ := List.replicate (c + m) x), List.length_replicate]
    unfold splice
    rw [hl, List.getElem?_append, List.length_take, Nat.min_eq_left (by omega)]
    by_cases a : i < c
    · rw [if_pos a, List.getElem?_take, if_pos a, rep_at h hi (by omega), if_pos a, if_pos (by omega), List.getElem?_replicate, if_pos (by omega)]; rfl
    · rw [if_neg a, List.getElem?_append, hl]
      by_cases b : i - c < m
      · rw [if_pos b, List.getElem?_take, if_pos b, rep_at h (by omega) (by omega), if_pos (by omega), if_pos (by omega), List.getElem?_replicate, if_pos (by omega)]; rfl
      · rw [if_neg b, List.getElem?_drop, show c + m + (i - c - m) = i by omega, rep_at h hi (by omega), if_neg a, if_neg (by omega), List.getElem?_replicate, if_pos (by omega)]; rfl
  · rw [List.getElem?_eq_none (by rw [List.length_take]; omega), List.getElem?_eq_none (by simp; omega)]
theorem copy_cell {w : World} {g t m : Nat} {cu : List Value} (h : w.heap[g]? = some (.cells cu.toArray t (0, 0))) {j : Nat} {v : Value} (hj : (cu.take m)[j]? = some v) : w.cell? (Addr.add ⟨g, 0, none⟩ j) = some v := by
  rw [List.getElem?_take] at hj
  split at hj
  · rw [Addr.add_lit, Nat.zero_add, blk_cell h j]; simpa using hj
  · cases hj
theorem one_of_rep {cu : List Value} {c n m : Nat} {x z : Int} (h : cu.take n = (List.replicate c x ++ List.replicate (n - c) z).map (Value.int .i64)) (h1 : m ≤ c) (h2 : c ≤ n) {v : Value} (hv : v ∈ cu.take m) : v.oneCell' = true := by
  have h3 : v ∈ cu.take n := by
    have : cu.take m = (cu.take n).take m := by rw [List.take_take, Nat.min_eq_left (by omega)]
    rw [this] at hv
    exact List.mem_of_mem_take hv
  rw [h, List.mem_map] at h3
  obtain ⟨y, _, rfl⟩ := h3
  rfl
theorem mul_one_small (n : Int) (h : 1 ≤ n ∧ n ≤ 8) : bits_Mul.f 1 n = some (0, n) := by
  have : n = 1 ∨ n = 2 ∨ n = 3 ∨ n = 4 ∨ n = 5 ∨ n = 6 ∨ n = 7 ∨ n = 8 := by omega
  rcases this with rfl | rfl | rfl | rfl | rfl | rfl | rfl | rfl <;> rfl
set_option maxHeartbeats 8000000 in
set_option maxRecDepth 100000 in
theorem slices_Repeat_int_int.calls (A0 : Option Addr) (c0 : Nat) (l0 : List Int) (a1 : Int) (r : List Int) (w : World) (hr0 : Kd.C (Kd.int .i64) w A0 l0.length l0) (hc0 : l0.length ≤ c0) (h : slices_Repeat_int_int.f l0 a1 = some r) :
    Calls Try.prog 69 #[.slice A0 l0.length c0, .int .i64 a1] w fun e w' => ∃ v0_ : Value, e = .returned (v0_) ∧ Kd.R (Kd.int .i64) 3 w' w.heap.size (fun _ => True) v0_ r ∧ Below w.heap.size w w' := by
  unfold slices_Repeat_int_int.f at h
  by_cases hc : l0.length = 1 ∧ 1 ≤ a1 ∧ a1 ≤ 8
  · rw [if_pos hc] at h
    obtain rfl := Option.some.inj h
    clear h
    obtain ⟨h1, h2, h3⟩ := hc
    obtain ⟨x, rfl⟩ : ∃ x, l0 = [x] := by
      match l0, h1 with
      | [x], _ => exact ⟨x, rfl⟩
    have HM := Aside0.mk (mul_one_small a1 ⟨h2, h3⟩)
    obtain ⟨n, rfl⟩ : ∃ n : Nat, a1 = n := ⟨a1.toNat, by omega⟩
    have hneg : decide ((n : Int) < 0) = false := decide_eq_false (by omega)
    have HR0 := Aside0.mk hr0
    have HC0 := Aside0.mk hc0
    clear hr0 hc0 h1
    have HB := Aside0.mk (Below.refl w.heap.size w)
    go_enter Try.func69, Try.ntmps69
    obtain ⟨ad, eA, hx⟩ := Kd.at_int HR0.out 0 (by omega) (by simp)
    cases eA
    have HX := Aside0.mk (show w.cell? (ad.add 0) = some (.int .i64 x) from hx)
    clear hx
    go_wp2_with (fail)
    refine (bits_Mul.calls 1 n 0 n _ HM.out).mono ?_
    rintro e w' ⟨rfl, ⟨nd, rfl⟩⟩
    have hgt : decide ((n : Int) > 9223372036854775807) = false := decide_eq_false (by omega)
    have hw1 : wrap64 (n : Int) = n := by unfold wrap64; omega
    have HW1 := Aside0.mk hw1
    clear hw1
    go_wp2_with (first | ((with_reducible refine gate_dst (N := 30) rfl ?_); refine Kd.R_make (Kd.int .i64) _ 3 rfl (N := 30) rfl 35 _ _ rfl (n : Int) rfl rfl Try.underlying35 (.int .i64 0) 8 info3 rfl (by decide) (by omega) 0 (ok := fun _ => True) (okp := fun _ => True) rfl (fun _ hk => hk) trivial (by omega) (by omega) (Below.refl _ _) (Nat.le_refl _) ?_; intro v122 w4 ho5 hb hg_ hnew_; clear hg_ hnew_; obtain ⟨g, cap, cur, rfl, hbg, HCUR, hnc, hcm, hcs, hct⟩ := own_row ho5 (by simp; omega); have HB4 := Aside0.mk (show Below w.heap.size w w4 from (pw_below_drewN (Below.refl _ _) nd).trans (hb.mono (by simp))); have HG4 := Aside0.mk (show w.heap.size ≤ g from hbg); clear ho5 hb hbg; simp only [List.length_replicate, Int.toNat_natCast] at hnc hct ⊢) | ((with_reducible refine wpList_copy_splice rfl (.tmp 31) (.tmp 32) 35 35 rfl 3 Try.underlying35 ?isz (some ⟨g, 0, none⟩) (some ad) n cap 1 c0 rfl rfl g 0 cur 3 HCUR.out [.int .i64 x] ?hn ?hpos ?hfit ?h1 w.heap.size w HB4.out HG4.out ?_); (case isz => rfl); (case hn => exact (Nat.min_eq_left (by omega : 1 ≤ n)).symm); (case hpos => (intro _; exact ⟨rfl, ad, rfl, fun j v hj => by (have hj0 : j = 0 := by (cases j with | zero => rfl | succ j => simp at hj)); subst hj0; obtain rfl := Option.some.inj hj; exact (HB4.out.cell (World.block_lt_of_cell? w _ HX.out)).trans HX.out⟩)); (case hfit => show 0 + 1 ≤ cur.length; omega); (case h1 => (intro v hv; obtain rfl := List.mem_singleton.1 hv; rfl)); intro w5 hc5 hb5; have HC5 := Aside0.mk hc5.out; have HB5 := Aside0.mk hb5; clear hc5 hb5 HCUR))
    obtain ⟨i0q, hi0q, _, hszq, _⟩ := info_parts info3
    have HI := Aside0.mk hi0q
    have HSZ := Aside0.mk hszq
    clear hi0q hszq
    have HISZ := Aside0.mk (show (Try.prog.info? 3).map (·.size) = some 1 by rw [HI.out]; simp [HSZ.out])
    have HST := Aside0.mk (show (splice cur 0 [Value.int .i64 x]).take n = (List.replicate 1 x ++ List.replicate (n - 1) 0).map (Value.int .i64) by
      have h0 := hct.out
      cases hcur : cur with
      | nil => rw [hcur] at hcs; simp at hcs; omega
      | cons y ys =>
        rw [hcur] at h0
        obtain ⟨m, rfl⟩ : ∃ m, n = m + 1 := ⟨n - 1, by omega⟩
        simp only [List.take_succ_cons, List.replicate_succ, List.map_cons] at h0
        injection h0 with h01 h02
        simp [splice, h02])
    have HLS := Aside0.mk (show (splice cur 0 [Value.int .i64 x]).length = cap by rw [length_splice _ _ _ (by show 0 + 1 ≤ cur.length; omega)]; exact hcs)
    go_loopg [8] n (fun kq v8 w' => ∃ (c : Nat) (cu : List Value), v8 = .int .i64 c ∧ 1 ≤ c ∧ c ≤ n ∧ n - c ≤ kq ∧ Aside0 (w'.heap[g]? = some (.cells cu.toArray 3 (0, 0))) ∧ Aside0 (cu.length = cap) ∧ Aside0 (cu.take n = (List.replicate c x ++ List.replicate (n - c) 0).map (Value.int .i64)) ∧ Aside0 (Below w.heap.size w w'))
    case atStart => exact ⟨1, _, rfl, Nat.le_refl _, by omega, by omega, ⟨HC5.out⟩, ⟨HLS.out⟩, ⟨HST.out⟩, ⟨HB5.out⟩⟩
    case round =>
      clear HC5 HLS HST HB5 hct HB4 HB
      obtain ⟨c, cu, rfl, hc1, hcn, hg, HC, HL, HT, HB⟩ := hrel
      by_cases hlt : c < n
      · have hltz : (c : Int) < (n : Int) := by omega
        have hltb := decide_eq_true hltz
        have hcutA := cut_from (P := Try.prog) 35 3 .i64 Try.underlying35 HI.out 1 HSZ.out (some ⟨g, 0, none⟩) n cap (c : Int) (by omega) (by omega)
        have hcutB := cut_to (P := Try.prog) 35 3 .i64 Try.underlying35 HI.out (some ⟨g, 0, none⟩) n cap (c : Int) (by omega) (by omega) hnc
        rw [if_neg (by simp; omega)] at hcutA
        simp only [Option.map_some, Int.toNat_natCast, Nat.mul_one, Addr.add_lit, Nat.zero_add] at hcutA hcutB
        obtain ⟨m, hm⟩ : ∃ m, m = min c (n - c) := ⟨_, rfl⟩
        have hm1 : 1 ≤ m := by omega
        have hm2 : m ≤ c := by omega
        have hm3 : c + m ≤ n := by omega
        have HMN := Aside0.mk (show (cu.take m).length = Nat.min c (n - c) by show _ = min c (n - c); rw [List.length_take, HL.out]; omega)
        have hmlen : (cu.take m).length = m := by rw [List.length_take, HL.out]; omega
        have HML := Aside0.mk hmlen
        have HWR := Aside0.mk (show IntKind.i64.wrap ((c : Int) + (m : Int)) = ((c + m : Nat) : Int) from (IntWalk.i64_in _ (by omega)).trans (by omega))
        clear hm hmlen
        have HT2 := Aside0.mk (splice_rep (f := Value.int .i64) cu c m n x 0 HT.out (by rw [HL.out]; exact hnc) hm2 hm3)
        have HL2 := Aside0.mk (show (splice cu c (cu.take m)).length = cap by rw [length_splice _ _ _ (by rw [HML.out, HL.out]; omega)]; exact HL.out)
        go_wp2
        go_region_law (refine step_copy_splice rfl (.tmp 41) (.tmp 44) 35 35 rfl 3 Try.underlying35 HISZ.out (some ⟨g, c, none⟩) (some ⟨g, 0, none⟩) (n - c) (cap - c) c cap (by go_simp) (by go_simp) g c cu 3 HC.out (cu.take m) HMN.out (fun _ => ⟨rfl, ⟨g, 0, none⟩, rfl, fun j v hj => copy_cell HC.out hj⟩) (by rw [HML.out, HL.out]; omega) (fun v hv => one_of_rep HT.out hm2 hcn hv) w.heap.size w (by repeat (first | exact HB.out | apply below_drew1 | apply pw_below_drewN)) HG4.out ?_; intro w6 hc6 hb6; have HC6 := Aside0.mk hc6.out; have HB6 := Aside0.mk hb6; clear hc6 hb6; rw [HML.out])
        go_wp2
        go_roundg (n - (c + m))
        case measure => omega
        case rel => exact ⟨c + m, _, by rw [HWR.out], by omega, hm3, by omega, ⟨HC6.out⟩, ⟨HL2.out⟩, ⟨HT2.out⟩, ⟨HB6.out⟩⟩
      · have hcn' : c = n := by omega
        subst hcn'
        have hltz : ¬ (c : Int) < (c : Int) := by omega
        have hltb := decide_eq_false hltz
        go_wp2
        go_ret
        refine ⟨_, rfl, ?_, HB.out⟩
        refine Kd.R_of_own ⟨?_, .inr ⟨g, cap, cu.toArray, ?_, HG4.out, HC.out, ?_, ?_, ?_, ?_⟩⟩ (fun _ _ => trivial)
        · simp [encs]
        · simp
        · exact by simpa using hnc
        · exact hcm
        · simpa using HL.out
        · have := HT.out
          simpa [encs] using this
  · rw [if_neg hc] at h
    cases h


end Go.Proofs.Ythjkhbfaenidpaa.P
