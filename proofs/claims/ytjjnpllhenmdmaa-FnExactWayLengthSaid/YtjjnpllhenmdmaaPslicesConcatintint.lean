-- Printed by a program of this session (pp.sh), out of the translation; Lean checks it.
import Derived.Test.YtjjnpllhenmdmaaP0
namespace Go.Proofs.Ytjjnpllhenmdmaa.P
open Go.RowKit Go.Proofs.YtjjnpllhenmdmaaW.PrintWords Go.Proofs.YtjjnpllhenmdmaaW.PrintLast Go.Proofs.YtjjnpllhenmdmaaW.PrintMore
attribute [local go_sem] max2_int min2_int max_two min_two max_three min_three max_four min_four   -- for this text's walks alone
set_option linter.unusedVariables false
set_option linter.unusedSimpArgs false

/-! ### slices_Concat_int_int: function 66 -/
set_option maxHeartbeats 8000000 in
set_option maxRecDepth 100000 in
theorem slices_Grow_nil.calls (n : Int) (w : World) (h0 : 0 ≤ n) (h1 : n < 17592186044416) :
    Calls Try.prog 83 #[.slice none 0 0, .int .i64 n] w fun e w' => ∃ v0_ : Value, e = .returned (v0_) ∧ Kd.R (Kd.int .i64) 3 w' w.heap.size (fun _ => True) v0_ [] ∧ Below w.heap.size w w' := by
  have e1 : wrap64 n = n := by unfold wrap64; omega
  have E1 := Aside0.mk e1
  clear e1
  by_cases hp : 0 < n
  · have hpb := decide_eq_true hp
    have hzb : decide (n < 0) = false := decide_eq_false (by omega)
    have hm : (n.toNat) * 8 ≤ 140737488355328 := by omega
    have HM := Aside0.mk hm
    clear hm
    go_enter Try.func83, Try.ntmps83
    go_wp2_with ((with_reducible refine gate_builtin (b := .append) (xs := #[.tmp 20, .tmp 21]) rfl ?_); at_builtin; refine Kd.R_append_zeros (Kd.int .i64) (w0 := w) w.heap.size rfl (.tmp 20) (.tmp 21) 43 3 3 (.int .i64 0) 8 rfl Try.underlying43 Try.underlying3 info3 rfl (by decide) (by omega) (.slice none 0 0) [] 0 (n : Int) (fun _ => True) rfl rfl ?aF (fun _ _ => trivial) (Kd.R_nil _ _ _ _ _) h0 (Below.refl _ _) (Nat.le_refl _) ?aL ?_; (case aF => rfl); (case aL => have := HM.out; simp only [List.length_nil]; omega); intro v1 w1 ho hb hg hat; have HB := Aside0.mk hb; have HO := Aside0.mk ho; clear ho hb hg hat; obtain ⟨Ao, co, rfl⟩ := Kd.R_slice HO.out; obtain ⟨i0q, hi0q, _, hszq, _⟩ := info_parts info3; have hcut := cut_to (P := Try.prog) 43 3 .i64 Try.underlying43 hi0q Ao _ co (0 : Int) (by omega) (by omega) (Kd.R_reads' HO.out).2.1; clear hi0q hszq)
    go_ret
    exact ⟨_, rfl, Kd.R_take (m := 0) HO.out (Nat.zero_le _), HB.out⟩
  · have : n = 0 := by omega
    subst this
    go_enter Try.func83, Try.ntmps83
    go_wp2
    go_ret
    exact ⟨_, rfl, Kd.R_nil _ _ _ _ _, Below.refl _ _⟩

def slices_Concat_int_int.f (l0 : List (List Int)) : Option (List Int) := if l0.flatten.length < 17592186044416 then some l0.flatten else none
/-- How many numbers the rows have. -/
def flen (l : List (List Int)) : Nat := l.flatten.length
theorem flat_take (l : List (List Int)) (j : Nat) (hj : j < l.length) : (l.take (j + 1)).flatten = (l.take j).flatten ++ l[j] := by
  rw [List.take_succ_eq_append_getElem hj, List.flatten_append]; simp
theorem flat_le (l : List (List Int)) (j : Nat) : (l.take j).flatten.length ≤ l.flatten.length := by
  have : l.flatten = (l.take j).flatten ++ (l.drop j).flatten := by rw [← List.flatten_append, List.take_append_drop]
  rw [this, List.length_append]; omega
set_option maxHeartbeats 8000000 in
set_option maxRecDepth 100000 in
theorem slices_Concat_int_int.calls (A0 : Option Addr) (c0 : Nat) (l0 : List (List Int)) (r : List Int) (w : World) (hr0 : Kd.C (Kd.slice 3 (Kd.int .i64)) w A0 l0.length l0) (hc0 : l0.length ≤ c0) (h : slices_Concat_int_int.f l0 = some r) :
    Calls Try.prog 66 #[.slice A0 l0.length c0] w fun e w' => ∃ v0_ : Value, e = .returned (v0_) ∧ Kd.R (Kd.int .i64) 3 w' w.heap.size (fun _ => True) v0_ r ∧ Below w.heap.size w w' := by
  unfold slices_Concat_int_int.f at h
  by_cases hf : l0.flatten.length < 17592186044416
  · rw [if_pos hf] at h
    obtain rfl := Option.some.inj h
    clear h
    have hbig : l0.length ≤ 9223372036854775807 := hr0.2.1
    have HR0 := Aside0.mk hr0
    have HC0 := Aside0.mk hc0
    clear hr0 hc0
    have HB := Aside0.mk (Below.refl w.heap.size w)
    go_enter Try.func66, Try.ntmps66
    go_wp2
    go_loopg [3, 5, 11] l0.length (fun kq v3 _ v11 w' => ∃ j : Nat, v3 = .int .i64 (flen (l0.take j) : Int) ∧ v11 = .int .i64 j ∧ j ≤ l0.length ∧ l0.length - j ≤ kq ∧ Aside0 (Below w.heap.size w w'))
    case atStart => exact ⟨0, rfl, rfl, Nat.zero_le _, by omega, ⟨HB.out⟩⟩
    case round =>
      obtain ⟨j, rfl, rfl, hj, hg, HB⟩ := hrel
      by_cases hlt : j < l0.length
      · have hltz : (j : Int) < (l0.length : Int) := by omega
        have c0b := decide_eq_true hltz
        obtain ⟨ad101, A1, c1, e101, hx101_0, hl1, hi1⟩ := at_L1 HR0.out (j : Int) (by omega) hltz
        cases e101
        replace hx101_0 := (HB.out.cell (World.block_lt_of_cell? w _ hx101_0)).trans hx101_0
        rw [Int.toNat_natCast] at hx101_0
        have hrow : rd_L1 l0 j = l0[j] := by simp [rd_L1, hlt]
        rw [hrow] at hx101_0
        clear hi1 hl1 hrow
        have hle := flat_le l0 (j + 1)
        have ht := flat_take l0 j hlt
        have hlen : flen (l0.take (j + 1)) = flen (l0.take j) + l0[j].length := by unfold flen; rw [ht, List.length_append]
        have HLEN := Aside0.mk hlen
        change flen (l0.take (j + 1)) ≤ l0.flatten.length at hle
        rw [hlen] at hle
        clear ht hlen
        generalize hs : flen (l0.take j) = s at hle HLEN ⊢
        generalize hm : l0[j].length = m at hle HLEN hx101_0
        clear hs hm
        have hneg : decide ((s : Int) + (m : Int) < 0) = false := decide_eq_false (by omega)
        have hb1 : (s : Int) + (m : Int) < 17592186044416 := by omega
        have hb0 : 0 ≤ (s : Int) + (m : Int) := by omega
        clear hle
        go_wp2
        go_roundg (l0.length - (j + 1))
        case measure => omega
        case rel => exact ⟨j + 1, by rw [HLEN.out]; go_num, by go_num, by omega, by omega, ⟨HB.out⟩⟩
      · have hltz : ¬ (j : Int) < (l0.length : Int) := by omega
        have hjl : j = l0.length := by omega
        subst hjl
        have hall : flen (l0.take l0.length) = flen l0 := by rw [List.take_length]
        have hfl : flen l0 < 17592186044416 := hf
        rw [hall]
        clear hall
        go_wp2_with (fail)
        refine (slices_Grow_nil.calls (flen l0 : Int) _ (by omega) (by omega)).mono ?_
        rintro e w1 ⟨v1, rfl, ho1, hb1⟩
        have HO := Aside0.mk (Kd.R_lower ho1 HB.out.size)
        have HB1 := Aside0.mk (HB.out.trans (hb1.mono HB.out.size))
        clear ho1 hb1
        go_wp2
        go_loopg [6, 8, 27] l0.length (fun kq v6 _ v27 w' => ∃ (j : Nat), v27 = .int .i64 j ∧ j ≤ l0.length ∧ l0.length - j ≤ kq ∧ Aside0 (Kd.R (Kd.int .i64) 3 w' w.heap.size (fun _ => True) v6 (l0.take j).flatten) ∧ Aside0 (Below w.heap.size w w'))
        case atStart => exact ⟨0, rfl, Nat.zero_le _, by omega, ⟨HO.out⟩, ⟨HB1.out⟩⟩
        case round =>
          clear HO HB1 HB
          obtain ⟨j, rfl, hj, hg, HO, HB⟩ := hrel
          by_cases hlt : j < l0.length
          · have hltz : (j : Int) < (l0.length : Int) := by omega
            have c0b := decide_eq_true hltz
            obtain ⟨ad101, A1, c1, e101, hx101_0, hl1, hi1⟩ := at_L1 HR0.out (j : Int) (by omega) hltz
            cases e101
            replace hx101_0 := (HB.out.cell (World.block_lt_of_cell? w _ hx101_0)).trans hx101_0
            rw [Int.toNat_natCast] at hx101_0
            have hrow : rd_L1 l0 j = l0[j] := by simp [rd_L1, hlt]
            rw [hrow] at hx101_0 hi1 hl1
            have HI1 := Aside0.mk hi1
            have hle := flat_le l0 (j + 1)
            rw [flat_take l0 j hlt, List.length_append] at hle
            have HF := Aside0.mk (flat_take l0 j hlt)
            have LM := Aside0.mk hle
            clear hi1 hl1 hrow hle
            go_wp2_with ((with_reducible refine gate_builtin (b := .append) (xs := #[.tmp 31, .tmp 32]) rfl ?_); at_builtin; refine Kd.R_append_rows (Kd.int .i64) (w0 := w) w.heap.size rfl (.tmp 31) (.tmp 32) 43 3 (.int .i64 0) 8 rfl Try.underlying43 info3 rfl (by decide) (by omega) _ (l0.take j).flatten l0[j] _ _ _ (fun _ => True) (fun _ => False) rfl rfl ?aO ?aR (fun _ _ h => h) (fun _ h => h.elim) ?aF ?aB ?aS ?aL ?_; (case aR => exact (Kd.C_below HI1.out HB.out)); (case aB => exact HB.out); (case aF => exact (fun _ _ => trivial)); (case aO => exact HO.out); (case aS => exact HB.out.size); (case aL => have := LM.out; omega); intro v158 w5 ho hb hg' hat; have HB5 := Aside0.mk hb; have HO5 := Aside0.mk ho; clear ho hb hg' hat)
            go_roundg (l0.length - (j + 1))
            case measure => omega
            case rel => exact ⟨j + 1, by go_num, by omega, by omega, ⟨by rw [HF.out]; exact HO5.out⟩, ⟨HB5.out⟩⟩
          · have hltz : ¬ (j : Int) < (l0.length : Int) := by omega
            have hjl : j = l0.length := by omega
            subst hjl
            go_wp2
            go_ret
            exact ⟨_, rfl, by have := HO.out; rw [List.take_length] at this; exact this, HB.out⟩
  · rw [if_neg hf] at h
    cases h


end Go.Proofs.Ytjjnpllhenmdmaa.P
