-- Printed by a program of this session (pp.sh), out of the translation; Lean checks it.
import Derived.Test.YtfeakndpkloofaaDoorShelf
import Derived.Test.YtfeakndpkloofaaDoorShelf2
import Derived.Lib.AtoiAllCases
import Derived.Test.YtfeakndpkloofaaDoorP0
import Derived.Test.YtfeakndpkloofaaDoorPstringsSplit
namespace Go.Proofs.YtfeakndpkloofaaDoor.P
open Go.RowKit Go.Proofs.YtfeakndpkloofaaDoorW.PrintWords Go.Proofs.YtfeakndpkloofaaDoorW.PrintLast Go.Proofs.YtfeakndpkloofaaDoorW.PrintMore
attribute [local go_sem] max2_int min2_int max_two min_two max_three min_three max_four min_four   -- for this text's walks alone
set_option linter.unusedVariables false
set_option linter.unusedSimpArgs false

/-! ### impl_readList: function 39 -/
theorem atoi_good (s : ByteArray) (hs : s.size ≤ 4294967296) (v : Int) (h : Lib.atoiAll s.data.toList = .ok v) (w : World) :
    Calls Tryd.prog 49 #[.string s] w fun e w' => e = .returned (.tuple #[.int .i64 v, .nilIface]) ∧ Below w.heap.size w w' := by
  refine (Tryd.strconv_Atoi_ok s (by omega) v h w).mono ?_
  rintro e w' ⟨rfl, hw⟩
  refine ⟨rfl, ?_⟩
  rcases hw with rfl | ⟨t, rfl⟩
  · exact Below.refl _ _
  · exact bytes_below (Below.refl _ _) (Nat.le_refl _) _ _
theorem atoi_bad (s : ByteArray) (hs : s.size ≤ 4294967296) (h : ∀ v, Lib.atoiAll s.data.toList ≠ .ok v) (w : World) (hg : Glb w) :
    Calls Tryd.prog 49 #[.string s] w fun e w' => (∃ (n : Int) (te : TypeId) (pe : Value), e = .returned (.tuple #[.int .i64 n, .iface te pe])) ∧ Below w.heap.size w w' := by
  cases h1 : Lib.atoiAll s.data.toList with
  | ok v => exact absurd h1 (h v)
  | «syntax» =>
    obtain ⟨ev, h2, h3⟩ := hg.syn
    refine (Tryd.strconv_Atoi_syntax s (by omega) h1 ev w h2 h3).mono ?_
    rintro e w' ⟨N, rfl, _, _, hb⟩
    exact ⟨⟨_, _, _, rfl⟩, hb⟩
  | range =>
    obtain ⟨ev, h2, h3⟩ := hg.rng
    refine (Tryd.strconv_Atoi_range s (by omega) h1 ev w h2 h3).mono ?_
    rintro e w' ⟨N, rfl, _, _, hb⟩
    exact ⟨⟨_, _, _, rfl⟩, hb⟩
theorem itoa_calls (n : Int) (h0 : -9223372036854775808 ≤ n) (h1 : n ≤ 9223372036854775807) (w : World) (hg : Glb w) :
    Calls Tryd.prog 47 #[.int .i64 n] w fun e w' => e = .returned (.string ⟨(Lib.itoa n).toArray⟩) ∧ Below w.heap.size w w' := by
  refine (Tryd.strconv_Itoa n h0 h1 w hg.tab).mono ?_
  rintro e w' ⟨rfl, k, os, rfl⟩
  refine ⟨rfl, (pw_below_drewN (Below.refl _ _) k).trans ⟨rfl, rfl, rfl, by simp [Go.Sort.grow], fun k hk => ?_⟩⟩
  simp only [Go.Sort.grow]
  exact Array.getElem?_append_left (by simpa using hk)
def numW (b : ByteArray) : Option Int := match Lib.atoiAll b.data.toList with
  | .ok v => if Lib.itoa v = b.toList then some v else none
  | _ => none
def readW : List ByteArray → List Int → List Int × Bool
  | [], acc => (acc, true)
  | b :: bs, acc => match numW b with
    | some v => readW bs (acc ++ [v])
    | none => ([], false)
def impl_readList.f (a0 : ByteArray) : Option (List Int × Bool) := if a0.toList = [45] then some ([], true) else if a0.size < 4294967281 then some (readW (pieces a0 ⟨#[44]⟩) []) else none
set_option maxHeartbeats 8000000 in
set_option maxRecDepth 100000 in
theorem impl_readList.calls (a0 : ByteArray) (r1 : List Int) (r2 : Bool) (w : World) (h : impl_readList.f a0 = some (r1, r2)) (hglb : Glb w) :
    Calls Tryd.prog 39 #[.string a0] w fun e w' => ∃ v0_ : Value, e = .returned (.tuple #[v0_, .bool r2]) ∧ Kd.R (Kd.int .i64) 3 w' w.heap.size (fun _ => True) v0_ r1 ∧ Below w.heap.size w w' := by
  have HG := Aside0.mk hglb
  clear hglb
  unfold impl_readList.f at h
  by_cases c1 : a0.toList = [45]
  · rw [if_pos c1] at h
    have h' := Option.some.inj h
    injection h' with h1 h2
    subst h1
    subst h2
    have c1b0 : (a0.toList == [45]) = true := beq_iff_eq.mpr c1
    clear h c1
    go_enter Tryd.func39, Tryd.ntmps39
    go_wp2
    go_ret2
    exact ⟨_, rfl, Kd.R_of_own (enc := Value.int .i64) (h1 := fun _ => rfl) (own_lit w w.heap.size 3 .i64 [] (Nat.le_refl _) (by simp)) (fun _ _ => trivial), below_alloc (Below.refl _ _) _⟩
  · rw [if_neg c1] at h
    have c1b0 : (a0.toList == [45]) = false := beq_eq_false_iff_ne.mpr c1
    clear c1
    by_cases c2 : a0.size < 4294967281
    · rw [if_pos c2] at h
      have HR := Aside0.mk (Option.some.inj h)
      have HS := Aside0.mk c2
      clear h c2
      go_enter Tryd.func39, Tryd.ntmps39
      go_wp2_with (go_at_call 38; refine (split_raw a0 ⟨#[44]⟩ _ HS.out (by decide) (HG.out.below (below_alloc (Below.refl _ _) _))).mono ?_; rintro e w1 ⟨rfl, hw1⟩; obtain ⟨P, hP⟩ : ∃ P, P = pieces a0 ⟨#[44]⟩ := ⟨_, rfl⟩; rw [← hP] at hw1 ⊢; have HP := Aside0.mk hP; have HW1 := Aside0.mk hw1; clear hP hw1)
      have hz : w1.heap.size = w.heap.size + 2 := by rw [HW1.out]; simp
      have hPn : P.length ≤ 4294967296 := by
        rw [HP.out, pieces_len a0 _ (by decide)]; have := count_le a0 ⟨#[44]⟩ (by decide); have := HS.out; omega
      have hcell : ∀ j : Nat, j < P.length → w1.cell? ⟨w.heap.size + 1, j, none⟩ = some (.string (rdOf ByteArray.empty P (j : Int))) := by
        intro j hj
        have ho := Kd.R_of_own (enc := Value.string) (h1 := fun _ => rfl) (ok := fun _ => True) (own_lit_of (enc := Value.string) (w.alloc (.cells #[] 3)) w.heap.size 9 P (by simp) (by omega)) (fun _ _ => trivial)
        obtain ⟨ad, e1, e2⟩ := Kd.at_string (Kd.R_reads' ho).2.2 (j : Int) (by omega) (by omega)
        injection e1 with e1
        subst e1
        rw [HW1.out]
        have e3 : (w.alloc (.cells #[] 3)).heap.size = w.heap.size + 1 := by simp
        rw [Int.toNat_natCast, add_plain, e3] at e2
        exact e2
      have hacc : Kd.R (Kd.int .i64) 3 w1 w.heap.size (fun k => k ≠ w.heap.size + 1) (.slice (some ⟨w.heap.size, 0, none⟩) 0 0) [] := by
        rw [HW1.out]
        refine Kd.R_alloc (Kd.R_of_own (enc := Value.int .i64) (h1 := fun _ => rfl) (own_lit w w.heap.size 3 .i64 [] (Nat.le_refl _) (by simp)) (fun k hk => ?_)) _
        simp [Value.ownBlock] at hk; omega
      have hb1 : Below w.heap.size w w1 := by rw [HW1.out]; exact below_alloc (below_alloc (Below.refl _ _) _) _
      have hPs : ∀ j : Nat, j < P.length → (rdOf ByteArray.empty P (j : Int)).size ≤ 4294967296 := by
        intro j hj
        have h1 : rdOf ByteArray.empty P (j : Int) = P[j] := by simp [rdOf, hj]
        have h2 : P[j] ∈ pieces a0 ⟨#[44]⟩ := by rw [← HP.out]; exact List.getElem_mem _
        have := splitB_size _ _ _ _ h2
        have := HS.out
        rw [h1]; omega
      have HRES := Aside0.mk (show readW P [] = (r1, r2) by rw [HP.out]; exact HR.out)
      have HCELL := Aside0.mk hcell
      have HACC := Aside0.mk hacc
      have HB1 := Aside0.mk hb1
      have HPN := Aside0.mk hPn
      have HPS := Aside0.mk hPs
      have HZ := Aside0.mk (Nat.le_of_eq hz.symm)
      clear hcell hacc hb1 hPn hPs hz HW1 HP HR
      go_loopg [4, 16] P.length (fun kq v4 v16 wr => ∃ (j : Nat) (acc : List Int), v16 = .int .i64 j ∧ j ≤ P.length ∧ P.length - j ≤ kq ∧ Aside0 (readW (P.drop j) acc = (r1, r2)) ∧ Aside0 (acc.length ≤ j) ∧ Aside0 (Kd.R (Kd.int .i64) 3 wr w.heap.size (fun k => k ≠ w.heap.size + 1) v4 acc) ∧ Aside0 (∀ j : Nat, j < P.length → wr.cell? ⟨w.heap.size + 1, j, none⟩ = some (.string (rdOf ByteArray.empty P (j : Int)))) ∧ Aside0 (w.heap.size + 2 ≤ wr.heap.size) ∧ Aside0 (Below w.heap.size w wr))
      case atStart => exact ⟨0, [], rfl, Nat.zero_le _, by omega, ⟨by simpa using HRES.out⟩, ⟨Nat.zero_le _⟩, HACC, HCELL, HZ, HB1⟩
      case round =>
        clear HRES HACC HCELL HZ HB1
        obtain ⟨j, acc, rfl, hj, hg, HRES, HAL, HACC, HCELL, HZ, HB1⟩ := hrel
        by_cases hlt : j < P.length
        · have hjd := decide_eq_true (show (j : Int) < (P.length : Int) by omega)
          have hjn := decide_eq_true hlt
          have hx := HCELL.out j hlt
          have p1 := eq_true (show (0 : Int) ≤ (j : Int) by omega)
          have q1 := eq_true (show (j : Int) < (P.length : Int) by omega)
          have hdr : P.drop j = rdOf ByteArray.empty P (j : Int) :: P.drop (j + 1) := by
            rw [List.drop_eq_getElem_cons hlt]; congr 1; simp [rdOf, hlt]
          have hres := HRES.out
          rw [hdr] at hres
          have hbs := HPS.out j hlt
          generalize hb : rdOf ByteArray.empty P (j : Int) = b at hx hres hbs
          have HBS := Aside0.mk hbs
          have HLT := Aside0.mk hlt
          clear hdr hb hbs
          cases hok : Lib.atoiAll b.data.toList with
          | ok v =>
            have hv := Lib.atoiAll_bounds hok
            have HV := Aside0.mk hv
            have HOK := Aside0.mk hok
            by_cases he : Lib.itoa v = b.toList
            · have hres' : readW (P.drop (j + 1)) (acc ++ [v]) = (r1, r2) := by
                have e0 : numW b = some v := by simp [numW, hok, he]
                simpa [readW, e0] using hres
              have HRES2 := Aside0.mk hres'
              have c5 : (Lib.itoa v == b.toList) = true := beq_iff_eq.mpr he
              clear hres hres' hok hv he
              go_wp2_with (first | (go_at_call 49; refine (atoi_good b HBS.out v HOK.out _).mono ?_; rintro e w2 ⟨rfl, hb2⟩; have HB2 := Aside0.mk (below_step HB1.out hb2); have HC2 := Aside0.mk (fun j hj => pw_cell_below hb2 (HCELL.out j hj)); have HA2 := Aside0.mk (Kd.R_below HACC.out hb2); have HZ2 := Aside0.mk (Nat.le_trans HZ.out hb2.size); clear hb2) | (go_at_call 47; refine (itoa_calls v HV.out.1 HV.out.2 _ (HG.out.below HB2.out)).mono ?_; rintro e w3 ⟨rfl, hb3⟩; have HB3 := Aside0.mk (below_step HB2.out hb3); have HC3 := Aside0.mk (fun j hj => pw_cell_below hb3 (HC2.out j hj)); have HA3 := Aside0.mk (Kd.R_below HA2.out hb3); have HZ3 := Aside0.mk (Nat.le_trans HZ2.out hb3.size); clear hb3) | ((with_reducible refine gate_builtin (b := .append) (xs := #[.tmp 33, .tmp 35]) rfl ?_); at_builtin; refine Kd.R_append (Kd.int .i64) (w0 := w) w.heap.size rfl (.tmp 33) (.tmp 35) 32 3 (.int .i64 0) 8 rfl Tryd.underlying32 info3 rfl (by decide) (by omega) _ acc v [.int .i64 v] (fun k => k ≠ w.heap.size + 1) (fun _ => False) rfl rfl ?aP (fun _ hk => hk.elim) ?aF HA3.out HB3.out (below_size HB3.out) ?aL ?_; (case aP => exact rfl); (case aF => exact (fun k hk => by have := HZ3.out; omega)); (case aL => have := HAL.out; have := HPN.out; have := HLT.out; omega); intro v4 w4 ho hb hg hat; have HC4 := Aside0.mk (fun j hj => hg.cell (HC3.out j hj) (fun e4 => HA3.out.1 _ e4.symm rfl)); have HA4 := Aside0.mk ho; have HB4 := Aside0.mk hb; have HZ4 := Aside0.mk (Nat.le_trans HZ3.out hg.size); clear ho hb hg hat))
              go_roundg (P.length - (j + 1))
              case measure => have := HLT.out; omega
              case rel =>
                refine ⟨j + 1, acc ++ [v], ?_, HLT.out, Nat.le_refl _, HRES2, ⟨by simp only [List.length_append, List.length_singleton]; have := HAL.out; omega⟩, HA4, HC4, HZ4, HB4⟩
                have e : wrap64 ((j : Int) + 1) = ((j + 1 : Nat) : Int) := by have := HPN.out; have := HLT.out; unfold wrap64; omega
                rw [e]
            · have hr : (([] : List Int), false) = (r1, r2) := by simpa [readW, numW, hok, he] using hres
              injection hr with h1 h2
              subst h1
              subst h2
              have c5 : (Lib.itoa v == b.toList) = false := beq_eq_false_iff_ne.mpr he
              clear hres hok hv he
              go_wp2_with (first | (go_at_call 49; refine (atoi_good b HBS.out v HOK.out _).mono ?_; rintro e w2 ⟨rfl, hb2⟩; have HB2 := Aside0.mk (below_step HB1.out hb2); have HC2 := Aside0.mk (fun j hj => pw_cell_below hb2 (HCELL.out j hj)); have HA2 := Aside0.mk (Kd.R_below HACC.out hb2); have HZ2 := Aside0.mk (Nat.le_trans HZ.out hb2.size); clear hb2) | (go_at_call 47; refine (itoa_calls v HV.out.1 HV.out.2 _ (HG.out.below HB2.out)).mono ?_; rintro e w3 ⟨rfl, hb3⟩; have HB3 := Aside0.mk (below_step HB2.out hb3); have HC3 := Aside0.mk (fun j hj => pw_cell_below hb3 (HC2.out j hj)); have HA3 := Aside0.mk (Kd.R_below HA2.out hb3); have HZ3 := Aside0.mk (Nat.le_trans HZ2.out hb3.size); clear hb3))
              go_ret2
              exact ⟨_, rfl, Kd.R_nil _ _ _ _ _, HB3.out⟩
          | «syntax» =>
            have hno : ∀ v, Lib.atoiAll b.data.toList ≠ .ok v := by rw [hok]; intro v hv; cases hv
            have hr : (([] : List Int), false) = (r1, r2) := by simpa [readW, numW, hok] using hres
            injection hr with h1 h2
            subst h1
            subst h2
            have HNO := Aside0.mk hno
            clear hres hok hno
            go_wp2_with (go_at_call 49; refine (atoi_bad b HBS.out HNO.out _ (HG.out.below HB1.out)).mono ?_; rintro e w2 ⟨⟨n, te, pe, rfl⟩, hb2⟩; have HB2 := Aside0.mk (below_step HB1.out hb2); clear hb2)
            go_ret2
            exact ⟨_, rfl, Kd.R_nil _ _ _ _ _, HB2.out⟩
          | range =>
            have hno : ∀ v, Lib.atoiAll b.data.toList ≠ .ok v := by rw [hok]; intro v hv; cases hv
            have hr : (([] : List Int), false) = (r1, r2) := by simpa [readW, numW, hok] using hres
            injection hr with h1 h2
            subst h1
            subst h2
            have HNO := Aside0.mk hno
            clear hres hok hno
            go_wp2_with (go_at_call 49; refine (atoi_bad b HBS.out HNO.out _ (HG.out.below HB1.out)).mono ?_; rintro e w2 ⟨⟨n, te, pe, rfl⟩, hb2⟩; have HB2 := Aside0.mk (below_step HB1.out hb2); clear hb2)
            go_ret2
            exact ⟨_, rfl, Kd.R_nil _ _ _ _ _, HB2.out⟩
        · have hjd := decide_eq_false (show ¬ (j : Int) < (P.length : Int) by omega)
          have hjn := decide_eq_false hlt
          have hres := HRES.out
          obtain rfl : j = P.length := by omega
          rw [List.drop_length] at hres
          have hres' : (acc, true) = (r1, r2) := hres
          injection hres' with h1 h2
          subst h1
          subst h2
          clear hres
          go_wp2
          go_ret2
          exact ⟨_, rfl, Kd.R_mono HACC.out (fun _ _ => trivial), HB1.out⟩
    · rw [if_neg c2] at h; cases h


end Go.Proofs.YtfeakndpkloofaaDoor.P
