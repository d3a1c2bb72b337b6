-- Printed by a program of this session (pp.sh), out of the translation; Lean checks it.
import Derived.Test.YtfeakndpkloofaaDoorShelf
import Derived.Test.YtfeakndpkloofaaDoorShelf2
import Derived.Lib.SplitLaws
import Derived.Test.YtfeakndpkloofaaDoorP0
namespace Go.Proofs.YtfeakndpkloofaaDoor.P
open Go.RowKit Go.Proofs.YtfeakndpkloofaaDoorW.PrintWords Go.Proofs.YtfeakndpkloofaaDoorW.PrintLast Go.Proofs.YtfeakndpkloofaaDoorW.PrintMore
attribute [local go_sem] max2_int min2_int max_two min_two max_three min_three max_four min_four   -- for this text's walks alone
set_option linter.unusedVariables false
set_option linter.unusedSimpArgs false

/-! ### strings_Split: function 38 -/
/-- What the library's variables hold, as far as the walk asks. -/
structure Glb (w : World) : Prop where
  maxLen : ∃ m : Int, w.cell? ⟨0, 0, none⟩ = some (.int .i64 m)
  syn : ∃ ev, w.cell? ⟨1, 0, none⟩ = some ev ∧ (ev = .nilIface ∨ ∃ te pe, ev = .iface te pe)
  rng : ∃ ev, w.cell? ⟨2, 0, none⟩ = some ev ∧ (ev = .nilIface ∨ ∃ te pe, ev = .iface te pe)
  tab : Lib.TabIs Tryd.prog w "internal/strconv.uint64pow10" .u64 Lib.pow10Tab
theorem var_below {P : Program} {w w' : World} {n : String} {cs : Array Value} (h : w.var? P n = some cs) (hb : Below w.heap.size w w') : w'.var? P n = some cs := by
  unfold World.var? at h ⊢
  cases hg : P.globalNamed n with
  | none => simp [hg] at h
  | some g =>
    simp only [hg, Option.bind_some] at h ⊢
    have hlt : g < w.heap.size := by
      rcases Nat.lt_or_ge g w.heap.size with h' | h'
      · exact h'
      · simp [Array.getElem?_eq_none h'] at h
    rw [hb.block g hlt]
    exact h
theorem Glb.below {w w' : World} (h : Glb w) (hb : Below w.heap.size w w') : Glb w' := by
  obtain ⟨m, h0⟩ := h.maxLen
  obtain ⟨e1, h1, g1⟩ := h.syn
  obtain ⟨e2, h2, g2⟩ := h.rng
  exact ⟨⟨m, pw_cell_below hb h0⟩, ⟨e1, pw_cell_below hb h1, g1⟩, ⟨e2, pw_cell_below hb h2, g2⟩, var_below h.tab hb⟩

def pieces (s sep : ByteArray) : List ByteArray := Lib.splitB sep 0 (Lib.countB s sep) s
def strings_Split.f (a0 a1 : ByteArray) : Option (List ByteArray) := if a0.size < 4294967281 ∧ 1 ≤ a1.size then some (pieces a0 a1) else none
theorem pieces_len (s sep : ByteArray) (h : 1 ≤ sep.size) : (pieces s sep).length = Lib.countB s sep + 1 := Lib.splitB_all sep h 0 _ s rfl
theorem count_le (s sep : ByteArray) (h : 1 ≤ sep.size) : Lib.countB s sep ≤ s.size := Lib.countB_le sep h s.size s (Nat.le_refl _)
theorem splitB_size (sep : ByteArray) : ∀ (k : Nat) (s : ByteArray), ∀ b ∈ Lib.splitB sep 0 k s, b.size ≤ s.size
  | 0, s, b, hb => by
    rw [Lib.splitB_zero] at hb
    rw [List.mem_singleton.1 hb]; exact Nat.le_refl _
  | k + 1, s, b, hb => by
    unfold Lib.splitB at hb
    split at hb
    · rw [List.mem_singleton.1 hb]; exact Nat.le_refl _
    · rcases List.mem_cons.1 hb with rfl | hb
      · rw [ByteArray.size_extract]; omega
      · have := splitB_size sep k _ b hb
        rw [ByteArray.size_extract] at this; omega
theorem split_raw (a0 a1 : ByteArray) (w : World) (hs : a0.size < 4294967281) (h1 : 1 ≤ a1.size) (hglb : Glb w) :
    Calls Tryd.prog 38 #[.string a0, .string a1] w fun e w' => e = .returned (.slice (some ⟨w.heap.size, 0, none⟩) (pieces a0 a1).length (pieces a0 a1).length) ∧ w' = w.alloc (.cells ((pieces a0 a1).map Value.string).toArray 9) := by
  obtain ⟨m, hm⟩ := hglb.maxLen
  rw [pieces_len a0 a1 h1]
  exact Tryd.strings_Split a0 a1 m w hs hm h1
theorem strings_Split.calls (a0 a1 : ByteArray) (r : List ByteArray) (w : World) (h : strings_Split.f a0 a1 = some r) (hglb : Glb w) :
    Calls Tryd.prog 38 #[.string a0, .string a1] w fun e w' => ∃ v0_ : Value, e = .returned (v0_) ∧ Kd.R Kd.string 9 w' w.heap.size (fun _ => True) v0_ r ∧ Below w.heap.size w w' := by
  unfold strings_Split.f at h
  by_cases c : a0.size < 4294967281 ∧ 1 ≤ a1.size
  · rw [if_pos c] at h
    obtain rfl := Option.some.inj h
    refine (split_raw a0 a1 w c.1 c.2 hglb).mono ?_
    rintro e w' ⟨rfl, rfl⟩
    refine ⟨_, rfl, Kd.R_of_own (enc := Value.string) (h1 := fun _ => rfl) ?_ (fun _ _ => trivial), below_alloc (Below.refl _ _) _⟩
    have hl : (pieces a0 a1).length ≤ 9223372036854775807 := by rw [pieces_len a0 a1 c.2]; have := count_le a0 a1 c.2; omega
    exact own_lit_of w w.heap.size 9 (pieces a0 a1) (Nat.le_refl _) hl
  · rw [if_neg c] at h; cases h


end Go.Proofs.YtfeakndpkloofaaDoor.P
