-- Printed by a program of this session (pp.sh), out of the translation; Lean checks it.
import Derived.Test.YtfeakndpkloofaaDoorProg
import Derived.Below
import Derived.Deep.Draws
import Derived.Deep.AppendLies
import Derived.Maps.AppendAt
import Derived.OwnWalk
import Derived.Laws.BytesArg
import Derived.Laws.MakeOwn
import Derived.Laws.OwnMore
import Derived.Deep.OwnRows
import Derived.Tactics
import Derived.Lib.ConvBytes
import Derived.Laws.Slices
import Derived.WalkKit
import Derived.KernelRfl
import Derived.RowKit3
import Derived.Deep.LoopGhost
import Derived.Deep.QuietTactic
import Derived.BigQuiet
import Derived.WideLaws
import Derived.Deep.DeepCutAuto
import Derived.Deep.CutBlock
import Derived.Deep.RegionHeld3
import Derived.Laws.Rows
import Derived.Lib.AppendStr
import Derived.ArgAppend
import Derived.Laws.IdiomCopy
import Derived.OrdersHeld
import Derived.Laws.BitsLemmas
import Derived.RowKit
import Derived.WalkSpells
import Derived.Laws.CopyOwn
import Derived.Deep.RegionLaw
import Derived.StillTailTactics
import Derived.Test.YtfeakndpkloofaaDoorWWords
import Derived.Test.YtfeakndpkloofaaDoorWLast
import Derived.Test.YtfeakndpkloofaaDoorWTab
import Derived.Test.YtfeakndpkloofaaDoorWFour
import Derived.Test.YtfeakndpkloofaaDoorWQPut
import Derived.Test.YtfeakndpkloofaaDoorWApart
import Derived.Test.YtfeakndpkloofaaDoorWArr
import Derived.Test.YtfeakndpkloofaaDoorWZeros
import Derived.Test.YtfeakndpkloofaaDoorWFoot
import Derived.Test.YtfeakndpkloofaaDoorWKept
import Derived.Test.YtfeakndpkloofaaDoorWShare
import Derived.Test.YtfeakndpkloofaaDoorWN
import Derived.Test.YtfeakndpkloofaaDoorWFootNe
import Derived.Test.YtfeakndpkloofaaDoorWAt
import Derived.Test.YtfeakndpkloofaaDoorWEqStruct
import Derived.Test.YtfeakndpkloofaaDoorWRepsOne
import Derived.Test.YtfeakndpkloofaaDoorWInv
import Derived.Test.YtfeakndpkloofaaDoorWInvWords
import Derived.Test.YtfeakndpkloofaaDoorWGuard
import Derived.Test.YtfeakndpkloofaaDoorWNEv
import Derived.Test.YtfeakndpkloofaaDoorWMore
namespace Go.Proofs.YtfeakndpkloofaaDoor.P
open Go.RowKit Go.Proofs.YtfeakndpkloofaaDoorW.PrintWords Go.Proofs.YtfeakndpkloofaaDoorW.PrintLast Go.Proofs.YtfeakndpkloofaaDoorW.PrintMore
attribute [local go_sem] max2_int min2_int max_two min_two max_three min_three max_four min_four   -- for this text's walks alone
set_option linter.unusedVariables false
set_option linter.unusedSimpArgs false



def errW : Option Int → Value
  | none => .nilIface
  | some c => .iface 0 (.int .i64 c)
theorem errW_none : errW none = .nilIface := rfl
theorem errW_some (c : Int) : errW (some c) = .iface 0 (.int .i64 c) := rfl

theorem info3 : (Tryd.prog.info? 3).map (fun i => (i.zero, i.size, i.bytes)) = some (some (.int .i64 0), 1, 8) := by kernel_rfl
theorem info5 : (Tryd.prog.info? 5).map (fun i => (i.zero, i.size, i.bytes)) = some (some (.int .u8 0), 1, 1) := by kernel_rfl
theorem info9 : (Tryd.prog.info? 9).map (fun i => (i.zero, i.size, i.bytes)) = some (some (.string ⟨#[]⟩), 1, 16) := by kernel_rfl
theorem info32 : (Tryd.prog.info? 32).map (fun i => (i.zero, i.size, i.bytes)) = some (some (.slice none 0 0), 1, 24) := by kernel_rfl
-- the values' own types
def rd_L3 (xs : List (List Int)) (i : Int) : (List Int) := xs.getD i.toNat ([] : List Int)
theorem at_L3 {w : World} {A : Option Addr} {n : Nat} {xs : List (List Int)} (h : Kd.C (Kd.slice 3 (Kd.int .i64)) w A n xs) (i : Int) (h0 : 0 ≤ i) (h1 : i < n) : ∃ ad A0 c0, A = some ad ∧ w.cell? (ad.add i.toNat) = some (.slice A0 (rd_L3 xs i).length c0) ∧ (rd_L3 xs i).length ≤ c0 ∧ (Kd.int .i64).C w A0 (rd_L3 xs i).length (rd_L3 xs i) := by
  obtain ⟨ad, c, e, _, hK, hc0⟩ := Kd.C_get h ([] : List Int) i h0 h1
  have hc : ∀ j u, c[j]? = some u → w.cell? (ad.add (i.toNat * 1 + j)) = some u := hc0
  obtain ⟨A0, c0, rfl, l0, g0⟩ := hK
  exact ⟨ad, A0, c0, e, by have hq := hc 0 _ rfl; rwa [Nat.mul_one, Nat.add_zero] at hq, l0, g0⟩
theorem kept_L3 {w W : World} {S : Nat → Prop} {A : Option Addr} {n : Nat} {xs : List (List Int)} (h : ∀ W_, Kept w W_ S → Kd.C (Kd.slice 3 (Kd.int .i64)) W_ A n xs) (hk : Kept w W S) (i : Int) (h0 : 0 ≤ i) (h1 : i < n) : ∃ ad A0 c0, A = some ad ∧ W.cell? (ad.add i.toNat) = some (.slice A0 (rd_L3 xs i).length c0) ∧ (rd_L3 xs i).length ≤ c0 ∧ ∀ W_, Kept w W_ S → (Kd.int .i64).C W_ A0 (rd_L3 xs i).length (rd_L3 xs i) := by
  obtain ⟨ad, A0, c0, e, hc, hl, _⟩ := at_L3 (h w (Kept.refl w S)) i h0 h1
  have hns : ¬ S (ad.add i.toNat).block := fun hS => by
    have hb : (ad.add i.toNat).block = ad.block := by rw [add_block]
    have hkk : Kept w { w with heap := w.heap.setIfInBounds ad.block (.cells #[] 0) } S := ⟨by simp, fun j hj hn => by
      have : ad.block ≠ j := fun e2 => hn (by rw [← e2, ← hb]; exact hS)
      simp [Array.getElem?_setIfInBounds, this]⟩
    obtain ⟨ad2, A2, c2, e2, hc2, _⟩ := at_L3 (h _ hkk) i h0 h1
    rw [e] at e2; injection e2 with e2; subst e2
    have hlt : ad.block < w.heap.size := by have := World.block_lt_of_cell? _ _ hc; rwa [hb] at this
    simp only [World.cell?, hb] at hc2
    simp [Array.getElem?_setIfInBounds, hlt] at hc2
  have hcell : ∀ W_, Kept w W_ S → W_.cell? (ad.add i.toNat) = some (.slice A0 (rd_L3 xs i).length c0) := fun W_ hk_ => Go.Proofs.YtfeakndpkloofaaDoorW.PrintWords.cell_kept hc hk_ hns
  refine ⟨ad, A0, c0, e, hcell W hk, hl, fun W_ hk_ => ?_⟩
  obtain ⟨ad2, A2, c2, e2, hc2, _, hC⟩ := at_L3 (h W_ hk_) i h0 h1
  rw [e] at e2; injection e2 with e2; subst e2
  have := (hcell W_ hk_).symm.trans hc2
  injection this with this; injection this with this _ _
  rw [this]; exact hC

end Go.Proofs.YtfeakndpkloofaaDoor.P
