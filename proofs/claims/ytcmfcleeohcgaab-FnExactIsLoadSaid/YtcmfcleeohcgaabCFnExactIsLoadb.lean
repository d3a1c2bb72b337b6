/- The law FnExactIsLoad holds for every input: the program returns what the reference returns (or what the law says), for all arguments. -/
import Derived.Test.YtcmfcleeohcgaabWMore
import Derived.WalkKit
import Derived.ProofKit
import Derived.OpenShut
import Derived.ShutString
import Derived.ChangeOld
import Derived.Below
import Derived.SizedLaws
import Derived.Deep.Matrix
import Derived.Lib.SmallJoins
import Derived.Test.YtcmfcleeohcgaabPlawsszGraph
import Derived.Test.YtcmfcleeohcgaabCFnExactIsLoada
import Derived.Test.YtcmfcleeohcgaabPspecgrGood
import Derived.Test.YtcmfcleeohcgaabPspecl1All
import Derived.Test.YtcmfcleeohcgaabPspecl1In
import Derived.Test.YtcmfcleeohcgaabPimplisGraph
import Derived.Test.YtcmfcleeohcgaabPspecgrPlace
import Derived.Test.YtcmfcleeohcgaabPimplhas
import Derived.Test.YtcmfcleeohcgaabPimplisWalk
import Derived.Test.YtcmfcleeohcgaabPspecwaGood
import Derived.Test.YtcmfcleeohcgaabPlawsszIntS
import Derived.Test.YtcmfcleeohcgaabPimplGraphlengths
import Derived.Test.YtcmfcleeohcgaabPspecgrFar
import Derived.Test.YtcmfcleeohcgaabPimplGraphleadsTo
import Derived.Test.YtcmfcleeohcgaabPspecgrLeads
import Derived.Test.YtcmfcleeohcgaabPimplhasSink
import Derived.Test.YtcmfcleeohcgaabPspecchSink
import Derived.Test.YtcmfcleeohcgaabPimplareRotors
import Derived.Test.YtcmfcleeohcgaabPimplareChips
import Derived.Test.YtcmfcleeohcgaabPimplsum
import Derived.Test.YtcmfcleeohcgaabPspecchSum
import Derived.Test.YtcmfcleeohcgaabPimplisLoad
import Derived.Test.YtcmfcleeohcgaabPspecchGood
import Derived.Test.YtcmfcleeohcgaabRows
namespace Go.Proofs.Ytcmfcleeohcgaab.In
open Go.RowKit Go.Proofs.YtcmfcleeohcgaabW.PrintWords Go.Proofs.YtcmfcleeohcgaabW.PrintLast Go.Proofs.YtcmfcleeohcgaabW.PrintMore
set_option linter.unusedVariables false
/-- A row of numbers, as the reading of an argument tells it. -/
theorem in_ints {w : World} {A : Option Addr} {L C : Nat} {zs : List Int} (hl : L ≤ C) (hm : C ≤ maxLen) (hz : zs.length = C) (hn : A = none → C = 0) (hc : ∀ a', A = some a' → ∀ c, c < C → w.cell? (a'.add c) = some (.int .i64 (zs.getD c 0))) :
    Kd.C (Kd.int .i64) w A (zs.take L).length (zs.take L) := by
  have hlen : (zs.take L).length = L := by rw [List.length_take]; omega
  refine ⟨rfl, by rw [hlen]; unfold maxLen at hm; omega, fun h => ?_⟩
  rw [hlen] at h
  cases A with
  | none => have := hn rfl; omega
  | some a =>
    refine ⟨a, rfl, fun j p hj => ⟨[.int .i64 p], rfl, rfl, fun i u hi => ?_⟩⟩
    have hi0 : i = 0 := by
      cases i with
      | zero => rfl
      | succ i => simp at hi
    subst hi0
    obtain rfl := Option.some.inj hi
    show w.cell? (a.add (j * 1 + 0)) = _
    rw [List.getElem?_take] at hj
    split at hj
    · rename_i hjl
      have h2 : zs.getD j 0 = p := by rw [List.getD_eq_getElem?_getD, hj]; rfl
      rw [Nat.mul_one, Nat.add_zero, hc a rfl j (by omega), h2]
    · cases hj
/-- Rows of numbers. -/
theorem in_rows {w : World} {q : Nat} {a : Addr} {len cap : Nat} {A : Nat → Option Addr} {L C : Nat → Nat} {Z : Nat → List Int} (hl : len ≤ cap) (hm : cap ≤ maxLen)
    (h : ∀ r, r < cap → w.cell? (a.add r) = some (.slice (A r) (L r) (C r)) ∧ L r ≤ C r ∧ C r ≤ maxLen ∧ (Z r).length = C r ∧ (∀ n ∈ Z r, (Lit.int .i64 n).wf = true) ∧ (A r = none → C r = 0) ∧ ∀ a', A r = some a' → ∀ c, c < C r → w.cell? (a'.add c) = some (.int .i64 ((Z r).getD c 0))) :
    ∃ ll : List (List Int), len = ll.length ∧ Kd.C (Kd.slice q (Kd.int .i64)) w (some a) ll.length ll ∧ (∀ row ∈ ll, row.length ≤ maxLen ∧ ∀ x ∈ row, (Lit.int .i64 x).wf = true) := by
  refine ⟨(List.range len).map fun r => (Z r).take (L r), by simp, ⟨by simp, by simp; unfold maxLen at hm; omega, fun _ => ⟨a, rfl, fun j p hj => ?_⟩⟩, fun row hrow => ?_⟩
  · rw [List.getElem?_map] at hj
    have hjl : j < len := by
      rcases Nat.lt_or_ge j len with h1 | h1
      · exact h1
      · rw [List.getElem?_eq_none (by simpa using h1)] at hj; cases hj
    rw [List.getElem?_range hjl] at hj
    simp at hj
    subst hj
    obtain ⟨h1, h2, h3, h4, h5, h6, h7⟩ := h j (by omega)
    have hlen : ((Z j).take (L j)).length = L j := by rw [List.length_take]; omega
    refine ⟨[.slice (A j) ((Z j).take (L j)).length (C j)], rfl, ⟨A j, C j, rfl, by omega, in_ints h2 h3 h4 h6 h7⟩, fun i u hi => ?_⟩
    have hi0 : i = 0 := by
      cases i with
      | zero => rfl
      | succ i => simp at hi
    subst hi0
    obtain rfl := Option.some.inj hi
    show w.cell? (a.add (j * 1 + 0)) = _
    rw [Nat.mul_one, Nat.add_zero, h1, hlen]
  · simp only [List.mem_map, List.mem_range] at hrow
    obtain ⟨r, hr, rfl⟩ := hrow
    obtain ⟨h1, h2, h3, h4, h5, h6, h7⟩ := h r (by omega)
    exact ⟨by rw [List.length_take]; omega, fun x hx => h5 x (List.mem_of_mem_take hx)⟩
section
variable {H : Type} {enc : TypeId × Value → H} {P : Program} {w : World} {base : Nat} {held : Bool}
open Go.ChangeShapes Go.WideShapes Go.Deep in
/-- Rows of numbers, in a cell. -/
theorem in_rows_cell {t e q : TypeId} {fuel : Nat} {cs : List Value} {x : DataW H × List MemPlace} (ht : P.underlying t = some (.slice e)) (he : P.underlying e = some (.slice q)) (hq : P.underlying q = some (.int .i64))
    (ce : P.cellsOf e = 1) (cq : P.cellsOf q = 1) (h : DataW.trod enc P w base (fun _ => true) held fuel t cs = some x) :
    ∃ (A : Option Addr) (ll : List (List Int)) (cap : Nat), cs = [.slice A ll.length cap] ∧ ll.length ≤ cap ∧ Kd.C (Kd.slice q (Kd.int .i64)) w A ll.length ll ∧ (∀ row ∈ ll, row.length ≤ maxLen ∧ ∀ x ∈ row, (Lit.int .i64 x).wf = true) := by
  rcases open_int_rows ht he hq ce cq h with ⟨rfl, _⟩ | ⟨a, len, cap, A, L, C, Z, rfl, _, hl, hm, _, hr⟩
  · exact ⟨none, [], 0, rfl, Nat.le_refl _, Kd.C_nil _ _, by simp⟩
  · obtain ⟨ll, rfl, hc, hw⟩ := in_rows (q := q) hl hm (fun r hr' => by
      obtain ⟨h1, h2, h3, h4, h5, h6, h7⟩ := hr r hr'
      exact ⟨h1, h2, h3, h4, h5, h6, fun a' ha c hc => (h7 a' ha).2 c hc⟩)
    exact ⟨some a, ll, cap, rfl, hl, hc, hw⟩
open Go.ChangeShapes Go.WideShapes Go.Deep in
/-- Numbers, in a cell. -/
theorem in_ints_cell {t q : TypeId} {fuel : Nat} {cs : List Value} {x : DataW H × List MemPlace} (ht : P.underlying t = some (.slice q)) (hq : P.underlying q = some (.int .i64))
    (cq : P.cellsOf q = 1) (h : DataW.trod enc P w base (fun _ => true) held fuel t cs = some x) :
    ∃ (A : Option Addr) (l : List Int) (cap : Nat), cs = [.slice A l.length cap] ∧ l.length ≤ cap ∧ Kd.C (Kd.int .i64) w A l.length l ∧ (l.length ≤ maxLen ∧ ∀ x ∈ l, (Lit.int .i64 x).wf = true) := by
  rcases open_ints ht hq cq h with ⟨rfl, _⟩ | ⟨a, len, cap, zs, rfl, _, hl, hm, hz, _, hc, hw⟩
  · exact ⟨none, [], 0, rfl, Nat.le_refl _, Kd.C_nil _ _, by simp⟩
  · simp only [if_true] at hz
    have hlen : (zs.take len).length = len := by rw [List.length_take]; omega
    refine ⟨some a, zs.take len, cap, by rw [hlen], by omega, in_ints hl hm hz (fun e => by cases e) (fun a' e c hlt => by cases e; exact hc c (by omega)), by omega, fun x hx => hw x (List.mem_of_mem_take hx)⟩
theorem array1 {α : Type} {cs : Array α} (h : cs.size = 1) : ∃ c0, cs = #[c0] := by
  obtain ⟨l⟩ := cs
  match l, h with
  | [c0], _ => exact ⟨c0, rfl⟩
open Go.ChangeShapes Go.WideShapes Go.Deep in
/-- A struct of one field: rows of numbers. -/
theorem in_graph {r : Reach} {b0 : Nat} {t ts te q : TypeId} {f0 : Field} {v : Value} {d : DataW H} {p : List MemPlace} (hs : P.underlying t = some (.struct #[f0])) (hone : oneCellFields P #[f0] = true) (hC : P.cellsOf t = 1) (hf0 : f0.type = ts)
    (ht : P.underlying ts = some (.slice te)) (he : P.underlying te = some (.slice q)) (hq : P.underlying q = some (.int .i64)) (ce : P.cellsOf te = 1) (cq : P.cellsOf q = 1) (hv : Value.okWide P w r b0 t v) (h : DataW.Trod enc P w base (fun _ => true) held t v d p) :
    ∃ (A : Option Addr) (ll : List (List Int)) (cap : Nat), v = .agg #[.slice A ll.length cap] ∧ ll.length ≤ cap ∧ Kd.C (Kd.slice q (Kd.int .i64)) w A ll.length ll ∧ (∀ row ∈ ll, row.length ≤ maxLen ∧ ∀ x ∈ row, (Lit.int .i64 x).wf = true) := by
  subst hf0
  obtain ⟨cs, rfl, hsz⟩ := okWide_struct hs hv
  obtain ⟨c0, rfl⟩ := array1 (hsz.trans hC)
  obtain ⟨fuel, hf⟩ := h
  obtain ⟨y0, n, hx, _, h0⟩ := trod_struct1 hs hf
  obtain ⟨o0, k0⟩ := hone_of hone 0 f0 rfl
  obtain ⟨A, ll, cap, hcs, h1, h2, h3⟩ := in_rows_cell ht he hq ce cq h0
  simp [Value.cells, o0, k0] at hcs
  subst hcs
  exact ⟨A, ll, cap, rfl, h1, h2, h3⟩
end
section
variable {H : Type} {enc : TypeId × Value → H} {P : Program} {w : World} {base : Nat} {held : Bool}
open Go.ChangeShapes Go.WideShapes Go.Deep in
/-- A struct of numbers and a number. -/
theorem in_walk {r : Reach} {b0 : Nat} {t ts q tx : TypeId} {f0 f1 : Field} {v : Value} {d : DataW H} {p : List MemPlace} (hs : P.underlying t = some (.struct #[f0, f1])) (hone : oneCellFields P #[f0, f1] = true) (hC : P.cellsOf t = 2) (hf0 : f0.type = ts) (hf1 : f1.type = tx)
    (ht : P.underlying ts = some (.slice q)) (hq : P.underlying q = some (.int .i64)) (hx : P.underlying tx = some (.int .i64)) (cq : P.cellsOf q = 1) (hv : Value.okWide P w r b0 t v) (h : DataW.Trod enc P w base (fun _ => true) held t v d p) :
    ∃ (A : Option Addr) (l : List Int) (cap : Nat) (x : Int), v = .agg #[.slice A l.length cap, .int .i64 x] ∧ l.length ≤ cap ∧ Kd.C (Kd.int .i64) w A l.length l ∧ (l.length ≤ maxLen ∧ ∀ y ∈ l, (Lit.int .i64 y).wf = true) ∧ (Lit.int .i64 x).wf = true := by
  subst hf0 hf1
  obtain ⟨v0, v1, y0, y1, n, rfl, _, _, h0, h1⟩ := Go.Joins.open_agg2 hs hone hC hv h
  obtain ⟨A, l, cap, hcs, hl, hc, hw⟩ := in_ints_cell ht hq cq h0
  simp only [List.cons.injEq, and_true] at hcs
  subst hcs
  obtain ⟨x, hxs, _, hxw⟩ := DataW.trod_int hx h1
  simp only [List.cons.injEq, and_true] at hxs
  subst hxs
  exact ⟨A, l, cap, x, rfl, hl, hc, hw, hxw⟩
open Go.ChangeShapes Go.WideShapes Go.Deep in
/-- A struct of numbers and numbers. -/
theorem in_load {r : Reach} {b0 : Nat} {t ts q : TypeId} {f0 f1 : Field} {v : Value} {d : DataW H} {p : List MemPlace} (hs : P.underlying t = some (.struct #[f0, f1])) (hone : oneCellFields P #[f0, f1] = true) (hC : P.cellsOf t = 2) (hf0 : f0.type = ts) (hf1 : f1.type = ts)
    (ht : P.underlying ts = some (.slice q)) (hq : P.underlying q = some (.int .i64)) (cq : P.cellsOf q = 1) (hv : Value.okWide P w r b0 t v) (h : DataW.Trod enc P w base (fun _ => true) held t v d p) :
    ∃ (A : Option Addr) (l : List Int) (cap : Nat) (B : Option Addr) (m : List Int) (bcap : Nat), v = .agg #[.slice A l.length cap, .slice B m.length bcap] ∧ l.length ≤ cap ∧ Kd.C (Kd.int .i64) w A l.length l ∧ (l.length ≤ maxLen ∧ ∀ y ∈ l, (Lit.int .i64 y).wf = true) ∧ m.length ≤ bcap ∧ Kd.C (Kd.int .i64) w B m.length m ∧ (m.length ≤ maxLen ∧ ∀ y ∈ m, (Lit.int .i64 y).wf = true) := by
  subst hf0
  obtain ⟨v0, v1, y0, y1, n, rfl, _, _, h0, h1⟩ := Go.Joins.open_agg2 hs hone hC hv h
  obtain ⟨A, l, cap, hcs, hl, hc, hw⟩ := in_ints_cell ht hq cq h0
  simp only [List.cons.injEq, and_true] at hcs
  subst hcs
  rw [hf1] at h1
  obtain ⟨B, m, bcap, hcs, hm, hd, hx⟩ := in_ints_cell ht hq cq h1
  simp only [List.cons.injEq, and_true] at hcs
  subst hcs
  exact ⟨A, l, cap, B, m, bcap, rfl, hl, hc, hw, hm, hd, hx⟩
open Go.ChangeShapes Go.WideShapes Go.Deep in
theorem in_slice {r : Reach} {b0 : Nat} {t q : TypeId} {v : Value} {d : DataW H} {p : List MemPlace} (ht : P.underlying t = some (.slice q)) (hq : P.underlying q = some (.int .i64)) (cq : P.cellsOf q = 1) (hv : Value.okWide P w r b0 t v) (h : DataW.Trod enc P w base (fun _ => true) held t v d p) :
    ∃ (A : Option Addr) (l : List Int) (cap : Nat), v = .slice A l.length cap ∧ l.length ≤ cap ∧ Kd.C (Kd.int .i64) w A l.length l ∧ (l.length ≤ maxLen ∧ ∀ y ∈ l, (Lit.int .i64 y).wf = true) := by
  obtain ⟨A0, n0, c0, rfl⟩ := okWide_slice ht hv
  obtain ⟨fuel, hf⟩ := h
  obtain ⟨A, l, cap, hcs, hl, hc, hw⟩ := in_ints_cell ht hq cq hf
  simp [Value.cells] at hcs
  obtain ⟨rfl, rfl, rfl⟩ := hcs
  exact ⟨_, l, _, rfl, hl, hc, hw⟩
open Go.ChangeShapes Go.WideShapes Go.Deep in
theorem in_slices {r : Reach} {b0 : Nat} {t e q : TypeId} {v : Value} {d : DataW H} {p : List MemPlace} (ht : P.underlying t = some (.slice e)) (he : P.underlying e = some (.slice q)) (hq : P.underlying q = some (.int .i64)) (ce : P.cellsOf e = 1) (cq : P.cellsOf q = 1) (hv : Value.okWide P w r b0 t v) (h : DataW.Trod enc P w base (fun _ => true) held t v d p) :
    ∃ (A : Option Addr) (ll : List (List Int)) (cap : Nat), v = .slice A ll.length cap ∧ ll.length ≤ cap ∧ Kd.C (Kd.slice q (Kd.int .i64)) w A ll.length ll ∧ (∀ row ∈ ll, row.length ≤ maxLen ∧ ∀ x ∈ row, (Lit.int .i64 x).wf = true) := by
  obtain ⟨A0, n0, c0, rfl⟩ := okWide_slice ht hv
  obtain ⟨fuel, hf⟩ := h
  obtain ⟨A, ll, cap, hcs, hl, hc, hw⟩ := in_rows_cell ht he hq ce cq hf
  simp [Value.cells] at hcs
  obtain ⟨rfl, rfl, rfl⟩ := hcs
  exact ⟨_, ll, _, rfl, hl, hc, hw⟩
end
/-! What an argument's numbers are like. -/
def okI (x : Int) : Prop := -9223372036854775808 ≤ x ∧ x ≤ 9223372036854775807
def okIs (l : List Int) : Prop := l.length ≤ 9223372036854775807 ∧ ∀ x ∈ l, okI x
def okSS (ll : List (List Int)) : Prop := ll.length ≤ 9223372036854775807 ∧ ∀ row ∈ ll, okIs row
theorem okI_wf {x : Int} (h : (Lit.int .i64 x).wf = true) : okI x := by
  simp only [Lit.wf, Bool.and_eq_true, decide_eq_true_eq] at h
  exact h
theorem okIs_wf {l : List Int} (h : l.length ≤ maxLen ∧ ∀ x ∈ l, (Lit.int .i64 x).wf = true) : okIs l := ⟨h.1, fun x hx => okI_wf (h.2 x hx)⟩
theorem okSS_wf {w : World} {q : Nat} {A : Option Addr} {ll : List (List Int)} (hc : Kd.C (Kd.slice q (Kd.int .i64)) w A ll.length ll) (h : ∀ row ∈ ll, row.length ≤ maxLen ∧ ∀ x ∈ row, (Lit.int .i64 x).wf = true) : okSS ll := ⟨hc.2.1, fun row hr => okIs_wf (h row hr)⟩

end Go.Proofs.Ytcmfcleeohcgaab.In
namespace Go.Proofs.Ytcmfcleeohcgaab.M
open Go.RowKit Go.Proofs.Ytcmfcleeohcgaab.P Go.Proofs.Ytcmfcleeohcgaab.In Go.Proofs.YtcmfcleeohcgaabW.PrintWords Go.Proofs.YtcmfcleeohcgaabW.PrintLast
set_option linter.unusedVariables false
set_option linter.unusedSimpArgs false
/-! numbers -/
theorem wrap_id {x : Int} (h : -9223372036854775808 ≤ x ∧ x ≤ 9223372036854775807) : wrap64 x = x := by unfold wrap64; omega
theorem wrap_nat {n : Nat} (h : n < 9223372036854775807) : wrap64 ((n : Int) + 1) = ((n + 1 : Nat) : Int) := by unfold wrap64; omega
theorem rd_at {l : List Int} {n : Nat} (h : n < l.length) : rd l (n : Int) = l[n] := by simp [rd, h]
theorem rdL_at {l : List (List Int)} {n : Nat} (h : n < l.length) : rd_L1 l (n : Int) = l[n] := by simp [rd_L1, h]
theorem _root_.Go.Proofs.YtcmfcleeohcgaabW.PrintWords.Ev.val {α : Type} {g : Nat → Option α} {r r' : α} (h : Ev g r) (e : r = r') : Ev g r' := e ▸ h
theorem _root_.Go.Proofs.YtcmfcleeohcgaabW.PrintWords.Ev.const {α : Type} {g : Nat → Option α} {r : α} (h : ∀ k, g k = some r) : Ev g r := ⟨0, fun k _ => h k⟩
theorem _root_.Go.Proofs.YtcmfcleeohcgaabW.PrintWords.Ev.const1 {α : Type} {g : Nat → Option α} {r : α} (h : ∀ k, g (k + 1) = some r) : Ev g r := Ev.step (f := fun _ => some r) h (Ev.const fun _ => rfl)
theorem _root_.Go.Proofs.YtcmfcleeohcgaabW.PrintWords.Ev.succ {α : Type} {g : Nat → Option α} {r : α} (h : Ev (fun k => g (k + 1)) r) : Ev g r := Ev.step (f := fun k => g (k + 1)) (fun _ => rfl) h
theorem _root_.Go.Proofs.YtcmfcleeohcgaabW.PrintWords.Ev.uniq {α : Type} {g : Nat → Option α} {r r' : α} (h : Ev g r) (h' : Ev g r') : r = r' := by
  obtain ⟨K, hK⟩ := h
  obtain ⟨K', hK'⟩ := h'
  have := (hK (max K K') (Nat.le_max_left _ _)).symm.trans (hK' (max K K') (Nat.le_max_right _ _))
  exact Option.some.inj this
theorem _root_.Go.Proofs.YtcmfcleeohcgaabW.PrintWords.Ev.bind0 {α β : Type} {g : Option α} {f : Nat → α → Option β} {a : α} {r : β} (h : g = some a) (k : Ev (fun n => f n a) r) : Ev (fun n => g.bind (f n)) r := by
  subst h; exact k
theorem _root_.Go.Proofs.YtcmfcleeohcgaabW.PrintWords.Ev.pos {α : Type} {g f : Nat → Option α} {r : α} {c : Prop} [Decidable c] (h : c) (k : Ev g r) : Ev (fun n => if c then g n else f n) r := by
  simp only [if_pos h]; exact k
theorem _root_.Go.Proofs.YtcmfcleeohcgaabW.PrintWords.Ev.neg {α : Type} {g f : Nat → Option α} {r : α} {c : Prop} [Decidable c] (h : ¬ c) (k : Ev f r) : Ev (fun n => if c then g n else f n) r := by
  simp only [if_neg h]; exact k

/-! copies -/
theorem toIntS_l0 (l : List Int) (hl : l.length < 9223372036854775807) : ∀ (d i : Nat) (y : List Int), l.length - i = d → i ≤ l.length → y.length = l.length → y.take i = l.take i → Ev (fun k => laws_toIntS.l0 k l y i) l := by
  intro d
  induction d with
  | zero =>
    intro i y hd hi hy ht
    have : i = l.length := by omega
    subst this
    refine Ev.const1 (fun k => ?_)
    simp only [laws_toIntS.l0]
    rw [if_neg (by omega)]
    rw [List.take_of_length_le (by omega), List.take_of_length_le (by omega)] at ht
    rw [ht]
  | succ d ih =>
    intro i y hd hi hy ht
    have hlt : i < l.length := by omega
    refine Ev.step (f := fun k => laws_toIntS.l0 k l (y.set i l[i]) (i + 1 : Nat)) (fun k => ?_) (ih (i + 1) (y.set i l[i]) (by omega) (by omega) (by rw [List.length_set]; exact hy) ?_)
    · simp only [laws_toIntS.l0]
      rw [if_pos (by omega), if_pos (by omega), if_pos (by omega), wrap_nat (by omega), rd_at hlt, Int.toNat_natCast]
    · rw [List.take_succ_eq_append_getElem (by rw [List.length_set]; omega), List.take_succ_eq_append_getElem hlt, List.take_set_of_le (Nat.le_refl _), ht, List.getElem_set_self]
theorem toIntS (l : List Int) (hl : l.length ≤ 35184372088832) : Ev (fun k => laws_toIntS.f k l) l := by
  unfold laws_toIntS.f
  refine Ev.pos (by omega) (Ev.pos (by omega) ?_)
  exact toIntS_l0 l (by omega) l.length 0 _ (by omega) (by omega) (by simp) (by simp)
theorem toIntSS_l0 (l : List (List Int)) (hl : l.length < 9223372036854775807) (hr : ∀ row ∈ l, row.length ≤ 35184372088832) : ∀ (d i : Nat) (y : List (List Int)), l.length - i = d → i ≤ l.length → y.length = l.length → y.take i = l.take i → Ev (fun k => laws_toIntSS.l0 k l y i) l := by
  intro d
  induction d with
  | zero =>
    intro i y hd hi hy ht
    have : i = l.length := by omega
    subst this
    refine Ev.const1 (fun k => ?_)
    simp only [laws_toIntSS.l0]
    rw [if_neg (by omega)]
    rw [List.take_of_length_le (by omega), List.take_of_length_le (by omega)] at ht
    rw [ht]
  | succ d ih =>
    intro i y hd hi hy ht
    have hlt : i < l.length := by omega
    refine Ev.step (f := fun k => (laws_toIntS.f k l[i]).bind fun t => laws_toIntSS.l0 k l (y.set i t) (i + 1 : Nat)) (fun k => ?_) (Ev.bind (toIntS l[i] (hr _ (List.getElem_mem hlt))) (ih (i + 1) (y.set i l[i]) (by omega) (by omega) (by rw [List.length_set]; exact hy) ?_))
    · simp only [laws_toIntSS.l0]
      rw [if_pos (by omega), if_pos (by omega), wrap_nat (by omega), rdL_at hlt, Int.toNat_natCast]
      congr 1
      funext t
      rw [if_pos (by omega)]
    · rw [List.take_succ_eq_append_getElem (by rw [List.length_set]; omega), List.take_succ_eq_append_getElem hlt, List.take_set_of_le (Nat.le_refl _), ht, List.getElem_set_self]
theorem toIntSS (l : List (List Int)) (hl : l.length ≤ 11728124029610) (hr : ∀ row ∈ l, row.length ≤ 35184372088832) : Ev (fun k => laws_toIntSS.f k l) l := by
  unfold laws_toIntSS.f
  refine Ev.pos (by omega) (Ev.pos (by omega) ?_)
  exact toIntSS_l0 l (by omega) hr l.length 0 _ (by omega) (by omega) (by simp) (by simp)
/-- A graph that is small enough for a law to look at it. -/
def small (l : List (List Int)) : Prop := l.length ≤ 1048576 ∧ ∀ row ∈ l, row.length ≤ 1048576
theorem toGraph (l : List (List Int)) (h : small l) : Ev (fun k => laws_toGraph.f k l) l := by
  unfold laws_toGraph.f
  exact Ev.bind (toIntSS l (by have := h.1; omega) (fun row hr => by have := h.2 row hr; omega)) (Ev.now _)

/-! sizes -/
theorem szIntSS_l0 (l : List (List Int)) (hl : okSS l) : ∀ (d i : Nat) (a : Int), l.length - i = d → i ≤ l.length → 0 ≤ a → a ≤ 1048576 → ∃ r, Ev (fun k => laws_szIntSS.l0 k l a i) r ∧ r ≤ 1048576 ∧ (0 ≤ r → ∀ j (hj : j < l.length), i ≤ j → l[j].length ≤ 1048576) := by
  intro d
  induction d with
  | zero =>
    intro i a hd hi h0 h1
    refine ⟨a, Ev.const1 (fun k => ?_), h1, fun _ j hj hij => by omega⟩
    simp only [laws_szIntSS.l0]
    rw [if_neg (by omega)]
  | succ d ih =>
    intro i a hd hi h0 h1
    have hlt : i < l.length := by omega
    have hll := hl.1
    have hrow := (hl.2 _ (List.getElem_mem hlt)).1
    by_cases hneg : a - (l[i].length : Int) < 0
    · refine ⟨-1, Ev.const1 (fun k => ?_), by omega, fun h => by omega⟩
      simp only [laws_szIntSS.l0, laws_szIntS.f]
      rw [if_pos (by omega), if_pos (by omega), rdL_at hlt, if_pos (by rw [wrap_id (by omega)]; exact hneg)]
      rfl
    · obtain ⟨r, h2, h3, h4⟩ := ih (i + 1) (a - (l[i].length : Int)) (by omega) (by omega) (by omega) (by omega)
      refine ⟨r, Ev.step (fun k => ?_) h2, h3, fun h j hj hij => ?_⟩
      · simp only [laws_szIntSS.l0, laws_szIntS.f]
        rw [if_pos (by omega), if_pos (by omega), rdL_at hlt, wrap_id (by omega), if_neg hneg, wrap_nat (by omega)]
        simp only [Option.bind_some]
        rw [if_neg hneg]
      · by_cases e : j = i
        · subst e; omega
        · exact h4 h j hj (by omega)
theorem szGraph (l : List (List Int)) (hl : okSS l) : ∃ r, Ev (fun k => laws_szGraph.f k l 1048576) r ∧ r ≤ 1048576 ∧ (0 ≤ r → small l) := by
  have hll := hl.1
  unfold laws_szGraph.f laws_szIntSS.f
  rw [wrap_id (by omega)]
  by_cases h : (1048576 : Int) - (l.length : Int) < 0
  · exact ⟨-1, Ev.bind (Ev.pos h (Ev.now _)) (Ev.pos (by omega) (Ev.now _)), by omega, fun h => by omega⟩
  · obtain ⟨r, h2, h3, h4⟩ := szIntSS_l0 l hl l.length 0 (1048576 - (l.length : Int)) (by omega) (by omega) (by omega) (by omega)
    by_cases hr : r < 0
    · exact ⟨-1, Ev.bind (Ev.neg h h2) (Ev.pos hr (Ev.now _)), by omega, fun h => by omega⟩
    · refine ⟨r, Ev.bind (Ev.neg h h2) (Ev.neg hr (Ev.now _)), h3, fun h0 => ⟨by omega, fun row hrow => ?_⟩⟩
      obtain ⟨j, hj, rfl⟩ := List.getElem_of_mem hrow
      exact h4 h0 j hj (Nat.zero_le _)

/-! comparisons -/
theorem cons_dec {α : Type} [DecidableEq α] {a b : α} {l m : List α} (e : a = b) : decide (l = m) = decide (a :: l = b :: m) := by
  subst e; exact decide_eq_decide.mpr ⟨fun h => by rw [h], fun h => (List.cons.inj h).2⟩
theorem eqIntS_l0 (x y : List Int) (hl : x.length ≤ 9223372036854775807) (hxy : x.length = y.length) : ∀ (d i : Nat), x.length - i = d → i ≤ x.length → Ev (fun k => laws_eqIntS.l0 k x y i) (decide (x.drop i = y.drop i)) := by
  intro d
  induction d with
  | zero =>
    intro i hd hi
    refine Ev.const1 (fun k => ?_)
    simp only [laws_eqIntS.l0]
    rw [if_neg (by omega), List.drop_of_length_le (by omega), List.drop_of_length_le (by omega)]
    simp
  | succ d ih =>
    intro i hd hi
    have hlt : i < x.length := by omega
    have hlt2 : i < y.length := by omega
    rw [List.drop_eq_getElem_cons hlt, List.drop_eq_getElem_cons hlt2]
    by_cases e : x[i] = y[i]
    · refine Ev.step (f := fun k => laws_eqIntS.l0 k x y (i + 1 : Nat)) (fun k => ?_) ((ih (i + 1) (by omega) (by omega)).val (cons_dec e))
      simp only [laws_eqIntS.l0]
      rw [if_pos (by omega), if_pos (by omega), if_pos (by omega), rd_at hlt, rd_at hlt2, if_pos e, wrap_nat (by omega)]
    · refine Ev.const1 (fun k => ?_)
      simp only [laws_eqIntS.l0]
      rw [if_pos (by omega), if_pos (by omega), if_pos (by omega), rd_at hlt, rd_at hlt2, if_neg e, decide_eq_false (fun h => e (List.cons.inj h).1)]
theorem eqIntS (x y : List Int) (hl : x.length ≤ 9223372036854775807) : Ev (fun k => laws_eqIntS.f k x y) (decide (x = y)) := by
  unfold laws_eqIntS.f
  by_cases h : x.length = y.length
  · refine Ev.pos (by omega) ?_
    exact eqIntS_l0 x y hl h x.length 0 (by omega) (by omega)
  · refine Ev.neg (by omega) ?_
    exact (Ev.now _).val (by have : x ≠ y := fun e => h (by rw [e]); simp [this])
theorem eqIntSS_l0 (x y : List (List Int)) (hl : x.length ≤ 9223372036854775807) (hr : ∀ row ∈ x, row.length ≤ 9223372036854775807) (hxy : x.length = y.length) : ∀ (d i : Nat), x.length - i = d → i ≤ x.length → Ev (fun k => laws_eqIntSS.l0 k x y i) (decide (x.drop i = y.drop i)) := by
  intro d
  induction d with
  | zero =>
    intro i hd hi
    refine Ev.const1 (fun k => ?_)
    simp only [laws_eqIntSS.l0]
    rw [if_neg (by omega), List.drop_of_length_le (by omega), List.drop_of_length_le (by omega)]
    simp
  | succ d ih =>
    intro i hd hi
    have hlt : i < x.length := by omega
    have hlt2 : i < y.length := by omega
    rw [List.drop_eq_getElem_cons hlt, List.drop_eq_getElem_cons hlt2]
    refine Ev.step (f := fun k => (laws_eqIntS.f k x[i] y[i]).bind fun t => if t = true then laws_eqIntSS.l0 k x y (i + 1 : Nat) else some false) (fun k => ?_) ?_
    · simp only [laws_eqIntSS.l0]
      rw [if_pos (by omega), if_pos (by omega), if_pos (by omega), rdL_at hlt, rdL_at hlt2, wrap_nat (by omega)]
    · by_cases e : x[i] = y[i]
      · exact Ev.bind ((eqIntS x[i] y[i] (hr _ (List.getElem_mem hlt))).val (decide_eq_true e)) (Ev.pos rfl ((ih (i + 1) (by omega) (by omega)).val (cons_dec e)))
      · exact Ev.bind ((eqIntS x[i] y[i] (hr _ (List.getElem_mem hlt))).val (decide_eq_false e)) (Ev.neg (by simp) ((Ev.now _).val (decide_eq_false (fun h => e (List.cons.inj h).1)).symm))
theorem eqIntSS (x y : List (List Int)) (hl : x.length ≤ 9223372036854775807) (hr : ∀ row ∈ x, row.length ≤ 9223372036854775807) : Ev (fun k => laws_eqIntSS.f k x y) (decide (x = y)) := by
  unfold laws_eqIntSS.f
  by_cases h : x.length = y.length
  · refine Ev.pos (by omega) ?_
    exact eqIntSS_l0 x y hl hr h x.length 0 (by omega) (by omega)
  · refine Ev.neg (by omega) ?_
    exact (Ev.now _).val (by have : x ≠ y := fun e => h (by rw [e]); simp [this])
theorem eqGraph (x y : List (List Int)) (hl : x.length ≤ 9223372036854775807) (hr : ∀ row ∈ x, row.length ≤ 9223372036854775807) : Ev (fun k => laws_eqGraph.f k x y) (decide (x = y)) := by
  unfold laws_eqGraph.f
  refine Ev.bind (eqIntSS x y hl hr) ?_
  by_cases e : x = y
  · exact Ev.pos (decide_eq_true e) ((Ev.now _).val (decide_eq_true e).symm)
  · exact Ev.neg (by simp [e]) ((Ev.now _).val (decide_eq_false e).symm)
theorem small_eq (l : List (List Int)) (h : small l) : Ev (fun k => laws_eqGraph.f k l l) true := (eqGraph l l (by have := h.1; omega) (fun row hr => by have := h.2 row hr; omega)).val (decide_eq_true rfl)

/-! what a graph is -/
theorem l1In (a lo hi : Int) : spec_l1In.f a lo hi = some (decide (lo ≤ a) && decide (a ≤ hi)) := by
  unfold spec_l1In.f
  by_cases h : a ≥ lo
  · rw [if_pos h]; have : lo ≤ a := h; simp [this]
  · rw [if_neg h]; have : ¬ lo ≤ a := h; simp [this]
theorem implin (a lo hi : Int) : impl_in.f a lo hi = some (decide (lo ≤ a) && decide (a ≤ hi)) := by
  unfold impl_in.f
  by_cases h : lo ≤ a
  · rw [if_pos h]; simp [h]
  · rw [if_neg h]; simp [h]
theorem l1All_l0 (l : List Int) (lo hi : Int) (hl : l.length ≤ 9223372036854775807) : ∀ (d i : Nat), l.length - i = d → i ≤ l.length → Ev (fun k => spec_l1All.l0 k lo hi l l.length i) ((l.drop i).all fun x => decide (lo ≤ x) && decide (x ≤ hi)) := by
  intro d
  induction d with
  | zero =>
    intro i hd hi
    refine Ev.const1 (fun k => ?_)
    simp only [spec_l1All.l0]
    rw [if_neg (by omega), List.drop_of_length_le (by omega)]
    rfl
  | succ d ih =>
    intro i hd hi'
    have hlt : i < l.length := by omega
    rw [List.drop_eq_getElem_cons hlt, List.all_cons]
    by_cases e : (decide (lo ≤ l[i]) && decide (l[i] ≤ hi)) = true
    · refine Ev.step (f := fun k => spec_l1All.l0 k lo hi l l.length (i + 1 : Nat)) (fun k => ?_) ((ih (i + 1) (by omega) (by omega)).val (by rw [e]; simp))
      simp only [spec_l1All.l0, l1In]
      rw [if_pos (by omega), if_pos (by omega), if_pos (by omega), rd_at hlt, wrap_nat (by omega)]
      simp only [Option.bind_some]
      rw [if_pos e]
    · refine Ev.const1 (fun k => ?_)
      simp only [spec_l1All.l0, l1In]
      rw [if_pos (by omega), if_pos (by omega), if_pos (by omega), rd_at hlt]
      simp only [Option.bind_some]
      rw [if_neg e]
      simp only [Bool.not_eq_true] at e
      rw [e]; rfl
theorem l1All (l : List Int) (lo hi : Int) (hl : l.length ≤ 9223372036854775807) : Ev (fun k => spec_l1All.f k l lo hi) (l.all fun x => decide (lo ≤ x) && decide (x ≤ hi)) := by
  unfold spec_l1All.f
  exact l1All_l0 l lo hi hl l.length 0 (by omega) (by omega)
theorem grGood_l0 (l : List (List Int)) (hl : okSS l) : ∀ (d i : Nat), l.length - i = d → i ≤ l.length → Ev (fun k => spec_grGood.l0 k l.length l l.length i) ((l.drop i).all (goodRow l.length)) := by
  intro d
  induction d with
  | zero =>
    intro i hd hi
    refine Ev.const1 (fun k => ?_)
    simp only [spec_grGood.l0]
    rw [if_neg (by omega), List.drop_of_length_le (by omega)]
    rfl
  | succ d ih =>
    intro i hd hi'
    have hlt : i < l.length := by omega
    have hll := hl.1
    have hrow := (hl.2 _ (List.getElem_mem hlt)).1
    rw [List.drop_eq_getElem_cons hlt, List.all_cons]
    by_cases h5 : l[i].length ≤ 5
    · refine Ev.step (f := fun k => (spec_l1All.f k l[i] 0 ((l.length : Int) - 1)).bind fun t => if t = true then spec_grGood.l0 k l.length l l.length (i + 1 : Nat) else some false) (fun k => ?_) ?_
      · simp only [spec_grGood.l0]
        rw [if_pos (by omega), if_pos (by omega), if_pos (by omega), rdL_at hlt, if_neg (by omega), wrap_nat (by omega), wrap_id (by omega)]
      · by_cases e : (l[i].all fun x => decide (0 ≤ x) && decide (x ≤ (l.length : Int) - 1)) = true
        · exact Ev.bind ((l1All _ 0 _ hrow).val e) (Ev.pos rfl ((ih (i + 1) (by omega) (by omega)).val (by unfold goodRow; rw [e]; simp [h5])))
        · exact Ev.bind ((l1All _ 0 _ hrow).val (Bool.eq_false_iff.mpr e)) (Ev.neg (by simp) ((Ev.now _).val (by unfold goodRow; simp only [Bool.not_eq_true] at e; rw [e]; simp)))
    · refine Ev.const1 (fun k => ?_)
      simp only [spec_grGood.l0]
      rw [if_pos (by omega), if_pos (by omega), if_pos (by omega), rdL_at hlt, if_pos (by omega)]
      simp [goodRow, h5]
theorem grGood (l : List (List Int)) (hl : okSS l) : Ev (fun k => spec_grGood.f k l) (goodG l) := by
  unfold spec_grGood.f
  rw [l1In]
  simp only [Option.bind_some]
  by_cases h : 1 ≤ l.length ∧ l.length ≤ 8
  · have h1 : (1 : Int) ≤ l.length := by omega
    have h2 : (l.length : Int) ≤ 8 := by omega
    refine Ev.pos (by simp [h1, h2]) ?_
    exact (grGood_l0 l hl l.length 0 (by omega) (by omega)).val (by simp [goodG, h.1, h.2])
  · refine Ev.neg (by simp; omega) ((Ev.now _).val ?_)
    unfold goodG
    by_cases h1 : 1 ≤ l.length
    · have h2 : ¬ l.length ≤ 8 := by omega
      simp [h1, h2]
    · simp [h1]
theorem ok_small {l : List (List Int)} (h : okSS l) : l.length ≤ 9223372036854775807 ∧ ∀ row ∈ l, row.length ≤ 9223372036854775807 := ⟨h.1, fun row hr => (h.2 row hr).1⟩
end Go.Proofs.Ytcmfcleeohcgaab.M
namespace Go.Proofs.Ytcmfcleeohcgaab.M
open Go.RowKit Go.Proofs.Ytcmfcleeohcgaab.P Go.Proofs.Ytcmfcleeohcgaab.In Go.Proofs.YtcmfcleeohcgaabW.PrintWords Go.Proofs.YtcmfcleeohcgaabW.PrintLast
set_option linter.unusedVariables false
set_option linter.unusedSimpArgs false
theorem good_iff {l : List (List Int)} (h : goodG l = true) : (1 ≤ l.length ∧ l.length ≤ 8) ∧ ∀ row ∈ l, row.length ≤ 5 ∧ ∀ q ∈ row, 0 ≤ q ∧ q < (l.length : Int) := by
  simp only [goodG, goodRow, Bool.and_eq_true, decide_eq_true_eq, List.all_eq_true] at h
  refine ⟨⟨h.1, h.2.1⟩, fun row hr => ⟨(h.2.2 row hr).1, fun q hq => ?_⟩⟩
  have := (h.2.2 row hr).2 q hq
  omega
/-- A place of a graph. -/
def placeB (l : List (List Int)) (p : Int) : Bool := goodG l && (decide (0 ≤ p) && decide (p ≤ (l.length : Int) - 1))
theorem place_iff {l : List (List Int)} {p : Int} (h : placeB l p = true) : goodG l = true ∧ 0 ≤ p ∧ p < (l.length : Int) := by
  simp only [placeB, Bool.and_eq_true, decide_eq_true_eq] at h
  exact ⟨h.1, h.2.1, by omega⟩
theorem grPlace (l : List (List Int)) (p : Int) (hl : okSS l) : Ev (fun k => spec_grPlace.f k l p) (placeB l p) := by
  unfold spec_grPlace.f
  have hll := hl.1
  refine Ev.bind (grGood l hl) ?_
  by_cases h : goodG l = true
  · refine Ev.pos h ?_
    rw [l1In, wrap_id (by omega)]
    exact Ev.bind0 rfl ((Ev.now _).val (by simp [placeB, h]))
  · exact Ev.neg h ((Ev.now _).val (by simp only [Bool.not_eq_true] at h; simp [placeB, h]))
theorem has1 (l : List (List Int)) (p : Int) : impl_has.f l [p] = some (placeB l p) := by
  unfold impl_has.f placeB; simp
theorem has2 (l : List (List Int)) (p q : Int) : impl_has.f l [p, q] = some (placeB l p && placeB l q) := by
  unfold impl_has.f placeB
  cases goodG l <;> simp

theorem rd_get {l : List Int} {q : Int} (h0 : 0 ≤ q) (h1 : q < (l.length : Int)) : rd l q = l[q.toNat]'(by omega) := by
  unfold rd; rw [List.getD_eq_getElem?_getD, List.getElem?_eq_getElem (by omega)]; rfl
theorem rdL_get {l : List (List Int)} {q : Int} (h0 : 0 ≤ q) (h1 : q < (l.length : Int)) : rd_L1 l q = l[q.toNat]'(by omega) := by
  unfold rd_L1; rw [List.getD_eq_getElem?_getD, List.getElem?_eq_getElem (by omega)]; rfl
theorem rd_set {o : List Int} {q x v : Int} (hq0 : 0 ≤ q) (hq : q < (o.length : Int)) (hx0 : 0 ≤ x) : rd (o.set q.toNat v) x = if x = q then v else rd o x := by
  unfold rd
  rw [List.getD_eq_getElem?_getD, List.getElem?_set, List.getD_eq_getElem?_getD]
  by_cases e : x = q
  · subst e; rw [if_pos rfl, if_pos (by omega), if_pos rfl]; rfl
  · rw [if_neg (by omega), if_neg e]
theorem drop_rd {row : List Int} {i : Nat} (h : i < row.length) : row.drop i = rd row (i : Int) :: row.drop (i + 1) := by
  rw [List.drop_eq_getElem_cons h, rd_at h]
theorem place_of {g : List (List Int)} (hg : goodG g = true) {i : Nat} (hi : i < g.length) : placeB g (i : Int) = true := by
  unfold placeB; rw [hg]; simp; omega
end Go.Proofs.Ytcmfcleeohcgaab.M
namespace Go.Proofs.Ytcmfcleeohcgaab.M
open Go.RowKit Go.Proofs.Ytcmfcleeohcgaab.P Go.Proofs.Ytcmfcleeohcgaab.In Go.Proofs.YtcmfcleeohcgaabW.PrintWords Go.Proofs.YtcmfcleeohcgaabW.PrintLast
set_option linter.unusedVariables false
set_option linter.unusedSimpArgs false
/-- Are these rotors of these rows. -/
def rotB : List Int → List (List Int) → Bool
  | r :: rs, row :: rows => (decide (0 ≤ r) && decide (r ≤ if (row.length : Int) - 1 < 0 then 0 else (row.length : Int) - 1)) && rotB rs rows
  | _, _ => true
/-- A walk on a graph. -/
def walkB (g : List (List Int)) (rot : List Int) (at_ : Int) : Bool := placeB g at_ && (decide (rot.length = g.length) && rotB rot g)
theorem most0 (n : Nat) : mx ((n : Int) - 1) 0 = if (n : Int) - 1 < 0 then 0 else (n : Int) - 1 := by unfold mx; rfl
theorem l1Most0 (n : Nat) : spec_l1Most.f 0 ((n : Int) - 1) = some (if (n : Int) - 1 < 0 then 0 else (n : Int) - 1) := by
  unfold spec_l1Most.f
  by_cases h : (n : Int) - 1 < 0
  · rw [if_pos h]; split <;> first | rfl | omega
  · rw [if_neg h]; split
    · congr 1; omega
    · rfl
theorem isWalk_l0 (g : List (List Int)) (h8 : g.length ≤ 8) (hr : ∀ row ∈ g, row.length ≤ 5) (rot : List Int) (hlen : rot.length = g.length) : ∀ (d i : Nat), g.length - i = d → i ≤ g.length → Ev (fun k => impl_isWalk.l0 k rot rot.length i g) (rotB (rot.drop i) (g.drop i)) := by
  intro d
  induction d with
  | zero =>
    intro i hd hi
    refine Ev.const1 (fun k => ?_)
    simp only [impl_isWalk.l0]
    rw [if_neg (by omega), List.drop_of_length_le (by omega)]
    rfl
  | succ d ih =>
    intro i hd hi
    have hlt : i < g.length := by omega
    have hlt2 : i < rot.length := by omega
    have hrow : (rd_L1 g i).length ≤ 5 := hr _ (by rw [rdL_at hlt]; exact List.getElem_mem _)
    rw [List.drop_eq_getElem_cons hlt, List.drop_eq_getElem_cons hlt2, ← rdL_at hlt, ← rd_at hlt2]
    simp only [rotB]
    refine Ev.step (f := fun k => if (decide (0 ≤ rd rot i) && decide (rd rot i ≤ if ((rd_L1 g i).length : Int) - 1 < 0 then 0 else ((rd_L1 g i).length : Int) - 1)) = true then impl_isWalk.l0 k rot rot.length (i + 1 : Nat) g else some false) (fun k => ?_) ?_
    · simp only [impl_isWalk.l0]
      rw [if_pos (by omega), if_pos (by omega), if_pos (by omega), if_pos (by omega), wrap_id (by omega), most0, implin, wrap_nat (by omega)]
      simp only [Option.bind_some]
    · by_cases e : (decide (0 ≤ rd rot i) && decide (rd rot i ≤ if ((rd_L1 g i).length : Int) - 1 < 0 then 0 else ((rd_L1 g i).length : Int) - 1)) = true
      · exact Ev.pos e ((ih (i + 1) (by omega) (by omega)).val (by rw [e]; simp))
      · exact Ev.neg e ((Ev.now _).val (by simp only [Bool.not_eq_true] at e; rw [e]; simp))
theorem waGood_l0 (g : List (List Int)) (h8 : g.length ≤ 8) (hr : ∀ row ∈ g, row.length ≤ 5) (rot : List Int) (a : Int) (hlen : rot.length = g.length) : ∀ (d i : Nat), g.length - i = d → i ≤ g.length → Ev (fun k => spec_waGood.l0 k g g.length i rot a) (rotB (rot.drop i) (g.drop i)) := by
  intro d
  induction d with
  | zero =>
    intro i hd hi
    refine Ev.const1 (fun k => ?_)
    simp only [spec_waGood.l0]
    rw [if_neg (by omega), List.drop_of_length_le (by omega)]
    rfl
  | succ d ih =>
    intro i hd hi
    have hlt : i < g.length := by omega
    have hlt2 : i < rot.length := by omega
    have hrow : (rd_L1 g i).length ≤ 5 := hr _ (by rw [rdL_at hlt]; exact List.getElem_mem _)
    rw [List.drop_eq_getElem_cons hlt, List.drop_eq_getElem_cons hlt2, ← rdL_at hlt, ← rd_at hlt2]
    simp only [rotB]
    refine Ev.step (f := fun k => if (decide (0 ≤ rd rot i) && decide (rd rot i ≤ if ((rd_L1 g i).length : Int) - 1 < 0 then 0 else ((rd_L1 g i).length : Int) - 1)) = true then spec_waGood.l0 k g g.length (i + 1 : Nat) rot a else some false) (fun k => ?_) ?_
    · simp only [spec_waGood.l0]
      rw [if_pos (by omega), if_pos (by omega), if_pos (by omega), if_pos (by omega), wrap_id (by omega), l1Most0, wrap_nat (by omega)]
      simp only [Option.bind_some, l1In]
    · by_cases e : (decide (0 ≤ rd rot i) && decide (rd rot i ≤ if ((rd_L1 g i).length : Int) - 1 < 0 then 0 else ((rd_L1 g i).length : Int) - 1)) = true
      · exact Ev.pos e ((ih (i + 1) (by omega) (by omega)).val (by rw [e]; simp))
      · exact Ev.neg e ((Ev.now _).val (by simp only [Bool.not_eq_true] at e; rw [e]; simp))
theorem isWalk (g : List (List Int)) (rot : List Int) (a : Int) : Ev (fun k => impl_isWalk.f k g rot a) (walkB g rot a) := by
  unfold impl_isWalk.f
  refine Ev.bind0 (has1 g a) ?_
  by_cases h : placeB g a = true
  · obtain ⟨hg, _, _⟩ := place_iff h
    obtain ⟨⟨h1, h8⟩, hrows⟩ := good_iff hg
    refine Ev.pos h (Ev.succ ?_)
    simp only [impl_isWalk.j0]
    by_cases e : rot.length = g.length
    · refine Ev.neg (by simp [e]) ?_
      exact (isWalk_l0 g h8 (fun row hr => (hrows row hr).1) rot e g.length 0 (by omega) (by omega)).val (by simp [walkB, h, e])
    · refine Ev.pos (by simp; omega) ((Ev.now _).val (by simp [walkB, e]))
  · refine Ev.neg h (Ev.succ ?_)
    simp only [impl_isWalk.j0]
    exact Ev.pos trivial ((Ev.now _).val (by simp only [Bool.not_eq_true] at h; simp [walkB, h]))
theorem waGood (g : List (List Int)) (hl : okSS g) (rot : List Int) (a : Int) : Ev (fun k => spec_waGood.f k g rot a) (walkB g rot a) := by
  unfold spec_waGood.f
  refine Ev.bind (grPlace g a hl) ?_
  by_cases h : placeB g a = true
  · obtain ⟨hg, _, _⟩ := place_iff h
    obtain ⟨⟨h1, h8⟩, hrows⟩ := good_iff hg
    refine Ev.pos h (Ev.succ ?_)
    simp only [spec_waGood.j0]
    by_cases e : rot.length = g.length
    · refine Ev.neg (by simp [e]) ?_
      exact (waGood_l0 g h8 (fun row hr => (hrows row hr).1) rot a e g.length 0 (by omega) (by omega)).val (by simp [walkB, h, e])
    · refine Ev.pos (by simp; omega) ((Ev.now _).val (by simp [walkB, e]))
  · refine Ev.neg h (Ev.succ ?_)
    simp only [spec_waGood.j0]
    exact Ev.pos trivial ((Ev.now _).val (by simp only [Bool.not_eq_true] at h; simp [walkB, h]))
/-! the laws' helpers -/
end Go.Proofs.Ytcmfcleeohcgaab.M
namespace Go.Proofs.Ytcmfcleeohcgaab.M
open Go.RowKit Go.Proofs.Ytcmfcleeohcgaab.P Go.Proofs.Ytcmfcleeohcgaab.In Go.Proofs.YtcmfcleeohcgaabW.PrintWords Go.Proofs.YtcmfcleeohcgaabW.PrintLast
set_option linter.unusedVariables false
set_option linter.unusedSimpArgs false
theorem szIntS (l : List Int) (hl : okIs l) (a : Int) (h0 : 0 ≤ a) (h1 : a ≤ 1048576) : ∃ r, laws_szIntS.f l a = some r ∧ r ≤ 1048576 ∧ (0 ≤ r → l.length ≤ 1048576) := by
  have := hl.1
  unfold laws_szIntS.f
  rw [wrap_id (by omega)]
  by_cases h : a - (l.length : Int) < 0
  · rw [if_pos h]; exact ⟨-1, rfl, by omega, fun h => by omega⟩
  · rw [if_neg h]; exact ⟨_, rfl, by omega, fun _ => by omega⟩
end Go.Proofs.Ytcmfcleeohcgaab.M
namespace Go.Proofs.Ytcmfcleeohcgaab.M
open Go.RowKit Go.Proofs.Ytcmfcleeohcgaab.P Go.Proofs.Ytcmfcleeohcgaab.In Go.Proofs.YtcmfcleeohcgaabW.PrintWords Go.Proofs.YtcmfcleeohcgaabW.PrintLast
set_option linter.unusedVariables false
set_option linter.unusedSimpArgs false
/-! how far -/
def neg : List Int → Nat
  | [] => 0
  | x :: l => (if x < 0 then 1 else 0) + neg l
theorem neg_set (o : List Int) (i : Nat) (hi : i < o.length) (h : o[i] < 0) (v : Int) (hv : 0 ≤ v) : neg (o.set i v) + 1 = neg o := by
  induction o generalizing i with
  | nil => simp at hi
  | cons x o ih =>
    cases i with
    | zero =>
      simp only [List.getElem_cons_zero] at h
      simp only [List.set_cons_zero, neg]
      rw [if_neg (by omega), if_pos h]; omega
    | succ i =>
      simp only [List.getElem_cons_succ] at h
      simp only [List.set_cons_succ, neg]
      have := ih i (by simpa using hi) h
      omega
theorem neg_le (o : List Int) : neg o ≤ o.length := by
  induction o with
  | nil => simp [neg]
  | cons x o ih => simp only [neg, List.length_cons]; split <;> omega
/-- What is known of the lengths, on the way. -/
structure Known (n : Nat) (o : List Int) : Prop where
  len : o.length = n
  lo : ∀ x ∈ o, -1 ≤ x
  hi : ∀ x ∈ o, x + 1 ≤ (n : Int) - neg o
theorem Known.at {n : Nat} {o : List Int} (h : Known n o) {q : Int} (h0 : 0 ≤ q) (h1 : q < (n : Int)) : -1 ≤ rd o q ∧ rd o q + 1 ≤ (n : Int) - neg o := by
  have hl := h.len
  rw [rd_get h0 (by omega)]
  exact ⟨h.lo _ (List.getElem_mem _), h.hi _ (List.getElem_mem _)⟩
theorem Known.set {n : Nat} {o : List Int} (h : Known n o) {q : Int} (h0 : 0 ≤ q) (h1 : q < (n : Int)) (hq : rd o q < 0) {v : Int} (hv0 : 0 ≤ v) (hv : v ≤ (n : Int) - neg o) : Known n (o.set q.toNat v) ∧ neg (o.set q.toNat v) + 1 = neg o := by
  have hl := h.len
  rw [rd_get h0 (by omega)] at hq
  have hn := neg_set o q.toNat (by omega) hq v hv0
  refine ⟨⟨by rw [List.length_set]; exact hl, fun x hx => ?_, fun x hx => ?_⟩, hn⟩
  · rcases List.mem_or_eq_of_mem_set hx with h' | h'
    · exact h.lo x h'
    · omega
  · rcases List.mem_or_eq_of_mem_set hx with h' | h'
    · have := h.hi x h'; omega
    · omega
/-- The exits of a place are looked at. -/
def vis (c : Int) : List Int → List Int → List Int → List Int × List Int
  | [], o, qs => (o, qs)
  | q :: row, o, qs => if rd o q < 0 then vis c row (o.set q.toNat (rd o c + 1)) (qs ++ [q]) else vis c row o qs
def bfs (g : List (List Int)) : Nat → List Int → List Int → List Int
  | 0, o, _ => o
  | _ + 1, o, [] => o
  | f + 1, o, c :: qs => bfs g f (vis c (rd_L1 g c) o qs).1 (vis c (rd_L1 g c) o qs).2
/-- How far each place is from p, -1 where no way leads. -/
def far (g : List (List Int)) (p : Int) : List Int := bfs g g.length ((List.replicate g.length (-1)).set p.toNat 0) [p]
/-- The places that wait: places that are known. -/
def Wait (n : Nat) (o qs : List Int) : Prop := ∀ q ∈ qs, 0 ≤ q ∧ q < (n : Int) ∧ 0 ≤ rd o q
theorem vis_keeps {n : Nat} (hn : n ≤ 8) (c : Int) : ∀ (row o qs : List Int), (∀ q ∈ row, 0 ≤ q ∧ q < (n : Int)) → Known n o → Wait n o qs → (0 ≤ c ∧ c < (n : Int) ∧ 0 ≤ rd o c) →
    Known n (vis c row o qs).1 ∧ Wait n (vis c row o qs).1 (vis c row o qs).2 ∧ (vis c row o qs).2.length + neg (vis c row o qs).1 = qs.length + neg o := by
  intro row
  induction row with
  | nil => intro o qs _ hk hw _; exact ⟨hk, hw, rfl⟩
  | cons q row ih =>
    intro o qs hr hk hw hc
    obtain ⟨hq0, hq1⟩ := hr q List.mem_cons_self
    have hr' : ∀ x ∈ row, 0 ≤ x ∧ x < (n : Int) := fun x hx => hr x (List.mem_cons_of_mem _ hx)
    simp only [vis]
    by_cases h : rd o q < 0
    · rw [if_pos h]
      have hl := hk.len
      have hcc := hk.at hc.1 hc.2.1
      obtain ⟨hk', hn'⟩ := hk.set hq0 hq1 h (v := rd o c + 1) (by omega) (by omega)
      have hs : ∀ x, 0 ≤ x → 0 ≤ rd o x → 0 ≤ rd (o.set q.toNat (rd o c + 1)) x := fun x hx hx1 => by
        rw [rd_set hq0 (by omega) hx]; split <;> omega
      obtain ⟨h1, h2, h3⟩ := ih _ (qs ++ [q]) hr' hk' (fun x hx => by
        rcases List.mem_append.1 hx with hx | hx
        · obtain ⟨a, b, c'⟩ := hw x hx; exact ⟨a, b, hs x a c'⟩
        · rw [List.mem_singleton.1 hx]; exact ⟨hq0, hq1, by rw [rd_set hq0 (by omega) hq0, if_pos rfl]; omega⟩) ⟨hc.1, hc.2.1, hs c hc.1 hc.2.2⟩
      refine ⟨h1, h2, ?_⟩
      rw [h3, List.length_append]; simp; omega
    · rw [if_neg h]
      exact ih o qs hr' hk hw hc
/-- The program's look at the exits. -/
theorem lengths_l1 {n : Nat} (hn : n ≤ 8) (g : List (List Int)) (c : Int) (row : List Int) (hr : ∀ q ∈ row, 0 ≤ q ∧ q < (n : Int)) (hrl : row.length ≤ 5) (r : List Int) : ∀ (d i : Nat) (o qs : List Int), row.length - i = d → i ≤ row.length → Known n o → Wait n o qs → (0 ≤ c ∧ c < (n : Int) ∧ 0 ≤ rd o c) → qs.length + neg o ≤ 8 →
    Ev (fun k => impl_Graph_lengths.l0 k (vis c (row.drop i) o qs).1 (vis c (row.drop i) o qs).2 g) r → Ev (fun k => impl_Graph_lengths.l1 k o (c :: qs) row row.length i g) r := by
  intro d
  induction d with
  | zero =>
    intro i o qs hd hi hk hw hc hb h
    rw [List.drop_of_length_le (by omega)] at h
    refine Ev.step (fun k => ?_) h
    simp only [impl_Graph_lengths.l1, vis]
    rw [if_neg (by omega), if_pos (by simp; omega)]
    rfl
  | succ d ih =>
    intro i o qs hd hi hk hw hc hb h
    have hlt : i < row.length := by omega
    have hq := hr (rd row i) (by rw [rd_at hlt]; exact List.getElem_mem _)
    have hl := hk.len
    rw [drop_rd hlt] at h
    simp only [vis] at h
    by_cases hneg : rd o (rd row i) < 0
    · rw [if_pos hneg] at h
      have hcc := hk.at hc.1 hc.2.1
      obtain ⟨hk', hn'⟩ := hk.set hq.1 hq.2 hneg (v := rd o c + 1) (by omega) (by omega)
      have hs : ∀ x, 0 ≤ x → 0 ≤ rd o x → 0 ≤ rd (o.set (rd row i).toNat (rd o c + 1)) x := fun x hx hx1 => by
        rw [rd_set hq.1 (by omega) hx]; split <;> omega
      refine Ev.step (fun k => ?_) (ih (i + 1) _ (qs ++ [rd row i]) (by omega) (by omega) hk' (fun x hx => by
        rcases List.mem_append.1 hx with hx | hx
        · obtain ⟨a, b, c'⟩ := hw x hx; exact ⟨a, b, hs x a c'⟩
        · rw [List.mem_singleton.1 hx]; exact ⟨hq.1, hq.2, by rw [rd_set hq.1 (by omega) hq.1, if_pos rfl]; omega⟩) ⟨hc.1, hc.2.1, hs c hc.1 hc.2.2⟩ (by rw [List.length_append]; simp; omega) h)
      simp only [impl_Graph_lengths.l1]
      have e0 : rd (c :: qs) 0 = c := rfl
      rw [if_pos (by omega), if_pos (by omega), if_pos (by omega), if_pos hq.1, if_pos (by omega), if_pos hneg, if_pos (by rw [List.length_cons]; omega), e0, if_pos hc.1, if_pos (by omega), if_pos (by rw [List.length_cons]; omega), wrap_nat (by omega), wrap_id (by omega)]
      rfl
    · rw [if_neg hneg] at h
      refine Ev.step (fun k => ?_) (ih (i + 1) o qs (by omega) (by omega) hk hw hc hb h)
      simp only [impl_Graph_lengths.l1]
      rw [if_pos (by omega), if_pos (by omega), if_pos (by omega), if_pos hq.1, if_pos (by omega), if_neg hneg, wrap_nat (by omega)]
theorem lengths_l0 {g : List (List Int)} (hg : goodG g = true) : ∀ (f : Nat) (o qs : List Int), Known g.length o → Wait g.length o qs → qs.length + neg o ≤ f → f ≤ 8 → Ev (fun k => impl_Graph_lengths.l0 k o qs g) (bfs g f o qs) := by
  obtain ⟨⟨h1, h8⟩, hrows⟩ := good_iff hg
  intro f
  induction f with
  | zero =>
    intro o qs hk hw hb hf
    have : qs = [] := List.eq_nil_of_length_eq_zero (by omega)
    subst this
    refine Ev.const1 (fun k => ?_)
    simp only [impl_Graph_lengths.l0]
    rw [if_neg (by simp)]; rfl
  | succ f ih =>
    intro o qs hk hw hb hf
    cases qs with
    | nil =>
      refine Ev.const1 (fun k => ?_)
      simp only [impl_Graph_lengths.l0]
      rw [if_neg (by simp)]; rfl
    | cons c qs =>
      obtain ⟨hc0, hc1, hc2⟩ := hw c List.mem_cons_self
      have hrow := hrows (rd_L1 g c) (by rw [rdL_get hc0 hc1]; exact List.getElem_mem _)
      have hw' : Wait g.length o qs := fun x hx => hw x (List.mem_cons_of_mem _ hx)
      obtain ⟨k1, k2, k3⟩ := vis_keeps h8 c (rd_L1 g c) o qs hrow.2 hk hw' ⟨hc0, hc1, hc2⟩
      simp only [List.length_cons] at hb
      have := lengths_l1 h8 g c (rd_L1 g c) hrow.2 hrow.1 (bfs g (f + 1) o (c :: qs)) _ 0 o qs rfl (Nat.zero_le _) hk hw' ⟨hc0, hc1, hc2⟩ (by omega) (by
        rw [List.drop_zero]
        exact ih _ _ k1 k2 (by omega) (by omega))
      refine Ev.step (fun k => ?_) this
      simp only [impl_Graph_lengths.l0]
      have e0 : rd (c :: qs) 0 = c := rfl
      rw [if_pos (by rw [List.length_cons]; omega), if_pos (by rw [List.length_cons]; omega), e0, if_pos hc0, if_pos hc1]
      rfl
theorem neg_rep (n : Nat) : neg (List.replicate n (-1)) = n := by
  induction n with
  | zero => rfl
  | succ n ih => simp only [List.replicate_succ, neg, ih]; rw [if_pos (by omega)]; omega
theorem known0 {n : Nat} {p : Int} (h0 : 0 ≤ p) (h1 : p < (n : Int)) : Known n ((List.replicate n (-1)).set p.toNat 0) ∧ Wait n ((List.replicate n (-1)).set p.toNat 0) [p] ∧ [p].length + neg ((List.replicate n (-1)).set p.toNat 0) ≤ n := by
  have hk : Known n (List.replicate n (-1)) := ⟨by simp, fun x hx => by rw [(List.mem_replicate.1 hx).2]; omega, fun x hx => by rw [(List.mem_replicate.1 hx).2, neg_rep]; omega⟩
  have hr : rd (List.replicate n (-1)) p < 0 := by rw [rd_get h0 (by simpa using h1)]; simp
  obtain ⟨k1, k2⟩ := hk.set h0 h1 hr (v := 0) (by omega) (by rw [neg_rep]; omega)
  rw [neg_rep] at k2
  refine ⟨k1, fun x hx => ?_, by simp; omega⟩
  rw [List.mem_singleton.1 hx]
  exact ⟨h0, h1, by rw [rd_set h0 (by simpa using h1) h0, if_pos rfl]; omega⟩
theorem lengths {g : List (List Int)} {p : Int} (h : placeB g p = true) : Ev (fun k => impl_Graph_lengths.f k g p) (far g p) := by
  obtain ⟨hg, h0, h1⟩ := place_iff h
  obtain ⟨⟨hn1, hn8⟩, _⟩ := good_iff hg
  obtain ⟨k1, k2, k3⟩ := known0 h0 h1
  unfold impl_Graph_lengths.f
  have hR : slices_Repeat_int_int.f [-1] (g.length : Int) = some (List.replicate g.length (-1)) := by
    unfold slices_Repeat_int_int.f; rw [if_pos ⟨rfl, by omega, by omega⟩]; rfl
  exact Ev.bind0 hR (Ev.pos h0 (Ev.pos (by simpa using h1) (lengths_l0 hg g.length _ _ k1 k2 k3 hn8)))
theorem far_len {g : List (List Int)} {p : Int} (h : placeB g p = true) : Known g.length (far g p) := by
  obtain ⟨hg, h0, h1⟩ := place_iff h
  obtain ⟨⟨hn1, hn8⟩, hrows⟩ := good_iff hg
  obtain ⟨k1, k2, k3⟩ := known0 h0 h1
  have : ∀ (f : Nat) (o qs : List Int), Known g.length o → Wait g.length o qs → Known g.length (bfs g f o qs) := by
    intro f
    induction f with
    | zero => intro o qs hk hw; exact hk
    | succ f ih =>
      intro o qs hk hw
      cases qs with
      | nil => exact hk
      | cons c qs =>
        obtain ⟨hc0, hc1, hc2⟩ := hw c List.mem_cons_self
        have hrow := hrows (rd_L1 g c) (by rw [rdL_get hc0 hc1]; exact List.getElem_mem _)
        obtain ⟨k1, k2, k3⟩ := vis_keeps hn8 c (rd_L1 g c) o qs hrow.2 hk (fun x hx => hw x (List.mem_cons_of_mem _ hx)) ⟨hc0, hc1, hc2⟩
        exact ih _ _ k1 k2
  exact this _ _ _ k1 k2
/-! the reference's search -/
theorem far_l2 {n : Nat} (hn : n ≤ 8) (g : List (List Int)) (c : Int) (pre : List Int) (row : List Int) (hr : ∀ q ∈ row, 0 ≤ q ∧ q < (n : Int)) (hrl : row.length ≤ 5) (r : List Int) : ∀ (d i : Nat) (o qs : List Int), row.length - i = d → i ≤ row.length → Known n o → (0 ≤ c ∧ c < (n : Int) ∧ 0 ≤ rd o c) → pre.length + qs.length + neg o ≤ 8 →
    Ev (fun k => spec_grFar.l1 k (vis c (row.drop i) o qs).1 (pre ++ c :: (vis c (row.drop i) o qs).2) ((pre.length + 1 : Nat) : Int) g) r → Ev (fun k => spec_grFar.l2 k o (pre ++ c :: qs) (pre.length : Int) row row.length i g) r := by
  intro d
  induction d with
  | zero =>
    intro i o qs hd hi hk hc hb h
    rw [List.drop_of_length_le (by omega)] at h
    refine Ev.step (fun k => ?_) h
    simp only [spec_grFar.l2, vis]
    rw [if_neg (by omega), wrap_nat (by omega)]
  | succ d ih =>
    intro i o qs hd hi hk hc hb h
    have hlt : i < row.length := by omega
    have hq := hr (rd row i) (by rw [rd_at hlt]; exact List.getElem_mem _)
    have hl := hk.len
    rw [drop_rd hlt] at h
    simp only [vis] at h
    by_cases hneg : rd o (rd row i) < 0
    · rw [if_pos hneg] at h
      have hcc := hk.at hc.1 hc.2.1
      obtain ⟨hk', hn'⟩ := hk.set hq.1 hq.2 hneg (v := rd o c + 1) (by omega) (by omega)
      have hs : ∀ x, 0 ≤ x → 0 ≤ rd o x → 0 ≤ rd (o.set (rd row i).toNat (rd o c + 1)) x := fun x hx hx1 => by
        rw [rd_set hq.1 (by omega) hx]; split <;> omega
      refine Ev.step (fun k => ?_) (ih (i + 1) _ (qs ++ [rd row i]) (by omega) (by omega) hk' ⟨hc.1, hc.2.1, hs c hc.1 hc.2.2⟩ (by rw [List.length_append]; simp; omega) h)
      simp only [spec_grFar.l2]
      have e0 : rd (pre ++ c :: qs) (pre.length : Int) = c := by rw [rd_at (by simp)]; simp
      rw [if_pos (by omega), if_pos (by omega), if_pos (by omega), if_pos hq.1, if_pos (by omega), if_pos hneg, if_pos (by omega), if_pos (by simp; omega), e0, if_pos hc.1, if_pos (by omega), if_pos (by simp; omega), wrap_nat (by omega), wrap_id (by omega)]
      simp
    · rw [if_neg hneg] at h
      refine Ev.step (fun k => ?_) (ih (i + 1) o qs (by omega) (by omega) hk hc hb h)
      simp only [spec_grFar.l2]
      rw [if_pos (by omega), if_pos (by omega), if_pos (by omega), if_pos hq.1, if_pos (by omega), if_neg hneg, wrap_nat (by omega)]
theorem far_l1 {g : List (List Int)} (hg : goodG g = true) : ∀ (f : Nat) (o pre qs : List Int), Known g.length o → Wait g.length o qs → qs.length + neg o ≤ f → f ≤ 8 → pre.length + qs.length + neg o ≤ 8 → Ev (fun k => spec_grFar.l1 k o (pre ++ qs) (pre.length : Int) g) (bfs g f o qs) := by
  obtain ⟨⟨h1, h8⟩, hrows⟩ := good_iff hg
  intro f
  induction f with
  | zero =>
    intro o pre qs hk hw hb hf hp
    have : qs = [] := List.eq_nil_of_length_eq_zero (by omega)
    subst this
    refine Ev.const1 (fun k => ?_)
    simp only [spec_grFar.l1]
    rw [if_neg (by simp)]; rfl
  | succ f ih =>
    intro o pre qs hk hw hb hf hp
    cases qs with
    | nil =>
      refine Ev.const1 (fun k => ?_)
      simp only [spec_grFar.l1]
      rw [if_neg (by simp)]; rfl
    | cons c qs =>
      obtain ⟨hc0, hc1, hc2⟩ := hw c List.mem_cons_self
      have hrow := hrows (rd_L1 g c) (by rw [rdL_get hc0 hc1]; exact List.getElem_mem _)
      have hw' : Wait g.length o qs := fun x hx => hw x (List.mem_cons_of_mem _ hx)
      obtain ⟨k1, k2, k3⟩ := vis_keeps h8 c (rd_L1 g c) o qs hrow.2 hk hw' ⟨hc0, hc1, hc2⟩
      simp only [List.length_cons] at hb hp
      have := far_l2 h8 g c pre (rd_L1 g c) hrow.2 hrow.1 (bfs g (f + 1) o (c :: qs)) _ 0 o qs rfl (Nat.zero_le _) hk ⟨hc0, hc1, hc2⟩ (by omega) (by
        rw [List.drop_zero]
        have := ih (vis c (rd_L1 g c) o qs).1 (pre ++ [c]) (vis c (rd_L1 g c) o qs).2 k1 k2 (by omega) (by omega) (by simp; omega)
        simpa [bfs] using this)
      refine Ev.step (fun k => ?_) this
      simp only [spec_grFar.l1]
      have e0 : rd (pre ++ c :: qs) (pre.length : Int) = c := by rw [rd_at (by simp)]; simp
      rw [if_pos (by simp; omega), if_pos (by omega), e0, if_pos hc0, if_pos hc1]
      rfl
theorem far_l0 (g : List (List Int)) (p : Int) (n : Nat) (hn : n ≤ 8) (r : List Int) : ∀ (d i : Nat), n - i = d → i ≤ n → (0 ≤ p ∧ p < (n : Int)) → Ev (fun k => spec_grFar.l1 k ((List.replicate n (-1)).set p.toNat 0) [p] 0 g) r → Ev (fun k => spec_grFar.l0 k p (List.replicate i (-1) ++ List.replicate (n - i) 0) n i g) r := by
  intro d
  induction d with
  | zero =>
    intro i hd hi hp h
    have : i = n := by omega
    subst this
    refine Ev.step (fun k => ?_) h
    simp only [spec_grFar.l0]
    rw [if_neg (by omega), if_pos hp.1, if_pos (by simp; omega)]
    simp
  | succ d ih =>
    intro i hd hi hp h
    refine Ev.step (fun k => ?_) (ih (i + 1) (by omega) (by omega) hp h)
    simp only [spec_grFar.l0]
    rw [if_pos (by omega), if_pos (by omega), if_pos (by simp; omega), wrap_nat (by omega), Int.toNat_natCast]
    congr 1
    obtain ⟨m, hm⟩ : ∃ m, n - i = m + 1 := ⟨n - i - 1, by omega⟩
    rw [hm, show n - (i + 1) = m by omega, List.replicate_succ, List.replicate_succ', List.set_append_right _ _ (by simp)]
    simp
theorem grFar {g : List (List Int)} {p : Int} (h : placeB g p = true) : Ev (fun k => spec_grFar.f k g p) (far g p) := by
  obtain ⟨hg, h0, h1⟩ := place_iff h
  obtain ⟨⟨hn1, hn8⟩, _⟩ := good_iff hg
  obtain ⟨k1, k2, k3⟩ := known0 h0 h1
  unfold spec_grFar.f
  refine Ev.pos (by omega) (Ev.pos (by omega) (Ev.bind0 rfl ?_))
  have := far_l0 g p g.length hn8 (far g p) g.length 0 (by omega) (by omega) ⟨h0, h1⟩ (by
    have := far_l1 hg g.length _ [] [p] k1 k2 k3 hn8 (by simpa using by simp at k3; omega)
    exact this)
  simpa using this
end Go.Proofs.Ytcmfcleeohcgaab.M
namespace Go.Proofs.Ytcmfcleeohcgaab.M
open Go.RowKit Go.Proofs.Ytcmfcleeohcgaab.P Go.Proofs.Ytcmfcleeohcgaab.In Go.Proofs.YtcmfcleeohcgaabW.PrintWords Go.Proofs.YtcmfcleeohcgaabW.PrintLast
set_option linter.unusedVariables false
set_option linter.unusedSimpArgs false
def leadsFrom (g : List (List Int)) (p : Int) : Nat → Nat → Bool
  | 0, _ => true
  | d + 1, i => if rd (far g i) p < 0 then false else leadsFrom g p d (i + 1)
def leads (g : List (List Int)) (p : Int) : Bool := leadsFrom g p g.length 0
theorem leadsTo_l0 {g : List (List Int)} (hg : goodG g = true) (p : Int) (h0 : 0 ≤ p) (h1 : p < (g.length : Int)) : ∀ (d i : Nat), g.length - i = d → i ≤ g.length → Ev (fun k => impl_Graph_leadsTo.l0 k p g.length i g) (leadsFrom g p d i) := by
  have h8 := (good_iff hg).1
  intro d
  induction d with
  | zero =>
    intro i hd hi
    refine Ev.succ ?_
    simp only [impl_Graph_leadsTo.l0]
    exact Ev.neg (by omega) (Ev.now _)
  | succ d ih =>
    intro i hd hi
    have hp := place_of hg (i := i) (by omega)
    have hlen := (far_len hp).len
    refine Ev.succ ?_
    simp only [impl_Graph_leadsTo.l0, leadsFrom]
    refine Ev.pos (by omega) (Ev.bind (lengths hp) (Ev.pos h0 (Ev.pos (by omega) ?_)))
    by_cases h : rd (far g i) p < 0
    · rw [if_pos h]; exact Ev.pos h (Ev.now _)
    · rw [if_neg h]
      refine Ev.neg h ?_
      rw [wrap_nat (by omega)]
      exact ih (i + 1) (by omega) (by omega)
theorem leadsTo {g : List (List Int)} {p : Int} (h : placeB g p = true) : Ev (fun k => impl_Graph_leadsTo.f k g p) (leads g p) := by
  obtain ⟨hg, h0, h1⟩ := place_iff h
  exact leadsTo_l0 hg p h0 h1 g.length 0 (by omega) (by omega)
theorem grLeads_l0 {g : List (List Int)} (hg : goodG g = true) (p : Int) (h0 : 0 ≤ p) (h1 : p < (g.length : Int)) : ∀ (d i : Nat), g.length - i = d → i ≤ g.length → Ev (fun k => spec_grLeads.l0 k p g.length i g) (leadsFrom g p d i) := by
  have h8 := (good_iff hg).1
  intro d
  induction d with
  | zero =>
    intro i hd hi
    refine Ev.succ ?_
    simp only [spec_grLeads.l0]
    exact Ev.neg (by omega) (Ev.now _)
  | succ d ih =>
    intro i hd hi
    have hp := place_of hg (i := i) (by omega)
    have hlen := (far_len hp).len
    refine Ev.succ ?_
    simp only [spec_grLeads.l0, leadsFrom]
    refine Ev.pos (by omega) (Ev.bind (grFar hp) (Ev.pos h0 (Ev.pos (by omega) ?_)))
    by_cases h : rd (far g i) p < 0
    · rw [if_pos h]; exact Ev.pos h (Ev.now _)
    · rw [if_neg h]
      refine Ev.neg h ?_
      rw [wrap_nat (by omega)]
      exact ih (i + 1) (by omega) (by omega)
theorem grLeads {g : List (List Int)} {p : Int} (h : placeB g p = true) : Ev (fun k => spec_grLeads.f k g p) (leads g p) := by
  obtain ⟨hg, h0, h1⟩ := place_iff h
  exact grLeads_l0 hg p h0 h1 g.length 0 (by omega) (by omega)
end Go.Proofs.Ytcmfcleeohcgaab.M
namespace Go.Proofs.Ytcmfcleeohcgaab.M
open Go.RowKit Go.Proofs.Ytcmfcleeohcgaab.P Go.Proofs.Ytcmfcleeohcgaab.In Go.Proofs.YtcmfcleeohcgaabW.PrintWords Go.Proofs.YtcmfcleeohcgaabW.PrintLast
set_option linter.unusedVariables false
set_option linter.unusedSimpArgs false
/-- A sink: all places lead there. -/
def sunkB (g : List (List Int)) (sink : Int) : Bool := placeB g sink && leads g sink
theorem hasSink_ev (g : List (List Int)) (sink : Int) : Ev (fun k => impl_hasSink.f k g sink) (sunkB g sink) := by
  unfold impl_hasSink.f sunkB
  refine Ev.bind0 (has1 g sink) ?_
  by_cases hp : placeB g sink = true
  · exact Ev.pos hp (Ev.bind (leadsTo hp) ((Ev.now _).val (by rw [hp]; rfl)))
  · exact Ev.neg hp ((Ev.now _).val (by rw [Bool.eq_false_iff.mpr hp]; rfl))
theorem chSink_ev (g : List (List Int)) (hl : okSS g) (sink : Int) : Ev (fun k => spec_chSink.f k g sink) (sunkB g sink) := by
  unfold spec_chSink.f sunkB
  refine Ev.bind (grPlace g sink hl) ?_
  by_cases hp : placeB g sink = true
  · exact Ev.pos hp (Ev.bind (grLeads hp) ((Ev.now _).val (by rw [hp]; rfl)))
  · exact Ev.neg hp ((Ev.now _).val (by rw [Bool.eq_false_iff.mpr hp]; rfl))
theorem sunk_iff {g : List (List Int)} {sink : Int} (h : sunkB g sink = true) : placeB g sink = true ∧ leads g sink = true := by
  unfold sunkB at h; simpa using h
end Go.Proofs.Ytcmfcleeohcgaab.M
namespace Go.Proofs.Ytcmfcleeohcgaab.M
open Go.RowKit Go.Proofs.Ytcmfcleeohcgaab.P Go.Proofs.Ytcmfcleeohcgaab.In Go.Proofs.YtcmfcleeohcgaabW.PrintWords Go.Proofs.YtcmfcleeohcgaabW.PrintLast
set_option linter.unusedVariables false
set_option linter.unusedSimpArgs false
def chipsB (n : Nat) (l : List Int) : Bool := decide (l.length = n) && l.all (fun q => decide (0 ≤ q) && decide (q ≤ 20))
theorem chips_iff {n : Nat} {l : List Int} (h : chipsB n l = true) : l.length = n ∧ ∀ q ∈ l, 0 ≤ q ∧ q ≤ 20 := by
  unfold chipsB at h
  simp only [Bool.and_eq_true, decide_eq_true_eq, List.all_eq_true] at h
  exact ⟨h.1, fun q hq => by have := h.2 q hq; omega⟩
theorem areChips (g : List (List Int)) (l : List Int) : impl_areChips.f g l = some (chipsB g.length l) := rfl
def tot : List Int → Int
  | [] => 0
  | x :: l => x + tot l
theorem sum_l0 (l : List Int) (h8 : l.length ≤ 8) (hl : ∀ q ∈ l, 0 ≤ q ∧ q ≤ 20) : ∀ (d i : Nat) (s : Int), l.length - i = d → i ≤ l.length → 0 ≤ s → s ≤ 20 * i → Ev (fun k => impl_sum.l0 k s l l.length i) (s + tot (l.drop i)) := by
  intro d
  induction d with
  | zero =>
    intro i s hd hi h0 h1
    refine Ev.succ ?_
    simp only [impl_sum.l0]
    refine Ev.neg (by omega) ((Ev.now _).val ?_)
    rw [List.drop_of_length_le (by omega)]; simp [tot]
  | succ d ih =>
    intro i s hd hi h0 h1
    have hlt : i < l.length := by omega
    have hq := hl (rd l i) (by rw [rd_at hlt]; exact List.getElem_mem _)
    refine Ev.succ ?_
    simp only [impl_sum.l0]
    refine Ev.pos (by omega) (Ev.pos (by omega) (Ev.pos (by omega) ?_))
    rw [wrap_nat (by omega), wrap_id (x := s + rd l i) (by omega)]
    refine (ih (i + 1) (s + rd l i) (by omega) (by omega) (by omega) (by omega)).val ?_
    rw [drop_rd hlt]; simp only [tot]; omega
theorem sum_ev (l : List Int) (h8 : l.length ≤ 8) (hl : ∀ q ∈ l, 0 ≤ q ∧ q ≤ 20) : Ev (fun k => impl_sum.f k l) (tot l) := by
  unfold impl_sum.f
  exact (sum_l0 l h8 hl l.length 0 0 (by omega) (by omega) (by omega) (by omega)).val (by simp)
theorem chSum_l0 (l : List Int) (h8 : l.length ≤ 8) (hl : ∀ q ∈ l, 0 ≤ q ∧ q ≤ 20) : ∀ (d i : Nat) (s : Int), l.length - i = d → i ≤ l.length → 0 ≤ s → s ≤ 20 * i → Ev (fun k => spec_chSum.l0 k s l l.length i) (s + tot (l.drop i)) := by
  intro d
  induction d with
  | zero =>
    intro i s hd hi h0 h1
    refine Ev.succ ?_
    simp only [spec_chSum.l0]
    refine Ev.neg (by omega) ((Ev.now _).val ?_)
    rw [List.drop_of_length_le (by omega)]; simp [tot]
  | succ d ih =>
    intro i s hd hi h0 h1
    have hlt : i < l.length := by omega
    have hq := hl (rd l i) (by rw [rd_at hlt]; exact List.getElem_mem _)
    refine Ev.succ ?_
    simp only [spec_chSum.l0]
    refine Ev.pos (by omega) (Ev.pos (by omega) (Ev.pos (by omega) ?_))
    rw [wrap_nat (by omega), wrap_id (x := s + rd l i) (by omega)]
    refine (ih (i + 1) (s + rd l i) (by omega) (by omega) (by omega) (by omega)).val ?_
    rw [drop_rd hlt]; simp only [tot]; omega
theorem chSum_ev (l : List Int) (h8 : l.length ≤ 8) (hl : ∀ q ∈ l, 0 ≤ q ∧ q ≤ 20) : Ev (fun k => spec_chSum.f k l) (tot l) := by
  unfold spec_chSum.f
  exact (chSum_l0 l h8 hl l.length 0 0 (by omega) (by omega) (by omega) (by omega)).val (by simp)
def loadB (g : List (List Int)) (sink : Int) (ro ch : List Int) : Bool := sunkB g sink && (walkB g ro 0 && (chipsB g.length ch && decide (tot ch ≤ 20)))
theorem walk_at {g : List (List Int)} {a b : Int} (ha : placeB g a = true) (hb : placeB g b = true) (ro : List Int) : walkB g ro a = walkB g ro b := by
  unfold walkB; rw [ha, hb]
theorem place_zero {g : List (List Int)} {a : Int} (ha : placeB g a = true) : placeB g 0 = true := by
  have h := place_iff ha
  unfold placeB; rw [h.1]; simp; omega
theorem isLoad_ev (g : List (List Int)) (sink : Int) (ro ch : List Int) : Ev (fun k => impl_isLoad.f k g sink ro ch) (loadB g sink ro ch) := by
  unfold impl_isLoad.f loadB
  refine Ev.bind (hasSink_ev g sink) ?_
  by_cases hs : sunkB g sink = true
  · have hp := (sunk_iff hs).1
    have h8 := (good_iff (place_iff hp).1).1.2
    rw [hs, Bool.true_and]
    refine Ev.pos rfl (Ev.bind (g := fun k => impl_areRotors.f k g ro) (a := walkB g ro 0) (by unfold impl_areRotors.f; exact Ev.bind (isWalk g ro 0) (Ev.now _)) ?_)
    by_cases hw : walkB g ro 0 = true
    · rw [hw, Bool.true_and]
      refine Ev.pos rfl (Ev.bind0 (areChips g ch) ?_)
      by_cases hc : chipsB g.length ch = true
      · rw [hc, Bool.true_and]
        have hi := chips_iff hc
        exact Ev.pos rfl (Ev.bind (sum_ev ch (by omega) hi.2) (Ev.now _))
      · rw [Bool.eq_false_iff.mpr hc, Bool.false_and]; exact Ev.neg (by simp) (Ev.now _)
    · rw [Bool.eq_false_iff.mpr hw, Bool.false_and]; exact Ev.neg (by simp) (Ev.now _)
  · rw [Bool.eq_false_iff.mpr hs, Bool.false_and]; exact Ev.neg (by simp) (Ev.now _)
theorem chGood_ev (g : List (List Int)) (hl : okSS g) (sink : Int) (ro ch : List Int) (hch : okIs ch) : Ev (fun k => spec_chGood.f k g sink ro ch) (loadB g sink ro ch) := by
  unfold spec_chGood.f loadB
  refine Ev.bind (chSink_ev g hl sink) ?_
  by_cases hs : sunkB g sink = true
  · have hp := (sunk_iff hs).1
    have h8 := (good_iff (place_iff hp).1).1.2
    rw [hs, Bool.true_and]
    refine Ev.pos rfl (Ev.bind (waGood g hl ro sink) ?_)
    rw [walk_at hp (place_zero hp)]
    by_cases hw : walkB g ro 0 = true
    · rw [hw, Bool.true_and]
      refine Ev.pos rfl (Ev.succ ?_)
      simp only [spec_chGood.j0]
      by_cases hle : ch.length = g.length
      · refine Ev.neg (by simp [hle]) (Ev.bind (l1All ch 0 20 hch.1) ?_)
        have hcB : (ch.all fun x => decide (0 ≤ x) && decide (x ≤ 20)) = chipsB g.length ch := by unfold chipsB; rw [decide_eq_true hle, Bool.true_and]
        rw [hcB]
        by_cases hc : chipsB g.length ch = true
        · rw [hc, Bool.true_and]
          exact Ev.pos rfl (Ev.bind (chSum_ev ch (by omega) (chips_iff hc).2) (Ev.now _))
        · rw [Bool.eq_false_iff.mpr hc, Bool.false_and]; exact Ev.neg (by simp) (Ev.now _)
      · have hcB : chipsB g.length ch = false := by unfold chipsB; rw [decide_eq_false hle, Bool.false_and]
        rw [hcB, Bool.false_and]
        exact Ev.pos (by simp; omega) (Ev.now _)
    · rw [Bool.eq_false_iff.mpr hw, Bool.false_and]
      refine Ev.neg (by simp) (Ev.succ ?_)
      simp only [spec_chGood.j0]
      exact Ev.pos (by simp) (Ev.now _)
  · rw [Bool.eq_false_iff.mpr hs, Bool.false_and]
    refine Ev.neg (by simp) (Ev.succ ?_)
    simp only [spec_chGood.j0]
    exact Ev.pos (by simp) (Ev.now _)
end Go.Proofs.Ytcmfcleeohcgaab.M
namespace Go.Proofs.Ytcmfcleeohcgaab.Pure
open Go.RowKit Go.Proofs.Ytcmfcleeohcgaab.P Go.Proofs.Ytcmfcleeohcgaab.In Go.Proofs.Ytcmfcleeohcgaab.M Go.Proofs.YtcmfcleeohcgaabW.PrintWords Go.Proofs.YtcmfcleeohcgaabW.PrintLast
set_option linter.unusedVariables false
set_option linter.unusedSimpArgs false
theorem szLoad (ro ch : List Int) (hro : okIs ro) (hch : okIs ch) (a : Int) (h0 : 0 ≤ a) (h1 : a ≤ 1048576) : ∃ r, laws_szLoad.f ro ch a = some r ∧ r ≤ 1048576 ∧ (0 ≤ r → ro.length ≤ 1048576 ∧ ch.length ≤ 1048576) := by
  obtain ⟨r, hr, hr1, hs⟩ := szIntS ro hro a h0 h1
  unfold laws_szLoad.f
  rw [hr]
  simp only [Option.bind_some]
  by_cases h : r < 0
  · exact ⟨-1, by rw [if_pos h], by omega, fun h2 => by omega⟩
  · rw [if_neg h]
    obtain ⟨r2, hr2, hr3, hs2⟩ := szIntS ch hch r (by omega) hr1
    rw [hr2]
    simp only [Option.bind_some]
    by_cases h' : r2 < 0
    · exact ⟨-1, by rw [if_pos h'], by omega, fun h2 => by omega⟩
    · exact ⟨r2, by rw [if_neg h'], hr3, fun h2 => ⟨hs (by omega), hs2 h2⟩⟩
theorem toLoad (ro ch : List Int) (h1 : ro.length ≤ 1048576) (h2 : ch.length ≤ 1048576) : Ev (fun k => laws_toLoad.f k ro ch) (ro, ch) := by
  unfold laws_toLoad.f
  exact Ev.bind (toIntS ro (by omega)) (Ev.bind (toIntS ch (by omega)) (Ev.now _))
theorem eqLoad (ro ch : List Int) (h1 : ro.length ≤ 1048576) (h2 : ch.length ≤ 1048576) : Ev (fun k => laws_eqLoad.f k ro ch ro ch) true := by
  unfold laws_eqLoad.f
  exact Ev.bind ((eqIntS ro ro (by omega)).val (decide_eq_true rfl)) (Ev.pos rfl (Ev.bind ((eqIntS ch ch (by omega)).val (decide_eq_true rfl)) (Ev.pos rfl (Ev.now _))))
theorem FnExactIsLoad (l : List (List Int)) (hl : okSS l) (p : Int) (hp : okI p) (ro ch : List Int) (hro : okIs ro) (hch : okIs ch) : ∃ k, laws_FnExactIsLoad.f k l p ro ch = some true := by
  refine Ev.rounds (g := fun k => laws_FnExactIsLoad.f k l p ro ch) ?_
  unfold laws_FnExactIsLoad.f
  obtain ⟨r, hr, hr1, hs⟩ := szGraph l hl
  refine Ev.bind hr ?_
  by_cases h : r < 0
  · exact Ev.pos h (Ev.now _)
  · have sm := hs (by omega)
    obtain ⟨r2, h2, _, hs2⟩ := szLoad ro ch hro hch r (by omega) hr1
    refine Ev.neg h (Ev.bind0 h2 ?_)
    by_cases h' : r2 < 0
    · exact Ev.pos h' (Ev.now _)
    · obtain ⟨sm2, sm3⟩ := hs2 (by omega)
      obtain ⟨v, hS, hI⟩ : ∃ v : Bool × Bool, Ev (fun k => spec_IsLoad.f k l p ro ch) v ∧ Ev (fun k => impl_IsLoad.f k l p ro ch) v := by
        by_cases hg : sunkB l p = true
        · refine ⟨(loadB l p ro ch, true), ?_, ?_⟩
          · unfold spec_IsLoad.f
            exact Ev.bind (chSink_ev l hl p) (Ev.pos hg (Ev.bind (chGood_ev l hl p ro ch hch) (Ev.now _)))
          · unfold impl_IsLoad.f
            exact Ev.bind (hasSink_ev l p) (Ev.pos hg (Ev.bind (isLoad_ev l p ro ch) (Ev.now _)))
        · refine ⟨(false, false), ?_, ?_⟩
          · unfold spec_IsLoad.f
            exact Ev.bind (chSink_ev l hl p) (Ev.neg hg (Ev.now _))
          · unfold impl_IsLoad.f
            exact Ev.bind (hasSink_ev l p) (Ev.neg hg (Ev.now _))
      refine Ev.neg h' (Ev.bind (toGraph l sm) (Ev.bind (toLoad ro ch sm2 sm3) (Ev.bind hS (Ev.bind (toGraph l sm) (Ev.bind (toLoad ro ch sm2 sm3) (Ev.bind hI (Ev.neg (by simp) ?_)))))))
      refine Ev.succ ?_
      simp only [laws_FnExactIsLoad.j0]
      exact Ev.neg (by simp) (Ev.bind (toGraph l sm) (Ev.bind (small_eq l sm) (Ev.pos rfl (Ev.bind (toLoad ro ch sm2 sm3) (Ev.bind (eqLoad ro ch sm2 sm3) (Ev.pos rfl (Ev.now _)))))))
end Go.Proofs.Ytcmfcleeohcgaab.Pure
namespace Go.Proofs.Ytcmfcleeohcgaab.fnExactIsLoad
open Go.ChangeShapes Go.WideShapes Go.ChangeAt Go.RowKit
open Go.ChangeMaps (open_string shut_string)
open Go.Proofs.Ytcmfcleeohcgaab.In Go.Proofs.Ytcmfcleeohcgaab.P
set_option linter.unusedVariables false
theorem own : ownKnob Try.prog.godebug = none := by kernel_rfl
theorem laidOut : laidOutB Try.prog = true := by kernel_rfl
set_option maxRecDepth 100000 in
theorem lifted (os : Os) (started : os.Started) (H : Type) (enc : TypeId × Value → H) :
    ReturnsInHanded {} Try.checked os 3 .any (Rows.fnExactIsLoadSpec.pre6 enc Try.prog Try.f3 Rows.fnExactIsLoadRow.domain false) (Rows.fnExactIsLoadSpec.post enc Try.prog Try.f3 false true false false) := by
  refine returnsInHanded_of_change_sized (C := Try.checked) own started (by kernel_rfl) Try.func3
    (ChangeSpec.witness6 (enc := enc) (C := Try.checked) false ⟨#[], #[.agg #[.slice none 0 0], .int .i64 0, .agg #[.slice none 0 0, .slice none 0 0]], []⟩ 8 (by kernel_rfl) (by kernel_rfl) (by kernel_rfl) (by kernel_rfl)) ?_
  intro W base args ds gs before hval0 hW hcnd hsz0 _
  have hsz : (DataW.weightsEach Try.prog (Try.f3.params.toList ++ Rows.fnExactIsLoadSpec.plain.varTypes Try.prog) (ds ++ gs)).all (· ≤ reachBytes) = true := hsz0
  have hval : ∀ (j : Nat) t v, Try.f3.params[j]? = some t → args[j]? = some v → Value.okWide Try.prog W .any base t v := hval0
  have hW' := hW
  obtain ⟨p, q, hA0, hV, rfl, hfz, hnd⟩ := hW
  have hA : DataW.TrodAll enc Try.prog W 0 (fun _ => true) true Try.f3.params.toList args.toList ds p := hA0
  rw [Try.params3] at hA hval hsz
  obtain ⟨v0, vs0, d0, ds0, p0, q0, hargs, rfl, rfl, h0, r0⟩ := trodAll_cons hA
  obtain ⟨v1, vs1, d1, ds1, p1, q1, rfl, rfl, rfl, h1, r1⟩ := trodAll_cons r0
  obtain ⟨v2, vs2, d2, ds2, p2, q2, rfl, rfl, rfl, h2, r2⟩ := trodAll_cons r1
  obtain ⟨rfl, rfl, rfl⟩ := trodAll_nil r2
  obtain rfl : args = #[v0, v1, v2] := by cases args; simp_all
  obtain ⟨rfl, rfl⟩ := trodVars_none hV
  have k0 := h0
  have lt0 : ∀ x ∈ p0, x.block < W.heap.size := by obtain ⟨m, hm⟩ := k0; exact DataW.trod_lt m _ _ _ hm
  obtain ⟨A0, l0, cap0, rfl, hl0, hc0, hw0⟩ := in_graph (q := 3) Try.underlying24 (by kernel_rfl) (by kernel_rfl) rfl Try.underlying22 Try.underlying25 Try.underlying3 (by kernel_rfl) (by kernel_rfl) (hval 0 24 v0 rfl rfl) h0
  obtain ⟨a1, rfl, rfl, rfl, w1⟩ := open_int Try.underlying3 (hval 1 3 v1 rfl rfl) h1
  have k2 := h2
  have lt2 : ∀ x ∈ p2, x.block < W.heap.size := by obtain ⟨m, hm⟩ := k2; exact DataW.trod_lt m _ _ _ hm
  obtain ⟨A2, l2, cap2, B2, m2, bcap2, rfl, hl2, hc2, hw2, hm2, hd2, hx2⟩ := in_load (q := 3) Try.underlying27 (by kernel_rfl) (by kernel_rfl) rfl rfl Try.underlying25 Try.underlying3 (by kernel_rfl) (hval 2 27 v2 rfl rfl) h2
  clear hA0 hval0 hsz0 hsz
  obtain ⟨k, h⟩ := Pure.FnExactIsLoad l0 (okSS_wf hc0 hw0) a1 (okI_wf w1) l2 m2 (okIs_wf hw2) (okIs_wf hx2)
  refine (laws_FnExactIsLoad.calls k _ _ l0 a1 _ _ l2 _ _ m2 true W hc0 hl0 hc2 hl2 hd2 hm2 h).mono fun e W' ⟨he, bel0⟩ => ?_
  have bel : Below W.heap.size W W' := bel0
  subst he
  exact ⟨_, rfl, _, _, _, [], _, [], hW', trodAll_mk1 (shut_bool Try.underlying4 _), (trodAll_cons_mk (Below.trod laidOut (by kernel_rfl) (of_decide_eq_true (by kernel_rfl)) k0 bel lt0) (trodAll_cons_mk (shut_int Try.underlying3 w1) (trodAll_cons_mk (Below.trod laidOut (by kernel_rfl) (of_decide_eq_true (by kernel_rfl)) k2 bel lt2) trodAll_mk0))), rfl, bel.frame _, fun h => by cases h⟩
theorem over : Rows.fnExactIsLoadRow.holds Try.pinned (OpenSpec.ofChange Rows.fnExactIsLoadSpec) :=
  OpenClaim.holds_of_wide 3 Try.f3 rfl rfl rfl rfl rfl rfl rfl ⟨rfl, rfl, rfl, rfl, rfl⟩ rfl rfl rfl rfl rfl (by kernel_rfl) Try.func3 (by kernel_rfl)
    (of_decide_eq_true (by kernel_rfl)) (by unfold Func.isWrapper; first | (rw [if_pos (by decide +kernel)]; kernel_rfl) | (rw [if_neg (by decide +kernel)]; exact ⟨rfl, rfl⟩))
    (fun os started H enc _ => lifted os started H enc)
theorem proved : Rows.FnExactIsLoadSaid := over
end Go.Proofs.Ytcmfcleeohcgaab.fnExactIsLoad
namespace Go.Proofs.Ytcmfcleeohcgaab
/-- The law, under a short name, for the claim. -/
theorem fnExactIsLoad_holds : Rows.FnExactIsLoadSaid := fnExactIsLoad.proved
#print axioms fnExactIsLoad_holds
end Go.Proofs.Ytcmfcleeohcgaab
