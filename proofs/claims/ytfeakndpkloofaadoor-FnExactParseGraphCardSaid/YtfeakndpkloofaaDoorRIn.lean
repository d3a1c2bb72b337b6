/- How the arguments of the laws read: rows of numbers, structs of them, as the kinds tell it. -/
import Derived.Test.YtfeakndpkloofaaDoorWMore
import Derived.WalkKit
import Derived.ProofKit
import Derived.OpenShut
import Derived.ShutString
import Derived.ChangeOld
import Derived.Below
import Derived.SizedLaws
import Derived.Deep.Matrix
import Derived.Lib.SmallJoins
namespace Go.Proofs.YtfeakndpkloofaaDoor.In
open Go.RowKit Go.Proofs.YtfeakndpkloofaaDoorW.PrintWords Go.Proofs.YtfeakndpkloofaaDoorW.PrintLast Go.Proofs.YtfeakndpkloofaaDoorW.PrintMore
set_option linter.unusedVariables false
/-- A row of numbers, as the reading of an argument tells it. -/
theorem in_ints {w : World} {A : Option Addr} {L C : Nat} {zs : List Int} (hl : L ≤ C) (hm : C ≤ maxLen) (hz : zs.length = C) (hn : A = none → C = 0) (hc : ∀ a', A = some a' → ∀ c, c < C → w.cell? (a'.add c) = some (.int .i64 (zs.getD c 0))) :
    Kd.C (Kd.int .i64) w A (zs.take L).length (zs.take L) := by
  have hlen : (zs.take L).length = L := by rw [List.length_take]; omega
  refine ⟨rfl, by rw [hlen]; unfold maxLen at hm; omega, fun h => ?_⟩
  rw [hlen] at h
  cases A with
  | none => have := hn rfl; omega
  | some a =>
    refine ⟨a, rfl, fun j p hj => ⟨[.int .i64 p], rfl, rfl, fun i u hi => ?_⟩⟩
    have hi0 : i = 0 := by
      cases i with
      | zero => rfl
      | succ i => simp at hi
    subst hi0
    obtain rfl := Option.some.inj hi
    show w.cell? (a.add (j * 1 + 0)) = _
    rw [List.getElem?_take] at hj
    split at hj
    · rename_i hjl
      have h2 : zs.getD j 0 = p := by rw [List.getD_eq_getElem?_getD, hj]; rfl
      rw [Nat.mul_one, Nat.add_zero, hc a rfl j (by omega), h2]
    · cases hj
/-- Rows of numbers. -/
theorem in_rows {w : World} {q : Nat} {a : Addr} {len cap : Nat} {A : Nat → Option Addr} {L C : Nat → Nat} {Z : Nat → List Int} (hl : len ≤ cap) (hm : cap ≤ maxLen)
    (h : ∀ r, r < cap → w.cell? (a.add r) = some (.slice (A r) (L r) (C r)) ∧ L r ≤ C r ∧ C r ≤ maxLen ∧ (Z r).length = C r ∧ (∀ n ∈ Z r, (Lit.int .i64 n).wf = true) ∧ (A r = none → C r = 0) ∧ ∀ a', A r = some a' → ∀ c, c < C r → w.cell? (a'.add c) = some (.int .i64 ((Z r).getD c 0))) :
    ∃ ll : List (List Int), len = ll.length ∧ Kd.C (Kd.slice q (Kd.int .i64)) w (some a) ll.length ll ∧ (∀ row ∈ ll, row.length ≤ maxLen ∧ ∀ x ∈ row, (Lit.int .i64 x).wf = true) := by
  refine ⟨(List.range len).map fun r => (Z r).take (L r), by simp, ⟨by simp, by simp; unfold maxLen at hm; omega, fun _ => ⟨a, rfl, fun j p hj => ?_⟩⟩, fun row hrow => ?_⟩
  · rw [List.getElem?_map] at hj
    have hjl : j < len := by
      rcases Nat.lt_or_ge j len with h1 | h1
      · exact h1
      · rw [List.getElem?_eq_none (by simpa using h1)] at hj; cases hj
    rw [List.getElem?_range hjl] at hj
    simp at hj
    subst hj
    obtain ⟨h1, h2, h3, h4, h5, h6, h7⟩ := h j (by omega)
    have hlen : ((Z j).take (L j)).length = L j := by rw [List.length_take]; omega
    refine ⟨[.slice (A j) ((Z j).take (L j)).length (C j)], rfl, ⟨A j, C j, rfl, by omega, in_ints h2 h3 h4 h6 h7⟩, fun i u hi => ?_⟩
    have hi0 : i = 0 := by
      cases i with
      | zero => rfl
      | succ i => simp at hi
    subst hi0
    obtain rfl := Option.some.inj hi
    show w.cell? (a.add (j * 1 + 0)) = _
    rw [Nat.mul_one, Nat.add_zero, h1, hlen]
  · simp only [List.mem_map, List.mem_range] at hrow
    obtain ⟨r, hr, rfl⟩ := hrow
    obtain ⟨h1, h2, h3, h4, h5, h6, h7⟩ := h r (by omega)
    exact ⟨by rw [List.length_take]; omega, fun x hx => h5 x (List.mem_of_mem_take hx)⟩
section
variable {H : Type} {enc : TypeId × Value → H} {P : Program} {w : World} {base : Nat} {held : Bool}
open Go.ChangeShapes Go.WideShapes Go.Deep in
/-- Rows of numbers, in a cell. -/
theorem in_rows_cell {t e q : TypeId} {fuel : Nat} {cs : List Value} {x : DataW H × List MemPlace} (ht : P.underlying t = some (.slice e)) (he : P.underlying e = some (.slice q)) (hq : P.underlying q = some (.int .i64))
    (ce : P.cellsOf e = 1) (cq : P.cellsOf q = 1) (h : DataW.trod enc P w base (fun _ => true) held fuel t cs = some x) :
    ∃ (A : Option Addr) (ll : List (List Int)) (cap : Nat), cs = [.slice A ll.length cap] ∧ ll.length ≤ cap ∧ Kd.C (Kd.slice q (Kd.int .i64)) w A ll.length ll ∧ (∀ row ∈ ll, row.length ≤ maxLen ∧ ∀ x ∈ row, (Lit.int .i64 x).wf = true) := by
  rcases open_int_rows ht he hq ce cq h with ⟨rfl, _⟩ | ⟨a, len, cap, A, L, C, Z, rfl, _, hl, hm, _, hr⟩
  · exact ⟨none, [], 0, rfl, Nat.le_refl _, Kd.C_nil _ _, by simp⟩
  · obtain ⟨ll, rfl, hc, hw⟩ := in_rows (q := q) hl hm (fun r hr' => by
      obtain ⟨h1, h2, h3, h4, h5, h6, h7⟩ := hr r hr'
      exact ⟨h1, h2, h3, h4, h5, h6, fun a' ha c hc => (h7 a' ha).2 c hc⟩)
    exact ⟨some a, ll, cap, rfl, hl, hc, hw⟩
open Go.ChangeShapes Go.WideShapes Go.Deep in
/-- Numbers, in a cell. -/
theorem in_ints_cell {t q : TypeId} {fuel : Nat} {cs : List Value} {x : DataW H × List MemPlace} (ht : P.underlying t = some (.slice q)) (hq : P.underlying q = some (.int .i64))
    (cq : P.cellsOf q = 1) (h : DataW.trod enc P w base (fun _ => true) held fuel t cs = some x) :
    ∃ (A : Option Addr) (l : List Int) (cap : Nat), cs = [.slice A l.length cap] ∧ l.length ≤ cap ∧ Kd.C (Kd.int .i64) w A l.length l ∧ (l.length ≤ maxLen ∧ ∀ x ∈ l, (Lit.int .i64 x).wf = true) := by
  rcases open_ints ht hq cq h with ⟨rfl, _⟩ | ⟨a, len, cap, zs, rfl, _, hl, hm, hz, _, hc, hw⟩
  · exact ⟨none, [], 0, rfl, Nat.le_refl _, Kd.C_nil _ _, by simp⟩
  · simp only [if_true] at hz
    have hlen : (zs.take len).length = len := by rw [List.length_take]; omega
    refine ⟨some a, zs.take len, cap, by rw [hlen], by omega, in_ints hl hm hz (fun e => by cases e) (fun a' e c hlt => by cases e; exact hc c (by omega)), by omega, fun x hx => hw x (List.mem_of_mem_take hx)⟩
theorem array1 {α : Type} {cs : Array α} (h : cs.size = 1) : ∃ c0, cs = #[c0] := by
  obtain ⟨l⟩ := cs
  match l, h with
  | [c0], _ => exact ⟨c0, rfl⟩
open Go.ChangeShapes Go.WideShapes Go.Deep in
/-- A struct of one field: rows of numbers. -/
theorem in_graph {r : Reach} {b0 : Nat} {t ts te q : TypeId} {f0 : Field} {v : Value} {d : DataW H} {p : List MemPlace} (hs : P.underlying t = some (.struct #[f0])) (hone : oneCellFields P #[f0] = true) (hC : P.cellsOf t = 1) (hf0 : f0.type = ts)
    (ht : P.underlying ts = some (.slice te)) (he : P.underlying te = some (.slice q)) (hq : P.underlying q = some (.int .i64)) (ce : P.cellsOf te = 1) (cq : P.cellsOf q = 1) (hv : Value.okWide P w r b0 t v) (h : DataW.Trod enc P w base (fun _ => true) held t v d p) :
    ∃ (A : Option Addr) (ll : List (List Int)) (cap : Nat), v = .agg #[.slice A ll.length cap] ∧ ll.length ≤ cap ∧ Kd.C (Kd.slice q (Kd.int .i64)) w A ll.length ll ∧ (∀ row ∈ ll, row.length ≤ maxLen ∧ ∀ x ∈ row, (Lit.int .i64 x).wf = true) := by
  subst hf0
  obtain ⟨cs, rfl, hsz⟩ := okWide_struct hs hv
  obtain ⟨c0, rfl⟩ := array1 (hsz.trans hC)
  obtain ⟨fuel, hf⟩ := h
  obtain ⟨y0, n, hx, _, h0⟩ := trod_struct1 hs hf
  obtain ⟨o0, k0⟩ := hone_of hone 0 f0 rfl
  obtain ⟨A, ll, cap, hcs, h1, h2, h3⟩ := in_rows_cell ht he hq ce cq h0
  simp [Value.cells, o0, k0] at hcs
  subst hcs
  exact ⟨A, ll, cap, rfl, h1, h2, h3⟩
end
section
variable {H : Type} {enc : TypeId × Value → H} {P : Program} {w : World} {base : Nat} {held : Bool}
open Go.ChangeShapes Go.WideShapes Go.Deep in
/-- A struct of numbers and a number. -/
theorem in_walk {r : Reach} {b0 : Nat} {t ts q tx : TypeId} {f0 f1 : Field} {v : Value} {d : DataW H} {p : List MemPlace} (hs : P.underlying t = some (.struct #[f0, f1])) (hone : oneCellFields P #[f0, f1] = true) (hC : P.cellsOf t = 2) (hf0 : f0.type = ts) (hf1 : f1.type = tx)
    (ht : P.underlying ts = some (.slice q)) (hq : P.underlying q = some (.int .i64)) (hx : P.underlying tx = some (.int .i64)) (cq : P.cellsOf q = 1) (hv : Value.okWide P w r b0 t v) (h : DataW.Trod enc P w base (fun _ => true) held t v d p) :
    ∃ (A : Option Addr) (l : List Int) (cap : Nat) (x : Int), v = .agg #[.slice A l.length cap, .int .i64 x] ∧ l.length ≤ cap ∧ Kd.C (Kd.int .i64) w A l.length l ∧ (l.length ≤ maxLen ∧ ∀ y ∈ l, (Lit.int .i64 y).wf = true) ∧ (Lit.int .i64 x).wf = true := by
  subst hf0 hf1
  obtain ⟨v0, v1, y0, y1, n, rfl, _, _, h0, h1⟩ := Go.Joins.open_agg2 hs hone hC hv h
  obtain ⟨A, l, cap, hcs, hl, hc, hw⟩ := in_ints_cell ht hq cq h0
  simp only [List.cons.injEq, and_true] at hcs
  subst hcs
  obtain ⟨x, hxs, _, hxw⟩ := DataW.trod_int hx h1
  simp only [List.cons.injEq, and_true] at hxs
  subst hxs
  exact ⟨A, l, cap, x, rfl, hl, hc, hw, hxw⟩
open Go.ChangeShapes Go.WideShapes Go.Deep in
/-- A struct of numbers and numbers. -/
theorem in_load {r : Reach} {b0 : Nat} {t ts q : TypeId} {f0 f1 : Field} {v : Value} {d : DataW H} {p : List MemPlace} (hs : P.underlying t = some (.struct #[f0, f1])) (hone : oneCellFields P #[f0, f1] = true) (hC : P.cellsOf t = 2) (hf0 : f0.type = ts) (hf1 : f1.type = ts)
    (ht : P.underlying ts = some (.slice q)) (hq : P.underlying q = some (.int .i64)) (cq : P.cellsOf q = 1) (hv : Value.okWide P w r b0 t v) (h : DataW.Trod enc P w base (fun _ => true) held t v d p) :
    ∃ (A : Option Addr) (l : List Int) (cap : Nat) (B : Option Addr) (m : List Int) (bcap : Nat), v = .agg #[.slice A l.length cap, .slice B m.length bcap] ∧ l.length ≤ cap ∧ Kd.C (Kd.int .i64) w A l.length l ∧ (l.length ≤ maxLen ∧ ∀ y ∈ l, (Lit.int .i64 y).wf = true) ∧ m.length ≤ bcap ∧ Kd.C (Kd.int .i64) w B m.length m ∧ (m.length ≤ maxLen ∧ ∀ y ∈ m, (Lit.int .i64 y).wf = true) := by
  subst hf0
  obtain ⟨v0, v1, y0, y1, n, rfl, _, _, h0, h1⟩ := Go.Joins.open_agg2 hs hone hC hv h
  obtain ⟨A, l, cap, hcs, hl, hc, hw⟩ := in_ints_cell ht hq cq h0
  simp only [List.cons.injEq, and_true] at hcs
  subst hcs
  rw [hf1] at h1
  obtain ⟨B, m, bcap, hcs, hm, hd, hx⟩ := in_ints_cell ht hq cq h1
  simp only [List.cons.injEq, and_true] at hcs
  subst hcs
  exact ⟨A, l, cap, B, m, bcap, rfl, hl, hc, hw, hm, hd, hx⟩
open Go.ChangeShapes Go.WideShapes Go.Deep in
theorem in_slice {r : Reach} {b0 : Nat} {t q : TypeId} {v : Value} {d : DataW H} {p : List MemPlace} (ht : P.underlying t = some (.slice q)) (hq : P.underlying q = some (.int .i64)) (cq : P.cellsOf q = 1) (hv : Value.okWide P w r b0 t v) (h : DataW.Trod enc P w base (fun _ => true) held t v d p) :
    ∃ (A : Option Addr) (l : List Int) (cap : Nat), v = .slice A l.length cap ∧ l.length ≤ cap ∧ Kd.C (Kd.int .i64) w A l.length l ∧ (l.length ≤ maxLen ∧ ∀ y ∈ l, (Lit.int .i64 y).wf = true) := by
  obtain ⟨A0, n0, c0, rfl⟩ := okWide_slice ht hv
  obtain ⟨fuel, hf⟩ := h
  obtain ⟨A, l, cap, hcs, hl, hc, hw⟩ := in_ints_cell ht hq cq hf
  simp [Value.cells] at hcs
  obtain ⟨rfl, rfl, rfl⟩ := hcs
  exact ⟨_, l, _, rfl, hl, hc, hw⟩
open Go.ChangeShapes Go.WideShapes Go.Deep in
theorem in_slices {r : Reach} {b0 : Nat} {t e q : TypeId} {v : Value} {d : DataW H} {p : List MemPlace} (ht : P.underlying t = some (.slice e)) (he : P.underlying e = some (.slice q)) (hq : P.underlying q = some (.int .i64)) (ce : P.cellsOf e = 1) (cq : P.cellsOf q = 1) (hv : Value.okWide P w r b0 t v) (h : DataW.Trod enc P w base (fun _ => true) held t v d p) :
    ∃ (A : Option Addr) (ll : List (List Int)) (cap : Nat), v = .slice A ll.length cap ∧ ll.length ≤ cap ∧ Kd.C (Kd.slice q (Kd.int .i64)) w A ll.length ll ∧ (∀ row ∈ ll, row.length ≤ maxLen ∧ ∀ x ∈ row, (Lit.int .i64 x).wf = true) := by
  obtain ⟨A0, n0, c0, rfl⟩ := okWide_slice ht hv
  obtain ⟨fuel, hf⟩ := h
  obtain ⟨A, ll, cap, hcs, hl, hc, hw⟩ := in_rows_cell ht he hq ce cq hf
  simp [Value.cells] at hcs
  obtain ⟨rfl, rfl, rfl⟩ := hcs
  exact ⟨_, ll, _, rfl, hl, hc, hw⟩
end
/-! What an argument's numbers are like. -/
def okI (x : Int) : Prop := -9223372036854775808 ≤ x ∧ x ≤ 9223372036854775807
def okIs (l : List Int) : Prop := l.length ≤ 9223372036854775807 ∧ ∀ x ∈ l, okI x
def okSS (ll : List (List Int)) : Prop := ll.length ≤ 9223372036854775807 ∧ ∀ row ∈ ll, okIs row
theorem okI_wf {x : Int} (h : (Lit.int .i64 x).wf = true) : okI x := by
  simp only [Lit.wf, Bool.and_eq_true, decide_eq_true_eq] at h
  exact h
theorem okIs_wf {l : List Int} (h : l.length ≤ maxLen ∧ ∀ x ∈ l, (Lit.int .i64 x).wf = true) : okIs l := ⟨h.1, fun x hx => okI_wf (h.2 x hx)⟩
theorem okSS_wf {w : World} {q : Nat} {A : Option Addr} {ll : List (List Int)} (hc : Kd.C (Kd.slice q (Kd.int .i64)) w A ll.length ll) (h : ∀ row ∈ ll, row.length ≤ maxLen ∧ ∀ x ∈ row, (Lit.int .i64 x).wf = true) : okSS ll := ⟨hc.2.1, fun row hr => okIs_wf (h row hr)⟩

end Go.Proofs.YtfeakndpkloofaaDoor.In
