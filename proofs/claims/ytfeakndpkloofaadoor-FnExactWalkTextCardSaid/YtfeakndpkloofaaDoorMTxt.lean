/- Texts of numbers in plain Lean: digits, commas between them. -/
import Derived.Test.YtfeakndpkloofaaDoorPimplin
import Derived.Test.YtfeakndpkloofaaDoorPstrconvItoa
import Derived.Test.YtfeakndpkloofaaDoorPstringsJoin
import Derived.Test.YtfeakndpkloofaaDoorPspecl1Num
import Derived.Test.YtfeakndpkloofaaDoorPimpllistText
import Derived.Test.YtfeakndpkloofaaDoorMBase
import Derived.Test.YtfeakndpkloofaaDoorRIn
namespace Go.Proofs.YtfeakndpkloofaaDoor.M
open Go.RowKit Go.Proofs.YtfeakndpkloofaaDoor.P Go.Proofs.YtfeakndpkloofaaDoor.In Go.Proofs.YtfeakndpkloofaaDoorW.PrintWords Go.Proofs.YtfeakndpkloofaaDoorW.PrintLast
set_option linter.unusedVariables false
set_option linter.unusedSimpArgs false
def mk (l : List UInt8) : ByteArray := ⟨l.toArray⟩
theorem mk_app (a b : List UInt8) : mk a ++ mk b = mk (a ++ b) := by
  apply ByteArray.ext; simp [mk]
theorem mk_size (a : List UInt8) : (mk a).size = a.length := by simp [mk, ByteArray.size]
theorem mk_list (a : List UInt8) : (mk a).data.toList = a := by simp [mk]
def dg1 (q : Int) : List UInt8 := [UInt8.ofNat (48 + q.toNat)]
theorem itoa_d {q : Int} (h0 : 0 ≤ q) (h1 : q < 10) : strconv_Itoa.f q = some (mk (dg1 q)) := by
  unfold strconv_Itoa.f
  rw [if_pos ⟨h0, by omega⟩, Lib.decDigits_one (by omega)]; rfl
theorem l1Num_d {q : Int} (h0 : 0 ≤ q) (h1 : q < 10) : Ev (fun k => spec_l1Num.f k q) (mk (dg1 q)) := by
  refine Ev.succ ?_
  simp only [spec_l1Num.f]
  refine Ev.pos h1 ((Ev.now _).val ?_)
  have e : wrap64 (48 + q) % 256 = 48 + q := by unfold wrap64; omega
  rw [e]
  unfold strOfNums mk dg1
  have e2 : (48 + q).toNat = 48 + q.toNat := by omega
  simp [e2]
theorem join_snoc (sep : List UInt8) : ∀ (l : List (List UInt8)) (x : List UInt8), Lib.join (l ++ [x]) sep = if l = [] then x else Lib.join l sep ++ sep ++ x
  | [], x => by simp [Lib.join_one]
  | [a], x => by simp [Lib.join, List.intercalate, List.intersperse]
  | a :: b :: t, x => by
    have ih := join_snoc sep (b :: t) x
    have e1 : Lib.join (a :: b :: (t ++ [x])) sep = a ++ sep ++ Lib.join (b :: (t ++ [x])) sep := by simp [Lib.join, List.intercalate, List.intersperse]
    have e2 : Lib.join (a :: b :: t) sep = a ++ sep ++ Lib.join (b :: t) sep := by simp [Lib.join, List.intercalate, List.intersperse]
    simp only [List.cons_append, if_neg (List.cons_ne_nil _ _)] at ih ⊢
    rw [e1, e2, ih]; simp [List.append_assoc]
theorem join_len (sep : List UInt8) (B : Nat) : ∀ (n : Nat) (l : List (List UInt8)), l.length = n → (∀ x ∈ l, x.length ≤ B) → (Lib.join l sep).length ≤ (B + sep.length) * n := by
  intro n
  induction n with
  | zero => intro l hl _; obtain rfl := List.length_eq_zero_iff.1 hl; simp [Lib.join]
  | succ n ih =>
    intro l hl hx
    have hne : l ≠ [] := fun h => by subst h; simp at hl
    have hd := List.dropLast_concat_getLast hne
    rw [← hd, join_snoc]
    have hlast := hx _ (List.getLast_mem hne)
    have hpre := ih l.dropLast (by simp; omega) (fun x hx' => hx x (List.dropLast_subset l hx'))
    rw [Nat.mul_succ]
    split
    · omega
    · simp only [List.length_append]; omega
theorem join_take (sep : List UInt8) (l : List (List UInt8)) {i : Nat} (hi : i < l.length) : Lib.join (l.take (i + 1)) sep = if i = 0 then l[i] else Lib.join (l.take i) sep ++ sep ++ l[i] := by
  rw [List.take_succ_eq_append_getElem hi, join_snoc]
  by_cases h : i = 0
  · subst h; simp
  · rw [if_neg (by simp; exact ⟨h, fun h2 => by subst h2; simp at hi⟩), if_neg h]
def commas (row : List Int) : List UInt8 := Lib.join (row.map dg1) [44]
theorem commas_len (row : List Int) : (commas row).length ≤ 2 * row.length := by
  have := join_len [44] 1 row.length (row.map dg1) (by simp) (fun x hx => by obtain ⟨q, _, rfl⟩ := List.mem_map.1 hx; simp [dg1])
  simpa [commas] using this
theorem commas_take (row : List Int) {i : Nat} (hi : i < row.length) : commas (row.take (i + 1)) = if i = 0 then dg1 row[i] else commas (row.take i) ++ [44] ++ dg1 row[i] := by
  unfold commas
  rw [List.map_take, List.map_take, join_take [44] (row.map dg1) (by simpa using hi)]
  simp
def rowT (row : List Int) : List UInt8 := if row = [] then [45] else commas row
theorem rowT_len (row : List Int) (h : row.length ≤ 8) : (rowT row).length ≤ 16 := by
  unfold rowT; split
  · simp
  · have := commas_len row; omega
theorem join_mk (l : List (List UInt8)) (sep : List UInt8) (h1 : l.length ≤ 140737488355328) (h2 : (Lib.join l sep).length ≤ 140737488355328) : strings_Join.f (l.map mk) (mk sep) = some (mk (Lib.join l sep)) := by
  unfold strings_Join.f
  have e : (l.map mk).map (·.data.toList) = l := by
    rw [List.map_map]; conv => rhs; rw [← List.map_id l]
    apply List.map_congr_left; intro a _; exact mk_list a
  rw [e, mk_list]
  rw [if_pos ⟨by simpa using h1, h2⟩]; rfl
/-- Digits alone. -/
def Digits (row : List Int) : Prop := row.length ≤ 8 ∧ ∀ q ∈ row, 0 ≤ q ∧ q < 10
theorem list_l0 {row : List Int} (h : Digits row) : ∀ (d i : Nat), row.length - i = d → i ≤ row.length → Ev (fun k => impl_listText.l0 k (((row.take i).map dg1).map mk) row row.length i) (mk (commas row)) := by
  have h8 := h.1
  intro d
  induction d with
  | zero =>
    intro i hd hi
    obtain rfl : i = row.length := by omega
    refine Ev.succ ?_
    simp only [impl_listText.l0]
    refine Ev.neg (by omega) ?_
    rw [List.take_length]
    have hl := commas_len row
    exact Ev.bind0 (join_mk (row.map dg1) [44] (by simp; omega) (by show (commas row).length ≤ _; omega)) (Ev.now _)
  | succ d ih =>
    intro i hd hi
    have hlt : i < row.length := by omega
    refine Ev.succ ?_
    simp only [impl_listText.l0]
    have hq := h.2 row[i] (List.getElem_mem _)
    refine Ev.pos (by omega) (Ev.pos (by omega) (Ev.pos (by omega) ?_))
    rw [rd_at hlt]
    refine Ev.bind0 (itoa_d hq.1 hq.2) (Ev.pos (by simp; omega) ?_)
    rw [wrap_nat (by omega)]
    have e : ((row.take i).map dg1).map mk ++ [mk (dg1 row[i])] = ((row.take (i + 1)).map dg1).map mk := by
      rw [List.take_succ_eq_append_getElem hlt, List.map_append, List.map_append]; rfl
    rw [e]
    exact ih (i + 1) (by omega) (by omega)
theorem listText_ev {row : List Int} (h : Digits row) : Ev (fun k => impl_listText.f k row) (mk (rowT row)) := by
  unfold impl_listText.f
  by_cases hn : row = []
  · subst hn
    exact Ev.pos (by simp) ((Ev.now _).val (by simp [rowT, mk]))
  · have : 0 < row.length := List.length_pos_iff.2 hn
    refine Ev.neg (by omega) ?_
    have e : rowT row = commas row := by unfold rowT; rw [if_neg hn]
    rw [e]
    exact list_l0 h row.length 0 (by omega) (by omega)
end Go.Proofs.YtfeakndpkloofaaDoor.M
