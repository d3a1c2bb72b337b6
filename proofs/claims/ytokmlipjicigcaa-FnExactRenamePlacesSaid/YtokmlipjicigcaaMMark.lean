/- What is told of rows over an event: for the walks through laws that mark. -/
import Derived.Test.YtokmlipjicigcaaP0
import Derived.Test.YtokmlipjicigcaaRIn
namespace Go.Proofs.Ytokmlipjicigcaa.M
open Go.RowKit Go.Proofs.Ytokmlipjicigcaa.P Go.Proofs.Ytokmlipjicigcaa.In Go.Proofs.YtokmlipjicigcaaW.PrintWords Go.Proofs.YtokmlipjicigcaaW.PrintLast
set_option linter.unusedVariables false
set_option linter.unusedSimpArgs false
theorem ev_kept {w wc W w' : World} {S : Nat → Prop} {s : Nat} (hs : s ≤ wc.heap.size) (hB : Below w.heap.size w wc) (hb : Below W.heap.size W w') (hk : Kept wc W S) : Kept wc w' S ∧ s ≤ W.heap.size ∧ W.heap.size ≤ w'.heap.size ∧ w.heap.size ≤ W.heap.size :=
  ⟨hk.below hb, Nat.le_trans hs hk.1, hb.size, Nat.le_trans hB.size hk.1⟩
theorem ev_mark {wc W w' : World} {S : Nat → Prop} {s : Nat} (hs : s ≤ wc.heap.size) (hm : Kept W w' S) (hk : Kept wc W S) : Kept wc w' S ∧ s ≤ w'.heap.size :=
  ⟨hk.then_ hm (fun _ h => .inl h), Nat.le_trans hs (Nat.le_trans hk.1 hm.1)⟩
theorem S_new {α : Type} {d : Kd α} {e : Nat} {W w' : World} {v : Value} {r : List α} {b0 s : Nat} (h : Kd.S d e w' W.heap.size (fun _ => True) v r) (hb : W.heap.size ≤ w'.heap.size) (h0 : b0 ≤ W.heap.size) (hs : s ≤ W.heap.size) :
    ∃ lo hi, s ≤ lo ∧ lo ≤ hi ∧ hi ≤ w'.heap.size ∧ Kd.S d e w' b0 (fun k => lo ≤ k ∧ k < hi) v r :=
  ⟨W.heap.size, w'.heap.size, hs, hb, Nat.le_refl _, Kd.S_lower (Kd.S_mono (Kd.S_bound h) (fun _ hk => ⟨hk.2.1, hk.2.2.1⟩)) h0⟩
theorem R_new {α : Type} {d : Kd α} {e : Nat} {W w' : World} {v : Value} {r : List α} {b0 s : Nat} (h : Kd.R d e w' W.heap.size (fun _ => True) v r) (hb : W.heap.size ≤ w'.heap.size) (h0 : b0 ≤ W.heap.size) (hs : s ≤ W.heap.size) :
    ∃ lo hi, s ≤ lo ∧ lo ≤ hi ∧ hi ≤ w'.heap.size ∧ Kd.R d e w' b0 (fun k => lo ≤ k ∧ k < hi) v r :=
  ⟨W.heap.size, w'.heap.size, hs, hb, Nat.le_refl _, Kd.R_lower (Kd.R_mono (Kd.R_bound h) (fun _ hk => ⟨hk.2.1, hk.2.2.1⟩)) h0⟩
theorem Q_new {α : Type} {d : Kd α} {e : Nat} {W w' : World} {v : Value} {r : List α} {b0 s : Nat} (h : Kd.Q d e w' W.heap.size (fun _ => True) v r) (hb : W.heap.size ≤ w'.heap.size) (h0 : b0 ≤ W.heap.size) (hs : s ≤ W.heap.size) :
    ∃ lo hi, s ≤ lo ∧ lo ≤ hi ∧ hi ≤ w'.heap.size ∧ Kd.Q d e w' b0 (fun k => lo ≤ k ∧ k < hi) v r :=
  ⟨W.heap.size, w'.heap.size, hs, hb, Nat.le_refl _, Kd.Q_lower (Kd.Q_mono (Kd.Q_bound h) (fun _ hk => ⟨hk.2.1, hk.2.2.1⟩)) h0⟩
theorem Q_now {α : Type} {d : Kd α} {e base : Nat} {wc W : World} {ok S : Nat → Prop} {A : Option Addr} {c : Nat} {xs : List α} (h : Kd.Q d e wc base ok (.slice A xs.length c) xs) (hk : Kept wc W S) (hne : ∀ k, ok k → ¬ S k) : Kd.C d W A xs.length xs :=
  (Kd.Q_reads' (Kd.Q_kept h hk hne)).2.2
theorem S_now {α : Type} {d : Kd α} {e base : Nat} {wc W : World} {ok S : Nat → Prop} {A : Option Addr} {c : Nat} {xs : List α} (h : Kd.S d e wc base ok (.slice A xs.length c) xs) (hk : Kept wc W S) (hne : ∀ k, ok k → ¬ S k) : Kd.C d W A xs.length xs :=
  (Kd.S_reads' (Kd.S_kept h hk hne)).2.2
theorem R_now {α : Type} {d : Kd α} {e base : Nat} {wc W : World} {ok S : Nat → Prop} {A : Option Addr} {c : Nat} {xs : List α} (h : Kd.R d e wc base ok (.slice A xs.length c) xs) (hk : Kept wc W S) (hne : ∀ k, ok k → ¬ S k) : Kd.C d W A xs.length xs :=
  (Kd.R_reads' (Kd.R_kept h hk hne)).2.2
theorem F_at {α : Type} {d : Kd α} {wc W : World} {ok S : Nat → Prop} {A : Option Addr} {n : Nat} {xs : List α} (h : Kd.F d wc ok A n xs) (hk : Kept wc W S) (hne : ∀ k, ok k → ¬ S k) : Kd.C d W A n xs :=
  Kd.F_now (Kd.F_kept h hk hne)
theorem N_new {α : Type} {d : Kd α} {e : Nat} {W w' : World} {v : Value} {r : List α} {b0 s : Nat} (h : Kd.N d e w' W.heap.size (fun k => W.heap.size ≤ k) v r) (hb : W.heap.size ≤ w'.heap.size) (h0 : b0 ≤ W.heap.size) (hs : s ≤ W.heap.size) :
    ∃ lo hi, s ≤ lo ∧ lo ≤ hi ∧ hi ≤ w'.heap.size ∧ Kd.N d e w' b0 (fun k => lo ≤ k ∧ k < hi) v r :=
  ⟨W.heap.size, w'.heap.size, hs, hb, Nat.le_refl _, Kd.N_lower (Kd.N_mono (Kd.N_bound h) (fun _ hk => ⟨hk.1, hk.2⟩)) h0⟩
theorem N_now {α : Type} {d : Kd α} {e base : Nat} {wc W : World} {ok S : Nat → Prop} {A : Option Addr} {c : Nat} {xs : List α} (h : Kd.N d e wc base ok (.slice A xs.length c) xs) (hk : Kept wc W S) (hne : ∀ k, ok k → ¬ S k) : Kd.C d W A xs.length xs :=
  (Kd.N_reads' (Kd.N_kept h hk hne)).2.2
theorem box_in {w : World} {g : Nat} {o : Obj} (h : w.heap[g]? = some o) : g + 1 ≤ w.heap.size := blk_lt h
theorem calls_len {P : Program} {n : FuncId} {args args' : Array Value} {w : World} {Q : Ending → World → Prop} (e : args = args') (h : Calls P n args' w Q) : Calls P n args w Q := e ▸ h
end Go.Proofs.Ytokmlipjicigcaa.M
