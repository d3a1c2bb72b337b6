-- Printed by a program of this session (pp.sh), out of the translation; Lean checks it.
import Derived.Test.YtfeakndpkloofaaDoorP0
import Derived.Test.YtfeakndpkloofaaDoorPlawsmarkIntSS
namespace Go.Proofs.YtfeakndpkloofaaDoor.P
open Go.RowKit Go.Proofs.YtfeakndpkloofaaDoorW.PrintWords Go.Proofs.YtfeakndpkloofaaDoorW.PrintLast Go.Proofs.YtfeakndpkloofaaDoorW.PrintMore
attribute [local go_sem] max2_int min2_int max_two min_two max_three min_three max_four min_four   -- for this text's walks alone
set_option linter.unusedVariables false
set_option linter.unusedSimpArgs false

/-! ### laws_markGraph: function 18 -/
def laws_markGraph.f (k : Nat) (l0 : List (List Int)) (a1 : Int) : Option (Int × List (List Int)) := laws_markIntSS.f k l0 a1
set_option maxHeartbeats 8000000 in
set_option maxRecDepth 100000 in
theorem laws_markGraph.calls (k : Nat) (P0_ : Nat → Prop) (u0_ : Value) (l0 : List (List Int)) (a1 : Int) (r1 : Int) (r2 : List (List Int)) (w0 w : World) (hB : Below w0.heap.size w0 w) (ho0 : Kd.S (Kd.slice 3 (Kd.int .i64)) 32 w w0.heap.size P0_ u0_ l0) (h : laws_markGraph.f k l0 a1 = some (r1, r2)) :
    Calls Tryd.prog 18 #[.agg #[u0_], .int .i64 a1] w fun e w' => e = .returned (.int .i64 r1) ∧ Kd.S (Kd.slice 3 (Kd.int .i64)) 32 w' w0.heap.size P0_ u0_ r2 ∧ Below w0.heap.size w0 w' ∧ Kept w w' P0_ := by
  have hu := Tryd.underlying28
  obtain ⟨A, c, rfl⟩ := Kd.S_slice ho0
  have HO0 := Aside0.mk ho0
  have HB := Aside0.mk hB
  clear ho0 hB
  have HA := Aside0.mk (show laws_markIntSS.f k l0 a1 = some (r1, r2) from h)
  clear h
  go_enter Tryd.func18, Tryd.ntmps18
  go_wp2_with ((with_reducible refine gate_callee (f := 41) rfl ?_); refine goesL_ (some 8) rfl rfl Tryd.func41 (by kernel_rfl) rfl #[.slice A l0.length c, .int .i64 a1] rfl (by (try simp only [List.map_toArray, List.map_cons, List.map_nil]); first | done | rfl) ?_; (with_reducible refine (laws_markIntSS.calls k P0_ _ l0 a1 r1 r2 w0 _ ?side1 ?side2 HA.out).mono ?_); (case side1 => repeat (first | (with_reducible first | exact HB.out | apply below_alloc | apply pw_below_drewN | apply below_drew1) | exact HB.out)); (case side2 => (with_reducible repeat (first | apply Kd.S_alloc | apply Kd.S_drewN | apply Kd.S_drew)); exact HO0.out); rintro e w5 ⟨rfl, ho, hb, hk⟩; refine ⟨_, rfl, ?_⟩; have n0_ := Aside0.mk ho; have n1_ := Aside0.mk hb; have n2_ := Aside0.mk (show Kept w w5 P0_ from Kept.then_ (by repeat (first | (with_reducible first | exact Kept.refl _ _ | apply Kept.alloc | apply Kept.drewN | apply Kept.drew) | exact Kept.refl _ _)) hk (fun _ h => .inl h)); clear ho hb hk HB HO0)
  go_ret
  exact ⟨by first | rfl | (simp; done), by (with_reducible repeat (first | apply Kd.S_alloc | apply Kd.S_drewN | apply Kd.S_drew)); exact n0_.out, by repeat (first | (with_reducible first | exact n1_.out | apply below_alloc | apply pw_below_drewN | apply below_drew1) | exact n1_.out), by repeat (first | (with_reducible first | exact n2_.out | apply Kept.alloc | apply Kept.drewN | apply Kept.drew) | exact n2_.out)⟩


end Go.Proofs.YtfeakndpkloofaaDoor.P
