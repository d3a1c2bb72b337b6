/- Texts of this session on the way to the law FnHeapsTopple, part 3: words of the print, walks, plain laws; only what the law's proof uses. -/
import Derived.Test.YtdfabioienofhaaCFnHeapsTopplea
import Derived.Test.YtdfabioienofhaaCFnHeapsToppleb
namespace Go.Proofs.Ytdfabioienofhaa.P
set_option maxHeartbeats 8000000
set_option maxRecDepth 100000
open Go.RowKit Go.Proofs.YtdfabioienofhaaW.PrintWords Go.Proofs.YtdfabioienofhaaW.PrintLast Go.Proofs.YtdfabioienofhaaW.PrintMore
attribute [local go_sem] zx0 zu0 max_two min_two zt0 zs0 zw0 zv0
set_option linter.unusedVariables false
set_option linter.unusedSimpArgs false
mutual
def yb0.l0 : Nat → Int → Int → Int → List Int → Int → Int → List (List Int) → Option ((List (List Int)) × Int × Int × Int)
 | 0, _, _, _, _, _, _, _ => none
 | k + 1, x5, x16, x17, x1000, x1001, x1002, x197000 => if x17 < x16 then ((yd0.f k x197000 x17).bind fun t200 => (if (t200.length : Int) > 0 then (if x17 = x5 then (yb0.j1 k x5 x17 x16 x17 false x1000 x1001 x1002 x197000) else ((yd0.f k x197000 x17).bind fun t203 => (if 0 ≤ x5 then (if x5 < (t203.length : Int) then (if (rd t203 x5) < 0 then ((yt0.f x1000 x1001 x1002 12).bind fun bt207 => (yb0.j1 k x5 x17 x16 x17 (!bt207.1) x1000 bt207.2.1 bt207.2.2 x197000)) else (yb0.j1 k x5 x17 x16 x17 false x1000 x1001 x1002 x197000)) else (none)) else (none)))) else (yb0.j1 k x5 x17 x16 x17 false x1000 x1001 x1002 x197000))) else (some (x197000, x5, x1001, x1002))
def yb0.j1 : Nat → Int → Int → Int → Int → Bool → List Int → Int → Int → List (List Int) → Option ((List (List Int)) × Int × Int × Int)
 | 0, _, _, _, _, _, _, _, _, _ => none
 | k + 1, x5, x6, x16, x17, x43, x1000, x1001, x1002, x197000 => if x43 = true then (if 0 ≤ x6 then (if x6 < (x197000.length : Int) then (if ((rd_L2 x197000 x6).length : Int) < 5 then ((ym1.f (rd_L2 x197000 x6)).bind fun t212 => ((some (([x5] : List Int) : List Int)).bind fun y215 => (if t212.length + y215.length < 17592186044416 then (yb0.l0 k x5 x16 (wrap64 (x17 + 1)) x1000 x1001 x1002 (x197000.set (x6 : Int).toNat (t212 ++ y215))) else (none)))) else ((some (([x5] : List Int) : List Int)).bind fun y222 => (if 1 ≤ ((rd_L2 x197000 x6).length : Int) then ((some ((rd_L2 x197000 x6).drop 1 : List Int)).bind fun y226 => (if y222.length + y226.length < 17592186044416 then (yb0.l0 k x5 x16 (wrap64 (x17 + 1)) x1000 x1001 x1002 (x197000.set (x6 : Int).toNat (y222 ++ y226))) else (none))) else (none)))) else (none)) else (none)) else (yb0.l0 k x5 x16 (wrap64 (x17 + 1)) x1000 x1001 x1002 x197000)
end
def yb0.f (k : Nat) (s0_0 : List Int) (s0_1 : Int) (s0_2 : Int) : Option ((List (List Int)) × Int × Int × Int) := (ye0.f k s0_0 s0_1 s0_2 5).bind fun bt191 => ((yu0.f s0_0 bt191.2.1 bt191.2.2 (bt191.1.length : Int)).bind fun bt197 => (yb0.l0 k bt197.1 (bt191.1.length : Int) 0 s0_0 bt197.2.1 bt197.2.2 bt191.1))
theorem yb0.mono_l : ∀ k, (∀ y0 y1 y2 y3 y4 y5 y6, LeO (yb0.l0 k y0 y1 y2 y3 y4 y5 y6) (yb0.l0 (k + 1) y0 y1 y2 y3 y4 y5 y6)) ∧ (∀ y0 y1 y2 y3 y4 y5 y6 y7 y8, LeO (yb0.j1 k y0 y1 y2 y3 y4 y5 y6 y7 y8) (yb0.j1 (k + 1) y0 y1 y2 y3 y4 y5 y6 y7 y8))
 | 0 => ⟨fun _ _ _ _ _ _ _ r h => by simp [yb0.l0] at h, fun _ _ _ _ _ _ _ _ _ r h => by simp [yb0.j1] at h⟩
 | k + 1 => by
  obtain ⟨ih0, ih1⟩ := yb0.mono_l k
  refine ⟨?_, ?_⟩
  ·intro y0 y1 y2 y3 y4 y5 y6
   unfold yb0.l0
   repeat' (with_reducible first | exact ih0 _ _ _ _ _ _ _ | exact ih1 _ _ _ _ _ _ _ _ _ | exact yd0.mono _ _ _ | exact ye0.mono _ _ _ _ _ | exact LeO.refl _ | exact LeO.none _ | refine LeO.ite ?_ ?_ | refine LeO.bind ?_ (fun _ => ?_))
  ·intro y0 y1 y2 y3 y4 y5 y6 y7 y8
   unfold yb0.j1
   repeat' (with_reducible first | exact ih0 _ _ _ _ _ _ _ | exact ih1 _ _ _ _ _ _ _ _ _ | exact yd0.mono _ _ _ | exact ye0.mono _ _ _ _ _ | exact LeO.refl _ | exact LeO.none _ | refine LeO.ite ?_ ?_ | refine LeO.bind ?_ (fun _ => ?_))
theorem yb0.mono : ∀ a0 a1 a2 k, LeO (yb0.f k a0 a1 a2) (yb0.f (k + 1) a0 a1 a2) := by
 intro a0 a1 a2 k
 obtain ⟨ih0, ih1⟩ := yb0.mono_l k
 unfold yb0.f
 repeat' (with_reducible first | exact ih0 _ _ _ _ _ _ _ | exact ih1 _ _ _ _ _ _ _ _ _ | exact yd0.mono _ _ _ | exact ye0.mono _ _ _ _ _ | exact LeO.refl _ | exact LeO.none _ | refine LeO.ite ?_ ?_ | refine LeO.bind ?_ (fun _ => ?_))
def yb0.T8 : Bool × List (List Nat × List Nat) := (true, [([], []), ([0], [0]), ([], []), ([], []), ([3], [3]), ([], []), ([4, 5], [4, 5]), ([6], [6]), ([7], [7]), ([], []), ([9], [9]), ([8, 10, 8], [8, 10]), ([1, 2, 0, 1, 2, 3, 4, 5, 6, 7, 8, 9, 10, 11], [1, 2]), ([12, 11, 11, 0, 1, 2, 3, 4, 5, 6, 7, 8, 9, 10, 11], [11, 12])])
def yb0.B8 : List Nat := [0, 1, 0, 0, 8, 0, 56, 120, 248, 0, 512, 2040, 4095, 8191]
theorem yb0.tab8 : rtab .any (opsOf Try.f54 8) = yb0.T8 := by kernel_rfl
theorem yb0.bits8 : waitsOk yb0.T8.2 yb0.B8 = true := by kernel_rfl
def yb0.T9 : Bool × List (List Nat × List Nat) := (true, [([], []), ([0], [0]), ([], []), ([], []), ([3], [3]), ([], []), ([5], [5]), ([], []), ([6, 7], [6, 7]), ([8], [8]), ([9], [9]), ([4, 10], [4, 10]), ([1, 2, 0, 1, 2, 3, 4, 5, 6, 7, 8, 9, 10, 11], [1, 2]), ([12, 11, 11, 0, 1, 2, 3, 4, 5, 6, 7, 8, 9, 10, 11], [11, 12])])
def yb0.B9 : List Nat := [0, 1, 0, 0, 8, 0, 32, 0, 224, 480, 992, 2040, 4095, 8191]
theorem yb0.tab9 : rtab .any (opsOf Try.f54 9) = yb0.T9 := by kernel_rfl
theorem yb0.bits9 : waitsOk yb0.T9.2 yb0.B9 = true := by kernel_rfl
theorem yb0.calls (k : Nat) (g : Nat) (s0_0 : List Int) (s0_1 : Int) (s0_2 : Int) (r1 : List (List Int)) (r2 : Int) (r3 : Int) (r4 : Int) (w0 w : World) (hI : IsS46 w0 w g s0_0 s0_1 s0_2) (hB : Below w0.heap.size w0 w) (h : yb0.f k s0_0 s0_1 s0_2 = some (r1, r2, r3, r4)) :
  Calls Try.prog 54 #[.pointer (some ⟨g, 0, none⟩)] w fun e w' => ∃ v0_ : Value, e = .returned (.tuple #[.agg #[v0_], .int .i64 r2]) ∧ Kd.N (Kd.slice 3 (Kd.int .i64)) 27 w' w.heap.size (fun k_ => (w.heap.size ≤ k_)) v0_ r1 ∧ IsS46 w0 w' g s0_0 r3 r4 ∧ Below w0.heap.size w0 w' ∧ zg0 w w' g none := by
 have hu26 := Try.underlying26
 have HI0 := hqZ hI
 have HK := hqZ (zg0.refl w g none)
 have HL := hqZ hB.size
 clear hI
 have HW0 := hqZ hB.size
 have HB := hqZ hB
 clear hB
 have H : ((ye0.f k s0_0 s0_1 s0_2 5).bind fun bt191 => ((yu0.f s0_0 bt191.2.1 bt191.2.2 (bt191.1.length : Int)).bind fun bt197 => (yb0.l0 k bt197.1 (bt191.1.length : Int) 0 s0_0 bt197.2.1 bt197.2.2 bt191.1))) = some (r1, r2, r3, r4) := h
 clear h
 replace H := Option.bind_eq_some_iff.mp H
 obtain ⟨⟨t191, t194, t195⟩, A20, H⟩ := H
 replace H : ((yu0.f s0_0 t194 t195 (t191.length : Int)).bind fun bt197 => (yb0.l0 k bt197.1 (t191.length : Int) 0 s0_0 bt197.2.1 bt197.2.2 t191)) = some (r1, r2, r3, r4) := H
 have A2 := hqZ A20
 clear A20
 replace H := Option.bind_eq_some_iff.mp H
 obtain ⟨⟨t197, t198, t199⟩, A30, H⟩ := H
 replace H : (yb0.l0 k t197 (t191.length : Int) 0 s0_0 t198 t199 t191) = some (r1, r2, r3, r4) := H
 have A3 := hqZ A30
 clear A30
 have H' := hqZ H
 clear H
 go_enter Try.func54, Try.ntmps54
 go_wp2_with (first | ((with_reducible refine zo0 (N := 2) rfl ?_); refine zp0 ?hg (N := 2) ?hd (cs := #[.slice none 0 0]) (t := 26) ?hr ?_; (case hd | hg => rfl); (case hr => go_simp <;> rfl); intro gb190 hg w4 hbox hb; replace HB := hqZ (za0 (HB.1) hb); have BK190 := hqZ (hbox); have GW190 := hqZ ((by rw [hg]; exact (zl0 (w := w) (g := g) (row := none) (HK.1)) : w.heap.size ≤ gb190)); have GE190 := hqZ ((Nat.le_trans HW0.1 (by rw [hg]; exact (zl0 (w := w) (g := g) (row := none) (HK.1)) : w.heap.size ≤ gb190) : w0.heap.size ≤ gb190)); replace HK := hqZ (zg0.trans (HK.1) (zg0.of_below hb g none) (.inl rfl)); have NB0_190 := hqZ ((by rw [hg]; exact Nat.ne_of_lt (IsS46.lt (show IsS46 w0 _ g s0_0 s0_1 s0_2 from HI0.1)) : g ≠ gb190)); have NB190_0 := hqZ ((by rw [hg]; exact Nat.ne_of_gt (IsS46.lt (show IsS46 w0 _ g s0_0 s0_1 s0_2 from HI0.1)) : gb190 ≠ g)); replace HI0 := hqZ (IsS46.below (HI0.1) hb); clear hb hbox hg) | ((with_reducible refine ze0 (f := 70) rfl ?_); refine zq0 (some 8) rfl rfl Try.func70 (by kernel_rfl) rfl #[.pointer (some ⟨g, 0, none⟩), .int .i64 5] rfl (by simp only [hqa, hqb, hqc]; rfl) ?_; (with_reducible refine (ye0.calls k g s0_0 s0_1 s0_2 5 t191 t194 t195 w0 _ ?side1 ?side2 A2.1).mono ?_); (case side1 => repeat (first | exact HI0.1 | apply IsS46.alloc | apply IsS46.drewN | apply IsS46.drew | apply IsS46.set_1 | apply IsS46.set_2 | refine IsS46.far ?_ NB0_190.1 _)); (case side2 => repeat (first | (with_reducible first | exact HB.1 | apply zn0 | apply zj0 | apply zk0 | refine zf0 ?_ (IsS46.ge HI0.1) | refine zf0 ?_ GE190.1) | exact HB.1)); rintro e w5 ⟨v192, rfl, ho0, hi, hb, hk⟩; refine ⟨_, rfl, ?_⟩; have HO193 := hqZ (Kd.N_lower (Kd.N_mono (ok' := fun k_ => (w.heap.size ≤ k_) ∧ k_ ≠ gb190 ∧ k_ ≠ g) (Kd.S_N (Kd.S_bound ho0)) (fun k_ hk_ => ⟨(Nat.le_trans (zl0 (w := w) (g := g) (row := none) (HK.1)) hk_.2.1), (Kd.freshB (g := gb190) (o := .cells #[.slice none 0 0] 26 (0, 0)) (BK190.1) k_ hk_.2.1), (IsS46.fresh (HI0.1) k_ hk_.2.1)⟩)) (zl0 (w := w) (g := g) (row := none) (HK.1))); replace BK190 := hqZ (zg0.blk hk (g' := gb190) (o := .cells #[.slice none 0 0] 26 (0, 0)) (BK190.1) NB190_0.1 (by simp)); replace HK := hqZ (zg0.trans (HK.1) hk (.inl rfl)); replace HB := hqZ (hb); replace HI0 := hqZ (hi); clear hb hk hi ho0) | ((with_reducible refine zo0 (N := 4) rfl ?_); refine zp0 ?hg (N := 4) ?hd (cs := #[.slice none 0 0]) (t := 26) ?hr ?_; (case hd | hg => rfl); (case hr => go_simp <;> rfl); intro gb196 hg w6 hbox hb; replace HO193 := hqZ (Kd.N_below (Kd.N_elderB (HO193.1) gb196 (Nat.le_of_eq hg.symm)) hb); replace HB := hqZ (za0 (HB.1) hb); have BK196 := hqZ (hbox); have GW196 := hqZ ((by rw [hg]; exact (zl0 (w := w) (g := g) (row := none) (HK.1)) : w.heap.size ≤ gb196)); have GE196 := hqZ ((Nat.le_trans HW0.1 (by rw [hg]; exact (zl0 (w := w) (g := g) (row := none) (HK.1)) : w.heap.size ≤ gb196) : w0.heap.size ≤ gb196)); replace HK := hqZ (zg0.trans (HK.1) (zg0.of_below hb g none) (.inl rfl)); have NB190_196 := hqZ ((by rw [hg]; exact Nat.ne_of_lt (blk_lt (g := gb190) (o := .cells #[.slice none 0 0] 26 (0, 0)) (BK190.1)) : gb190 ≠ gb196)); have NB196_190 := hqZ ((by rw [hg]; exact Nat.ne_of_gt (blk_lt (g := gb190) (o := .cells #[.slice none 0 0] 26 (0, 0)) (BK190.1)) : gb196 ≠ gb190)); replace BK190 := hqZ (zc0 (g := gb190) (o := .cells #[.slice none 0 0] 26 (0, 0)) (BK190.1) hb); have NB0_196 := hqZ ((by rw [hg]; exact Nat.ne_of_lt (IsS46.lt (show IsS46 w0 _ g s0_0 t194 t195 from HI0.1)) : g ≠ gb196)); have NB196_0 := hqZ ((by rw [hg]; exact Nat.ne_of_gt (IsS46.lt (show IsS46 w0 _ g s0_0 t194 t195 from HI0.1)) : gb196 ≠ g)); replace HI0 := hqZ (IsS46.below (HI0.1) hb); clear hb hbox hg; obtain ⟨Ao7, co7, eo7⟩ := Kd.N_slice HO193.1; subst eo7; have hnb8 := NB196_190.1; have hnc8 := NB190_196.1; have hnb9 := NB196_0.1; have hnc9 := NB0_196.1; have hcz10_0 : w6.cell? ⟨gb196, 0, none⟩ = some (.slice none 0 0) := (zh0 BK196.1 0).trans rfl; have hfz10_0 := zd0 BK196.1 0) | ((with_reducible refine ze0 (f := 55) rfl ?_); refine zq0 (some 13) rfl rfl Try.func55 (by kernel_rfl) rfl #[.pointer (some ⟨g, 0, none⟩), .int .i64 (t191.length : Int)] rfl (by simp only [hqa, hqb, hqc]; rfl) ?_; (with_reducible refine (yu0.calls g s0_0 t194 t195 (t191.length : Int) t197 t198 t199 w0 _ ?side1 ?side2 A3.1).mono ?_); (case side1 => repeat (first | exact HI0.1 | apply IsS46.alloc | apply IsS46.drewN | apply IsS46.drew | apply IsS46.set_1 | apply IsS46.set_2 | refine IsS46.far ?_ NB0_190.1 _ | refine IsS46.far ?_ NB0_196.1 _)); (case side2 => repeat (first | (with_reducible first | exact HB.1 | apply zn0 | apply zj0 | apply zk0 | refine zf0 ?_ (IsS46.ge HI0.1) | refine zf0 ?_ GE190.1 | refine zf0 ?_ GE196.1) | exact HB.1)); rintro e w11 ⟨rfl, hi, hb, hk⟩; refine ⟨_, rfl, ?_⟩; replace BK190 := hqZ (zg0.blk hk (g' := gb190) (o := .cells #[.slice none 0 0] 26 (0, 0)) (by refine blk_far ?_ NB190_196.1 _; exact BK190.1) NB190_0.1 (by simp)); replace HO193 := hqZ (Kd.N_mono (Kd.N_keep (Kd.N_mono (ok := fun k_ => ((((w.heap.size ≤ k_)) ∧ (k_ ≠ gb190 ∧ k_ ≠ g)) ∧ k_ ≠ gb196)) ((Kd.N_mono (Kd.N_far (p := ⟨gb196, 0, none⟩) (Kd.N_mono HO193.1 (fun k_ hk => (⟨hk, hk.2⟩ : _ ∧ k_ ≠ gb196))) (fun _ hk => hk.2) (.slice Ao7 t191.length co7)) (fun _ h_ => h_.1))) (fun k_ hk_ => (⟨hk_, hk_.1.2.2⟩ : _ ∧ k_ ≠ g))) hk (fun _ h => h.2)) (fun _ h => h.1)); replace BK196 := hqZ (zg0.blk hk (g' := gb196) (o := .cells #[.slice Ao7 t191.length co7] 26 (0, 0)) (by refine blk_put (cs := #[.slice none 0 0]) ?_ 0 _ rfl; exact BK196.1) NB196_0.1 (by simp)); replace HK := hqZ (zg0.trans (keep_far HK.1 GW196.1 _) hk (.inl rfl)); replace HB := hqZ (hb); replace HI0 := hqZ (hi); clear hb hk hi; have hcz12_0 : w11.cell? ⟨gb196, 0, none⟩ = some (.slice Ao7 t191.length co7) := (zh0 BK196.1 0).trans rfl; have hfz12_0 := zd0 BK196.1 0))
 go_loopg [17] k (fun kq v17 w' => ∃ (x17_1 : Int) (x1001_1 : Int) (x1002_1 : Int) (x197000_1 : List (List Int)) (u197000 : Value), v17 = .int .i64 x17_1 ∧ zi0 (yb0.l0 kq t197 (t191.length : Int) x17_1 s0_0 x1001_1 x1002_1 x197000_1 = some (r1, r2, r3, r4)) ∧ zi0 (kq ≤ k) ∧ zi0 (Kd.N (Kd.slice 3 (Kd.int .i64)) 27 w' w.heap.size (fun k_ => (w.heap.size ≤ k_) ∧ k_ ≠ gb190 ∧ k_ ≠ gb196 ∧ k_ ≠ g) u197000 x197000_1) ∧ zi0 (w'.heap[gb190]? = some (.cells #[(.slice none 0 0)] 26 (0, 0))) ∧ zi0 (w'.heap[gb196]? = some (.cells #[u197000] 26 (0, 0))) ∧ zi0 (IsS46 w0 w' g s0_0 x1001_1 x1002_1) ∧ zi0 (zg0 w w' g none) ∧ zi0 (Below w0.heap.size w0 w'))
 case atStart => exact ⟨(0), (t198), (t199), (t191), (.slice Ao7 t191.length co7), (rfl), H', ⟨Nat.le_refl _⟩, ⟨Kd.N_mono HO193.1 (fun _ hk => ⟨hk.1.1, ⟨hk.1.2.1, ⟨hk.2, hk.1.2.2⟩⟩⟩)⟩, ⟨BK190.1⟩, ⟨BK196.1⟩, ⟨HI0.1⟩, ⟨HK.1⟩, ⟨HB.1⟩⟩
 case round =>
  clear H'
  try clear p2
  try clear c5
  try clear c7
  try clear c8
  try clear c9
  try clear hcz10_0
  try clear hcz12_0
  try clear hfz10_0
  try clear hfz12_0
  obtain ⟨x17_1, x1001_1, x1002_1, x197000_1, u197000, rfl, HA, HK1, HO_197000, BK190, BK196, HI0, HK, HB⟩ := hrel
  obtain _ | k1 := gk
  ·exact absurd HA.1 (by simp [yb0.l0])
  have H := HA.1
  clear HA
  simp only [yb0.l0] at H
  by_cases c13 : x17_1 < (t191.length : Int)
  rotate_left
  ·rw [if_neg c13] at H
   have c13b0 : decide (x17_1 < (t191.length : Int)) = false := decide_eq_false c13
   clear c13
   simp only [Option.some.injEq, Prod.mk.injEq] at H
   obtain ⟨rfl, rfl, rfl, rfl⟩ := H
   have hnb88 := NB196_190.1
   have hnc88 := NB190_196.1
   have hnb89 := NB196_0.1
   have hnc89 := NB0_196.1
   have hcz90_0 : wr.cell? ⟨gb196, 0, none⟩ = some (u197000) := (zh0 BK196.1 0).trans rfl
   have hfz90_0 := zd0 BK196.1 0
   obtain ⟨Ao91, co91, eo91⟩ := Kd.N_slice HO_197000.1
   subst eo91
   have hnb92 := NB190_0.1
   have hnc92 := NB0_190.1
   have hcz93_0 : wr.cell? ⟨gb190, 0, none⟩ = some (.slice none 0 0) := (zh0 BK190.1 0).trans rfl
   have hfz93_0 := zd0 BK190.1 0
   go_wp2
   refine bodyPost_ret (results_ct rfl _ _ gb190 26 #[.slice Ao91 x197000_1.length co91] (0, 0) _ rfl (by refine blk_put (cs := #[.slice none 0 0]) ?_ 0 _ rfl; exact BK190.1) Try.underlying26 rfl (by kernel_rfl)) rfl ?_
   exact ⟨_, rfl, Kd.N_mono (Kd.N_far (p := ⟨gb190, 0, none⟩) (Kd.N_mono HO_197000.1 (fun k_ hk => (⟨hk, hk.2.1⟩ : _ ∧ k_ ≠ gb190))) (fun _ hk => hk.2) (.slice Ao91 x197000_1.length co91)) (fun _ hk => hk.1.1), IsS46.far HI0.1 NB0_190.1 _, zf0 HB.1 GE190.1, keep_far HK.1 GW190.1 _⟩
  rw [if_pos c13] at H
  have c13b0 : decide (x17_1 < (t191.length : Int)) = true := decide_eq_true c13
  clear c13
  have HC14 := hqZ H
  clear H
  go_upto_region 6 with (fail)
  go_cut [43] (fun v43 wc => ∃ (kq : Nat) (x43_13 : Bool) (x1001_13 : Int) (x1002_13 : Int), v43 = .bool x43_13 ∧ zi0 (yb0.j1 kq t197 x17_1 (t191.length : Int) x17_1 x43_13 s0_0 x1001_13 x1002_13 x197000_1 = some (r1, r2, r3, r4)) ∧ zi0 (kq ≤ k1) ∧ zi0 (Kd.N (Kd.slice 3 (Kd.int .i64)) 27 wc w.heap.size (fun k_ => (w.heap.size ≤ k_) ∧ k_ ≠ gb190 ∧ k_ ≠ gb196 ∧ k_ ≠ g) u197000 x197000_1) ∧ zi0 (wc.heap[gb190]? = some (.cells #[(.slice none 0 0)] 26 (0, 0))) ∧ zi0 (wc.heap[gb196]? = some (.cells #[u197000] 26 (0, 0))) ∧ zi0 (IsS46 w0 wc g s0_0 x1001_13 x1002_13) ∧ zi0 (zg0 w wc g none) ∧ zi0 (Below w0.heap.size w0 wc))
  case first =>
   have H := HC14.1
   clear HC14
   replace H := Option.bind_eq_some_iff.mp H
   obtain ⟨t200, A150, H⟩ := H
   replace H : (if (t200.length : Int) > 0 then (if x17_1 = t197 then (yb0.j1 k1 t197 x17_1 (t191.length : Int) x17_1 false s0_0 x1001_1 x1002_1 x197000_1) else ((yd0.f k1 x197000_1 x17_1).bind fun t203 => (if 0 ≤ t197 then (if t197 < (t203.length : Int) then (if (rd t203 t197) < 0 then ((yt0.f s0_0 x1001_1 x1002_1 12).bind fun bt207 => (yb0.j1 k1 t197 x17_1 (t191.length : Int) x17_1 (!bt207.1) s0_0 bt207.2.1 bt207.2.2 x197000_1)) else (yb0.j1 k1 t197 x17_1 (t191.length : Int) x17_1 false s0_0 x1001_1 x1002_1 x197000_1)) else (none)) else (none)))) else (yb0.j1 k1 t197 x17_1 (t191.length : Int) x17_1 false s0_0 x1001_1 x1002_1 x197000_1)) = some (r1, r2, r3, r4) := H
   have A15 := hqZ A150
   clear A150
   by_cases c16 : (t200.length : Int) > 0
   rotate_left
   ·rw [if_neg c16] at H
    have c16b0 : decide (0 < (t200.length : Int)) = false := decide_eq_false c16
    have c16b1 : decide (0 < t200.length) = false := decide_eq_false (by omega)
    clear c16
    (first | rw [c16b0] | (simp only [i64_w, i32_w]; rw [c16b0]) | skip)
    have H' := hqZ H
    clear H
    have hnb48 := NB196_190.1
    have hnc48 := NB190_196.1
    have hnb49 := NB196_0.1
    have hnc49 := NB0_196.1
    have hcz50_0 : wr.cell? ⟨gb196, 0, none⟩ = some (u197000) := (zh0 BK196.1 0).trans rfl
    have hfz50_0 := zd0 BK196.1 0
    obtain ⟨Ao51, co51, eo51⟩ := Kd.N_slice HO_197000.1
    subst eo51
    go_wp2_with (first | ((with_reducible refine ze0 (f := 71) rfl ?_); refine zq0 (some 22) rfl rfl Try.func71 (by kernel_rfl) rfl #[.agg #[.slice Ao51 x197000_1.length co51], .int .i64 x17_1] rfl (by simp only [hqa, hqb, hqc]; rfl) ?_; (with_reducible refine (yd0.calls k1 _ _ x197000_1 x17_1 t200 _ ?side1 ?side2 A15.1).mono ?_); (case side1 => exact (Kd.N_reads' HO_197000.1).2.2); (case side2 => exact (Kd.N_reads' HO_197000.1).2.1); rintro e w52 ⟨v201, rfl, ho0, hb⟩; refine ⟨_, rfl, ?_⟩; replace HO_197000 := hqZ (Kd.N_elder' (HO_197000.1) (Kd.R_base ho0) hb); have HO202 := hqZ (Kd.R_lower (Kd.R_newM (M := fun k_ => (w.heap.size ≤ k_)) ho0 (zl0 (w := w) (g := g) (row := none) (HK.1)) (fun k_ h_ => h_)) (zl0 (w := w) (g := g) (row := none) (HK.1))); replace BK190 := hqZ (zc0 (g := gb190) (o := .cells #[.slice none 0 0] 26 (0, 0)) (BK190.1) hb); replace BK196 := hqZ (zc0 (g := gb196) (o := .cells #[.slice Ao51 x197000_1.length co51] 26 (0, 0)) (BK196.1) hb); replace HK := hqZ (zg0.trans (HK.1) (zg0.of_below hb g none) (.inl rfl)); replace HB := hqZ (za0 (HB.1) hb); replace HI0 := hqZ (IsS46.below (HI0.1) hb); clear hb ho0; obtain ⟨Ao53, co53, eo53⟩ := Kd.R_slice HO202.1; subst eo53))
    go_meet
    case rel => exact ⟨_, (false), (x1001_1), (x1002_1), (rfl), H', ⟨by have := HK1.1; first | omega | exact Nat.le_refl _⟩, ⟨Kd.N_mono HO_197000.1 (fun _ hk => ⟨hk.1.1, ⟨hk.1.2.1, ⟨hk.1.2.2.1, hk.1.2.2.2⟩⟩⟩)⟩, ⟨BK190.1⟩, ⟨BK196.1⟩, ⟨HI0.1⟩, ⟨HK.1⟩, ⟨HB.1⟩⟩
   rw [if_pos c16] at H
   have c16b0 : decide (0 < (t200.length : Int)) = true := decide_eq_true c16
   have c16b1 : decide (0 < t200.length) = true := decide_eq_true (by omega)
   clear c16
   (first | rw [c16b0] | (simp only [i64_w, i32_w]; rw [c16b0]) | skip)
   by_cases c17 : x17_1 = t197
   ·rw [if_pos c17] at H
    have c17b0 : (x17_1 == t197) = true := beq_iff_eq.mpr c17
    have c17b1 : (x17_1 != t197) = false := bne_eq_false_iff_eq.mpr c17
    clear c17
    have H' := hqZ H
    clear H
    have hnb18 := NB196_190.1
    have hnc18 := NB190_196.1
    have hnb19 := NB196_0.1
    have hnc19 := NB0_196.1
    have hcz20_0 : wr.cell? ⟨gb196, 0, none⟩ = some (u197000) := (zh0 BK196.1 0).trans rfl
    have hfz20_0 := zd0 BK196.1 0
    obtain ⟨Ao21, co21, eo21⟩ := Kd.N_slice HO_197000.1
    subst eo21
    go_wp2_with (first | ((with_reducible refine ze0 (f := 71) rfl ?_); refine zq0 (some 22) rfl rfl Try.func71 (by kernel_rfl) rfl #[.agg #[.slice Ao21 x197000_1.length co21], .int .i64 x17_1] rfl (by simp only [hqa, hqb, hqc]; rfl) ?_; (with_reducible refine (yd0.calls k1 _ _ x197000_1 x17_1 t200 _ ?side1 ?side2 A15.1).mono ?_); (case side1 => exact (Kd.N_reads' HO_197000.1).2.2); (case side2 => exact (Kd.N_reads' HO_197000.1).2.1); rintro e w22 ⟨v201, rfl, ho0, hb⟩; refine ⟨_, rfl, ?_⟩; replace HO_197000 := hqZ (Kd.N_elder' (HO_197000.1) (Kd.R_base ho0) hb); have HO202 := hqZ (Kd.R_lower (Kd.R_newM (M := fun k_ => (w.heap.size ≤ k_)) ho0 (zl0 (w := w) (g := g) (row := none) (HK.1)) (fun k_ h_ => h_)) (zl0 (w := w) (g := g) (row := none) (HK.1))); replace BK190 := hqZ (zc0 (g := gb190) (o := .cells #[.slice none 0 0] 26 (0, 0)) (BK190.1) hb); replace BK196 := hqZ (zc0 (g := gb196) (o := .cells #[.slice Ao21 x197000_1.length co21] 26 (0, 0)) (BK196.1) hb); replace HK := hqZ (zg0.trans (HK.1) (zg0.of_below hb g none) (.inl rfl)); replace HB := hqZ (za0 (HB.1) hb); replace HI0 := hqZ (IsS46.below (HI0.1) hb); clear hb ho0; obtain ⟨Ao23, co23, eo23⟩ := Kd.R_slice HO202.1; subst eo23))
    go_meet
    case rel => exact ⟨_, (false), (x1001_1), (x1002_1), (rfl), H', ⟨by have := HK1.1; first | omega | exact Nat.le_refl _⟩, ⟨Kd.N_mono HO_197000.1 (fun _ hk => ⟨hk.1.1, ⟨hk.1.2.1, ⟨hk.1.2.2.1, hk.1.2.2.2⟩⟩⟩)⟩, ⟨BK190.1⟩, ⟨BK196.1⟩, ⟨HI0.1⟩, ⟨HK.1⟩, ⟨HB.1⟩⟩
   rw [if_neg c17] at H
   have c17b0 : (x17_1 == t197) = false := beq_eq_false_iff_ne.mpr c17
   have c17b1 : (x17_1 != t197) = true := bne_iff_ne.mpr c17
   replace H := Option.bind_eq_some_iff.mp H
   obtain ⟨t203, A240, H⟩ := H
   replace H : (if 0 ≤ t197 then (if t197 < (t203.length : Int) then (if (rd t203 t197) < 0 then ((yt0.f s0_0 x1001_1 x1002_1 12).bind fun bt207 => (yb0.j1 k1 t197 x17_1 (t191.length : Int) x17_1 (!bt207.1) s0_0 bt207.2.1 bt207.2.2 x197000_1)) else (yb0.j1 k1 t197 x17_1 (t191.length : Int) x17_1 false s0_0 x1001_1 x1002_1 x197000_1)) else (none)) else (none)) = some (r1, r2, r3, r4) := H
   have A24 := hqZ A240
   clear A240
   by_cases c25 : 0 ≤ t197
   rotate_left
   ·rw [if_neg c25] at H
    exact absurd H (by simp)
   rw [if_pos c25] at H
   have c25b0 : decide (0 ≤ t197) = true := decide_eq_true c25
   clear c25
   by_cases c26 : t197 < (t203.length : Int)
   rotate_left
   ·rw [if_neg c26] at H
    exact absurd H (by simp)
   rw [if_pos c26] at H
   have c26b0 : decide (t197 < (t203.length : Int)) = true := decide_eq_true c26
   clear c26
   by_cases c27 : (rd t203 t197) < 0
   rotate_left
   ·rw [if_neg c27] at H
    have c27b0 : decide ((rd t203 t197) < 0) = false := decide_eq_false c27
    clear c27
    have H' := hqZ H
    clear H
    have hnb39 := NB196_190.1
    have hnc39 := NB190_196.1
    have hnb40 := NB196_0.1
    have hnc40 := NB0_196.1
    have hcz41_0 : wr.cell? ⟨gb196, 0, none⟩ = some (u197000) := (zh0 BK196.1 0).trans rfl
    have hfz41_0 := zd0 BK196.1 0
    obtain ⟨Ao42, co42, eo42⟩ := Kd.N_slice HO_197000.1
    subst eo42
    go_wp2_with (first | ((with_reducible refine ze0 (f := 71) rfl ?_); refine zq0 (some 22) rfl rfl Try.func71 (by kernel_rfl) rfl #[.agg #[.slice Ao42 x197000_1.length co42], .int .i64 x17_1] rfl (by simp only [hqa, hqb, hqc]; rfl) ?_; (with_reducible refine (yd0.calls k1 _ _ x197000_1 x17_1 t200 _ ?side1 ?side2 A15.1).mono ?_); (case side1 => exact (Kd.N_reads' HO_197000.1).2.2); (case side2 => exact (Kd.N_reads' HO_197000.1).2.1); rintro e w43 ⟨v201, rfl, ho0, hb⟩; refine ⟨_, rfl, ?_⟩; replace HO_197000 := hqZ (Kd.N_elder' (HO_197000.1) (Kd.R_base ho0) hb); have HO202 := hqZ (Kd.R_lower (Kd.R_newM (M := fun k_ => (w.heap.size ≤ k_)) ho0 (zl0 (w := w) (g := g) (row := none) (HK.1)) (fun k_ h_ => h_)) (zl0 (w := w) (g := g) (row := none) (HK.1))); replace BK190 := hqZ (zc0 (g := gb190) (o := .cells #[.slice none 0 0] 26 (0, 0)) (BK190.1) hb); replace BK196 := hqZ (zc0 (g := gb196) (o := .cells #[.slice Ao42 x197000_1.length co42] 26 (0, 0)) (BK196.1) hb); replace HK := hqZ (zg0.trans (HK.1) (zg0.of_below hb g none) (.inl rfl)); replace HB := hqZ (za0 (HB.1) hb); replace HI0 := hqZ (IsS46.below (HI0.1) hb); clear hb ho0; obtain ⟨Ao44, co44, eo44⟩ := Kd.R_slice HO202.1; subst eo44; have hcz45_0 : w43.cell? ⟨gb196, 0, none⟩ = some (.slice Ao42 x197000_1.length co42) := (zh0 BK196.1 0).trans rfl; have hfz45_0 := zd0 BK196.1 0) | (go_at_call 71; (with_reducible refine (yd0.calls k1 _ _ x197000_1 x17_1 t203 _ ?side1 ?side2 A24.1).mono ?_); (case side1 => exact (Kd.N_reads' HO_197000.1).2.2); (case side2 => exact (Kd.N_reads' HO_197000.1).2.1); rintro e w46 ⟨v204, rfl, ho0, hb⟩; replace HO_197000 := hqZ (Kd.N_elder' (HO_197000.1) (Kd.R_base ho0) hb); have HO205 := hqZ (Kd.R_lower (Kd.R_new' (Kd.R_newM (M := fun k_ => (w.heap.size ≤ k_)) ho0 (zl0 (w := w) (g := g) (row := none) (HK.1)) (fun k_ h_ => h_)) (Kd.R_lt (HO202.1))) (zl0 (w := w) (g := g) (row := none) (HK.1))); replace HO202 := hqZ (Kd.R_elder' (HO202.1) (Kd.R_base ho0) hb); replace BK190 := hqZ (zc0 (g := gb190) (o := .cells #[.slice none 0 0] 26 (0, 0)) (BK190.1) hb); replace BK196 := hqZ (zc0 (g := gb196) (o := .cells #[.slice Ao42 x197000_1.length co42] 26 (0, 0)) (BK196.1) hb); replace HK := hqZ (zg0.trans (HK.1) (zg0.of_below hb g none) (.inl rfl)); replace HB := hqZ (za0 (HB.1) hb); replace HI0 := hqZ (IsS46.below (HI0.1) hb); clear hb ho0; obtain ⟨Ao47, co47, eo47⟩ := Kd.R_slice HO205.1; subst eo47; have p206 : 0 ≤ (t197 : Int) := of_decide_eq_true (by assumption); have q206 : t197 < (t203.length : Int) := of_decide_eq_true (by assumption); obtain ⟨ad206, e206, hx206_0⟩ := Kd.at_int (Kd.R_reads' HO205.1).2.2 t197 p206 q206; cases e206; replace p206 := eq_true p206; replace q206 := eq_true q206))
    go_meet
    case rel => exact ⟨_, (false), (x1001_1), (x1002_1), (rfl), H', ⟨by have := HK1.1; first | omega | exact Nat.le_refl _⟩, ⟨Kd.N_mono HO_197000.1 (fun _ hk => ⟨hk.1.1.1, ⟨hk.1.1.2.1, ⟨hk.1.1.2.2.1, hk.1.1.2.2.2⟩⟩⟩)⟩, ⟨BK190.1⟩, ⟨BK196.1⟩, ⟨HI0.1⟩, ⟨HK.1⟩, ⟨HB.1⟩⟩
   rw [if_pos c27] at H
   have c27b0 : decide ((rd t203 t197) < 0) = true := decide_eq_true c27
   clear c27
   replace H := Option.bind_eq_some_iff.mp H
   obtain ⟨⟨t207, t208, t209⟩, A280, H⟩ := H
   replace H : (yb0.j1 k1 t197 x17_1 (t191.length : Int) x17_1 (!t207) s0_0 t208 t209 x197000_1) = some (r1, r2, r3, r4) := H
   have A28 := hqZ A280
   clear A280
   have H' := hqZ H
   clear H
   have hnb29 := NB196_190.1
   have hnc29 := NB190_196.1
   have hnb30 := NB196_0.1
   have hnc30 := NB0_196.1
   have hcz31_0 : wr.cell? ⟨gb196, 0, none⟩ = some (u197000) := (zh0 BK196.1 0).trans rfl
   have hfz31_0 := zd0 BK196.1 0
   obtain ⟨Ao32, co32, eo32⟩ := Kd.N_slice HO_197000.1
   subst eo32
   go_wp2_with (first | ((with_reducible refine ze0 (f := 71) rfl ?_); refine zq0 (some 22) rfl rfl Try.func71 (by kernel_rfl) rfl #[.agg #[.slice Ao32 x197000_1.length co32], .int .i64 x17_1] rfl (by simp only [hqa, hqb, hqc]; rfl) ?_; (with_reducible refine (yd0.calls k1 _ _ x197000_1 x17_1 t200 _ ?side1 ?side2 A15.1).mono ?_); (case side1 => exact (Kd.N_reads' HO_197000.1).2.2); (case side2 => exact (Kd.N_reads' HO_197000.1).2.1); rintro e w33 ⟨v201, rfl, ho0, hb⟩; refine ⟨_, rfl, ?_⟩; replace HO_197000 := hqZ (Kd.N_elder' (HO_197000.1) (Kd.R_base ho0) hb); have HO202 := hqZ (Kd.R_lower (Kd.R_newM (M := fun k_ => (w.heap.size ≤ k_)) ho0 (zl0 (w := w) (g := g) (row := none) (HK.1)) (fun k_ h_ => h_)) (zl0 (w := w) (g := g) (row := none) (HK.1))); replace BK190 := hqZ (zc0 (g := gb190) (o := .cells #[.slice none 0 0] 26 (0, 0)) (BK190.1) hb); replace BK196 := hqZ (zc0 (g := gb196) (o := .cells #[.slice Ao32 x197000_1.length co32] 26 (0, 0)) (BK196.1) hb); replace HK := hqZ (zg0.trans (HK.1) (zg0.of_below hb g none) (.inl rfl)); replace HB := hqZ (za0 (HB.1) hb); replace HI0 := hqZ (IsS46.below (HI0.1) hb); clear hb ho0; obtain ⟨Ao34, co34, eo34⟩ := Kd.R_slice HO202.1; subst eo34; have hcz35_0 : w33.cell? ⟨gb196, 0, none⟩ = some (.slice Ao32 x197000_1.length co32) := (zh0 BK196.1 0).trans rfl; have hfz35_0 := zd0 BK196.1 0) | (go_at_call 71; (with_reducible refine (yd0.calls k1 _ _ x197000_1 x17_1 t203 _ ?side1 ?side2 A24.1).mono ?_); (case side1 => exact (Kd.N_reads' HO_197000.1).2.2); (case side2 => exact (Kd.N_reads' HO_197000.1).2.1); rintro e w36 ⟨v204, rfl, ho0, hb⟩; replace HO_197000 := hqZ (Kd.N_elder' (HO_197000.1) (Kd.R_base ho0) hb); have HO205 := hqZ (Kd.R_lower (Kd.R_new' (Kd.R_newM (M := fun k_ => (w.heap.size ≤ k_)) ho0 (zl0 (w := w) (g := g) (row := none) (HK.1)) (fun k_ h_ => h_)) (Kd.R_lt (HO202.1))) (zl0 (w := w) (g := g) (row := none) (HK.1))); replace HO202 := hqZ (Kd.R_elder' (HO202.1) (Kd.R_base ho0) hb); replace BK190 := hqZ (zc0 (g := gb190) (o := .cells #[.slice none 0 0] 26 (0, 0)) (BK190.1) hb); replace BK196 := hqZ (zc0 (g := gb196) (o := .cells #[.slice Ao32 x197000_1.length co32] 26 (0, 0)) (BK196.1) hb); replace HK := hqZ (zg0.trans (HK.1) (zg0.of_below hb g none) (.inl rfl)); replace HB := hqZ (za0 (HB.1) hb); replace HI0 := hqZ (IsS46.below (HI0.1) hb); clear hb ho0; obtain ⟨Ao37, co37, eo37⟩ := Kd.R_slice HO205.1; subst eo37; have p206 : 0 ≤ (t197 : Int) := of_decide_eq_true (by assumption); have q206 : t197 < (t203.length : Int) := of_decide_eq_true (by assumption); obtain ⟨ad206, e206, hx206_0⟩ := Kd.at_int (Kd.R_reads' HO205.1).2.2 t197 p206 q206; cases e206; replace p206 := eq_true p206; replace q206 := eq_true q206) | (go_at_call 34; (with_reducible refine (yt0.calls g s0_0 x1001_1 x1002_1 12 t207 t208 t209 w0 _ ?side1 ?side2 A28.1).mono ?_); (case side1 => repeat (first | exact HI0.1 | apply IsS46.alloc | apply IsS46.drewN | apply IsS46.drew | apply IsS46.set_1 | apply IsS46.set_2 | refine IsS46.far ?_ NB0_190.1 _ | refine IsS46.far ?_ NB0_196.1 _)); (case side2 => repeat (first | (with_reducible first | exact HB.1 | apply zn0 | apply zj0 | apply zk0 | refine zf0 ?_ (IsS46.ge HI0.1) | refine zf0 ?_ GE190.1 | refine zf0 ?_ GE196.1) | exact HB.1)); rintro e w38 ⟨rfl, hi, hb, hk⟩; replace HO_197000 := hqZ (Kd.N_mono (Kd.N_keep (Kd.N_mono (ok := fun k_ => (((((w.heap.size ≤ k_)) ∧ (k_ ≠ gb190 ∧ (k_ ≠ gb196 ∧ k_ ≠ g))) ∧ some k_ ≠ (.slice Ao34 t200.length co34 : Value).ownBlock) ∧ some k_ ≠ (.slice (some ad206) t203.length co37 : Value).ownBlock)) (HO_197000.1) (fun k_ hk_ => (⟨hk_, hk_.1.1.2.2.2⟩ : _ ∧ k_ ≠ g))) hk (fun _ h => h.2)) (fun _ h => h.1)); replace BK190 := hqZ (zg0.blk hk (g' := gb190) (o := .cells #[.slice none 0 0] 26 (0, 0)) (BK190.1) NB190_0.1 (by simp)); replace BK196 := hqZ (zg0.blk hk (g' := gb196) (o := .cells #[.slice Ao32 x197000_1.length co32] 26 (0, 0)) (BK196.1) NB196_0.1 (by simp)); replace HO202 := hqZ (Kd.R_mono (Kd.R_keep (IsS46.apart (show IsS46 w0 _ g s0_0 x1001_1 x1002_1 from HI0.1) (HO202.1) (by decide)) hk (fun _ h => h.2)) (fun _ h => h.1)); replace HO205 := hqZ (Kd.R_mono (Kd.R_keep (IsS46.apart (show IsS46 w0 _ g s0_0 x1001_1 x1002_1 from HI0.1) (HO205.1) (by decide)) hk (fun _ h => h.2)) (fun _ h => h.1)); replace HK := hqZ (zg0.trans (HK.1) hk (.inl rfl)); replace HB := hqZ (hb); replace HI0 := hqZ (hi); clear hb hk hi))
   go_meet
   case rel => exact ⟨_, (!t207), (t208), (t209), (rfl), H', ⟨by have := HK1.1; first | omega | exact Nat.le_refl _⟩, ⟨Kd.N_mono HO_197000.1 (fun _ hk => ⟨hk.1.1.1, ⟨hk.1.1.2.1, ⟨hk.1.1.2.2.1, hk.1.1.2.2.2⟩⟩⟩)⟩, ⟨BK190.1⟩, ⟨BK196.1⟩, ⟨HI0.1⟩, ⟨HK.1⟩, ⟨HB.1⟩⟩
  case rest =>
   clear HC14
   try clear c1
   try clear c2
   try clear p2
   try clear q2
   try clear hx2
   try clear c3
   try clear c4
   try clear c5
   try clear c7
   try clear c8
   try clear c9
   try clear c13
   try clear c13b0
   try clear c16
   try clear c16b0
   try clear c16b1
   try clear c17
   try clear c17b0
   try clear c17b1
   try clear c18
   try clear c19
   try clear p20
   try clear q20
   try clear hx20
   try clear c25
   try clear c25b0
   try clear c26
   try clear c26b0
   try clear c27
   try clear c27b0
   try clear c29
   try clear c30
   try clear c39
   try clear c40
   try clear c48
   try clear c49
   try clear hcz10_0
   try clear hcz12_0
   try clear hcz20_0
   try clear hcz31_0
   try clear hcz35_0
   try clear hcz41_0
   try clear hcz45_0
   try clear hcz50_0
   try clear hfz10_0
   try clear hfz12_0
   try clear hfz20_0
   try clear hfz31_0
   try clear hfz35_0
   try clear hfz41_0
   try clear hfz45_0
   try clear hfz50_0
   try clear hx206_0
   try clear p2
   try clear p206
   try clear q206
   obtain ⟨kq, x43_13, x1001_13, x1002_13, rfl, HA, HJ13, HO_197000, BK190, BK196, HI0, HK, HB⟩ := hcut
   cases kq with
   | zero => exact absurd HA.1 (by simp [yb0.j1])
   | succ kj13 =>
    have H := HA.1
    clear HA
    simp only [yb0.j1] at H
    by_cases c54 : x43_13 = true
    rotate_left
    ·replace c54 := Bool.eq_false_iff.mpr c54
     subst c54
     have H1 : (yb0.l0 kj13 t197 (t191.length : Int) (wrap64 (x17_1 + 1)) s0_0 x1001_13 x1002_13 x197000_1) = some (r1, r2, r3, r4) := by rw [if_neg (show ¬ (false = true) by decide)] at H; exact H
     clear H
     have H := H1
     clear H1
     have H' := hqZ H
     clear H
     go_wp2
     go_roundg kj13
     case measure => have := HK1.1; have := HJ13.1; omega
     case rel => exact ⟨(wrap64 (x17_1 + 1)), (x1001_13), (x1002_13), (x197000_1), (u197000), (rfl), H', ⟨by have := HK1.1; have := HJ13.1; omega⟩, ⟨HO_197000.1⟩, ⟨BK190.1⟩, ⟨BK196.1⟩, ⟨HI0.1⟩, ⟨HK.1⟩, ⟨HB.1⟩⟩
    subst c54
    have H1 : (if 0 ≤ x17_1 then (if x17_1 < (x197000_1.length : Int) then (if ((rd_L2 x197000_1 x17_1).length : Int) < 5 then ((ym1.f (rd_L2 x197000_1 x17_1)).bind fun t212 => ((some (([t197] : List Int) : List Int)).bind fun y215 => (if t212.length + y215.length < 17592186044416 then (yb0.l0 kj13 t197 (t191.length : Int) (wrap64 (x17_1 + 1)) s0_0 x1001_13 x1002_13 (x197000_1.set (x17_1 : Int).toNat (t212 ++ y215))) else (none)))) else ((some (([t197] : List Int) : List Int)).bind fun y222 => (if 1 ≤ ((rd_L2 x197000_1 x17_1).length : Int) then ((some ((rd_L2 x197000_1 x17_1).drop 1 : List Int)).bind fun y226 => (if y222.length + y226.length < 17592186044416 then (yb0.l0 kj13 t197 (t191.length : Int) (wrap64 (x17_1 + 1)) s0_0 x1001_13 x1002_13 (x197000_1.set (x17_1 : Int).toNat (y222 ++ y226))) else (none))) else (none)))) else (none)) else (none)) = some (r1, r2, r3, r4) := by rw [if_pos rfl] at H; exact H
    clear H
    have H := H1
    clear H1
    by_cases c55 : 0 ≤ x17_1
    rotate_left
    ·rw [if_neg c55] at H
     exact absurd H (by simp)
    rw [if_pos c55] at H
    have c55b0 : decide (0 ≤ x17_1) = true := decide_eq_true c55
    clear c55
    by_cases c56 : x17_1 < (x197000_1.length : Int)
    rotate_left
    ·rw [if_neg c56] at H
     exact absurd H (by simp)
    rw [if_pos c56] at H
    have c56b0 : decide (x17_1 < (x197000_1.length : Int)) = true := decide_eq_true c56
    clear c56
    by_cases c57 : ((rd_L2 x197000_1 x17_1).length : Int) < 5
    rotate_left
    ·rw [if_neg c57] at H
     have c57b0 : decide (((rd_L2 x197000_1 x17_1).length : Int) < 5) = false := decide_eq_false c57
     have c57b1 : decide ((rd_L2 x197000_1 x17_1).length < 5) = false := decide_eq_false (by omega)
     clear c57
     obtain ⟨y222, hy222⟩ : ∃ y_ : List Int, y_ = (([t197] : List Int)) := ⟨_, rfl⟩
     replace H : (if 1 ≤ ((rd_L2 x197000_1 x17_1).length : Int) then ((some ((rd_L2 x197000_1 x17_1).drop 1 : List Int)).bind fun y226 => (if y222.length + y226.length < 17592186044416 then (yb0.l0 kj13 t197 (t191.length : Int) (wrap64 (x17_1 + 1)) s0_0 x1001_13 x1002_13 (x197000_1.set (x17_1 : Int).toNat (y222 ++ y226))) else (none))) else (none)) = some (r1, r2, r3, r4) := by first | (rw [hy222]; with_reducible exact H) | (have H2_ := (Option.bind_some _ _).symm.trans H; rw [hy222]; with_reducible exact H2_) | (have H2_ := (Option.bind_some _ _).symm.trans H; with_reducible exact H2_) | with_reducible exact H | (rw [hy222]; exact H) | exact H
     have Ny222 := hqZ hy222
     clear hy222
     by_cases c74 : 1 ≤ ((rd_L2 x197000_1 x17_1).length : Int)
     rotate_left
     ·rw [if_neg c74] at H
      exact absurd H (by simp)
     rw [if_pos c74] at H
     have c74b0 := eq_true c74
     have c74b1 : decide (1 ≤ ((rd_L2 x197000_1 x17_1).length : Int)) = true := decide_eq_true c74
     clear c74
     obtain ⟨y226, hy226⟩ : ∃ y_ : List Int, y_ = ((rd_L2 x197000_1 x17_1).drop 1) := ⟨_, rfl⟩
     replace H : (if y222.length + y226.length < 17592186044416 then (yb0.l0 kj13 t197 (t191.length : Int) (wrap64 (x17_1 + 1)) s0_0 x1001_13 x1002_13 (x197000_1.set (x17_1 : Int).toNat (y222 ++ y226))) else (none)) = some (r1, r2, r3, r4) := by first | (rw [hy226]; with_reducible exact H) | (have H2_ := (Option.bind_some _ _).symm.trans H; rw [hy226]; with_reducible exact H2_) | (have H2_ := (Option.bind_some _ _).symm.trans H; with_reducible exact H2_) | with_reducible exact H | (rw [hy226]; exact H) | exact H
     have Ny226 := hqZ hy226
     clear hy226
     by_cases c75 : y222.length + y226.length < 17592186044416
     rotate_left
     ·rw [if_neg c75] at H
      exact absurd H (by simp)
     rw [if_pos c75] at H
     have LMc75 := hqZ c75
     clear c75
     obtain ⟨y231, hy231⟩ : ∃ y_ : List Int, y_ = (y222 ++ y226) := ⟨_, rfl⟩
     replace H : (yb0.l0 kj13 t197 (t191.length : Int) (wrap64 (x17_1 + 1)) s0_0 x1001_13 x1002_13 (x197000_1.set (x17_1 : Int).toNat y231)) = some (r1, r2, r3, r4) := by first | (rw [hy231]; with_reducible exact H) | (have H2_ := (Option.bind_some _ _).symm.trans H; rw [hy231]; with_reducible exact H2_) | (have H2_ := (Option.bind_some _ _).symm.trans H; with_reducible exact H2_) | with_reducible exact H | (rw [hy231]; exact H) | exact H
     have Ny231 := hqZ hy231
     clear hy231
     obtain ⟨y234, hy234⟩ : ∃ y_ : List (List Int), y_ = (x197000_1.set (x17_1 : Int).toNat y231) := ⟨_, rfl⟩
     replace H : (yb0.l0 kj13 t197 (t191.length : Int) (wrap64 (x17_1 + 1)) s0_0 x1001_13 x1002_13 y234) = some (r1, r2, r3, r4) := by first | (rw [hy234]; with_reducible exact H) | (have H2_ := (Option.bind_some _ _).symm.trans H; rw [hy234]; with_reducible exact H2_) | (have H2_ := (Option.bind_some _ _).symm.trans H; with_reducible exact H2_) | with_reducible exact H | (rw [hy234]; exact H) | exact H
     have Ny234 := hqZ hy234
     clear hy234
     have H' := hqZ H
     clear H
     have hnb77 := NB196_190.1
     have hnc77 := NB190_196.1
     have hnb78 := NB196_0.1
     have hnc78 := NB0_196.1
     have hcz79_0 : wc.cell? ⟨gb196, 0, none⟩ = some (u197000) := (zh0 BK196.1 0).trans rfl
     have hfz79_0 := zd0 BK196.1 0
     obtain ⟨Ao80, co80, eo80⟩ := Kd.N_slice HO_197000.1
     subst eo80
     have p210 : 0 ≤ (x17_1 : Int) := of_decide_eq_true (by assumption)
     have q210 : x17_1 < (x197000_1.length : Int) := of_decide_eq_true (by assumption)
     obtain ⟨ad210, A210_0, c210_0, e210, hx210_0, hl210_0, hi210_0⟩ := at_L2 (Kd.N_reads' HO_197000.1).2.2 x17_1 p210 q210
     cases e210
     obtain ⟨ce210, hce210, hMe210, hcc210⟩ := Kd.N_get HO_197000.1 [] x17_1 p210 (by first | exact q210 | exact of_decide_eq_true (by assumption) | (have e_ := (Kd.N_reads' HO_197000.1).1; omega))
     obtain ⟨ua210_0, uc210_0, rfl, ul210_0, ge210_0⟩ := Kd.FK_slice_open hMe210
     have hv210_0 := hcc210 0 _ rfl
     rw [Nat.add_zero, show ((Kd.slice 3 (Kd.int .i64))).sz = 1 from rfl, Nat.mul_one] at hv210_0
     replace hv210_0 := Option.some.inj (hv210_0.symm.trans hx210_0)
     injection hv210_0 with hva_ hvn_ hvc_
     rw [hva_] at ge210_0
     rw [hvc_] at ul210_0
     have HL210_0 := hqZ (show Kd.V (Kd.int .i64) 3 _ w.heap.size _ _ (rd_L2 x197000_1 x17_1) from Kd.V_mk ul210_0 ge210_0)
     clear hva_ hvn_ hvc_ ge210_0 ul210_0 hcc210 hce210
     have HR210_0 := hqZ hi210_0
     have HC210_0 := hqZ hl210_0
     clear hi210_0 hl210_0
     replace p210 := eq_true p210
     replace q210 := eq_true q210
     try go_wp2
     have n0_ := hqZ (Kd.N_drew HO_197000.1)
     have n1_ := hqZ (Kd.V_drew HL210_0.1)
     have n2_ := hqZ (blk_drew BK190.1)
     have n3_ := hqZ (blk_drew BK196.1)
     have n4_ := hqZ (Kd.C_drew HR210_0.1)
     have n5_ := hqZ (IsS46.drew HI0.1)
     have n6_ := hqZ (keep_drew HK.1)
     have n7_ := hqZ (zk0 HB.1)
     clear HO_197000 HL210_0 BK190 BK196 HR210_0 HI0 HK HB
     have HO_197000 := n0_
     have HL210_0 := n1_
     have BK190 := n2_
     have BK196 := n3_
     have HR210_0 := n4_
     have HI0 := n5_
     have HK := n6_
     have HB := n7_
     clear n0_ n1_ n2_ n3_ n4_ n5_ n6_ n7_
     have p225 : 0 ≤ (x17_1 : Int) := of_decide_eq_true (by assumption)
     have q225 : x17_1 < (x197000_1.length : Int) := of_decide_eq_true (by assumption)
     obtain ⟨ad225, A225_0, c225_0, e225, hx225_0, hl225_0, hi225_0⟩ := at_L2 (Kd.N_reads' HO_197000.1).2.2 x17_1 p225 q225
     obtain rfl : ad210 = ad225 := (by injection e225)
     obtain ⟨ce225, hce225, hMe225, hcc225⟩ := Kd.N_get HO_197000.1 [] x17_1 p225 (by first | exact q225 | exact of_decide_eq_true (by assumption) | (have e_ := (Kd.N_reads' HO_197000.1).1; omega))
     obtain ⟨ua225_0, uc225_0, rfl, ul225_0, ge225_0⟩ := Kd.FK_slice_open hMe225
     have hv225_0 := hcc225 0 _ rfl
     rw [Nat.add_zero, show ((Kd.slice 3 (Kd.int .i64))).sz = 1 from rfl, Nat.mul_one] at hv225_0
     replace hv225_0 := Option.some.inj (hv225_0.symm.trans hx225_0)
     injection hv225_0 with hva_ hvn_ hvc_
     rw [hva_] at ge225_0
     rw [hvc_] at ul225_0
     have HL225_0 := hqZ (show Kd.V (Kd.int .i64) 3 _ w.heap.size _ _ (rd_L2 x197000_1 x17_1) from Kd.V_mk ul225_0 ge225_0)
     clear hva_ hvn_ hvc_ ge225_0 ul225_0 hcc225 hce225
     have HR225_0 := hqZ hi225_0
     have HC225_0 := hqZ hl225_0
     clear hi225_0 hl225_0
     replace p225 := eq_true p225
     replace q225 := eq_true q225
     have q82 : (1 : Int) ≤ (((rd_L2 x197000_1 x17_1).length : Int) : Int) := of_decide_eq_true (by assumption)
     obtain ⟨i082, hi082, _, hsz82, _⟩ := info_parts info3
     have hroom82 : (rd_L2 x197000_1 x17_1).length ≤ c225_0 := HC225_0.1
     have hC82 : Kd.F (Kd.int .i64) _ _ A225_0 (rd_L2 x197000_1 x17_1).length (rd_L2 x197000_1 x17_1) := (Kd.V_at (base := w.heap.size) HL225_0.1).2.2
     have hcut82 := cut_from (P := Try.prog) 27 3 .i64 Try.underlying27 hi082 1 hsz82 A225_0 (rd_L2 x197000_1 x17_1).length c225_0 1 (by omega) q82
     have hr82 := Kd.F_cut (m := (1 : Int).toNat) (c := c225_0) hC82 (by omega) hroom82
     obtain ⟨A82, hA82⟩ : ∃ A1, A1 = (if c225_0 = (1 : Int).toNat then A225_0 else (A225_0 : Option Addr).map (·.add ((1 : Int).toNat * 1))) := ⟨_, rfl⟩
     obtain ⟨c82, hc82⟩ : ∃ c1, c1 = c225_0 - (1 : Int).toNat := ⟨_, rfl⟩
     have hy82 : y226.length = (rd_L2 x197000_1 x17_1).length - (1 : Int).toNat := (by rw [Ny226.1, List.length_drop] <;> omega)
     rw [show (rd_L2 x197000_1 x17_1).drop (1 : Int).toNat = y226 from Ny226.1.symm] at hr82
     replace hr82 : Kd.F (Kd.int .i64) _ _ A82 y226.length y226 := (by rw [hA82]; exact hr82)
     rw [← hy82, ← hA82, ← hc82] at hcut82
     have HO230 := hqZ (show Kd.V (Kd.int .i64) 3 _ w.heap.size _ (.slice A82 y226.length c82) y226 from Kd.V_mk (by rw [hy82, hc82]; exact Nat.sub_le_sub_right hroom82 _) hr82)
     have HC230 := hqZ (show y226.length ≤ c82 from by rw [hy82, hc82]; exact Nat.sub_le_sub_right hroom82 _)
     clear hr82 hC82 hroom82 hi082 hsz82 hc82
     have KY82 := hqZ hy82
     have KA82 := hqZ hA82
     clear hy82 hA82
     replace q82 := eq_true q82
     refine start_ (n := 14) (S := fun w' => w'.cell? ⟨gb196, 0, none⟩ = some (.slice (some ad210) x197000_1.length co80) ∧ w'.cell? (ad210.add (x17_1).toNat) = some (.slice A225_0 (rd_L2 x197000_1 x17_1).length c225_0)) (ds := [13]) #[false, false, false, false, false, false, false, false, false, false, false, false, false, false] (by kernel_rfl) rfl rfl ⟨(zh0 BK196.1 0).trans rfl, hx225_0⟩ (fun hHeld => ?_); refine with_tabW yb0.tab9 yb0.bits9 (fun HT_ HW_ => ?_)
     generalize wc.drew = w81 at HO_197000 HL210_0 BK190 BK196 HR210_0 HI0 HK HB HL225_0 HO230 HR225_0 hx225_0 hHeld ⊢
     refine pure_ (i := 0) (N := some 64) (v := ?_) (a' := ?_) (bf 14 1) rfl rfl (zm0 HT_.1 (by kernel_rfl)) (fun _ _ _ h => h) (Or.inl ⟨by rfl, ?_⟩) ?_ ?_
     rotate_left
     ·intro w'; go_simp; with_reducible rfl
     rotate_left
     ·simp only [Act.put, zA, zB, zC, i64_w, i32_w]; rfl
     refine pure_ (i := 2) (N := some 66) (v := ?_) (a' := ?_) (bf 14 5) rfl rfl (zm0 HT_.1 (by kernel_rfl)) (fun _ _ _ h => h) (Or.inl ⟨by rfl, ?_⟩) ?_ ?_
     rotate_left
     ·intro w'; go_simp; with_reducible rfl
     rotate_left
     ·simp only [Act.put, zA, zB, zC, i64_w, i32_w]; rfl
     refine pure_ (i := 3) (N := some 67) (v := ?_) (a' := ?_) (bf 14 13) rfl rfl (zm0 HT_.1 (by kernel_rfl)) (fun _ _ _ h => h) (Or.inl ⟨by rfl, ?_⟩) ?_ ?_
     rotate_left
     ·intro w'; go_simp; with_reducible rfl
     rotate_left
     ·simp only [Act.put, zA, zB, zC, i64_w, i32_w]; rfl
     refine pure_ (i := 5) (N := some 69) (v := ?_) (a' := ?_) (bf 14 45) rfl rfl (zm0 HT_.1 (by kernel_rfl)) (fun _ _ _ h => h) (Or.inl ⟨by rfl, ?_⟩) ?_ ?_
     rotate_left
     ·intro w'; go_simp; with_reducible rfl
     rotate_left
     ·simp only [Act.put, zA, zB, zC, i64_w, i32_w]; rfl
     refine pure_ (i := 7) (N := some 71) (v := ?_) (a' := ?_) (bf 14 173) rfl rfl (zm0 HT_.1 (by kernel_rfl)) (fun _ _ _ h => h) (Or.inl ⟨by rfl, ?_⟩) ?_ ?_
     rotate_left
     ·intro w'; go_simp; with_reducible rfl
     rotate_left
     ·simp only [Act.put, zA, zB, zC, i64_w, i32_w]; rfl
     refine take_ (i := 1) (N := some 65) (v := ?_) (a' := ?_) (bf 14 175) rfl rfl (take_ofW HT_.1 HW_.1 (by kernel_rfl)) (fun _ _ _ h => h) (Or.inl ⟨by rfl, ?_⟩) hHeld ?_ ?_
     rotate_left
     ·rintro w' ⟨s0, s1⟩; go_simp; with_reducible rfl
     rotate_left
     ·simp only [Act.put, zA, zB, zC, i64_w, i32_w]; rfl
     refine take_ (i := 6) (N := some 70) (v := ?_) (a' := ?_) (bf 14 239) rfl rfl (take_ofW HT_.1 HW_.1 (by kernel_rfl)) (fun _ _ _ h => h) (Or.inl ⟨by rfl, ?_⟩) hHeld ?_ ?_
     rotate_left
     ·rintro w' ⟨s0, s1⟩; go_simp; with_reducible rfl
     rotate_left
     ·simp only [Act.put, zA, zB, zC, i64_w, i32_w]; rfl
     refine pure_ (i := 8) (N := some 72) (v := ?_) (a' := ?_) (bf 14 495) rfl rfl (zm0 HT_.1 (by kernel_rfl)) (fun _ _ _ h => h) (Or.inl ⟨by rfl, ?_⟩) ?_ ?_
     rotate_left
     ·intro w'; go_simp; with_reducible rfl
     rotate_left
     ·simp only [Act.put, zA, zB, zC, i64_w, i32_w]; rfl
     refine take_ (i := 9) (N := some 73) (v := ?_) (a' := ?_) (bf 14 1007) rfl rfl (take_ofW HT_.1 HW_.1 (by kernel_rfl)) (fun _ _ _ h => h) (Or.inl ⟨by rfl, ?_⟩) hHeld ?_ ?_
     rotate_left
     ·rintro w' ⟨s0, s1⟩; go_simp; with_reducible rfl
     rotate_left
     ·simp only [Act.put, zA, zB, zC, i64_w, i32_w]; rfl
     refine pure_ (i := 10) (N := some 74) (v := ?_) (a' := ?_) (bf 14 2031) rfl rfl (zm0 HT_.1 (by kernel_rfl)) (fun _ _ _ h => h) (Or.inl ⟨by rfl, ?_⟩) ?_ ?_
     rotate_left
     ·intro w'; go_simp; with_reducible rfl
     rotate_left
     ·simp only [Act.put, zA, zB, zC, i64_w, i32_w]; rfl
     refine one_ (i := 4) (N := some 68) (bf 14 2047) rfl rfl (one_of HT_.1 (by kernel_rfl)) (by decide) (fun K hK => ?_)
     refine Kd.R_lit_step (Kd.int .i64) _ 3 ?hg (N := 68) ?hd (xs := ([t197] : List Int)) (inner := [.int .i64 t197]) (ok := fun _ => True) (okp := fun _ => True) ?hr ?hp (fun _ hk => hk) trivial (Below.refl _ _) (Nat.le_refl _) (by simp) ?_; (case hd | hg => rfl); (case hr => go_simp <;> rfl); (case hp => exact (Reps.one (show Kd.M (Kd.int .i64) _ _ _ t197 [.int .i64 t197] from rfl) (Reps.none _ _)))
     intro v223 w83 ho84 hb hg_ hnew_
     have HS1_ := (hb.cell (World.block_lt_of_cell? _ _ (hHeld.2))).trans (hHeld.2)
     clear hg_ hnew_
     (first | rw [← Ny222.1] at ho84 | (simp only [Int.reduceToNat] at ho84; rw [← Ny222.1] at ho84))
     have n0_ := hqZ (Kd.N_elder' (HO_197000.1) (Kd.R_base ho84) hb)
     have n1_ := hqZ (Kd.V_elder' (HL210_0.1) (Kd.R_base ho84) hb)
     have n2_ := hqZ (Kd.V_elder' (HL225_0.1) (Kd.R_base ho84) hb)
     have n3_ := hqZ (Kd.V_elder' (HO230.1) (Kd.R_base ho84) hb)
     have n4_ := hqZ (Kd.R_lower (Kd.R_newM (M := fun k_ => (w.heap.size ≤ k_)) ho84 (zl0 (w := w) (g := g) (row := none) (HK.1)) (fun k_ h_ => h_)) (zl0 (w := w) (g := g) (row := none) (HK.1)))
     have n5_ := hqZ (zc0 (g := gb190) (o := .cells #[.slice none 0 0] 26 (0, 0)) (BK190.1) hb)
     have n6_ := hqZ (zc0 (g := gb196) (o := .cells #[.slice (some ad210) x197000_1.length co80] 26 (0, 0)) (BK196.1) hb)
     have n7_ := hqZ (IsS46.below (HI0.1) hb)
     have n8_ := hqZ (Kd.C_below (by repeat (first | (with_reducible exact HR210_0.1) | (with_reducible refine Kd.C_alloc ?_ _) | (with_reducible refine Kd.C_drewN ?_ _) | (with_reducible refine Kd.C_drew ?_) | exact HR210_0.1)) hb)
     have n9_ := hqZ (Kd.C_below (by repeat (first | (with_reducible exact HR225_0.1) | (with_reducible refine Kd.C_alloc ?_ _) | (with_reducible refine Kd.C_drewN ?_ _) | (with_reducible refine Kd.C_drew ?_) | exact HR225_0.1)) hb)
     have n10_ := hqZ (zg0.trans (HK.1) (zg0.of_below hb g none) (.inl rfl))
     have n11_ := hqZ (za0 (HB.1) hb)
     clear HO_197000 HL210_0 HL225_0 HO230 BK190 BK196 HI0 HR210_0 HR225_0 HK HB
     have HO_197000 := n0_
     have HL210_0 := n1_
     have HL225_0 := n2_
     have HO230 := n3_
     have HO224 := n4_
     have BK190 := n5_
     have BK196 := n6_
     have HI0 := n7_
     have HR210_0 := n8_
     have HR225_0 := n9_
     have HK := n10_
     have HB := n11_
     clear n0_ n1_ n2_ n3_ n4_ n5_ n6_ n7_ n8_ n9_ n10_ n11_ hb ho84
     refine hK.out _ _ ⟨(zh0 BK196.1 0).trans rfl, HS1_⟩ (fun hHeld => ?_)
     clear hK K
     refine norm_ (a' := ?_) ?_ ?_
     rotate_left
     ·show Act.put _ (some 68) _ = _; simp only [Act.put, zA, zB, zC, i64_w, i32_w]; rfl
     refine one_ (i := 11) (N := some 75) (bf 14 4095) rfl rfl (one_of HT_.1 (by kernel_rfl)) (by decide) (fun K hK => ?_)
     refine Kd.R_append_rows_step (Kd.int .i64) w.heap.size (by rfl) (.tmp 68) (.tmp 74) 27 3 (.int .i64 0) 8 rfl Try.underlying27 info3 rfl (by decide) (by omega) v223 y222 y226 _ _ _ (fun k_ => (w.heap.size ≤ k_)) (fun _ => False) rfl rfl ?aO ?aR (fun _ _ h => h) (fun _ h => h.elim) ?aF (Below.refl _ _) ?aS ?aL ?_
     (case aR => exact (Kd.V_reads' HO230.1).2.2)
     (case aF => exact (fun k_ hk => (Nat.le_trans (zl0 (w := w) (g := g) (row := none) (HK.1)) hk)))
     (case aO => exact (Kd.R_mono HO224.1 (fun _ hk => hk.1)))
     (case aS => exact (zl0 (w := w) (g := g) (row := none) (HK.1)))
     (case aL => have := LMc75.1; omega)
     intro v232 w85 ho hb hg hat
     have HS1_ := World.grownBy.cell hg (hHeld.2) (by first | (rw [add_block]; exact Kd.R_ne HO224.1 (Kd.N_typed HO_197000.1 _ rfl).choose_spec (by decide)) | exact Kd.R_ne HO224.1 (Kd.N_typed HO_197000.1 _ rfl).choose_spec (by decide) | exact (fun e_ => absurd (HO224.1.1 _ e_.symm).1 (Nat.not_le_of_lt (World.block_lt_of_cell? _ _ (hx225_0)))))
     rw [← Ny231.1] at ho
     have n0_ := hqZ (Kd.N_afterv (ok := (fun k_ => (w.heap.size ≤ k_) ∧ k_ ≠ gb190 ∧ k_ ≠ gb196 ∧ k_ ≠ g)) (HO_197000.1) hg hat)
     have n1_ := hqZ (zr0 (g := gb190) (o := .cells #[.slice none 0 0] 26 (0, 0)) (BK190.1) hg (Kd.R_ne HO224.1 BK190.1 (by decide)))
     have n2_ := hqZ (zr0 (g := gb196) (o := .cells #[.slice (some ad210) x197000_1.length co80] 26 (0, 0)) (BK196.1) hg (Kd.R_ne HO224.1 BK196.1 (by decide)))
     have n3_ := hqZ (IsS46.grown (HI0.1) hg (IsS46.own_ne HI0.1 HO224.1 (by decide)))
     have n4_ := hqZ (Kd.V_afterv (ok := (fun k_ => (w.heap.size ≤ k_) ∧ some k_ ≠ (.slice (some ad210) x197000_1.length co80 : Value).ownBlock ∧ k_ ≠ gb190 ∧ k_ ≠ gb196 ∧ k_ ≠ g)) (Kd.V_mono HL210_0.1 (fun _ hk => ⟨⟨hk.1.1.1, ⟨hk.1.2, ⟨hk.1.1.2.1, ⟨hk.1.1.2.2.1, hk.1.1.2.2.2⟩⟩⟩⟩, hk.2⟩)) hg hat)
     have n5_ := hqZ (Kd.V_afterv (ok := (fun k_ => (w.heap.size ≤ k_) ∧ some k_ ≠ (.slice (some ad210) x197000_1.length co80 : Value).ownBlock ∧ k_ ≠ gb190 ∧ k_ ≠ gb196 ∧ k_ ≠ g)) (Kd.V_mono HL225_0.1 (fun _ hk => ⟨⟨hk.1.1.1, ⟨hk.1.2, ⟨hk.1.1.2.1, ⟨hk.1.1.2.2.1, hk.1.1.2.2.2⟩⟩⟩⟩, hk.2⟩)) hg hat)
     have n6_ := hqZ (Kd.V_afterv (ok := (fun k_ => (w.heap.size ≤ k_) ∧ some k_ ≠ (.slice (some ad210) x197000_1.length co80 : Value).ownBlock ∧ k_ ≠ gb190 ∧ k_ ≠ gb196 ∧ k_ ≠ g)) (Kd.V_mono HO230.1 (fun _ hk => ⟨⟨hk.1.1.1, ⟨hk.1.2, ⟨hk.1.1.2.1, ⟨hk.1.1.2.2.1, hk.1.1.2.2.2⟩⟩⟩⟩, hk.2⟩)) hg hat)
     have n7_ := hqZ (below_weaken (HB.1) HL.1 hb)
     have n8_ := hqZ (zg0.trans (HK.1) (zg0.of_grown hg g) (Kd.R_base2 HO224.1))
     have n9_ := hqZ (ho)
     clear HO_197000 BK190 BK196 HI0 HL210_0 HL225_0 HO230 HB HK HO224
     have HO_197000 := n0_
     have BK190 := n1_
     have BK196 := n2_
     have HI0 := n3_
     have HL210_0 := n4_
     have HL225_0 := n5_
     have HO230 := n6_
     have HB := n7_
     have HK := n8_
     have HO233 := n9_
     clear n0_ n1_ n2_ n3_ n4_ n5_ n6_ n7_ n8_ n9_ ho hb hg hat
     have p76 : 0 ≤ (x17_1 : Int) := of_decide_eq_true (by assumption)
     have q76 : (x17_1 : Int) < ((x197000_1.length : Int) : Int) := of_decide_eq_true (by assumption)
     obtain ⟨go76, co76, eo76, gb76, gl76, cl76, HG76⟩ := Kd.N_form HO_197000.1 (by omega)
     (first | cases eo76 | (injection eo76 with ea_ en_ ec_; (first | subst ea_ | (injection ea_ with ea_; subst ea_)); subst ec_; clear en_))
     have GB76 := hqZ gb76
     have GG76 := hqZ HG76
     clear gb76 gl76 HG76
     (first | simp only [add_plain] at hx210_0 | skip)
     (first | simp only [add_plain] at hx225_0 | skip)
     obtain ⟨ce76, hcl76, hM76, hcc76, hfr76⟩ := Kd.N_elem HO_197000.1 [] (x17_1 : Int) p76 q76
     obtain ⟨ua76_0, uc76_0, rfl, ul76_0, ge76_0⟩ := Kd.FK_slice_open hM76
     have hx76_0 := hcc76 0 _ rfl
     have hf76_0 := hfr76 0
     (try simp only [show ((Kd.slice 3 (Kd.int .i64))).sz = 1 from rfl, Nat.mul_one, Nat.add_zero] at hx76_0)
     (try simp only [show ((Kd.slice 3 (Kd.int .i64))).sz = 1 from rfl, Nat.mul_one, Nat.add_zero] at hf76_0)
     (try clear hcl76); (try clear hcc76); (try clear hfr76); (try clear hM76)
     replace p76 := eq_true p76
     replace q76 := eq_true q76
     obtain ⟨Ao86, co86, eo86⟩ := Kd.R_slice HO233.1
     (first | subst eo86 | (injection eo86 with f1_ f2_ f3_; have f4_ := f1_.symm; have f5_ := f3_.symm; clear f1_ f2_ f3_; subst f4_; subst f5_))
     have HN0_go76 := hqZ (show g ≠ go76 from by have h_ := IsS46.own_neN HI0.1 HO_197000.1 (by decide); intro e_; exact h_ (by rw [e_]; rfl))
     have HX87 := hqZ (show Kd.N (Kd.slice 3 (Kd.int .i64)) 27 _ w.heap.size (fun k_ => (w.heap.size ≤ k_) ∧ some k_ ≠ (.slice Ao86 y231.length co86 : Value).ownBlock ∧ k_ ≠ gb190 ∧ k_ ≠ gb196 ∧ k_ ≠ g) (.slice (some ⟨go76, 0, none⟩) x197000_1.length co80) x197000_1 from (Kd.N_mono (HO_197000.1) (fun k_ hk => ⟨hk.1.1, ⟨hk.2, ⟨hk.1.2.1, ⟨hk.1.2.2.1, hk.1.2.2.2⟩⟩⟩⟩)))
     replace HX87 := hqZ (show Kd.N (Kd.slice 3 (Kd.int .i64)) 27 _ w.heap.size (fun k_ => (w.heap.size ≤ k_) ∧ k_ ≠ gb190 ∧ k_ ≠ gb196 ∧ k_ ≠ g) (.slice (some ⟨go76, 0, none⟩) x197000_1.length co80) x197000_1 from Kd.N_mono HX87.1 (fun k_ hk => ⟨hk.1, ⟨hk.2.2.1, ⟨hk.2.2.2.1, hk.2.2.2.2⟩⟩⟩))
     obtain ⟨ce87, hcl87, hM87, hcc87, hfr87⟩ := Kd.N_elem HX87.1 [] (x17_1 : Int) (of_decide_eq_true (by assumption)) (by have h_ : (x17_1 : Int) < ((x197000_1.length : Int) : Int) := of_decide_eq_true (by assumption); first | exact h_ | (have e_ := (Kd.N_reads' HO_197000.1).1; omega) | simpa using h_)
     obtain ⟨ua87_0, uc87_0, rfl, ul87_0, ge87_0⟩ := Kd.FK_slice_open hM87
     have HP87 := (Kd.N_seg HX87.1 (x17_1 : Int) (of_decide_eq_true (by assumption)) (by have h_ : (x17_1 : Int) < ((x197000_1.length : Int) : Int) := of_decide_eq_true (by assumption); first | exact h_ | (have e_ := (Kd.N_reads' HO_197000.1).1; omega) | simpa using h_) (seg := [.slice Ao86 y231.length co86]) (j := 0) hcl87 hcc87 (show 1 ≤ 1 from by decide) (x' := y231) (Kd.FK_slice_mk (Kd.R_reads' (Kd.R_mono (ok' := (fun k_ => ((fun k_ => (w.heap.size ≤ k_) ∧ k_ ≠ gb190 ∧ k_ ≠ gb196 ∧ k_ ≠ g)) k_ ∧ k_ ≠ go76)) (IsS46.apart HI0.1 (Kd.R_types (Kd.R_types (Kd.R_apart' (HO233.1) (Kd.N_typed HO_197000.1) (by decide)) BK190.1 (by decide)) BK196.1 (by decide)) (by decide)) (fun k_ hk => ⟨⟨hk.1.1.1.1, ⟨hk.1.1.2, ⟨hk.1.2, hk.2⟩⟩⟩, fun e_ => (hk.1.1.1.2) (by rw [e_]; rfl)⟩))).2.1 (Kd.R_F (Kd.R_mono (ok' := (fun k_ => ((fun k_ => (w.heap.size ≤ k_) ∧ k_ ≠ gb190 ∧ k_ ≠ gb196 ∧ k_ ≠ g)) k_ ∧ k_ ≠ go76)) (IsS46.apart HI0.1 (Kd.R_types (Kd.R_types (Kd.R_apart' (HO233.1) (Kd.N_typed HO_197000.1) (by decide)) BK190.1 (by decide)) BK196.1 (by decide)) (by decide)) (fun k_ hk => ⟨⟨hk.1.1.1.1, ⟨hk.1.1.2, ⟨hk.1.2, hk.2⟩⟩⟩, fun e_ => (hk.1.1.1.2) (by rw [e_]; rfl)⟩)))) (fun _ hk => hk)).1
     (try simp only [show ((Kd.slice 3 (Kd.int .i64))).sz = 1 from rfl, Nat.mul_one, Nat.add_zero] at HP87)
     rw [← Ny234.1] at HP87
     have HQ87 := hqZ HP87
     (try clear hcl87); (try clear hcc87); (try clear hfr87); (try clear hM87); (try clear HP87)
     refine hK.out _ _ ⟨(zh0 BK196.1 0).trans rfl, HS1_⟩ (fun hHeld => ?_)
     clear hK K
     refine norm_ (a' := ?_) ?_ ?_
     rotate_left
     ·show Act.put _ (some 75) _ = _; simp only [Act.put, zA, zB, zC, i64_w, i32_w]; rfl
     refine pure_ (i := 12) (N := some 76) (v := ?_) (a' := ?_) (bf 14 8191) rfl rfl (zm0 HT_.1 (by kernel_rfl)) (fun _ _ _ h => h) (Or.inl ⟨by rfl, ?_⟩) ?_ ?_
     rotate_left
     ·intro w'; go_simp; with_reducible rfl
     rotate_left
     ·simp only [Act.put, zA, zB, zC, i64_w, i32_w]; rfl
     refine last_ (i := 13) (N := none) (bf 14 16383) rfl rfl (one_of HT_.1 (by kernel_rfl)) (by decide) (fun K hK => ?_)
     refine skip_ (w1 := ?_) (by rfl) rfl ?_ ?_
     rotate_left
     ·go_simp
      rfl
     refine hK.out _ _ ?_
     clear hK K
     refine done_ (done_of HT_.1 (by kernel_rfl)) ?_
     try go_wp2
     go_roundg kj13
     case measure => have := HK1.1; have := HJ13.1; omega
     case rel => exact ⟨(wrap64 (x17_1 + 1)), (x1001_13), (x1002_13), (y234), (.slice (some ⟨go76, 0, none⟩) x197000_1.length co80), (rfl), H', ⟨by have := HK1.1; have := HJ13.1; omega⟩, ⟨HQ87.1⟩, ⟨by refine blk_far ?_ (by first | (have h_ := Kd.N_away HO_197000.1 (fun _ hk => hk.2.1); intro e_; exact h_ (by rw [e_]; rfl)) | (have h_ := Kd.N_away HO_197000.1 (fun _ hk => hk.1.2.1); intro e_; exact h_ (by rw [e_]; rfl)) | (have h_ := Kd.N_away HO_197000.1 (fun _ hk => hk.1.2); intro e_; exact h_ (by rw [e_]; rfl)) | (have h_ := Kd.N_away HO_197000.1 (fun _ hk => hk.1.2.2.1); intro e_; exact h_ (by rw [e_]; rfl)) | (have h_ := Kd.N_away HO_197000.1 (fun _ hk => hk.1.2.2); intro e_; exact h_ (by rw [e_]; rfl)) | (have h_ := Kd.N_away HO_197000.1 (fun _ hk => hk.1.2.2.2.1); intro e_; exact h_ (by rw [e_]; rfl)) | (have h_ := Kd.N_away HO_197000.1 (fun _ hk => hk.1.2.2.2); intro e_; exact h_ (by rw [e_]; rfl)) | (have h_ := Kd.N_away HO_197000.1 (fun _ hk => hk.1.2.2.2.2.1); intro e_; exact h_ (by rw [e_]; rfl)) | (have h_ := Kd.N_away HO_197000.1 (fun _ hk => hk.1.2.2.2.2); intro e_; exact h_ (by rw [e_]; rfl)) | (have h_ := Kd.N_away HO_197000.1 (fun _ hk => hk.1.2.2.2.2.2.1); intro e_; exact h_ (by rw [e_]; rfl)) | (have h_ := Kd.N_away HO_197000.1 (fun _ hk => hk.1.2.2.2.2.2); intro e_; exact h_ (by rw [e_]; rfl)) | (have h_ := Kd.N_away HO_197000.1 (fun _ hk => hk.1.1.2.1); intro e_; exact h_ (by rw [e_]; rfl)) | (have h_ := Kd.N_away HO_197000.1 (fun _ hk => hk.1.1.2); intro e_; exact h_ (by rw [e_]; rfl)) | (have h_ := Kd.N_away HO_197000.1 (fun _ hk => hk.1.1.2.2.1); intro e_; exact h_ (by rw [e_]; rfl)) | (have h_ := Kd.N_away HO_197000.1 (fun _ hk => hk.1.1.2.2); intro e_; exact h_ (by rw [e_]; rfl)) | (have h_ := Kd.N_away HO_197000.1 (fun _ hk => hk.1.1.2.2.2.1); intro e_; exact h_ (by rw [e_]; rfl)) | (have h_ := Kd.N_away HO_197000.1 (fun _ hk => hk.1.1.2.2.2); intro e_; exact h_ (by rw [e_]; rfl)) | (have h_ := Kd.N_away HO_197000.1 (fun _ hk => hk.1.1.2.2.2.2.1); intro e_; exact h_ (by rw [e_]; rfl)) | (have h_ := Kd.N_away HO_197000.1 (fun _ hk => hk.1.1.2.2.2.2); intro e_; exact h_ (by rw [e_]; rfl)) | (have h_ := Kd.N_away HO_197000.1 (fun _ hk => hk.1.1.2.2.2.2.2.1); intro e_; exact h_ (by rw [e_]; rfl)) | (have h_ := Kd.N_away HO_197000.1 (fun _ hk => hk.1.1.2.2.2.2.2); intro e_; exact h_ (by rw [e_]; rfl))) _; exact BK190.1⟩, ⟨by refine blk_far ?_ (by first | (have h_ := Kd.N_away HO_197000.1 (fun _ hk => hk.2.2.1); intro e_; exact h_ (by rw [e_]; rfl)) | (have h_ := Kd.N_away HO_197000.1 (fun _ hk => hk.1.2.1); intro e_; exact h_ (by rw [e_]; rfl)) | (have h_ := Kd.N_away HO_197000.1 (fun _ hk => hk.1.2); intro e_; exact h_ (by rw [e_]; rfl)) | (have h_ := Kd.N_away HO_197000.1 (fun _ hk => hk.1.2.2.1); intro e_; exact h_ (by rw [e_]; rfl)) | (have h_ := Kd.N_away HO_197000.1 (fun _ hk => hk.1.2.2); intro e_; exact h_ (by rw [e_]; rfl)) | (have h_ := Kd.N_away HO_197000.1 (fun _ hk => hk.1.2.2.2.1); intro e_; exact h_ (by rw [e_]; rfl)) | (have h_ := Kd.N_away HO_197000.1 (fun _ hk => hk.1.2.2.2); intro e_; exact h_ (by rw [e_]; rfl)) | (have h_ := Kd.N_away HO_197000.1 (fun _ hk => hk.1.2.2.2.2.1); intro e_; exact h_ (by rw [e_]; rfl)) | (have h_ := Kd.N_away HO_197000.1 (fun _ hk => hk.1.2.2.2.2); intro e_; exact h_ (by rw [e_]; rfl)) | (have h_ := Kd.N_away HO_197000.1 (fun _ hk => hk.1.2.2.2.2.2.1); intro e_; exact h_ (by rw [e_]; rfl)) | (have h_ := Kd.N_away HO_197000.1 (fun _ hk => hk.1.2.2.2.2.2); intro e_; exact h_ (by rw [e_]; rfl)) | (have h_ := Kd.N_away HO_197000.1 (fun _ hk => hk.1.1.2.1); intro e_; exact h_ (by rw [e_]; rfl)) | (have h_ := Kd.N_away HO_197000.1 (fun _ hk => hk.1.1.2); intro e_; exact h_ (by rw [e_]; rfl)) | (have h_ := Kd.N_away HO_197000.1 (fun _ hk => hk.1.1.2.2.1); intro e_; exact h_ (by rw [e_]; rfl)) | (have h_ := Kd.N_away HO_197000.1 (fun _ hk => hk.1.1.2.2); intro e_; exact h_ (by rw [e_]; rfl)) | (have h_ := Kd.N_away HO_197000.1 (fun _ hk => hk.1.1.2.2.2.1); intro e_; exact h_ (by rw [e_]; rfl)) | (have h_ := Kd.N_away HO_197000.1 (fun _ hk => hk.1.1.2.2.2); intro e_; exact h_ (by rw [e_]; rfl)) | (have h_ := Kd.N_away HO_197000.1 (fun _ hk => hk.1.1.2.2.2.2.1); intro e_; exact h_ (by rw [e_]; rfl)) | (have h_ := Kd.N_away HO_197000.1 (fun _ hk => hk.1.1.2.2.2.2); intro e_; exact h_ (by rw [e_]; rfl)) | (have h_ := Kd.N_away HO_197000.1 (fun _ hk => hk.1.1.2.2.2.2.2.1); intro e_; exact h_ (by rw [e_]; rfl)) | (have h_ := Kd.N_away HO_197000.1 (fun _ hk => hk.1.1.2.2.2.2.2); intro e_; exact h_ (by rw [e_]; rfl))) _; exact BK196.1⟩, ⟨IsS46.far HI0.1 HN0_go76.1 _⟩, ⟨keep_far HK.1 GB76.1 _⟩, ⟨zf0 HB.1 (Nat.le_trans HL.1 GB76.1)⟩⟩
    rw [if_pos c57] at H
    have c57b0 : decide (((rd_L2 x197000_1 x17_1).length : Int) < 5) = true := decide_eq_true c57
    have c57b1 : decide ((rd_L2 x197000_1 x17_1).length < 5) = true := decide_eq_true (by omega)
    clear c57
    replace H := Option.bind_eq_some_iff.mp H
    obtain ⟨t212, A580, H⟩ := H
    replace H : ((some (([t197] : List Int) : List Int)).bind fun y215 => (if t212.length + y215.length < 17592186044416 then (yb0.l0 kj13 t197 (t191.length : Int) (wrap64 (x17_1 + 1)) s0_0 x1001_13 x1002_13 (x197000_1.set (x17_1 : Int).toNat (t212 ++ y215))) else (none))) = some (r1, r2, r3, r4) := H
    have A58 := hqZ A580
    clear A580
    obtain ⟨y215, hy215⟩ : ∃ y_ : List Int, y_ = (([t197] : List Int)) := ⟨_, rfl⟩
    replace H : (if t212.length + y215.length < 17592186044416 then (yb0.l0 kj13 t197 (t191.length : Int) (wrap64 (x17_1 + 1)) s0_0 x1001_13 x1002_13 (x197000_1.set (x17_1 : Int).toNat (t212 ++ y215))) else (none)) = some (r1, r2, r3, r4) := by first | (rw [hy215]; with_reducible exact H) | (have H2_ := (Option.bind_some _ _).symm.trans H; rw [hy215]; with_reducible exact H2_) | (have H2_ := (Option.bind_some _ _).symm.trans H; with_reducible exact H2_) | with_reducible exact H | (rw [hy215]; exact H) | exact H
    have Ny215 := hqZ hy215
    clear hy215
    by_cases c59 : t212.length + y215.length < 17592186044416
    rotate_left
    ·rw [if_neg c59] at H
     exact absurd H (by simp)
    rw [if_pos c59] at H
    have LMc59 := hqZ c59
    clear c59
    obtain ⟨y218, hy218⟩ : ∃ y_ : List Int, y_ = (t212 ++ y215) := ⟨_, rfl⟩
    replace H : (yb0.l0 kj13 t197 (t191.length : Int) (wrap64 (x17_1 + 1)) s0_0 x1001_13 x1002_13 (x197000_1.set (x17_1 : Int).toNat y218)) = some (r1, r2, r3, r4) := by first | (rw [hy218]; with_reducible exact H) | (have H2_ := (Option.bind_some _ _).symm.trans H; rw [hy218]; with_reducible exact H2_) | (have H2_ := (Option.bind_some _ _).symm.trans H; with_reducible exact H2_) | with_reducible exact H | (rw [hy218]; exact H) | exact H
    have Ny218 := hqZ hy218
    clear hy218
    obtain ⟨y221, hy221⟩ : ∃ y_ : List (List Int), y_ = (x197000_1.set (x17_1 : Int).toNat y218) := ⟨_, rfl⟩
    replace H : (yb0.l0 kj13 t197 (t191.length : Int) (wrap64 (x17_1 + 1)) s0_0 x1001_13 x1002_13 y221) = some (r1, r2, r3, r4) := by first | (rw [hy221]; with_reducible exact H) | (have H2_ := (Option.bind_some _ _).symm.trans H; rw [hy221]; with_reducible exact H2_) | (have H2_ := (Option.bind_some _ _).symm.trans H; with_reducible exact H2_) | with_reducible exact H | (rw [hy221]; exact H) | exact H
    have Ny221 := hqZ hy221
    clear hy221
    have H' := hqZ H
    clear H
    have hnb61 := NB196_190.1
    have hnc61 := NB190_196.1
    have hnb62 := NB196_0.1
    have hnc62 := NB0_196.1
    have hcz63_0 : wc.cell? ⟨gb196, 0, none⟩ = some (u197000) := (zh0 BK196.1 0).trans rfl
    have hfz63_0 := zd0 BK196.1 0
    obtain ⟨Ao64, co64, eo64⟩ := Kd.N_slice HO_197000.1
    subst eo64
    have p210 : 0 ≤ (x17_1 : Int) := of_decide_eq_true (by assumption)
    have q210 : x17_1 < (x197000_1.length : Int) := of_decide_eq_true (by assumption)
    obtain ⟨ad210, A210_0, c210_0, e210, hx210_0, hl210_0, hi210_0⟩ := at_L2 (Kd.N_reads' HO_197000.1).2.2 x17_1 p210 q210
    cases e210
    obtain ⟨ce210, hce210, hMe210, hcc210⟩ := Kd.N_get HO_197000.1 [] x17_1 p210 (by first | exact q210 | exact of_decide_eq_true (by assumption) | (have e_ := (Kd.N_reads' HO_197000.1).1; omega))
    obtain ⟨ua210_0, uc210_0, rfl, ul210_0, ge210_0⟩ := Kd.FK_slice_open hMe210
    have hv210_0 := hcc210 0 _ rfl
    rw [Nat.add_zero, show ((Kd.slice 3 (Kd.int .i64))).sz = 1 from rfl, Nat.mul_one] at hv210_0
    replace hv210_0 := Option.some.inj (hv210_0.symm.trans hx210_0)
    injection hv210_0 with hva_ hvn_ hvc_
    rw [hva_] at ge210_0
    rw [hvc_] at ul210_0
    have HL210_0 := hqZ (show Kd.V (Kd.int .i64) 3 _ w.heap.size _ _ (rd_L2 x197000_1 x17_1) from Kd.V_mk ul210_0 ge210_0)
    clear hva_ hvn_ hvc_ ge210_0 ul210_0 hcc210 hce210
    have HR210_0 := hqZ hi210_0
    have HC210_0 := hqZ hl210_0
    clear hi210_0 hl210_0
    replace p210 := eq_true p210
    replace q210 := eq_true q210
    try go_wp2
    have n0_ := hqZ (Kd.N_drew HO_197000.1)
    have n1_ := hqZ (Kd.V_drew HL210_0.1)
    have n2_ := hqZ (blk_drew BK190.1)
    have n3_ := hqZ (blk_drew BK196.1)
    have n4_ := hqZ (Kd.C_drew HR210_0.1)
    have n5_ := hqZ (IsS46.drew HI0.1)
    have n6_ := hqZ (keep_drew HK.1)
    have n7_ := hqZ (zk0 HB.1)
    clear HO_197000 HL210_0 BK190 BK196 HR210_0 HI0 HK HB
    have HO_197000 := n0_
    have HL210_0 := n1_
    have BK190 := n2_
    have BK196 := n3_
    have HR210_0 := n4_
    have HI0 := n5_
    have HK := n6_
    have HB := n7_
    clear n0_ n1_ n2_ n3_ n4_ n5_ n6_ n7_
    have p211 : 0 ≤ (x17_1 : Int) := of_decide_eq_true (by assumption)
    have q211 : x17_1 < (x197000_1.length : Int) := of_decide_eq_true (by assumption)
    obtain ⟨ad211, A211_0, c211_0, e211, hx211_0, hl211_0, hi211_0⟩ := at_L2 (Kd.N_reads' HO_197000.1).2.2 x17_1 p211 q211
    obtain rfl : ad210 = ad211 := (by injection e211)
    obtain ⟨ce211, hce211, hMe211, hcc211⟩ := Kd.N_get HO_197000.1 [] x17_1 p211 (by first | exact q211 | exact of_decide_eq_true (by assumption) | (have e_ := (Kd.N_reads' HO_197000.1).1; omega))
    obtain ⟨ua211_0, uc211_0, rfl, ul211_0, ge211_0⟩ := Kd.FK_slice_open hMe211
    have hv211_0 := hcc211 0 _ rfl
    rw [Nat.add_zero, show ((Kd.slice 3 (Kd.int .i64))).sz = 1 from rfl, Nat.mul_one] at hv211_0
    replace hv211_0 := Option.some.inj (hv211_0.symm.trans hx211_0)
    injection hv211_0 with hva_ hvn_ hvc_
    rw [hva_] at ge211_0
    rw [hvc_] at ul211_0
    have HL211_0 := hqZ (show Kd.V (Kd.int .i64) 3 _ w.heap.size _ _ (rd_L2 x197000_1 x17_1) from Kd.V_mk ul211_0 ge211_0)
    clear hva_ hvn_ hvc_ ge211_0 ul211_0 hcc211 hce211
    have HR211_0 := hqZ hi211_0
    have HC211_0 := hqZ hl211_0
    clear hi211_0 hl211_0
    replace p211 := eq_true p211
    replace q211 := eq_true q211
    refine start_ (n := 14) (S := fun w' => w'.cell? ⟨gb196, 0, none⟩ = some (.slice (some ad210) x197000_1.length co64) ∧ w'.cell? (ad210.add (x17_1).toNat) = some (.slice A211_0 (rd_L2 x197000_1 x17_1).length c211_0)) (ds := [13]) #[false, false, false, false, false, false, false, false, false, false, false, false, false, false] (by kernel_rfl) rfl rfl ⟨(zh0 BK196.1 0).trans rfl, hx211_0⟩ (fun hHeld => ?_); refine with_tabW yb0.tab8 yb0.bits8 (fun HT_ HW_ => ?_)
    generalize wc.drew = w65 at HO_197000 HL210_0 BK190 BK196 HR210_0 HI0 HK HB HL211_0 HR211_0 hx211_0 hHeld ⊢
    refine pure_ (i := 0) (N := some 51) (v := ?_) (a' := ?_) (bf 14 1) rfl rfl (zm0 HT_.1 (by kernel_rfl)) (fun _ _ _ h => h) (Or.inl ⟨by rfl, ?_⟩) ?_ ?_
    rotate_left
    ·intro w'; go_simp; with_reducible rfl
    rotate_left
    ·simp only [Act.put, zA, zB, zC, i64_w, i32_w]; rfl
    refine pure_ (i := 2) (N := some 53) (v := ?_) (a' := ?_) (bf 14 5) rfl rfl (zm0 HT_.1 (by kernel_rfl)) (fun _ _ _ h => h) (Or.inl ⟨by rfl, ?_⟩) ?_ ?_
    rotate_left
    ·intro w'; go_simp; with_reducible rfl
    rotate_left
    ·simp only [Act.put, zA, zB, zC, i64_w, i32_w]; rfl
    refine pure_ (i := 3) (N := some 54) (v := ?_) (a' := ?_) (bf 14 13) rfl rfl (zm0 HT_.1 (by kernel_rfl)) (fun _ _ _ h => h) (Or.inl ⟨by rfl, ?_⟩) ?_ ?_
    rotate_left
    ·intro w'; go_simp; with_reducible rfl
    rotate_left
    ·simp only [Act.put, zA, zB, zC, i64_w, i32_w]; rfl
    refine pure_ (i := 5) (N := some 56) (v := ?_) (a' := ?_) (bf 14 45) rfl rfl (zm0 HT_.1 (by kernel_rfl)) (fun _ _ _ h => h) (Or.inl ⟨by rfl, ?_⟩) ?_ ?_
    rotate_left
    ·intro w'; go_simp; with_reducible rfl
    rotate_left
    ·simp only [Act.put, zA, zB, zC, i64_w, i32_w]; rfl
    refine pure_ (i := 9) (N := some 60) (v := ?_) (a' := ?_) (bf 14 557) rfl rfl (zm0 HT_.1 (by kernel_rfl)) (fun _ _ _ h => h) (Or.inl ⟨by rfl, ?_⟩) ?_ ?_
    rotate_left
    ·intro w'; go_simp; with_reducible rfl
    rotate_left
    ·simp only [Act.put, zA, zB, zC, i64_w, i32_w]; rfl
    refine take_ (i := 1) (N := some 52) (v := ?_) (a' := ?_) (bf 14 559) rfl rfl (take_ofW HT_.1 HW_.1 (by kernel_rfl)) (fun _ _ _ h => h) (Or.inl ⟨by rfl, ?_⟩) hHeld ?_ ?_
    rotate_left
    ·rintro w' ⟨s0, s1⟩; go_simp; with_reducible rfl
    rotate_left
    ·simp only [Act.put, zA, zB, zC, i64_w, i32_w]; rfl
    refine take_ (i := 4) (N := some 55) (v := ?_) (a' := ?_) (bf 14 575) rfl rfl (take_ofW HT_.1 HW_.1 (by kernel_rfl)) (fun _ _ _ h => h) (Or.inl ⟨by rfl, ?_⟩) hHeld ?_ ?_
    rotate_left
    ·rintro w' ⟨s0, s1⟩; go_simp; with_reducible rfl
    rotate_left
    ·simp only [Act.put, zA, zB, zC, i64_w, i32_w]; rfl
    refine pure_ (i := 6) (N := some 57) (v := ?_) (a' := ?_) (bf 14 639) rfl rfl (zm0 HT_.1 (by kernel_rfl)) (fun _ _ _ h => h) (Or.inl ⟨by rfl, ?_⟩) ?_ ?_
    rotate_left
    ·intro w'; go_simp; with_reducible rfl
    rotate_left
    ·simp only [Act.put, zA, zB, zC, i64_w, i32_w]; rfl
    refine take_ (i := 7) (N := some 58) (v := ?_) (a' := ?_) (bf 14 767) rfl rfl (take_ofW HT_.1 HW_.1 (by kernel_rfl)) (fun _ _ _ h => h) (Or.inl ⟨by rfl, ?_⟩) hHeld ?_ ?_
    rotate_left
    ·rintro w' ⟨s0, s1⟩; go_simp; with_reducible rfl
    rotate_left
    ·simp only [Act.put, zA, zB, zC, i64_w, i32_w]; rfl
    refine join_ (σ := Value × Value) 3 (bf 14 2047) (fun s_ => [(59, s_.1), (61, s_.2)]) (fun s_ w' => (w'.cell? ⟨gb196, 0, none⟩ = some (.slice (some ad210) x197000_1.length co64) ∧ w'.cell? (ad210.add (x17_1).toNat) = some (.slice A211_0 (rd_L2 x197000_1 x17_1).length c211_0)) ∧ (Kd.V (Kd.int .i64) 3 w' w.heap.size (fun k_ => (w.heap.size ≤ k_) ∧ some k_ ≠ (s_.1 : Value).ownBlock ∧ some k_ ≠ (s_.2 : Value).ownBlock ∧ some k_ ≠ (.slice (some ad210) x197000_1.length co64 : Value).ownBlock ∧ k_ ≠ g ∧ k_ ≠ gb190 ∧ k_ ≠ gb196) (.slice A210_0 (rd_L2 x197000_1 x17_1).length c210_0) (rd_L2 x197000_1 x17_1)) ∧ (Kd.V (Kd.int .i64) 3 w' w.heap.size (fun k_ => (w.heap.size ≤ k_) ∧ some k_ ≠ (s_.1 : Value).ownBlock ∧ some k_ ≠ (s_.2 : Value).ownBlock ∧ some k_ ≠ (.slice (some ad210) x197000_1.length co64 : Value).ownBlock ∧ k_ ≠ g ∧ k_ ≠ gb190 ∧ k_ ≠ gb196) (.slice A211_0 (rd_L2 x197000_1 x17_1).length c211_0) (rd_L2 x197000_1 x17_1)) ∧ (Kd.R (Kd.int .i64) 3 w' w.heap.size (fun k_ => (w.heap.size ≤ k_) ∧ some k_ ≠ (s_.2 : Value).ownBlock) s_.1 t212) ∧ (Kd.R (Kd.int .i64) 3 w' w.heap.size (fun k_ => (w.heap.size ≤ k_) ∧ some k_ ≠ (s_.1 : Value).ownBlock) s_.2 y215) ∧ (Kd.N (Kd.slice 3 (Kd.int .i64)) 27 w' w.heap.size (fun k_ => (w.heap.size ≤ k_) ∧ some k_ ≠ (s_.1 : Value).ownBlock ∧ some k_ ≠ (s_.2 : Value).ownBlock ∧ k_ ≠ g ∧ k_ ≠ gb190 ∧ k_ ≠ gb196) (.slice (some ad210) x197000_1.length co64) x197000_1) ∧ (w'.heap[gb190]? = some (.cells #[.slice none 0 0] 26 (0, 0))) ∧ (w'.heap[gb196]? = some (.cells #[.slice (some ad210) x197000_1.length co64] 26 (0, 0))) ∧ (IsS46 w0 w' g s0_0 x1001_13 x1002_13) ∧ (zg0 w w' g none) ∧ (Below w0.heap.size w0 w')) ?_ ?_
    rotate_left
    ·intro hCont
     refine two_ (i := 8) (j := 10) (Ni := some 59) (Nj := some 61) #[true, true, true, true, true, true, true, true, true, true, false, false, false, false] (bf 14 1791) rfl rfl rfl rfl (two_of HT_.1 (by kernel_rfl)) (by decide) (by decide) (fun K hK => ?_) (fun K hK => ?_)
     ·skip
      refine goes_ Try.func42 (by kernel_rfl) rfl #[.slice A211_0 (rd_L2 x197000_1 x17_1).length c211_0] (by rfl) rfl rfl (by simp only [hqa, hqb, hqc]; rfl) ?_
      with_reducible refine (ym1.calls _ _ (rd_L2 x197000_1 x17_1) t212 _ ?side1 ?side2 A58.1).mono ?_
      (case side1 => repeat (first | exact (by repeat (first | (with_reducible exact HR211_0.1) | (with_reducible refine Kd.C_alloc ?_ _) | (with_reducible refine Kd.C_drewN ?_ _) | (with_reducible refine Kd.C_drew ?_) | exact HR211_0.1)) | (with_reducible refine Kd.C_alloc ?_ _) | (with_reducible refine Kd.C_drewN ?_ _) | (with_reducible refine Kd.C_drew ?_)))
      (case side2 => exact HC211_0.1)
      rintro e w66 ⟨v213, rfl, ho0, hb⟩
      have HS1_ := (hb.cell (World.block_lt_of_cell? _ _ (hHeld.2))).trans (hHeld.2)
      refine ⟨_, rfl, ?_⟩
      have n0_ := hqZ (Kd.N_elder' (HO_197000.1) (Kd.R_base ho0) hb)
      have n1_ := hqZ (Kd.V_elder' (HL210_0.1) (Kd.R_base ho0) hb)
      have n2_ := hqZ (Kd.V_elder' (HL211_0.1) (Kd.R_base ho0) hb)
      have n3_ := hqZ (Kd.R_lower (Kd.R_newM (M := fun k_ => (w.heap.size ≤ k_)) ho0 (zl0 (w := w) (g := g) (row := none) (HK.1)) (fun k_ h_ => h_)) (zl0 (w := w) (g := g) (row := none) (HK.1)))
      have n4_ := hqZ (zc0 (g := gb190) (o := .cells #[.slice none 0 0] 26 (0, 0)) (BK190.1) hb)
      have n5_ := hqZ (zc0 (g := gb196) (o := .cells #[.slice (some ad210) x197000_1.length co64] 26 (0, 0)) (BK196.1) hb)
      have n6_ := hqZ (IsS46.below (HI0.1) hb)
      have n7_ := hqZ (Kd.C_below (by repeat (first | (with_reducible exact HR210_0.1) | (with_reducible refine Kd.C_alloc ?_ _) | (with_reducible refine Kd.C_drewN ?_ _) | (with_reducible refine Kd.C_drew ?_) | exact HR210_0.1)) hb)
      have n8_ := hqZ (Kd.C_below (by repeat (first | (with_reducible exact HR211_0.1) | (with_reducible refine Kd.C_alloc ?_ _) | (with_reducible refine Kd.C_drewN ?_ _) | (with_reducible refine Kd.C_drew ?_) | exact HR211_0.1)) hb)
      have n9_ := hqZ (zg0.trans (HK.1) (zg0.of_below hb g none) (.inl rfl))
      have n10_ := hqZ (za0 (HB.1) hb)
      clear HO_197000 HL210_0 HL211_0 BK190 BK196 HI0 HR210_0 HR211_0 HK HB
      have HO_197000 := n0_
      have HL210_0 := n1_
      have HL211_0 := n2_
      have HO214 := n3_
      have BK190 := n4_
      have BK196 := n5_
      have HI0 := n6_
      have HR210_0 := n7_
      have HR211_0 := n8_
      have HK := n9_
      have HB := n10_
      clear n0_ n1_ n2_ n3_ n4_ n5_ n6_ n7_ n8_ n9_ n10_
      (try clear hb)
      (try clear hb2)
      (try clear hk)
      (try clear hi)
      (try clear ho0)
      refine hK.out _ _ ⟨(zh0 BK196.1 0).trans rfl, HS1_⟩ (fun hHeld => ?_)
      clear hK K
      refine norm_ (a' := ?_) ?_ ?_
      rotate_left
      ·show Act.put _ (some 59) _ = _; simp only [Act.put, zA, zB, zC, i64_w, i32_w]; rfl
      refine one_ (i := 10) (N := some 61) (bf 14 2047) rfl rfl (one_of HT_.1 (by kernel_rfl)) (by decide) (fun K hK => ?_)
      refine Kd.R_lit_step (Kd.int .i64) _ 3 ?hg (N := 61) ?hd (xs := ([t197] : List Int)) (inner := [.int .i64 t197]) (ok := fun _ => True) (okp := fun _ => True) ?hr ?hp (fun _ hk => hk) trivial (Below.refl _ _) (Nat.le_refl _) (by simp) ?_; (case hd | hg => rfl); (case hr => go_simp <;> rfl); (case hp => exact (Reps.one (show Kd.M (Kd.int .i64) _ _ _ t197 [.int .i64 t197] from rfl) (Reps.none _ _)))
      intro v216 w67 ho68 hb hg_ hnew_
      have HS1_ := (hb.cell (World.block_lt_of_cell? _ _ (hHeld.2))).trans (hHeld.2)
      clear hg_ hnew_
      (first | rw [← Ny215.1] at ho68 | (simp only [Int.reduceToNat] at ho68; rw [← Ny215.1] at ho68))
      have n0_ := hqZ (Kd.N_elder' (HO_197000.1) (Kd.R_base ho68) hb)
      have n1_ := hqZ (Kd.V_elder' (HL210_0.1) (Kd.R_base ho68) hb)
      have n2_ := hqZ (Kd.V_elder' (HL211_0.1) (Kd.R_base ho68) hb)
      have n3_ := hqZ (Kd.R_elder' (HO214.1) (Kd.R_base ho68) hb)
      have n4_ := hqZ (Kd.R_lower (Kd.R_new' (Kd.R_newM (M := fun k_ => (w.heap.size ≤ k_)) ho68 (zl0 (w := w) (g := g) (row := none) (HK.1)) (fun k_ h_ => h_)) (Kd.R_lt (HO214.1))) (zl0 (w := w) (g := g) (row := none) (HK.1)))
      have n5_ := hqZ (zc0 (g := gb190) (o := .cells #[.slice none 0 0] 26 (0, 0)) (BK190.1) hb)
      have n6_ := hqZ (zc0 (g := gb196) (o := .cells #[.slice (some ad210) x197000_1.length co64] 26 (0, 0)) (BK196.1) hb)
      have n7_ := hqZ (IsS46.below (HI0.1) hb)
      have n8_ := hqZ (Kd.C_below (by repeat (first | (with_reducible exact HR210_0.1) | (with_reducible refine Kd.C_alloc ?_ _) | (with_reducible refine Kd.C_drewN ?_ _) | (with_reducible refine Kd.C_drew ?_) | exact HR210_0.1)) hb)
      have n9_ := hqZ (Kd.C_below (by repeat (first | (with_reducible exact HR211_0.1) | (with_reducible refine Kd.C_alloc ?_ _) | (with_reducible refine Kd.C_drewN ?_ _) | (with_reducible refine Kd.C_drew ?_) | exact HR211_0.1)) hb)
      have n10_ := hqZ (zg0.trans (HK.1) (zg0.of_below hb g none) (.inl rfl))
      have n11_ := hqZ (za0 (HB.1) hb)
      clear HO_197000 HL210_0 HL211_0 HO214 BK190 BK196 HI0 HR210_0 HR211_0 HK HB
      have HO_197000 := n0_
      have HL210_0 := n1_
      have HL211_0 := n2_
      have HO214 := n3_
      have HO217 := n4_
      have BK190 := n5_
      have BK196 := n6_
      have HI0 := n7_
      have HR210_0 := n8_
      have HR211_0 := n9_
      have HK := n10_
      have HB := n11_
      clear n0_ n1_ n2_ n3_ n4_ n5_ n6_ n7_ n8_ n9_ n10_ n11_ hb ho68
      refine hK.out _ _ ⟨(zh0 BK196.1 0).trans rfl, HS1_⟩ (fun hHeld => ?_)
      clear hK K
      refine norm_ (a' := ?_) ?_ ?_
      rotate_left
      ·show Act.put _ (some 61) _ = _; simp only [Act.put, zA, zB, zC, i64_w, i32_w]; rfl
      exact norm_ (by simp only [putAll, Act.put, zA, zB, zC]) (hCont (v213, v216) _ ⟨hHeld, (Kd.V_mono HL210_0.1 (fun _ hk => ⟨hk.1.1.1.1, ⟨hk.1.2, ⟨hk.2, ⟨hk.1.1.2, ⟨hk.1.1.1.2.2.2, ⟨hk.1.1.1.2.1, hk.1.1.1.2.2.1⟩⟩⟩⟩⟩⟩)), (Kd.V_mono HL211_0.1 (fun _ hk => ⟨hk.1.1.1.1, ⟨hk.1.2, ⟨hk.2, ⟨hk.1.1.2, ⟨hk.1.1.1.2.2.2, ⟨hk.1.1.1.2.1, hk.1.1.1.2.2.1⟩⟩⟩⟩⟩⟩)), (Kd.R_mono HO214.1 (fun _ hk => ⟨hk.1.1, hk.2⟩)), (Kd.R_mono HO217.1 (fun _ hk => ⟨hk.1.1, hk.2⟩)), (Kd.N_mono HO_197000.1 (fun _ hk => ⟨hk.1.1.1, ⟨hk.1.2, ⟨hk.2, ⟨hk.1.1.2.2.2, ⟨hk.1.1.2.1, hk.1.1.2.2.1⟩⟩⟩⟩⟩)), (BK190.1), (BK196.1), (HI0.1), (HK.1), (HB.1)⟩)
     ·skip
      refine Kd.R_lit_step (Kd.int .i64) _ 3 ?hg (N := 61) ?hd (xs := ([t197] : List Int)) (inner := [.int .i64 t197]) (ok := fun _ => True) (okp := fun _ => True) ?hr ?hp (fun _ hk => hk) trivial (Below.refl _ _) (Nat.le_refl _) (by simp) ?_; (case hd | hg => rfl); (case hr => go_simp <;> rfl); (case hp => exact (Reps.one (show Kd.M (Kd.int .i64) _ _ _ t197 [.int .i64 t197] from rfl) (Reps.none _ _)))
      intro v216 w66 ho67 hb hg_ hnew_
      have HS1_ := (hb.cell (World.block_lt_of_cell? _ _ (hHeld.2))).trans (hHeld.2)
      clear hg_ hnew_
      (first | rw [← Ny215.1] at ho67 | (simp only [Int.reduceToNat] at ho67; rw [← Ny215.1] at ho67))
      have n0_ := hqZ (Kd.N_elder' (HO_197000.1) (Kd.R_base ho67) hb)
      have n1_ := hqZ (Kd.V_elder' (HL210_0.1) (Kd.R_base ho67) hb)
      have n2_ := hqZ (Kd.V_elder' (HL211_0.1) (Kd.R_base ho67) hb)
      have n3_ := hqZ (Kd.R_lower (Kd.R_newM (M := fun k_ => (w.heap.size ≤ k_)) ho67 (zl0 (w := w) (g := g) (row := none) (HK.1)) (fun k_ h_ => h_)) (zl0 (w := w) (g := g) (row := none) (HK.1)))
      have n4_ := hqZ (zc0 (g := gb190) (o := .cells #[.slice none 0 0] 26 (0, 0)) (BK190.1) hb)
      have n5_ := hqZ (zc0 (g := gb196) (o := .cells #[.slice (some ad210) x197000_1.length co64] 26 (0, 0)) (BK196.1) hb)
      have n6_ := hqZ (IsS46.below (HI0.1) hb)
      have n7_ := hqZ (Kd.C_below (by repeat (first | (with_reducible exact HR210_0.1) | (with_reducible refine Kd.C_alloc ?_ _) | (with_reducible refine Kd.C_drewN ?_ _) | (with_reducible refine Kd.C_drew ?_) | exact HR210_0.1)) hb)
      have n8_ := hqZ (Kd.C_below (by repeat (first | (with_reducible exact HR211_0.1) | (with_reducible refine Kd.C_alloc ?_ _) | (with_reducible refine Kd.C_drewN ?_ _) | (with_reducible refine Kd.C_drew ?_) | exact HR211_0.1)) hb)
      have n9_ := hqZ (zg0.trans (HK.1) (zg0.of_below hb g none) (.inl rfl))
      have n10_ := hqZ (za0 (HB.1) hb)
      clear HO_197000 HL210_0 HL211_0 BK190 BK196 HI0 HR210_0 HR211_0 HK HB
      have HO_197000 := n0_
      have HL210_0 := n1_
      have HL211_0 := n2_
      have HO217 := n3_
      have BK190 := n4_
      have BK196 := n5_
      have HI0 := n6_
      have HR210_0 := n7_
      have HR211_0 := n8_
      have HK := n9_
      have HB := n10_
      clear n0_ n1_ n2_ n3_ n4_ n5_ n6_ n7_ n8_ n9_ n10_ hb ho67
      refine hK.out _ _ ⟨(zh0 BK196.1 0).trans rfl, HS1_⟩ (fun hHeld => ?_)
      clear hK K
      refine norm_ (a' := ?_) ?_ ?_
      rotate_left
      ·show Act.put _ (some 61) _ = _; simp only [Act.put, zA, zB, zC, i64_w, i32_w]; rfl
      refine one_ (i := 8) (N := some 59) (bf 14 2047) rfl rfl (one_of HT_.1 (by kernel_rfl)) (by decide) (fun K hK => ?_)
      refine goes_ Try.func42 (by kernel_rfl) rfl #[.slice A211_0 (rd_L2 x197000_1 x17_1).length c211_0] (by rfl) rfl rfl (by simp only [hqa, hqb, hqc]; rfl) ?_
      with_reducible refine (ym1.calls _ _ (rd_L2 x197000_1 x17_1) t212 _ ?side1 ?side2 A58.1).mono ?_
      (case side1 => repeat (first | exact (by repeat (first | (with_reducible exact HR211_0.1) | (with_reducible refine Kd.C_alloc ?_ _) | (with_reducible refine Kd.C_drewN ?_ _) | (with_reducible refine Kd.C_drew ?_) | exact HR211_0.1)) | (with_reducible refine Kd.C_alloc ?_ _) | (with_reducible refine Kd.C_drewN ?_ _) | (with_reducible refine Kd.C_drew ?_)))
      (case side2 => exact HC211_0.1)
      rintro e w68 ⟨v213, rfl, ho0, hb⟩
      have HS1_ := (hb.cell (World.block_lt_of_cell? _ _ (hHeld.2))).trans (hHeld.2)
      refine ⟨_, rfl, ?_⟩
      have n0_ := hqZ (Kd.N_elder' (HO_197000.1) (Kd.R_base ho0) hb)
      have n1_ := hqZ (Kd.V_elder' (HL210_0.1) (Kd.R_base ho0) hb)
      have n2_ := hqZ (Kd.V_elder' (HL211_0.1) (Kd.R_base ho0) hb)
      have n3_ := hqZ (Kd.R_elder' (HO217.1) (Kd.R_base ho0) hb)
      have n4_ := hqZ (Kd.R_lower (Kd.R_new' (Kd.R_newM (M := fun k_ => (w.heap.size ≤ k_)) ho0 (zl0 (w := w) (g := g) (row := none) (HK.1)) (fun k_ h_ => h_)) (Kd.R_lt (HO217.1))) (zl0 (w := w) (g := g) (row := none) (HK.1)))
      have n5_ := hqZ (zc0 (g := gb190) (o := .cells #[.slice none 0 0] 26 (0, 0)) (BK190.1) hb)
      have n6_ := hqZ (zc0 (g := gb196) (o := .cells #[.slice (some ad210) x197000_1.length co64] 26 (0, 0)) (BK196.1) hb)
      have n7_ := hqZ (IsS46.below (HI0.1) hb)
      have n8_ := hqZ (Kd.C_below (by repeat (first | (with_reducible exact HR210_0.1) | (with_reducible refine Kd.C_alloc ?_ _) | (with_reducible refine Kd.C_drewN ?_ _) | (with_reducible refine Kd.C_drew ?_) | exact HR210_0.1)) hb)
      have n9_ := hqZ (Kd.C_below (by repeat (first | (with_reducible exact HR211_0.1) | (with_reducible refine Kd.C_alloc ?_ _) | (with_reducible refine Kd.C_drewN ?_ _) | (with_reducible refine Kd.C_drew ?_) | exact HR211_0.1)) hb)
      have n10_ := hqZ (zg0.trans (HK.1) (zg0.of_below hb g none) (.inl rfl))
      have n11_ := hqZ (za0 (HB.1) hb)
      clear HO_197000 HL210_0 HL211_0 HO217 BK190 BK196 HI0 HR210_0 HR211_0 HK HB
      have HO_197000 := n0_
      have HL210_0 := n1_
      have HL211_0 := n2_
      have HO217 := n3_
      have HO214 := n4_
      have BK190 := n5_
      have BK196 := n6_
      have HI0 := n7_
      have HR210_0 := n8_
      have HR211_0 := n9_
      have HK := n10_
      have HB := n11_
      clear n0_ n1_ n2_ n3_ n4_ n5_ n6_ n7_ n8_ n9_ n10_ n11_
      (try clear hb)
      (try clear hb2)
      (try clear hk)
      (try clear hi)
      (try clear ho0)
      refine hK.out _ _ ⟨(zh0 BK196.1 0).trans rfl, HS1_⟩ (fun hHeld => ?_)
      clear hK K
      refine norm_ (a' := ?_) ?_ ?_
      rotate_left
      ·show Act.put _ (some 59) _ = _; simp only [Act.put, zA, zB, zC, i64_w, i32_w]; rfl
      exact norm_ (by simp only [putAll, Act.put, zA, zB, zC]) (hCont (v213, v216) _ ⟨hHeld, (Kd.V_mono HL210_0.1 (fun _ hk => ⟨hk.1.1.1.1, ⟨hk.2, ⟨hk.1.2, ⟨hk.1.1.2, ⟨hk.1.1.1.2.2.2, ⟨hk.1.1.1.2.1, hk.1.1.1.2.2.1⟩⟩⟩⟩⟩⟩)), (Kd.V_mono HL211_0.1 (fun _ hk => ⟨hk.1.1.1.1, ⟨hk.2, ⟨hk.1.2, ⟨hk.1.1.2, ⟨hk.1.1.1.2.2.2, ⟨hk.1.1.1.2.1, hk.1.1.1.2.2.1⟩⟩⟩⟩⟩⟩)), (Kd.R_mono HO214.1 (fun _ hk => ⟨hk.1.1, hk.2⟩)), (Kd.R_mono HO217.1 (fun _ hk => ⟨hk.1.1, hk.2⟩)), (Kd.N_mono HO_197000.1 (fun _ hk => ⟨hk.1.1.1, ⟨hk.2, ⟨hk.1.2, ⟨hk.1.1.2.2.2, ⟨hk.1.1.2.1, hk.1.1.2.2.1⟩⟩⟩⟩⟩)), (BK190.1), (BK196.1), (HI0.1), (HK.1), (HB.1)⟩)
    rintro ⟨v213, v216⟩ w69 ⟨hS_, h0_, h1_, h2_, h3_, h4_, h5_, h6_, h7_, h8_, h9_⟩
    have n0_ : zi0 (Kd.V (Kd.int .i64) 3 w69 w.heap.size (fun k_ => (w.heap.size ≤ k_) ∧ some k_ ≠ (v213 : Value).ownBlock ∧ some k_ ≠ (v216 : Value).ownBlock ∧ some k_ ≠ (.slice (some ad210) x197000_1.length co64 : Value).ownBlock ∧ k_ ≠ g ∧ k_ ≠ gb190 ∧ k_ ≠ gb196) (.slice A210_0 (rd_L2 x197000_1 x17_1).length c210_0) (rd_L2 x197000_1 x17_1)) := ⟨h0_⟩
    have n1_ : zi0 (Kd.V (Kd.int .i64) 3 w69 w.heap.size (fun k_ => (w.heap.size ≤ k_) ∧ some k_ ≠ (v213 : Value).ownBlock ∧ some k_ ≠ (v216 : Value).ownBlock ∧ some k_ ≠ (.slice (some ad210) x197000_1.length co64 : Value).ownBlock ∧ k_ ≠ g ∧ k_ ≠ gb190 ∧ k_ ≠ gb196) (.slice A211_0 (rd_L2 x197000_1 x17_1).length c211_0) (rd_L2 x197000_1 x17_1)) := ⟨h1_⟩
    have n2_ : zi0 (Kd.R (Kd.int .i64) 3 w69 w.heap.size (fun k_ => (w.heap.size ≤ k_) ∧ some k_ ≠ (v216 : Value).ownBlock) v213 t212) := ⟨h2_⟩
    have n3_ : zi0 (Kd.R (Kd.int .i64) 3 w69 w.heap.size (fun k_ => (w.heap.size ≤ k_) ∧ some k_ ≠ (v213 : Value).ownBlock) v216 y215) := ⟨h3_⟩
    have n4_ : zi0 (Kd.N (Kd.slice 3 (Kd.int .i64)) 27 w69 w.heap.size (fun k_ => (w.heap.size ≤ k_) ∧ some k_ ≠ (v213 : Value).ownBlock ∧ some k_ ≠ (v216 : Value).ownBlock ∧ k_ ≠ g ∧ k_ ≠ gb190 ∧ k_ ≠ gb196) (.slice (some ad210) x197000_1.length co64) x197000_1) := ⟨h4_⟩
    have n5_ : zi0 (w69.heap[gb190]? = some (.cells #[.slice none 0 0] 26 (0, 0))) := ⟨h5_⟩
    have n6_ : zi0 (w69.heap[gb196]? = some (.cells #[.slice (some ad210) x197000_1.length co64] 26 (0, 0))) := ⟨h6_⟩
    have n7_ : zi0 (IsS46 w0 w69 g s0_0 x1001_13 x1002_13) := ⟨h7_⟩
    have n8_ : zi0 (zg0 w w69 g none) := ⟨h8_⟩
    have n9_ : zi0 (Below w0.heap.size w0 w69) := ⟨h9_⟩
    clear HO_197000 HL210_0 BK190 BK196 HR210_0 HI0 HK HB h0_ h1_ h2_ h3_ h4_ h5_ h6_ h7_ h8_ h9_
    have HL210_0 := n0_
    have HL211_0 := n1_
    have HO214 := n2_
    have HO217 := n3_
    have HO_197000 := n4_
    have BK190 := n5_
    have BK196 := n6_
    have HI0 := n7_
    have HK := n8_
    have HB := n9_
    clear n0_ n1_ n2_ n3_ n4_ n5_ n6_ n7_ n8_ n9_
    have hHeld : w69.cell? ⟨gb196, 0, none⟩ = some (.slice (some ad210) x197000_1.length co64) ∧ w69.cell? (ad210.add (x17_1).toNat) = some (.slice A211_0 (rd_L2 x197000_1 x17_1).length c211_0) := hS_
    obtain ⟨Ao71, co71, eo71⟩ := Kd.R_slice HO217.1
    (first | subst eo71 | (injection eo71 with f1_ f2_ f3_; have f4_ := f1_.symm; have f5_ := f3_.symm; clear f1_ f2_ f3_; subst f4_; subst f5_))
    refine norm_ (a' := ?_) ?_ ?_
    rotate_left
    ·simp only [putAll, Act.put, zA, zB, zC]
     rfl
    refine one_ (i := 11) (N := some 62) (bf 14 4095) rfl rfl (one_of HT_.1 (by kernel_rfl)) (by decide) (fun K hK => ?_)
    refine Kd.R_append_rows_step (Kd.int .i64) w.heap.size (by rfl) (.tmp 59) (.tmp 61) 27 3 (.int .i64 0) 8 rfl Try.underlying27 info3 rfl (by decide) (by omega) v213 t212 y215 _ _ _ (fun k_ => (w.heap.size ≤ k_) ∧ some k_ ≠ (.slice Ao71 y215.length co71 : Value).ownBlock) (fun _ => False) rfl rfl ?aO ?aR (fun _ _ h => h) (fun _ h => h.elim) ?aF (Below.refl _ _) ?aS ?aL ?_
    (case aR => exact (Kd.R_reads' HO217.1).2.2)
    (case aF => exact (fun k_ hk => ⟨(Nat.le_trans (zl0 (w := w) (g := g) (row := none) (HK.1)) hk), Kd.fresh' (Kd.R_lt (HO217.1)) k_ hk⟩))
    (case aO => exact (HO214.1))
    (case aS => exact (zl0 (w := w) (g := g) (row := none) (HK.1)))
    (case aL => have := LMc59.1; omega)
    intro v219 w70 ho hb hg hat
    have HS1_ := World.grownBy.cell hg (hHeld.2) (by first | (rw [add_block]; exact Kd.R_ne HO214.1 (Kd.N_typed HO_197000.1 _ rfl).choose_spec (by decide)) | exact Kd.R_ne HO214.1 (Kd.N_typed HO_197000.1 _ rfl).choose_spec (by decide) | exact (fun e_ => absurd (HO214.1.1 _ e_.symm).1 (Nat.not_le_of_lt (World.block_lt_of_cell? _ _ (hx211_0)))))
    rw [← Ny218.1] at ho
    have n0_ := hqZ (Kd.N_afterv (ok := (fun k_ => (w.heap.size ≤ k_) ∧ some k_ ≠ (.slice Ao71 y215.length co71 : Value).ownBlock ∧ k_ ≠ g ∧ k_ ≠ gb190 ∧ k_ ≠ gb196)) (Kd.N_mono HO_197000.1 (fun _ hk => ⟨⟨hk.1, ⟨hk.2.2.1, ⟨hk.2.2.2.1, ⟨hk.2.2.2.2.1, hk.2.2.2.2.2⟩⟩⟩⟩, hk.2.1⟩)) hg hat)
    have n1_ := hqZ (zr0 (g := gb190) (o := .cells #[.slice none 0 0] 26 (0, 0)) (BK190.1) hg (Kd.R_ne HO214.1 BK190.1 (by decide)))
    have n2_ := hqZ (zr0 (g := gb196) (o := .cells #[.slice (some ad210) x197000_1.length co64] 26 (0, 0)) (BK196.1) hg (Kd.R_ne HO214.1 BK196.1 (by decide)))
    have n3_ := hqZ (IsS46.grown (HI0.1) hg (IsS46.own_ne HI0.1 HO214.1 (by decide)))
    have n4_ := hqZ (Kd.V_afterv (ok := (fun k_ => (w.heap.size ≤ k_) ∧ some k_ ≠ (.slice (some ad210) x197000_1.length co64 : Value).ownBlock ∧ some k_ ≠ (.slice Ao71 y215.length co71 : Value).ownBlock ∧ k_ ≠ g ∧ k_ ≠ gb190 ∧ k_ ≠ gb196)) (Kd.V_mono HL210_0.1 (fun _ hk => ⟨⟨hk.1, ⟨hk.2.2.2.1, ⟨hk.2.2.1, ⟨hk.2.2.2.2.1, ⟨hk.2.2.2.2.2.1, hk.2.2.2.2.2.2⟩⟩⟩⟩⟩, hk.2.1⟩)) hg hat)
    have n5_ := hqZ (Kd.V_afterv (ok := (fun k_ => (w.heap.size ≤ k_) ∧ some k_ ≠ (.slice (some ad210) x197000_1.length co64 : Value).ownBlock ∧ some k_ ≠ (.slice Ao71 y215.length co71 : Value).ownBlock ∧ k_ ≠ g ∧ k_ ≠ gb190 ∧ k_ ≠ gb196)) (Kd.V_mono HL211_0.1 (fun _ hk => ⟨⟨hk.1, ⟨hk.2.2.2.1, ⟨hk.2.2.1, ⟨hk.2.2.2.2.1, ⟨hk.2.2.2.2.2.1, hk.2.2.2.2.2.2⟩⟩⟩⟩⟩, hk.2.1⟩)) hg hat)
    have n6_ := hqZ (Kd.R_after (ok := (fun k_ => (w.heap.size ≤ k_))) (HO217.1) hg hat)
    have n7_ := hqZ (below_weaken (HB.1) HL.1 hb)
    have n8_ := hqZ (zg0.trans (HK.1) (zg0.of_grown hg g) (Kd.R_base2 HO214.1))
    have n9_ := hqZ (ho)
    clear HO_197000 BK190 BK196 HI0 HL210_0 HL211_0 HO217 HB HK HO214
    have HO_197000 := n0_
    have BK190 := n1_
    have BK196 := n2_
    have HI0 := n3_
    have HL210_0 := n4_
    have HL211_0 := n5_
    have HO217 := n6_
    have HB := n7_
    have HK := n8_
    have HO220 := n9_
    clear n0_ n1_ n2_ n3_ n4_ n5_ n6_ n7_ n8_ n9_ ho hb hg hat
    have p60 : 0 ≤ (x17_1 : Int) := of_decide_eq_true (by assumption)
    have q60 : (x17_1 : Int) < ((x197000_1.length : Int) : Int) := of_decide_eq_true (by assumption)
    obtain ⟨go60, co60, eo60, gb60, gl60, cl60, HG60⟩ := Kd.N_form HO_197000.1 (by omega)
    (first | cases eo60 | (injection eo60 with ea_ en_ ec_; (first | subst ea_ | (injection ea_ with ea_; subst ea_)); subst ec_; clear en_))
    have GB60 := hqZ gb60
    have GG60 := hqZ HG60
    clear gb60 gl60 HG60
    (first | simp only [add_plain] at hx210_0 | skip)
    (first | simp only [add_plain] at hx211_0 | skip)
    obtain ⟨ce60, hcl60, hM60, hcc60, hfr60⟩ := Kd.N_elem HO_197000.1 [] (x17_1 : Int) p60 q60
    obtain ⟨ua60_0, uc60_0, rfl, ul60_0, ge60_0⟩ := Kd.FK_slice_open hM60
    have hx60_0 := hcc60 0 _ rfl
    have hf60_0 := hfr60 0
    (try simp only [show ((Kd.slice 3 (Kd.int .i64))).sz = 1 from rfl, Nat.mul_one, Nat.add_zero] at hx60_0)
    (try simp only [show ((Kd.slice 3 (Kd.int .i64))).sz = 1 from rfl, Nat.mul_one, Nat.add_zero] at hf60_0)
    (try clear hcl60); (try clear hcc60); (try clear hfr60); (try clear hM60)
    replace p60 := eq_true p60
    replace q60 := eq_true q60
    obtain ⟨Ao72, co72, eo72⟩ := Kd.R_slice HO220.1
    (first | subst eo72 | (injection eo72 with f1_ f2_ f3_; have f4_ := f1_.symm; have f5_ := f3_.symm; clear f1_ f2_ f3_; subst f4_; subst f5_))
    have HN0_go60 := hqZ (show g ≠ go60 from by have h_ := IsS46.own_neN HI0.1 HO_197000.1 (by decide); intro e_; exact h_ (by rw [e_]; rfl))
    have HX73 := hqZ (show Kd.N (Kd.slice 3 (Kd.int .i64)) 27 _ w.heap.size (fun k_ => (w.heap.size ≤ k_) ∧ some k_ ≠ (.slice Ao71 y215.length co71 : Value).ownBlock ∧ some k_ ≠ (.slice Ao72 y218.length co72 : Value).ownBlock ∧ k_ ≠ gb190 ∧ k_ ≠ gb196 ∧ k_ ≠ g) (.slice (some ⟨go60, 0, none⟩) x197000_1.length co64) x197000_1 from (Kd.N_mono (HO_197000.1) (fun k_ hk => ⟨hk.1.1, ⟨hk.1.2.1, ⟨hk.2, ⟨hk.1.2.2.2.1, ⟨hk.1.2.2.2.2, hk.1.2.2.1⟩⟩⟩⟩⟩)))
    replace HX73 := hqZ (show Kd.N (Kd.slice 3 (Kd.int .i64)) 27 _ w.heap.size (fun k_ => (w.heap.size ≤ k_) ∧ some k_ ≠ (.slice Ao71 y215.length co71 : Value).ownBlock ∧ k_ ≠ gb190 ∧ k_ ≠ gb196 ∧ k_ ≠ g) (.slice (some ⟨go60, 0, none⟩) x197000_1.length co64) x197000_1 from Kd.N_mono HX73.1 (fun k_ hk => ⟨hk.1, ⟨hk.2.1, ⟨hk.2.2.2.1, ⟨hk.2.2.2.2.1, hk.2.2.2.2.2⟩⟩⟩⟩))
    obtain ⟨ce73, hcl73, hM73, hcc73, hfr73⟩ := Kd.N_elem HX73.1 [] (x17_1 : Int) (of_decide_eq_true (by assumption)) (by have h_ : (x17_1 : Int) < ((x197000_1.length : Int) : Int) := of_decide_eq_true (by assumption); first | exact h_ | (have e_ := (Kd.N_reads' HO_197000.1).1; omega) | simpa using h_)
    obtain ⟨ua73_0, uc73_0, rfl, ul73_0, ge73_0⟩ := Kd.FK_slice_open hM73
    have HP73 := (Kd.N_seg HX73.1 (x17_1 : Int) (of_decide_eq_true (by assumption)) (by have h_ : (x17_1 : Int) < ((x197000_1.length : Int) : Int) := of_decide_eq_true (by assumption); first | exact h_ | (have e_ := (Kd.N_reads' HO_197000.1).1; omega) | simpa using h_) (seg := [.slice Ao72 y218.length co72]) (j := 0) hcl73 hcc73 (show 1 ≤ 1 from by decide) (x' := y218) (Kd.FK_slice_mk (Kd.R_reads' (Kd.R_mono (ok' := (fun k_ => ((fun k_ => (w.heap.size ≤ k_) ∧ some k_ ≠ (.slice Ao71 y215.length co71 : Value).ownBlock ∧ k_ ≠ gb190 ∧ k_ ≠ gb196 ∧ k_ ≠ g)) k_ ∧ k_ ≠ go60)) (IsS46.apart HI0.1 (Kd.R_types (Kd.R_types (Kd.R_apart' (HO220.1) (Kd.N_typed HO_197000.1) (by decide)) BK190.1 (by decide)) BK196.1 (by decide)) (by decide)) (fun k_ hk => ⟨⟨hk.1.1.1.1.1, ⟨hk.1.1.1.1.2, ⟨hk.1.1.2, ⟨hk.1.2, hk.2⟩⟩⟩⟩, fun e_ => (hk.1.1.1.2) (by rw [e_]; rfl)⟩))).2.1 (Kd.R_F (Kd.R_mono (ok' := (fun k_ => ((fun k_ => (w.heap.size ≤ k_) ∧ some k_ ≠ (.slice Ao71 y215.length co71 : Value).ownBlock ∧ k_ ≠ gb190 ∧ k_ ≠ gb196 ∧ k_ ≠ g)) k_ ∧ k_ ≠ go60)) (IsS46.apart HI0.1 (Kd.R_types (Kd.R_types (Kd.R_apart' (HO220.1) (Kd.N_typed HO_197000.1) (by decide)) BK190.1 (by decide)) BK196.1 (by decide)) (by decide)) (fun k_ hk => ⟨⟨hk.1.1.1.1.1, ⟨hk.1.1.1.1.2, ⟨hk.1.1.2, ⟨hk.1.2, hk.2⟩⟩⟩⟩, fun e_ => (hk.1.1.1.2) (by rw [e_]; rfl)⟩)))) (fun _ hk => hk)).1
    (try simp only [show ((Kd.slice 3 (Kd.int .i64))).sz = 1 from rfl, Nat.mul_one, Nat.add_zero] at HP73)
    rw [← Ny221.1] at HP73
    have HQ73 := hqZ HP73
    (try clear hcl73); (try clear hcc73); (try clear hfr73); (try clear hM73); (try clear HP73)
    refine hK.out _ _ ⟨(zh0 BK196.1 0).trans rfl, HS1_⟩ (fun hHeld => ?_)
    clear hK K
    refine norm_ (a' := ?_) ?_ ?_
    rotate_left
    ·show Act.put _ (some 62) _ = _; simp only [Act.put, zA, zB, zC, i64_w, i32_w]; rfl
    refine pure_ (i := 12) (N := some 63) (v := ?_) (a' := ?_) (bf 14 8191) rfl rfl (zm0 HT_.1 (by kernel_rfl)) (fun _ _ _ h => h) (Or.inl ⟨by rfl, ?_⟩) ?_ ?_
    rotate_left
    ·intro w'; go_simp; with_reducible rfl
    rotate_left
    ·simp only [Act.put, zA, zB, zC, i64_w, i32_w]; rfl
    refine last_ (i := 13) (N := none) (bf 14 16383) rfl rfl (one_of HT_.1 (by kernel_rfl)) (by decide) (fun K hK => ?_)
    refine skip_ (w1 := ?_) (by rfl) rfl ?_ ?_
    rotate_left
    ·go_simp
     rfl
    refine hK.out _ _ ?_
    clear hK K
    refine done_ (done_of HT_.1 (by kernel_rfl)) ?_
    try go_wp2
    go_roundg kj13
    case measure => have := HK1.1; have := HJ13.1; omega
    case rel => exact ⟨(wrap64 (x17_1 + 1)), (x1001_13), (x1002_13), (y221), (.slice (some ⟨go60, 0, none⟩) x197000_1.length co64), (rfl), H', ⟨by have := HK1.1; have := HJ13.1; omega⟩, ⟨Kd.N_mono HQ73.1 (fun _ hk => ⟨hk.1, ⟨hk.2.2.1, ⟨hk.2.2.2.1, hk.2.2.2.2⟩⟩⟩)⟩, ⟨by refine blk_far ?_ (by first | (have h_ := Kd.N_away HO_197000.1 (fun _ hk => hk.2.2.1); intro e_; exact h_ (by rw [e_]; rfl)) | (have h_ := Kd.N_away HO_197000.1 (fun _ hk => hk.1.2.1); intro e_; exact h_ (by rw [e_]; rfl)) | (have h_ := Kd.N_away HO_197000.1 (fun _ hk => hk.1.2); intro e_; exact h_ (by rw [e_]; rfl)) | (have h_ := Kd.N_away HO_197000.1 (fun _ hk => hk.1.2.2.1); intro e_; exact h_ (by rw [e_]; rfl)) | (have h_ := Kd.N_away HO_197000.1 (fun _ hk => hk.1.2.2); intro e_; exact h_ (by rw [e_]; rfl)) | (have h_ := Kd.N_away HO_197000.1 (fun _ hk => hk.1.2.2.2.1); intro e_; exact h_ (by rw [e_]; rfl)) | (have h_ := Kd.N_away HO_197000.1 (fun _ hk => hk.1.2.2.2); intro e_; exact h_ (by rw [e_]; rfl)) | (have h_ := Kd.N_away HO_197000.1 (fun _ hk => hk.1.2.2.2.2.1); intro e_; exact h_ (by rw [e_]; rfl)) | (have h_ := Kd.N_away HO_197000.1 (fun _ hk => hk.1.2.2.2.2); intro e_; exact h_ (by rw [e_]; rfl)) | (have h_ := Kd.N_away HO_197000.1 (fun _ hk => hk.1.2.2.2.2.2.1); intro e_; exact h_ (by rw [e_]; rfl)) | (have h_ := Kd.N_away HO_197000.1 (fun _ hk => hk.1.2.2.2.2.2); intro e_; exact h_ (by rw [e_]; rfl)) | (have h_ := Kd.N_away HO_197000.1 (fun _ hk => hk.1.1.2.1); intro e_; exact h_ (by rw [e_]; rfl)) | (have h_ := Kd.N_away HO_197000.1 (fun _ hk => hk.1.1.2); intro e_; exact h_ (by rw [e_]; rfl)) | (have h_ := Kd.N_away HO_197000.1 (fun _ hk => hk.1.1.2.2.1); intro e_; exact h_ (by rw [e_]; rfl)) | (have h_ := Kd.N_away HO_197000.1 (fun _ hk => hk.1.1.2.2); intro e_; exact h_ (by rw [e_]; rfl)) | (have h_ := Kd.N_away HO_197000.1 (fun _ hk => hk.1.1.2.2.2.1); intro e_; exact h_ (by rw [e_]; rfl)) | (have h_ := Kd.N_away HO_197000.1 (fun _ hk => hk.1.1.2.2.2); intro e_; exact h_ (by rw [e_]; rfl)) | (have h_ := Kd.N_away HO_197000.1 (fun _ hk => hk.1.1.2.2.2.2.1); intro e_; exact h_ (by rw [e_]; rfl)) | (have h_ := Kd.N_away HO_197000.1 (fun _ hk => hk.1.1.2.2.2.2); intro e_; exact h_ (by rw [e_]; rfl)) | (have h_ := Kd.N_away HO_197000.1 (fun _ hk => hk.1.1.2.2.2.2.2.1); intro e_; exact h_ (by rw [e_]; rfl)) | (have h_ := Kd.N_away HO_197000.1 (fun _ hk => hk.1.1.2.2.2.2.2); intro e_; exact h_ (by rw [e_]; rfl))) _; exact BK190.1⟩, ⟨by refine blk_far ?_ (by first | (have h_ := Kd.N_away HO_197000.1 (fun _ hk => hk.2.2.2.1); intro e_; exact h_ (by rw [e_]; rfl)) | (have h_ := Kd.N_away HO_197000.1 (fun _ hk => hk.1.2.1); intro e_; exact h_ (by rw [e_]; rfl)) | (have h_ := Kd.N_away HO_197000.1 (fun _ hk => hk.1.2); intro e_; exact h_ (by rw [e_]; rfl)) | (have h_ := Kd.N_away HO_197000.1 (fun _ hk => hk.1.2.2.1); intro e_; exact h_ (by rw [e_]; rfl)) | (have h_ := Kd.N_away HO_197000.1 (fun _ hk => hk.1.2.2); intro e_; exact h_ (by rw [e_]; rfl)) | (have h_ := Kd.N_away HO_197000.1 (fun _ hk => hk.1.2.2.2.1); intro e_; exact h_ (by rw [e_]; rfl)) | (have h_ := Kd.N_away HO_197000.1 (fun _ hk => hk.1.2.2.2); intro e_; exact h_ (by rw [e_]; rfl)) | (have h_ := Kd.N_away HO_197000.1 (fun _ hk => hk.1.2.2.2.2.1); intro e_; exact h_ (by rw [e_]; rfl)) | (have h_ := Kd.N_away HO_197000.1 (fun _ hk => hk.1.2.2.2.2); intro e_; exact h_ (by rw [e_]; rfl)) | (have h_ := Kd.N_away HO_197000.1 (fun _ hk => hk.1.2.2.2.2.2.1); intro e_; exact h_ (by rw [e_]; rfl)) | (have h_ := Kd.N_away HO_197000.1 (fun _ hk => hk.1.2.2.2.2.2); intro e_; exact h_ (by rw [e_]; rfl)) | (have h_ := Kd.N_away HO_197000.1 (fun _ hk => hk.1.1.2.1); intro e_; exact h_ (by rw [e_]; rfl)) | (have h_ := Kd.N_away HO_197000.1 (fun _ hk => hk.1.1.2); intro e_; exact h_ (by rw [e_]; rfl)) | (have h_ := Kd.N_away HO_197000.1 (fun _ hk => hk.1.1.2.2.1); intro e_; exact h_ (by rw [e_]; rfl)) | (have h_ := Kd.N_away HO_197000.1 (fun _ hk => hk.1.1.2.2); intro e_; exact h_ (by rw [e_]; rfl)) | (have h_ := Kd.N_away HO_197000.1 (fun _ hk => hk.1.1.2.2.2.1); intro e_; exact h_ (by rw [e_]; rfl)) | (have h_ := Kd.N_away HO_197000.1 (fun _ hk => hk.1.1.2.2.2); intro e_; exact h_ (by rw [e_]; rfl)) | (have h_ := Kd.N_away HO_197000.1 (fun _ hk => hk.1.1.2.2.2.2.1); intro e_; exact h_ (by rw [e_]; rfl)) | (have h_ := Kd.N_away HO_197000.1 (fun _ hk => hk.1.1.2.2.2.2); intro e_; exact h_ (by rw [e_]; rfl)) | (have h_ := Kd.N_away HO_197000.1 (fun _ hk => hk.1.1.2.2.2.2.2.1); intro e_; exact h_ (by rw [e_]; rfl)) | (have h_ := Kd.N_away HO_197000.1 (fun _ hk => hk.1.1.2.2.2.2.2); intro e_; exact h_ (by rw [e_]; rfl))) _; exact BK196.1⟩, ⟨IsS46.far HI0.1 HN0_go60.1 _⟩, ⟨keep_far HK.1 GB60.1 _⟩, ⟨zf0 HB.1 (Nat.le_trans HL.1 GB60.1)⟩⟩
def yw1.f (s0_0 : List Int) (s0_1 : Int) (s0_2 : Int) (l1 : List Int) : Option (Int × Int × Int) := (yu0.f s0_0 s0_1 s0_2 (l1.length : Int)).bind fun bt235 => (if 0 ≤ bt235.1 then (if bt235.1 < (l1.length : Int) then (some (rd l1 bt235.1, bt235.2.1, bt235.2.2)) else (none)) else (none))
theorem yw1.calls (g : Nat) (s0_0 : List Int) (s0_1 : Int) (s0_2 : Int) (A1 : Option Addr) (c1 : Nat) (l1 : List Int) (r1 : Int) (r2 : Int) (r3 : Int) (w0 w : World) (hI : IsS46 w0 w g s0_0 s0_1 s0_2) (hB : Below w0.heap.size w0 w) (hr1 : Kd.C (Kd.int .i64) w A1 l1.length l1) (hc1 : l1.length ≤ c1) (hf1 : ∀ ad, A1 = some ad → 0 < l1.length → ad.block ≠ g) (h : yw1.f s0_0 s0_1 s0_2 l1 = some (r1, r2, r3)) :
  Calls Try.prog 56 #[.pointer (some ⟨g, 0, none⟩), .slice A1 l1.length c1] w fun e w' => e = .returned (.int .i64 r1) ∧ IsS46 w0 w' g s0_0 r2 r3 ∧ Below w0.heap.size w0 w' ∧ zg0 w w' g none := by
 have HR1 := hqZ hr1
 have HC1 := hqZ hc1
 clear hr1 hc1
 have HI0 := hqZ hI
 have HK := hqZ (zg0.refl w g none)
 have HL := hqZ hB.size
 clear hI
 have HW0 := hqZ hB.size
 have HB := hqZ hB
 clear hB
 have H : ((yu0.f s0_0 s0_1 s0_2 (l1.length : Int)).bind fun bt235 => (if 0 ≤ bt235.1 then (if bt235.1 < (l1.length : Int) then (some (rd l1 bt235.1, bt235.2.1, bt235.2.2)) else (none)) else (none))) = some (r1, r2, r3) := h
 clear h
 replace H := Option.bind_eq_some_iff.mp H
 obtain ⟨⟨t235, t236, t237⟩, A30, H⟩ := H
 try dsimp only at H
 have A3 := hqZ A30
 clear A30
 by_cases c4 : 0 ≤ t235
 rotate_left
 ·rw [if_neg c4] at H
  exact absurd H (by simp)
 rw [if_pos c4] at H
 have c4b0 : decide (0 ≤ t235) = true := decide_eq_true c4
 clear c4
 by_cases c5 : t235 < (l1.length : Int)
 rotate_left
 ·rw [if_neg c5] at H
  exact absurd H (by simp)
 rw [if_pos c5] at H
 have c5b0 : decide (t235 < (l1.length : Int)) = true := decide_eq_true c5
 clear c5
 simp only [Option.some.injEq, Prod.mk.injEq] at H
 obtain ⟨rfl, rfl, rfl⟩ := H
 go_enter Try.func56, Try.ntmps56
 go_wp2_with (first | ((with_reducible refine ze0 (f := 55) rfl ?_); refine zq0 (some 9) rfl rfl Try.func55 (by kernel_rfl) rfl #[.pointer (some ⟨g, 0, none⟩), .int .i64 (l1.length : Int)] rfl (by simp only [hqa, hqb, hqc]; rfl) ?_; (with_reducible refine (yu0.calls g s0_0 s0_1 s0_2 (l1.length : Int) t235 t236 t237 w0 _ ?side1 ?side2 A3.1).mono ?_); (case side1 => repeat (first | exact HI0.1 | apply IsS46.alloc | apply IsS46.drewN | apply IsS46.drew | apply IsS46.set_1 | apply IsS46.set_2)); (case side2 => repeat (first | (with_reducible first | exact HB.1 | apply zn0 | apply zj0 | apply zk0 | refine zf0 ?_ (IsS46.ge HI0.1)) | exact HB.1)); rintro e w6 ⟨rfl, hi, hb, hk⟩; refine ⟨_, rfl, ?_⟩; replace HK := hqZ (zg0.trans (HK.1) hk (.inl rfl)); replace HB := hqZ (hb); replace HI0 := hqZ (hi); clear hb hk hi; have p238 : 0 ≤ (t235 : Int) := of_decide_eq_true (by assumption); have q238 : t235 < (l1.length : Int) := of_decide_eq_true (by assumption); obtain ⟨ad238, e238, hx238_0⟩ := Kd.at_int HR1.1 t235 p238 q238; cases e238; replace hx238_0 := keep_cell HK.1 hx238_0 (by first | (rw [add_block]; exact hf1 _ rfl (by omega)) | exact hf1 _ rfl (by omega) | exact hf1 ad238 rfl (by omega)); replace p238 := eq_true p238; replace q238 := eq_true q238))
 go_ret
 exact ⟨rfl, HI0.1, HB.1, HK.1⟩
def yi0.l0 : Nat → Int → Int → List Int → Int → Int → List Int → Int → Int → List (List Int) → Option ((List (List Int)) × Int × List Int × Int × Int)
 | 0, _, _, _, _, _, _, _, _, _ => none
 | k + 1, x1, x8, x9, x18, x19, x1000, x1001, x1002, x247000 => if x19 < x18 then (if x19 = x8 then ((yt0.f x1000 x1001 x1002 12).bind fun bt247 => (if bt247.1 = true then ((yu0.f x1000 bt247.2.1 bt247.2.2 x1).bind fun bt250 => (if x9.length < 17592186044416 then (yi0.l0 k x1 x8 (x9 ++ [bt250.1]) x18 (wrap64 (x19 + 1)) x1000 bt250.2.1 bt250.2.2 x247000) else (none))) else (if x9.length < 17592186044416 then (yi0.l0 k x1 x8 (x9 ++ [0]) x18 (wrap64 (x19 + 1)) x1000 bt247.2.1 bt247.2.2 x247000) else (none)))) else ((yu0.f x1000 x1001 x1002 x1).bind fun bt259 => (if x9.length < 17592186044416 then (yi0.l0 k x1 x8 (x9 ++ [bt259.1]) x18 (wrap64 (x19 + 1)) x1000 bt259.2.1 bt259.2.2 x247000) else (none)))) else ((yu0.f x1000 x1001 x1002 18).bind fun bt265 => (if bt265.1 = 0 then ((yu0.f x1000 bt265.2.1 bt265.2.2 (x9.length : Int)).bind fun bt268 => ((yw1.f x1000 bt268.2.1 bt268.2.2 (([(-1), 20, 21, 4611686018427387904] : List Int))).bind fun bt274 => (if 0 ≤ bt268.1 then (if bt268.1 < (x9.length : Int) then (some (x247000, x8, (x9.set (bt268.1 : Int).toNat bt274.1), bt274.2.1, bt274.2.2)) else (none)) else (none)))) else (if bt265.1 = 1 then (if x9.length < 17592186044416 then (some (x247000, x8, (x9 ++ [0]), bt265.2.1, bt265.2.2)) else (none)) else (some (x247000, x8, x9, bt265.2.1, bt265.2.2)))))
def yi0.f (k : Nat) (s0_0 : List Int) (s0_1 : Int) (s0_2 : Int) (a1 : Int) : Option ((List (List Int)) × Int × List Int × Int × Int) := (yb0.f k s0_0 s0_1 s0_2).bind fun bt240 => (yi0.l0 k a1 bt240.2.1 ([] : List Int) (bt240.1.length : Int) 0 s0_0 bt240.2.2.1 bt240.2.2.2 bt240.1)
theorem yi0.mono_l : ∀ k, (∀ y0 y1 y2 y3 y4 y5 y6 y7 y8, LeO (yi0.l0 k y0 y1 y2 y3 y4 y5 y6 y7 y8) (yi0.l0 (k + 1) y0 y1 y2 y3 y4 y5 y6 y7 y8))
 | 0 => fun _ _ _ _ _ _ _ _ _ r h => by simp [yi0.l0] at h
 | k + 1 => by
  have ih0 := yi0.mono_l k
  ·intro y0 y1 y2 y3 y4 y5 y6 y7 y8
   unfold yi0.l0
   repeat' (with_reducible first | exact ih0 _ _ _ _ _ _ _ _ _ | exact yb0.mono _ _ _ _ | exact LeO.refl _ | exact LeO.none _ | refine LeO.ite ?_ ?_ | refine LeO.bind ?_ (fun _ => ?_))
theorem yi0.mono : ∀ a0 a1 a2 a3 k, LeO (yi0.f k a0 a1 a2 a3) (yi0.f (k + 1) a0 a1 a2 a3) := by
 intro a0 a1 a2 a3 k
 have ih0 := yi0.mono_l k
 unfold yi0.f
 repeat' (with_reducible first | exact ih0 _ _ _ _ _ _ _ _ _ | exact yb0.mono _ _ _ _ | exact LeO.refl _ | exact LeO.none _ | refine LeO.ite ?_ ?_ | refine LeO.bind ?_ (fun _ => ?_))
theorem yi0.calls (k : Nat) (g : Nat) (s0_0 : List Int) (s0_1 : Int) (s0_2 : Int) (a1 : Int) (r1 : List (List Int)) (r2 : Int) (r3 : List Int) (r4 : Int) (r5 : Int) (w0 w : World) (hI : IsS46 w0 w g s0_0 s0_1 s0_2) (hB : Below w0.heap.size w0 w) (h : yi0.f k s0_0 s0_1 s0_2 a1 = some (r1, r2, r3, r4, r5)) :
  Calls Try.prog 27 #[.pointer (some ⟨g, 0, none⟩), .int .i64 a1] w fun e w' => ∃ v0_ v2_ : Value, e = .returned (.tuple #[.agg #[v0_], .int .i64 r2, v2_]) ∧ Kd.N (Kd.slice 3 (Kd.int .i64)) 27 w' w.heap.size (fun k_ => (w.heap.size ≤ k_) ∧ some k_ ≠ (v2_ : Value).ownBlock) v0_ r1 ∧ Kd.R (Kd.int .i64) 3 w' w.heap.size (fun k_ => (w.heap.size ≤ k_)) v2_ r3 ∧ IsS46 w0 w' g s0_0 r4 r5 ∧ Below w0.heap.size w0 w' ∧ zg0 w w' g none := by
 have hu26 := Try.underlying26
 have HI0 := hqZ hI
 have HK := hqZ (zg0.refl w g none)
 have HL := hqZ hB.size
 clear hI
 have HW0 := hqZ hB.size
 have HB := hqZ hB
 clear hB
 have H : ((yb0.f k s0_0 s0_1 s0_2).bind fun bt240 => (yi0.l0 k a1 bt240.2.1 ([] : List Int) (bt240.1.length : Int) 0 s0_0 bt240.2.2.1 bt240.2.2.2 bt240.1)) = some (r1, r2, r3, r4, r5) := h
 clear h
 replace H := Option.bind_eq_some_iff.mp H
 obtain ⟨⟨t240, t243, t244, t245⟩, A30, H⟩ := H
 try dsimp only at H
 have A3 := hqZ A30
 clear A30
 have H' := hqZ H
 clear H
 go_enter Try.func27, Try.ntmps27
 go_wp2_with (first | ((with_reducible refine zo0 (N := 4) rfl ?_); refine zp0 ?hg (N := 4) ?hd (cs := #[.slice none 0 0]) (t := 26) ?hr ?_; (case hd | hg => rfl); (case hr => go_simp <;> rfl); intro gb239 hg w4 hbox hb; replace HB := hqZ (za0 (HB.1) hb); have BK239 := hqZ (hbox); have GW239 := hqZ ((by rw [hg]; exact (zl0 (w := w) (g := g) (row := none) (HK.1)) : w.heap.size ≤ gb239)); have GE239 := hqZ ((Nat.le_trans HW0.1 (by rw [hg]; exact (zl0 (w := w) (g := g) (row := none) (HK.1)) : w.heap.size ≤ gb239) : w0.heap.size ≤ gb239)); replace HK := hqZ (zg0.trans (HK.1) (zg0.of_below hb g none) (.inl rfl)); have NB0_239 := hqZ ((by rw [hg]; exact Nat.ne_of_lt (IsS46.lt (show IsS46 w0 _ g s0_0 s0_1 s0_2 from HI0.1)) : g ≠ gb239)); have NB239_0 := hqZ ((by rw [hg]; exact Nat.ne_of_gt (IsS46.lt (show IsS46 w0 _ g s0_0 s0_1 s0_2 from HI0.1)) : gb239 ≠ g)); replace HI0 := hqZ (IsS46.below (HI0.1) hb); clear hb hbox hg) | ((with_reducible refine ze0 (f := 54) rfl ?_); refine zq0 (some 13) rfl rfl Try.func54 (by kernel_rfl) rfl #[.pointer (some ⟨g, 0, none⟩)] rfl (by simp only [hqa, hqb, hqc]; rfl) ?_; (with_reducible refine (yb0.calls k g s0_0 s0_1 s0_2 t240 t243 t244 t245 w0 _ ?side1 ?side2 A3.1).mono ?_); (case side1 => repeat (first | exact HI0.1 | apply IsS46.alloc | apply IsS46.drewN | apply IsS46.drew | apply IsS46.set_1 | apply IsS46.set_2 | refine IsS46.far ?_ NB0_239.1 _)); (case side2 => repeat (first | (with_reducible first | exact HB.1 | apply zn0 | apply zj0 | apply zk0 | refine zf0 ?_ (IsS46.ge HI0.1) | refine zf0 ?_ GE239.1) | exact HB.1)); rintro e w5 ⟨v241, rfl, ho0, hi, hb, hk⟩; refine ⟨_, rfl, ?_⟩; have HO242 := hqZ (Kd.N_lower (Kd.N_mono (ok' := fun k_ => (w.heap.size ≤ k_) ∧ k_ ≠ gb239 ∧ k_ ≠ g) ho0 (fun k_ hk_ => ⟨(Nat.le_trans (zl0 (w := w) (g := g) (row := none) (HK.1)) hk_), (Kd.freshB (g := gb239) (BK239.1) k_ hk_), (IsS46.fresh (HI0.1) k_ hk_)⟩)) (zl0 (w := w) (g := g) (row := none) (HK.1))); replace BK239 := hqZ (zg0.blk hk (g' := gb239) (BK239.1) NB239_0.1 (by simp)); replace HK := hqZ (zg0.trans (HK.1) hk (.inl rfl)); replace HB := hqZ (hb); replace HI0 := hqZ (hi); clear hb hk hi ho0) | ((with_reducible refine zo0 (N := 7) rfl ?_); refine zp0 ?hg (N := 7) ?hd (cs := #[.slice none 0 0]) (t := 26) ?hr ?_; (case hd | hg => rfl); (case hr => go_simp <;> rfl); intro gb246 hg w6 hbox hb; replace HO242 := hqZ (Kd.N_below (Kd.N_elderB (HO242.1) gb246 (Nat.le_of_eq hg.symm)) hb); replace HB := hqZ (za0 (HB.1) hb); have BK246 := hqZ (hbox); have GW246 := hqZ ((by rw [hg]; exact (zl0 (w := w) (g := g) (row := none) (HK.1)) : w.heap.size ≤ gb246)); have GE246 := hqZ ((Nat.le_trans HW0.1 (by rw [hg]; exact (zl0 (w := w) (g := g) (row := none) (HK.1)) : w.heap.size ≤ gb246) : w0.heap.size ≤ gb246)); replace HK := hqZ (zg0.trans (HK.1) (zg0.of_below hb g none) (.inl rfl)); have NB239_246 := hqZ ((by rw [hg]; exact Nat.ne_of_lt (blk_lt (g := gb239) (BK239.1)) : gb239 ≠ gb246)); have NB246_239 := hqZ ((by rw [hg]; exact Nat.ne_of_gt (blk_lt (g := gb239) (BK239.1)) : gb246 ≠ gb239)); replace BK239 := hqZ (zc0 (g := gb239) (BK239.1) hb); have NB0_246 := hqZ ((by rw [hg]; exact Nat.ne_of_lt (IsS46.lt (show IsS46 w0 _ g s0_0 t244 t245 from HI0.1)) : g ≠ gb246)); have NB246_0 := hqZ ((by rw [hg]; exact Nat.ne_of_gt (IsS46.lt (show IsS46 w0 _ g s0_0 t244 t245 from HI0.1)) : gb246 ≠ g)); replace HI0 := hqZ (IsS46.below (HI0.1) hb); clear hb hbox hg; obtain ⟨Ao7, co7, eo7⟩ := Kd.N_slice HO242.1; subst eo7; have hnb8 := NB246_239.1; have hnc8 := NB239_246.1; have hnb9 := NB246_0.1; have hnc9 := NB0_246.1; have hcz10_0 : w6.cell? ⟨gb246, 0, none⟩ = some (.slice none 0 0) := (zh0 BK246.1 0).trans rfl; have hfz10_0 := zd0 BK246.1 0))
 go_loopg [9, 19] k (fun kq v9 v19 w' => ∃ (x9_1 : List Int) (x19_1 : Int) (x1001_1 : Int) (x1002_1 : Int), v19 = .int .i64 x19_1 ∧ zi0 (yi0.l0 kq a1 t243 x9_1 (t240.length : Int) x19_1 s0_0 x1001_1 x1002_1 t240 = some (r1, r2, r3, r4, r5)) ∧ zi0 (kq ≤ k) ∧ zi0 (Kd.R (Kd.int .i64) 3 w' w.heap.size (fun k_ => (w.heap.size ≤ k_)) v9 x9_1) ∧ zi0 (Kd.N (Kd.slice 3 (Kd.int .i64)) 27 w' w.heap.size (fun k_ => (w.heap.size ≤ k_) ∧ some k_ ≠ (v9 : Value).ownBlock ∧ k_ ≠ gb239 ∧ k_ ≠ gb246 ∧ k_ ≠ g) (.slice Ao7 t240.length co7) t240) ∧ zi0 (w'.heap[gb239]? = some (.cells #[(.slice none 0 0)] 26 (0, 0))) ∧ zi0 (w'.heap[gb246]? = some (.cells #[(.slice Ao7 t240.length co7)] 26 (0, 0))) ∧ zi0 (IsS46 w0 w' g s0_0 x1001_1 x1002_1) ∧ zi0 (zg0 w w' g none) ∧ zi0 (Below w0.heap.size w0 w'))
 case atStart => exact ⟨(([] : List Int)), (0), (t244), (t245), (rfl), H', ⟨Nat.le_refl _⟩, ⟨by first | exact Kd.R_nil _ _ _ _ _ | exact Kd.N_nil _ _ _ _ _ | exact Kd.V_nil _ _ _ _ _ | exact Kd.Q_nil _ _ _ _ _ | exact Kd.S_nil _ _ _ _ _⟩, ⟨Kd.N_mono (Kd.N_far (p := ⟨gb246, 0, none⟩) (Kd.N_mono HO242.1 (fun k_ hk => (⟨hk, hk.2⟩ : _ ∧ k_ ≠ gb246))) (fun _ hk => hk.2) (.slice Ao7 t240.length co7)) (fun _ hk => ⟨hk.1.1.1, ⟨(by simp [Value.ownBlock]), ⟨hk.1.1.2.1, ⟨hk.1.2, hk.1.1.2.2⟩⟩⟩⟩)⟩, ⟨by refine blk_far ?_ NB239_246.1 _; exact BK239.1⟩, ⟨by refine blk_put (cs := #[.slice none 0 0]) ?_ 0 _ rfl; exact BK246.1⟩, ⟨IsS46.far HI0.1 NB0_246.1 _⟩, ⟨keep_far HK.1 GW246.1 _⟩, ⟨zf0 HB.1 GE246.1⟩⟩
 case round =>
  clear H'
  try clear c2
  try clear p2
  try clear c5
  try clear c8
  try clear c9
  try clear hcz10_0
  try clear hfz10_0
  obtain ⟨x9_1, x19_1, x1001_1, x1002_1, rfl, HA, HK1, HO_9, HO_247000, BK239, BK246, HI0, HK, HB⟩ := hrel
  obtain _ | k1 := gk
  ·exact absurd HA.1 (by simp [yi0.l0])
  have H := HA.1
  clear HA
  simp only [yi0.l0] at H
  by_cases c11 : x19_1 < (t240.length : Int)
  rotate_left
  ·rw [if_neg c11] at H
   have c11b0 : decide (x19_1 < (t240.length : Int)) = false := decide_eq_false c11
   clear c11
   replace H := Option.bind_eq_some_iff.mp H
   obtain ⟨⟨t265, t266, t267⟩, A270, H⟩ := H
   try dsimp only at H
   have A27 := hqZ A270
   clear A270
   by_cases c28 : t265 = 0
   rotate_left
   ·rw [if_neg c28] at H
    have c28b0 : (t265 == 0) = false := beq_eq_false_iff_ne.mpr c28
    have c28b1 : (t265 != 0) = true := bne_iff_ne.mpr c28
    by_cases c48 : t265 = 1
    rotate_left
    ·rw [if_neg c48] at H
     have c48b0 : (t265 == 1) = false := beq_eq_false_iff_ne.mpr c48
     have c48b1 : (t265 != 1) = true := bne_iff_ne.mpr c48
     simp only [Option.some.injEq, Prod.mk.injEq] at H
     obtain ⟨rfl, rfl, rfl, rfl, rfl⟩ := H
     go_wp2_with (first | ((with_reducible refine ze0 (f := 55) rfl ?_); refine zq0 (some 41) rfl rfl Try.func55 (by kernel_rfl) rfl #[.pointer (some ⟨g, 0, none⟩), .int .i64 18] rfl (by simp only [hqa, hqb, hqc]; rfl) ?_; (with_reducible refine (yu0.calls g s0_0 x1001_1 x1002_1 18 t265 t266 t267 w0 _ ?side1 ?side2 A27.1).mono ?_); (case side1 => repeat (first | exact HI0.1 | apply IsS46.alloc | apply IsS46.drewN | apply IsS46.drew | apply IsS46.set_1 | apply IsS46.set_2 | refine IsS46.far ?_ NB0_239.1 _ | refine IsS46.far ?_ NB0_246.1 _)); (case side2 => repeat (first | (with_reducible first | exact HB.1 | apply zn0 | apply zj0 | apply zk0 | refine zf0 ?_ (IsS46.ge HI0.1) | refine zf0 ?_ GE239.1 | refine zf0 ?_ GE246.1) | exact HB.1)); rintro e w57 ⟨rfl, hi, hb, hk⟩; refine ⟨_, rfl, ?_⟩; replace HO_9 := hqZ (Kd.R_mono (Kd.R_keep (IsS46.apart (show IsS46 w0 _ g s0_0 x1001_1 x1002_1 from HI0.1) (HO_9.1) (by decide)) hk (fun _ h => h.2)) (fun _ h => h.1)); replace HO_247000 := hqZ (Kd.N_mono (Kd.N_keep (Kd.N_mono (ok := fun k_ => (((w.heap.size ≤ k_)) ∧ (some k_ ≠ (u9 : Value).ownBlock ∧ (k_ ≠ gb239 ∧ (k_ ≠ gb246 ∧ k_ ≠ g))))) (HO_247000.1) (fun k_ hk_ => (⟨hk_, hk_.2.2.2.2⟩ : _ ∧ k_ ≠ g))) hk (fun _ h => h.2)) (fun _ h => h.1)); replace BK239 := hqZ (zg0.blk hk (g' := gb239) (BK239.1) NB239_0.1 (by simp)); replace BK246 := hqZ (zg0.blk hk (g' := gb246) (BK246.1) NB246_0.1 (by simp)); replace HK := hqZ (zg0.trans (HK.1) hk (.inl rfl)); replace HB := hqZ (hb); replace HI0 := hqZ (hi); clear hb hk hi; have hnb58 := NB246_239.1; have hnc58 := NB239_246.1; have hnb59 := NB246_0.1; have hnc59 := NB0_246.1; have hcz60_0 : w57.cell? ⟨gb246, 0, none⟩ = some (.slice Ao7 t240.length co7) := (zh0 BK246.1 0).trans rfl; have hfz60_0 := zd0 BK246.1 0; have hnb61 := NB239_0.1; have hnc61 := NB0_239.1; have hcz62_0 : w57.cell? ⟨gb239, 0, none⟩ = some (.slice none 0 0) := (zh0 BK239.1 0).trans rfl; have hfz62_0 := zd0 BK239.1 0))
     refine bodyPost_ret (results_ctt rfl _ _ gb239 26 #[.slice Ao7 t240.length co7] (0, 0) _ rfl (by refine blk_put (cs := #[.slice none 0 0]) ?_ 0 _ rfl; exact BK239.1) Try.underlying26 rfl (by kernel_rfl)) rfl ?_
     exact ⟨_, _, rfl, Kd.N_mono (Kd.N_far (p := ⟨gb239, 0, none⟩) (Kd.N_mono HO_247000.1 (fun k_ hk => (⟨hk, hk.2.2.1⟩ : _ ∧ k_ ≠ gb239))) (fun _ hk => hk.2) (.slice Ao7 t240.length co7)) (fun _ hk => ⟨hk.1.1, hk.1.2.1⟩), Kd.R_mono (Kd.R_far (p := ⟨gb239, 0, none⟩) (Kd.R_types HO_9.1 BK239.1 (by decide)) (fun _ hk => hk.2) (.slice Ao7 t240.length co7)) (fun _ hk => hk.1), IsS46.far HI0.1 NB0_239.1 _, zf0 HB.1 GE239.1, keep_far HK.1 GW239.1 _⟩
    rw [if_pos c48] at H
    have c48b0 : (t265 == 1) = true := beq_iff_eq.mpr c48
    have c48b1 : (t265 != 1) = false := bne_eq_false_iff_eq.mpr c48
    clear c48
    by_cases c49 : x9_1.length < 17592186044416
    rotate_left
    ·rw [if_neg c49] at H
     exact absurd H (by simp)
    rw [if_pos c49] at H
    have LMc49 := hqZ c49
    clear c49
    obtain ⟨y278, hy278⟩ : ∃ y_ : List Int, y_ = (x9_1 ++ [0]) := ⟨_, rfl⟩
    replace H : (some (t240, t243, y278, t266, t267)) = some (r1, r2, r3, r4, r5) := by first | (rw [hy278]; with_reducible exact H) | (have H2_ := (Option.bind_some _ _).symm.trans H; rw [hy278]; with_reducible exact H2_) | (have H2_ := (Option.bind_some _ _).symm.trans H; with_reducible exact H2_) | with_reducible exact H | (rw [hy278]; exact H) | exact H
    have Ny278 := hqZ hy278
    clear hy278
    simp only [Option.some.injEq, Prod.mk.injEq] at H
    obtain ⟨rfl, rfl, rfl, rfl, rfl⟩ := H
    go_wp2_with (first | ((with_reducible refine ze0 (f := 55) rfl ?_); refine zq0 (some 41) rfl rfl Try.func55 (by kernel_rfl) rfl #[.pointer (some ⟨g, 0, none⟩), .int .i64 18] rfl (by simp only [hqa, hqb, hqc]; rfl) ?_; (with_reducible refine (yu0.calls g s0_0 x1001_1 x1002_1 18 t265 t266 t267 w0 _ ?side1 ?side2 A27.1).mono ?_); (case side1 => repeat (first | exact HI0.1 | apply IsS46.alloc | apply IsS46.drewN | apply IsS46.drew | apply IsS46.set_1 | apply IsS46.set_2 | refine IsS46.far ?_ NB0_239.1 _ | refine IsS46.far ?_ NB0_246.1 _)); (case side2 => repeat (first | (with_reducible first | exact HB.1 | apply zn0 | apply zj0 | apply zk0 | refine zf0 ?_ (IsS46.ge HI0.1) | refine zf0 ?_ GE239.1 | refine zf0 ?_ GE246.1) | exact HB.1)); rintro e w50 ⟨rfl, hi, hb, hk⟩; refine ⟨_, rfl, ?_⟩; replace HO_9 := hqZ (Kd.R_mono (Kd.R_keep (IsS46.apart (show IsS46 w0 _ g s0_0 x1001_1 x1002_1 from HI0.1) (HO_9.1) (by decide)) hk (fun _ h => h.2)) (fun _ h => h.1)); replace HO_247000 := hqZ (Kd.N_mono (Kd.N_keep (Kd.N_mono (ok := fun k_ => (((w.heap.size ≤ k_)) ∧ (some k_ ≠ (u9 : Value).ownBlock ∧ (k_ ≠ gb239 ∧ (k_ ≠ gb246 ∧ k_ ≠ g))))) (HO_247000.1) (fun k_ hk_ => (⟨hk_, hk_.2.2.2.2⟩ : _ ∧ k_ ≠ g))) hk (fun _ h => h.2)) (fun _ h => h.1)); replace BK239 := hqZ (zg0.blk hk (g' := gb239) (BK239.1) NB239_0.1 (by simp)); replace BK246 := hqZ (zg0.blk hk (g' := gb246) (BK246.1) NB246_0.1 (by simp)); replace HK := hqZ (zg0.trans (HK.1) hk (.inl rfl)); replace HB := hqZ (hb); replace HI0 := hqZ (hi); clear hb hk hi) | ((with_reducible refine gate_builtin (b := .append) (xs := #[.tmp 55, .tmp 56]) rfl ?_); at_builtin; refine Kd.R_append (Kd.int .i64) w.heap.size rfl (.tmp 55) (.tmp 56) 27 3 (.int .i64 0) 8 rfl Try.underlying27 info3 rfl (by decide) (by omega) u9 x9_1 0 [.int .i64 0] (fun k_ => (w.heap.size ≤ k_)) (fun _ => False) rfl rfl ?aP (fun _ hk => hk.elim) ?aF ?aO (Below.refl _ _) ?aS ?aL ?_; (case aP => exact rfl); (case aF => exact (fun k_ hk => (Nat.le_trans (zl0 (w := w) (g := g) (row := none) (HK.1)) hk))); (case aO => exact (by (with_reducible repeat (first | apply Kd.R_alloc | apply Kd.R_drewN | apply Kd.R_drew)); first | exact HO_9.1 | exact Kd.R_mono HO_9.1 (fun _ hk => ⟨hk.2, hk.1⟩))); (case aS => exact (zl0 (w := w) (g := g) (row := none) (HK.1))); (case aL => have := LMc49.1; omega); intro v279 w51 ho hb hg hat; rw [← Ny278.1] at ho; have n0_ := hqZ (Kd.N_afterv (ok := (fun k_ => (w.heap.size ≤ k_) ∧ k_ ≠ gb239 ∧ k_ ≠ gb246 ∧ k_ ≠ g)) (Kd.N_mono HO_247000.1 (fun _ hk => ⟨⟨hk.1, ⟨hk.2.2.1, ⟨hk.2.2.2.1, hk.2.2.2.2⟩⟩⟩, hk.2.1⟩)) hg hat); have n1_ := hqZ (zr0 (g := gb239) (BK239.1) hg (Kd.R_ne HO_9.1 BK239.1 (by decide))); have n2_ := hqZ (zr0 (g := gb246) (BK246.1) hg (Kd.R_ne HO_9.1 BK246.1 (by decide))); have n3_ := hqZ (IsS46.grown (HI0.1) hg (IsS46.own_ne HI0.1 HO_9.1 (by decide))); have n4_ := hqZ (below_weaken (HB.1) HL.1 hb); have n5_ := hqZ (zg0.trans (HK.1) (zg0.of_grown hg g) (Kd.R_base2 HO_9.1)); have n6_ := hqZ (ho); clear HO_247000; clear BK239; clear BK246; clear HI0; clear HB; clear HK; clear HO_9; have HO_247000 := n0_; have BK239 := n1_; have BK246 := n2_; have HI0 := n3_; have HB := n4_; have HK := n5_; have HO280 := n6_; clear n0_ n1_ n2_ n3_ n4_ n5_ n6_; clear ho hb hg hat; have hnb52 := NB246_239.1; have hnc52 := NB239_246.1; have hnb53 := NB246_0.1; have hnc53 := NB0_246.1; have hcz54_0 : w51.cell? ⟨gb246, 0, none⟩ = some (.slice Ao7 t240.length co7) := (zh0 BK246.1 0).trans rfl; have hfz54_0 := zd0 BK246.1 0; have hnb55 := NB239_0.1; have hnc55 := NB0_239.1; have hcz56_0 : w51.cell? ⟨gb239, 0, none⟩ = some (.slice none 0 0) := (zh0 BK239.1 0).trans rfl; have hfz56_0 := zd0 BK239.1 0))
    refine bodyPost_ret (results_ctt rfl _ _ gb239 26 #[.slice Ao7 t240.length co7] (0, 0) _ rfl (by refine blk_put (cs := #[.slice none 0 0]) ?_ 0 _ rfl; exact BK239.1) Try.underlying26 rfl (by kernel_rfl)) rfl ?_
    exact ⟨_, _, rfl, Kd.N_mono (Kd.N_far (p := ⟨gb239, 0, none⟩) (Kd.N_mono HO_247000.1 (fun k_ hk => (⟨hk, hk.1.2.1⟩ : _ ∧ k_ ≠ gb239))) (fun _ hk => hk.2) (.slice Ao7 t240.length co7)) (fun _ hk => ⟨hk.1.1.1, hk.1.2⟩), Kd.R_mono (Kd.R_far (p := ⟨gb239, 0, none⟩) (Kd.R_types HO280.1 BK239.1 (by decide)) (fun _ hk => hk.2) (.slice Ao7 t240.length co7)) (fun _ hk => hk.1), IsS46.far HI0.1 NB0_239.1 _, zf0 HB.1 GE239.1, keep_far HK.1 GW239.1 _⟩
   rw [if_pos c28] at H
   have c28b0 : (t265 == 0) = true := beq_iff_eq.mpr c28
   have c28b1 : (t265 != 0) = false := bne_eq_false_iff_eq.mpr c28
   clear c28
   replace H := Option.bind_eq_some_iff.mp H
   obtain ⟨⟨t268, t269, t270⟩, A290, H⟩ := H
   try dsimp only at H
   have A29 := hqZ A290
   clear A290
   obtain ⟨y271, hy271⟩ : ∃ y_ : List Int, y_ = (([(-1), 20, 21, 4611686018427387904] : List Int)) := ⟨_, rfl⟩
   replace H : ((yw1.f s0_0 t269 t270 y271).bind fun bt274 => (if 0 ≤ t268 then (if t268 < (x9_1.length : Int) then (some (t240, t243, (x9_1.set (t268 : Int).toNat bt274.1), bt274.2.1, bt274.2.2)) else (none)) else (none))) = some (r1, r2, r3, r4, r5) := by first | (rw [hy271]; with_reducible exact H) | (have H2_ := (Option.bind_some _ _).symm.trans H; rw [hy271]; with_reducible exact H2_) | (have H2_ := (Option.bind_some _ _).symm.trans H; with_reducible exact H2_) | with_reducible exact H | (rw [hy271]; exact H) | exact H
   have Ny271 := hqZ hy271
   clear hy271
   replace H := Option.bind_eq_some_iff.mp H
   obtain ⟨⟨t274, t275, t276⟩, A300, H⟩ := H
   try dsimp only at H
   have A30 := hqZ A300
   clear A300
   by_cases c31 : 0 ≤ t268
   rotate_left
   ·rw [if_neg c31] at H
    exact absurd H (by simp)
   rw [if_pos c31] at H
   have c31b0 : decide (0 ≤ t268) = true := decide_eq_true c31
   clear c31
   by_cases c32 : t268 < (x9_1.length : Int)
   rotate_left
   ·rw [if_neg c32] at H
    exact absurd H (by simp)
   rw [if_pos c32] at H
   have c32b0 : decide (t268 < (x9_1.length : Int)) = true := decide_eq_true c32
   clear c32
   obtain ⟨y277, hy277⟩ : ∃ y_ : List Int, y_ = (x9_1.set (t268 : Int).toNat t274) := ⟨_, rfl⟩
   replace H : (some (t240, t243, y277, t275, t276)) = some (r1, r2, r3, r4, r5) := by first | (rw [hy277]; with_reducible exact H) | (have H2_ := (Option.bind_some _ _).symm.trans H; rw [hy277]; with_reducible exact H2_) | (have H2_ := (Option.bind_some _ _).symm.trans H; with_reducible exact H2_) | with_reducible exact H | (rw [hy277]; exact H) | exact H
   have Ny277 := hqZ hy277
   clear hy277
   simp only [Option.some.injEq, Prod.mk.injEq] at H
   obtain ⟨rfl, rfl, rfl, rfl, rfl⟩ := H
   go_wp2_with (first | ((with_reducible refine ze0 (f := 55) rfl ?_); refine zq0 (some 41) rfl rfl Try.func55 (by kernel_rfl) rfl #[.pointer (some ⟨g, 0, none⟩), .int .i64 18] rfl (by simp only [hqa, hqb, hqc]; rfl) ?_; (with_reducible refine (yu0.calls g s0_0 x1001_1 x1002_1 18 t265 t266 t267 w0 _ ?side1 ?side2 A27.1).mono ?_); (case side1 => repeat (first | exact HI0.1 | apply IsS46.alloc | apply IsS46.drewN | apply IsS46.drew | apply IsS46.set_1 | apply IsS46.set_2 | refine IsS46.far ?_ NB0_239.1 _ | refine IsS46.far ?_ NB0_246.1 _)); (case side2 => repeat (first | (with_reducible first | exact HB.1 | apply zn0 | apply zj0 | apply zk0 | refine zf0 ?_ (IsS46.ge HI0.1) | refine zf0 ?_ GE239.1 | refine zf0 ?_ GE246.1) | exact HB.1)); rintro e w34 ⟨rfl, hi, hb, hk⟩; refine ⟨_, rfl, ?_⟩; replace HO_9 := hqZ (Kd.R_mono (Kd.R_keep (IsS46.apart (show IsS46 w0 _ g s0_0 x1001_1 x1002_1 from HI0.1) (HO_9.1) (by decide)) hk (fun _ h => h.2)) (fun _ h => h.1)); replace HO_247000 := hqZ (Kd.N_mono (Kd.N_keep (Kd.N_mono (ok := fun k_ => (((w.heap.size ≤ k_)) ∧ (some k_ ≠ (u9 : Value).ownBlock ∧ (k_ ≠ gb239 ∧ (k_ ≠ gb246 ∧ k_ ≠ g))))) (HO_247000.1) (fun k_ hk_ => (⟨hk_, hk_.2.2.2.2⟩ : _ ∧ k_ ≠ g))) hk (fun _ h => h.2)) (fun _ h => h.1)); replace BK239 := hqZ (zg0.blk hk (g' := gb239) (BK239.1) NB239_0.1 (by simp)); replace BK246 := hqZ (zg0.blk hk (g' := gb246) (BK246.1) NB246_0.1 (by simp)); replace HK := hqZ (zg0.trans (HK.1) hk (.inl rfl)); replace HB := hqZ (hb); replace HI0 := hqZ (hi); clear hb hk hi; obtain ⟨Ao35, co35, eo35⟩ := Kd.R_slice HO_9.1; subst eo35) | ((with_reducible refine ze0 (f := 55) rfl ?_); refine zq0 (some 48) rfl rfl Try.func55 (by kernel_rfl) rfl #[.pointer (some ⟨g, 0, none⟩), .int .i64 (x9_1.length : Int)] rfl (by simp only [hqa, hqb, hqc]; rfl) ?_; (with_reducible refine (yu0.calls g s0_0 t266 t267 (x9_1.length : Int) t268 t269 t270 w0 _ ?side1 ?side2 A29.1).mono ?_); (case side1 => repeat (first | exact HI0.1 | apply IsS46.alloc | apply IsS46.drewN | apply IsS46.drew | apply IsS46.set_1 | apply IsS46.set_2 | refine IsS46.far ?_ NB0_239.1 _ | refine IsS46.far ?_ NB0_246.1 _)); (case side2 => repeat (first | (with_reducible first | exact HB.1 | apply zn0 | apply zj0 | apply zk0 | refine zf0 ?_ (IsS46.ge HI0.1) | refine zf0 ?_ GE239.1 | refine zf0 ?_ GE246.1) | exact HB.1)); rintro e w36 ⟨rfl, hi, hb, hk⟩; refine ⟨_, rfl, ?_⟩; replace HO_9 := hqZ (Kd.R_mono (Kd.R_keep (IsS46.apart (show IsS46 w0 _ g s0_0 t266 t267 from HI0.1) (HO_9.1) (by decide)) hk (fun _ h => h.2)) (fun _ h => h.1)); replace HO_247000 := hqZ (Kd.N_mono (Kd.N_keep (Kd.N_mono (ok := fun k_ => (((w.heap.size ≤ k_)) ∧ (some k_ ≠ (.slice Ao35 x9_1.length co35 : Value).ownBlock ∧ (k_ ≠ gb239 ∧ (k_ ≠ gb246 ∧ k_ ≠ g))))) (HO_247000.1) (fun k_ hk_ => (⟨hk_, hk_.2.2.2.2⟩ : _ ∧ k_ ≠ g))) hk (fun _ h => h.2)) (fun _ h => h.1)); replace BK239 := hqZ (zg0.blk hk (g' := gb239) (BK239.1) NB239_0.1 (by simp)); replace BK246 := hqZ (zg0.blk hk (g' := gb246) (BK246.1) NB246_0.1 (by simp)); replace HK := hqZ (zg0.trans (HK.1) hk (.inl rfl)); replace HB := hqZ (hb); replace HI0 := hqZ (hi); clear hb hk hi) | ((with_reducible refine zo0 (N := 50) rfl ?_); refine Kd.R_lit (Kd.int .i64) _ 3 ?hg (N := 50) ?hd (xs := ([(-1), 20, 21, 4611686018427387904] : List Int)) (inner := [.int .i64 (-1), .int .i64 20, .int .i64 21, .int .i64 4611686018427387904]) (ok := fun _ => True) (okp := fun _ => True) ?hr ?hp (fun _ hk => hk) trivial (Below.refl _ _) (Nat.le_refl _) (by simp) ?_; (case hd | hg => rfl); (case hr => go_simp <;> rfl); (case hp => exact (Reps.one (show Kd.M (Kd.int .i64) _ _ _ (-1) [.int .i64 (-1)] from rfl) (Reps.one (show Kd.M (Kd.int .i64) _ _ _ 20 [.int .i64 20] from rfl) (Reps.one (show Kd.M (Kd.int .i64) _ _ _ 21 [.int .i64 21] from rfl) (Reps.one (show Kd.M (Kd.int .i64) _ _ _ 4611686018427387904 [.int .i64 4611686018427387904] from rfl) (Reps.none _ _)))))); intro v272 w37 ho38 hb hg_ hnew_; clear hg_ hnew_; (first | rw [← Ny271.1] at ho38 | (simp only [Int.reduceToNat] at ho38; rw [← Ny271.1] at ho38)); replace HO_247000 := hqZ (Kd.N_elder' (HO_247000.1) (Kd.R_base ho38) hb); have HO273 := hqZ (Kd.R_lower (Kd.R_new' (Kd.R_newM (M := fun k_ => (w.heap.size ≤ k_)) ho38 (zl0 (w := w) (g := g) (row := none) (HK.1)) (fun k_ h_ => h_)) (Kd.R_lt (HO_9.1))) (zl0 (w := w) (g := g) (row := none) (HK.1))); replace HO_9 := hqZ (Kd.R_elder' (HO_9.1) (Kd.R_base ho38) hb); replace BK239 := hqZ (zc0 (g := gb239) (BK239.1) hb); replace BK246 := hqZ (zc0 (g := gb246) (BK246.1) hb); replace HK := hqZ (zg0.trans (HK.1) (zg0.of_below hb g none) (.inl rfl)); replace HB := hqZ (za0 (HB.1) hb); replace HI0 := hqZ (IsS46.below (HI0.1) hb); clear hb ho38; obtain ⟨Ao39, co39, eo39⟩ := Kd.R_slice HO273.1; subst eo39) | ((with_reducible refine ze0 (f := 56) rfl ?_); refine zq0 (some 51) rfl rfl Try.func56 (by kernel_rfl) rfl #[.pointer (some ⟨g, 0, none⟩), .slice Ao39 y271.length co39] rfl (by simp only [hqa, hqb, hqc]; rfl) ?_; (with_reducible refine (yw1.calls g s0_0 t269 t270 _ _ y271 t274 t275 t276 w0 _ ?side1 ?side2 ?side3 ?side4 ?side5 A30.1).mono ?_); (case side1 => repeat (first | exact HI0.1 | apply IsS46.alloc | apply IsS46.drewN | apply IsS46.drew | apply IsS46.set_1 | apply IsS46.set_2 | refine IsS46.far ?_ NB0_239.1 _ | refine IsS46.far ?_ NB0_246.1 _)); (case side2 => repeat (first | (with_reducible first | exact HB.1 | apply zn0 | apply zj0 | apply zk0 | refine zf0 ?_ (IsS46.ge HI0.1) | refine zf0 ?_ GE239.1 | refine zf0 ?_ GE246.1) | exact HB.1)); (case side3 => exact (Kd.R_reads' HO273.1).2.2); (case side4 => exact (Kd.R_reads' HO273.1).2.1); (case side5 => exact far_slice (IsS46.own_ne HI0.1 HO273.1 (by decide))); rintro e w40 ⟨rfl, hi, hb, hk⟩; refine ⟨_, rfl, ?_⟩; replace HO_9 := hqZ (Kd.R_mono (Kd.R_keep (IsS46.apart (show IsS46 w0 _ g s0_0 t269 t270 from HI0.1) (HO_9.1) (by decide)) hk (fun _ h => h.2)) (fun _ h => h.1)); replace HO_247000 := hqZ (Kd.N_mono (Kd.N_keep (Kd.N_mono (ok := fun k_ => ((((w.heap.size ≤ k_)) ∧ (some k_ ≠ (.slice Ao35 x9_1.length co35 : Value).ownBlock ∧ (k_ ≠ gb239 ∧ (k_ ≠ gb246 ∧ k_ ≠ g)))) ∧ some k_ ≠ (.slice Ao39 y271.length co39 : Value).ownBlock)) (HO_247000.1) (fun k_ hk_ => (⟨hk_, hk_.1.2.2.2.2⟩ : _ ∧ k_ ≠ g))) hk (fun _ h => h.2)) (fun _ h => h.1)); replace BK239 := hqZ (zg0.blk hk (g' := gb239) (BK239.1) NB239_0.1 (by simp)); replace BK246 := hqZ (zg0.blk hk (g' := gb246) (BK246.1) NB246_0.1 (by simp)); replace HO273 := hqZ (Kd.R_mono (Kd.R_keep (IsS46.apart (show IsS46 w0 _ g s0_0 t269 t270 from HI0.1) (HO273.1) (by decide)) hk (fun _ h => h.2)) (fun _ h => h.1)); replace HK := hqZ (zg0.trans (HK.1) hk (.inl rfl)); replace HB := hqZ (hb); replace HI0 := hqZ (hi); clear hb hk hi; have p33 : 0 ≤ (t268 : Int) := of_decide_eq_true (by assumption); have q33 : (t268 : Int) < ((x9_1.length : Int) : Int) := of_decide_eq_true (by assumption); obtain ⟨go33, co33, eo33, gb33, gl33, cl33, HG33⟩ := Kd.R_form HO_9.1 (by omega); (first | cases eo33 | (injection eo33 with ea_ en_ ec_; (first | subst ea_ | (injection ea_ with ea_; subst ea_)); subst ec_; clear en_)); have GB33 := hqZ gb33; have GG33 := hqZ HG33; clear gb33 gl33 HG33; obtain ⟨hx33_0, hf33_0⟩ := Kd.R_celln 0 HO_9.1 (t268 : Int) p33 q33; replace p33 := eq_true p33; replace q33 := eq_true q33; obtain ⟨hy41_, hz41_⟩ := Kd.R_celln 0 HO_9.1 (t268 : Int) (of_decide_eq_true (by assumption)) (of_decide_eq_true (by assumption)); have HP41 := Kd.R_putg HO_9.1 (t268 : Int) t274) | ((with_reducible refine gate_store (t := 3) (p := 52) rfl ?_); refine store_event (t := 3) (p := 52) (v := ?vo_w42) (w1 := (w40.setCell ⟨go33, (t268 : Int).toNat, none⟩ (.int .i64 t274))) ?hg ?ho ?hn ?hr ?_; (case ho => rfl); (case hg => rfl); (case hn => rfl); (case hr => go_simp <;> rfl); intro w42 hw; have hg : w40.grownBy w42 (some go33) := (by rw [hw]; exact HP41.2); have hp_ : Kd.R (Kd.int .i64) 3 w42 w.heap.size (fun k_ => (w.heap.size ≤ k_) ∧ some k_ ≠ (.slice Ao39 y271.length co39 : Value).ownBlock) (.slice (some ⟨go33, 0, none⟩) x9_1.length co35) y277 := (by rw [hw, Ny277.1]; exact HP41.1); clear HP41; replace HO_247000 := hqZ (Kd.N_afterv (v := (.slice (some ⟨go33, 0, none⟩) x9_1.length co35)) (v1 := (.slice (some ⟨go33, 0, none⟩) x9_1.length co35)) (ok := (fun k_ => (w.heap.size ≤ k_) ∧ some k_ ≠ (.slice Ao39 y271.length co39 : Value).ownBlock ∧ k_ ≠ gb239 ∧ k_ ≠ gb246 ∧ k_ ≠ g)) (Kd.N_mono HO_247000.1 (fun _ hk => ⟨⟨hk.1.1, ⟨hk.2, ⟨hk.1.2.2.1, ⟨hk.1.2.2.2.1, hk.1.2.2.2.2⟩⟩⟩⟩, hk.1.2.1⟩)) hg (.inl rfl)); replace BK239 := hqZ (zr0 (g := gb239) (BK239.1) hg (Kd.R_ne HO_9.1 BK239.1 (by decide))); replace BK246 := hqZ (zr0 (g := gb246) (BK246.1) hg (Kd.R_ne HO_9.1 BK246.1 (by decide))); replace HI0 := hqZ (IsS46.grown (HI0.1) hg (IsS46.own_ne HI0.1 HO_9.1 (by decide))); replace HO273 := hqZ (Kd.R_after (v := (.slice (some ⟨go33, 0, none⟩) x9_1.length co35)) (v1 := (.slice (some ⟨go33, 0, none⟩) x9_1.length co35)) (ok := (fun k_ => (w.heap.size ≤ k_))) (Kd.R_mono HO273.1 (fun _ hk => ⟨hk.1.1, hk.2⟩)) hg (.inl rfl)); replace HB := hqZ ((by rw [hw]; exact zf0 (HB.1) (Nat.le_trans HL.1 GB33.1) : Below w0.heap.size w0 w42)); replace HK := hqZ (zg0.trans (HK.1) (zg0.of_grown hg g) (Kd.R_base2 HO_9.1)); replace HO_9 := hqZ (hp_); clear hg hw hp_; have hnb43 := NB246_239.1; have hnc43 := NB239_246.1; have hnb44 := NB246_0.1; have hnc44 := NB0_246.1; have hcz45_0 : w42.cell? ⟨gb246, 0, none⟩ = some (.slice Ao7 t240.length co7) := (zh0 BK246.1 0).trans rfl; have hfz45_0 := zd0 BK246.1 0; have hnb46 := NB239_0.1; have hnc46 := NB0_239.1; have hcz47_0 : w42.cell? ⟨gb239, 0, none⟩ = some (.slice none 0 0) := (zh0 BK239.1 0).trans rfl; have hfz47_0 := zd0 BK239.1 0))
   refine bodyPost_ret (results_ctt rfl _ _ gb239 26 #[.slice Ao7 t240.length co7] (0, 0) _ rfl (by refine blk_put (cs := #[.slice none 0 0]) ?_ 0 _ rfl; exact BK239.1) Try.underlying26 rfl (by kernel_rfl)) rfl ?_
   exact ⟨_, _, rfl, Kd.N_mono (Kd.N_far (p := ⟨gb239, 0, none⟩) (Kd.N_mono HO_247000.1 (fun k_ hk => (⟨hk, hk.1.2.2.1⟩ : _ ∧ k_ ≠ gb239))) (fun _ hk => hk.2) (.slice Ao7 t240.length co7)) (fun _ hk => ⟨hk.1.1.1, hk.1.2⟩), Kd.R_mono (Kd.R_far (p := ⟨gb239, 0, none⟩) (Kd.R_types HO_9.1 BK239.1 (by decide)) (fun _ hk => hk.2) (.slice Ao7 t240.length co7)) (fun _ hk => hk.1.1), IsS46.far HI0.1 NB0_239.1 _, zf0 HB.1 GE239.1, keep_far HK.1 GW239.1 _⟩
  rw [if_pos c11] at H
  have c11b0 : decide (x19_1 < (t240.length : Int)) = true := decide_eq_true c11
  clear c11
  by_cases c12 : x19_1 = t243
  rotate_left
  ·rw [if_neg c12] at H
   have c12b0 : (x19_1 == t243) = false := beq_eq_false_iff_ne.mpr c12
   have c12b1 : (x19_1 != t243) = true := bne_iff_ne.mpr c12
   replace H := Option.bind_eq_some_iff.mp H
   obtain ⟨⟨t259, t260, t261⟩, A230, H⟩ := H
   try dsimp only at H
   have A23 := hqZ A230
   clear A230
   by_cases c24 : x9_1.length < 17592186044416
   rotate_left
   ·rw [if_neg c24] at H
    exact absurd H (by simp)
   rw [if_pos c24] at H
   have LMc24 := hqZ c24
   clear c24
   obtain ⟨y262, hy262⟩ : ∃ y_ : List Int, y_ = (x9_1 ++ [t259]) := ⟨_, rfl⟩
   replace H : (yi0.l0 k1 a1 t243 y262 (t240.length : Int) (wrap64 (x19_1 + 1)) s0_0 t260 t261 t240) = some (r1, r2, r3, r4, r5) := by first | (rw [hy262]; with_reducible exact H) | (have H2_ := (Option.bind_some _ _).symm.trans H; rw [hy262]; with_reducible exact H2_) | (have H2_ := (Option.bind_some _ _).symm.trans H; with_reducible exact H2_) | with_reducible exact H | (rw [hy262]; exact H) | exact H
   have Ny262 := hqZ hy262
   clear hy262
   have H' := hqZ H
   clear H
   go_wp2_with (first | ((with_reducible refine ze0 (f := 55) rfl ?_); refine zq0 (some 36) rfl rfl Try.func55 (by kernel_rfl) rfl #[.pointer (some ⟨g, 0, none⟩), .int .i64 a1] rfl (by simp only [hqa, hqb, hqc]; rfl) ?_; (with_reducible refine (yu0.calls g s0_0 x1001_1 x1002_1 a1 t259 t260 t261 w0 _ ?side1 ?side2 A23.1).mono ?_); (case side1 => repeat (first | exact HI0.1 | apply IsS46.alloc | apply IsS46.drewN | apply IsS46.drew | apply IsS46.set_1 | apply IsS46.set_2 | refine IsS46.far ?_ NB0_239.1 _ | refine IsS46.far ?_ NB0_246.1 _)); (case side2 => repeat (first | (with_reducible first | exact HB.1 | apply zn0 | apply zj0 | apply zk0 | refine zf0 ?_ (IsS46.ge HI0.1) | refine zf0 ?_ GE239.1 | refine zf0 ?_ GE246.1) | exact HB.1)); rintro e w25 ⟨rfl, hi, hb, hk⟩; refine ⟨_, rfl, ?_⟩; replace HO_9 := hqZ (Kd.R_mono (Kd.R_keep (IsS46.apart (show IsS46 w0 _ g s0_0 x1001_1 x1002_1 from HI0.1) (HO_9.1) (by decide)) hk (fun _ h => h.2)) (fun _ h => h.1)); replace HO_247000 := hqZ (Kd.N_mono (Kd.N_keep (Kd.N_mono (ok := fun k_ => (((w.heap.size ≤ k_)) ∧ (some k_ ≠ (u9 : Value).ownBlock ∧ (k_ ≠ gb239 ∧ (k_ ≠ gb246 ∧ k_ ≠ g))))) (HO_247000.1) (fun k_ hk_ => (⟨hk_, hk_.2.2.2.2⟩ : _ ∧ k_ ≠ g))) hk (fun _ h => h.2)) (fun _ h => h.1)); replace BK239 := hqZ (zg0.blk hk (g' := gb239) (BK239.1) NB239_0.1 (by simp)); replace BK246 := hqZ (zg0.blk hk (g' := gb246) (BK246.1) NB246_0.1 (by simp)); replace HK := hqZ (zg0.trans (HK.1) hk (.inl rfl)); replace HB := hqZ (hb); replace HI0 := hqZ (hi); clear hb hk hi) | ((with_reducible refine gate_builtin (b := .append) (xs := #[.tmp 33, .tmp 37]) rfl ?_); at_builtin; refine Kd.R_append (Kd.int .i64) w.heap.size rfl (.tmp 33) (.tmp 37) 27 3 (.int .i64 0) 8 rfl Try.underlying27 info3 rfl (by decide) (by omega) u9 x9_1 t259 [.int .i64 t259] (fun k_ => (w.heap.size ≤ k_)) (fun _ => False) rfl rfl ?aP (fun _ hk => hk.elim) ?aF ?aO (Below.refl _ _) ?aS ?aL ?_; (case aP => exact rfl); (case aF => exact (fun k_ hk => (Nat.le_trans (zl0 (w := w) (g := g) (row := none) (HK.1)) hk))); (case aO => exact (by (with_reducible repeat (first | apply Kd.R_alloc | apply Kd.R_drewN | apply Kd.R_drew)); first | exact HO_9.1 | exact Kd.R_mono HO_9.1 (fun _ hk => ⟨hk.2, hk.1⟩))); (case aS => exact (zl0 (w := w) (g := g) (row := none) (HK.1))); (case aL => have := LMc24.1; omega); intro v263 w26 ho hb hg hat; rw [← Ny262.1] at ho; have n0_ := hqZ (Kd.N_afterv (ok := (fun k_ => (w.heap.size ≤ k_) ∧ k_ ≠ gb239 ∧ k_ ≠ gb246 ∧ k_ ≠ g)) (Kd.N_mono HO_247000.1 (fun _ hk => ⟨⟨hk.1, ⟨hk.2.2.1, ⟨hk.2.2.2.1, hk.2.2.2.2⟩⟩⟩, hk.2.1⟩)) hg hat); have n1_ := hqZ (zr0 (g := gb239) (BK239.1) hg (Kd.R_ne HO_9.1 BK239.1 (by decide))); have n2_ := hqZ (zr0 (g := gb246) (BK246.1) hg (Kd.R_ne HO_9.1 BK246.1 (by decide))); have n3_ := hqZ (IsS46.grown (HI0.1) hg (IsS46.own_ne HI0.1 HO_9.1 (by decide))); have n4_ := hqZ (below_weaken (HB.1) HL.1 hb); have n5_ := hqZ (zg0.trans (HK.1) (zg0.of_grown hg g) (Kd.R_base2 HO_9.1)); have n6_ := hqZ (ho); clear HO_247000; clear BK239; clear BK246; clear HI0; clear HB; clear HK; clear HO_9; have HO_247000 := n0_; have BK239 := n1_; have BK246 := n2_; have HI0 := n3_; have HB := n4_; have HK := n5_; have HO264 := n6_; clear n0_ n1_ n2_ n3_ n4_ n5_ n6_; clear ho hb hg hat))
   go_roundg k1
   case measure => have := HK1.1; omega
   case rel => exact ⟨(y262), (wrap64 (x19_1 + 1)), (t260), (t261), (rfl), H', ⟨by have := HK1.1; omega⟩, ⟨HO264.1⟩, ⟨Kd.N_mono HO_247000.1 (fun _ hk => ⟨hk.1.1, ⟨hk.2, ⟨hk.1.2.1, ⟨hk.1.2.2.1, hk.1.2.2.2⟩⟩⟩⟩)⟩, ⟨BK239.1⟩, ⟨BK246.1⟩, ⟨HI0.1⟩, ⟨HK.1⟩, ⟨HB.1⟩⟩
  rw [if_pos c12] at H
  have c12b0 : (x19_1 == t243) = true := beq_iff_eq.mpr c12
  have c12b1 : (x19_1 != t243) = false := bne_eq_false_iff_eq.mpr c12
  clear c12
  replace H := Option.bind_eq_some_iff.mp H
  obtain ⟨⟨t247, t248, t249⟩, A130, H⟩ := H
  try dsimp only at H
  have A13 := hqZ A130
  clear A130
  by_cases c14 : t247 = true
  rotate_left
  ·replace c14 := Bool.eq_false_iff.mpr c14
   subst c14
   rw [if_neg (show ¬ (false = true) by decide)] at H
   by_cases c20 : x9_1.length < 17592186044416
   rotate_left
   ·rw [if_neg c20] at H
    exact absurd H (by simp)
   rw [if_pos c20] at H
   have LMc20 := hqZ c20
   clear c20
   obtain ⟨y256, hy256⟩ : ∃ y_ : List Int, y_ = (x9_1 ++ [0]) := ⟨_, rfl⟩
   replace H : (yi0.l0 k1 a1 t243 y256 (t240.length : Int) (wrap64 (x19_1 + 1)) s0_0 t248 t249 t240) = some (r1, r2, r3, r4, r5) := by first | (rw [hy256]; with_reducible exact H) | (have H2_ := (Option.bind_some _ _).symm.trans H; rw [hy256]; with_reducible exact H2_) | (have H2_ := (Option.bind_some _ _).symm.trans H; with_reducible exact H2_) | with_reducible exact H | (rw [hy256]; exact H) | exact H
   have Ny256 := hqZ hy256
   clear hy256
   have H' := hqZ H
   clear H
   go_wp2_with (first | (go_at_call 34; (with_reducible refine (yt0.calls g s0_0 x1001_1 x1002_1 12 false t248 t249 w0 _ ?side1 ?side2 A13.1).mono ?_); (case side1 => repeat (first | exact HI0.1 | apply IsS46.alloc | apply IsS46.drewN | apply IsS46.drew | apply IsS46.set_1 | apply IsS46.set_2 | refine IsS46.far ?_ NB0_239.1 _ | refine IsS46.far ?_ NB0_246.1 _)); (case side2 => repeat (first | (with_reducible first | exact HB.1 | apply zn0 | apply zj0 | apply zk0 | refine zf0 ?_ (IsS46.ge HI0.1) | refine zf0 ?_ GE239.1 | refine zf0 ?_ GE246.1) | exact HB.1)); rintro e w21 ⟨rfl, hi, hb, hk⟩; replace HO_9 := hqZ (Kd.R_mono (Kd.R_keep (IsS46.apart (show IsS46 w0 _ g s0_0 x1001_1 x1002_1 from HI0.1) (HO_9.1) (by decide)) hk (fun _ h => h.2)) (fun _ h => h.1)); replace HO_247000 := hqZ (Kd.N_mono (Kd.N_keep (Kd.N_mono (ok := fun k_ => (((w.heap.size ≤ k_)) ∧ (some k_ ≠ (u9 : Value).ownBlock ∧ (k_ ≠ gb239 ∧ (k_ ≠ gb246 ∧ k_ ≠ g))))) (HO_247000.1) (fun k_ hk_ => (⟨hk_, hk_.2.2.2.2⟩ : _ ∧ k_ ≠ g))) hk (fun _ h => h.2)) (fun _ h => h.1)); replace BK239 := hqZ (zg0.blk hk (g' := gb239) (BK239.1) NB239_0.1 (by simp)); replace BK246 := hqZ (zg0.blk hk (g' := gb246) (BK246.1) NB246_0.1 (by simp)); replace HK := hqZ (zg0.trans (HK.1) hk (.inl rfl)); replace HB := hqZ (hb); replace HI0 := hqZ (hi); clear hb hk hi) | ((with_reducible refine gate_builtin (b := .append) (xs := #[.tmp 30, .tmp 31]) rfl ?_); at_builtin; refine Kd.R_append (Kd.int .i64) w.heap.size rfl (.tmp 30) (.tmp 31) 27 3 (.int .i64 0) 8 rfl Try.underlying27 info3 rfl (by decide) (by omega) u9 x9_1 0 [.int .i64 0] (fun k_ => (w.heap.size ≤ k_)) (fun _ => False) rfl rfl ?aP (fun _ hk => hk.elim) ?aF ?aO (Below.refl _ _) ?aS ?aL ?_; (case aP => exact rfl); (case aF => exact (fun k_ hk => (Nat.le_trans (zl0 (w := w) (g := g) (row := none) (HK.1)) hk))); (case aO => exact (by (with_reducible repeat (first | apply Kd.R_alloc | apply Kd.R_drewN | apply Kd.R_drew)); first | exact HO_9.1 | exact Kd.R_mono HO_9.1 (fun _ hk => ⟨hk.2, hk.1⟩))); (case aS => exact (zl0 (w := w) (g := g) (row := none) (HK.1))); (case aL => have := LMc20.1; omega); intro v257 w22 ho hb hg hat; rw [← Ny256.1] at ho; have n0_ := hqZ (Kd.N_afterv (ok := (fun k_ => (w.heap.size ≤ k_) ∧ k_ ≠ gb239 ∧ k_ ≠ gb246 ∧ k_ ≠ g)) (Kd.N_mono HO_247000.1 (fun _ hk => ⟨⟨hk.1, ⟨hk.2.2.1, ⟨hk.2.2.2.1, hk.2.2.2.2⟩⟩⟩, hk.2.1⟩)) hg hat); have n1_ := hqZ (zr0 (g := gb239) (BK239.1) hg (Kd.R_ne HO_9.1 BK239.1 (by decide))); have n2_ := hqZ (zr0 (g := gb246) (BK246.1) hg (Kd.R_ne HO_9.1 BK246.1 (by decide))); have n3_ := hqZ (IsS46.grown (HI0.1) hg (IsS46.own_ne HI0.1 HO_9.1 (by decide))); have n4_ := hqZ (below_weaken (HB.1) HL.1 hb); have n5_ := hqZ (zg0.trans (HK.1) (zg0.of_grown hg g) (Kd.R_base2 HO_9.1)); have n6_ := hqZ (ho); clear HO_247000; clear BK239; clear BK246; clear HI0; clear HB; clear HK; clear HO_9; have HO_247000 := n0_; have BK239 := n1_; have BK246 := n2_; have HI0 := n3_; have HB := n4_; have HK := n5_; have HO258 := n6_; clear n0_ n1_ n2_ n3_ n4_ n5_ n6_; clear ho hb hg hat))
   go_roundg k1
   case measure => have := HK1.1; omega
   case rel => exact ⟨(y256), (wrap64 (x19_1 + 1)), (t248), (t249), (rfl), H', ⟨by have := HK1.1; omega⟩, ⟨HO258.1⟩, ⟨Kd.N_mono HO_247000.1 (fun _ hk => ⟨hk.1.1, ⟨hk.2, ⟨hk.1.2.1, ⟨hk.1.2.2.1, hk.1.2.2.2⟩⟩⟩⟩)⟩, ⟨BK239.1⟩, ⟨BK246.1⟩, ⟨HI0.1⟩, ⟨HK.1⟩, ⟨HB.1⟩⟩
  subst c14
  rw [if_pos rfl] at H
  replace H := Option.bind_eq_some_iff.mp H
  obtain ⟨⟨t250, t251, t252⟩, A150, H⟩ := H
  try dsimp only at H
  have A15 := hqZ A150
  clear A150
  by_cases c16 : x9_1.length < 17592186044416
  rotate_left
  ·rw [if_neg c16] at H
   exact absurd H (by simp)
  rw [if_pos c16] at H
  have LMc16 := hqZ c16
  clear c16
  obtain ⟨y253, hy253⟩ : ∃ y_ : List Int, y_ = (x9_1 ++ [t250]) := ⟨_, rfl⟩
  replace H : (yi0.l0 k1 a1 t243 y253 (t240.length : Int) (wrap64 (x19_1 + 1)) s0_0 t251 t252 t240) = some (r1, r2, r3, r4, r5) := by first | (rw [hy253]; with_reducible exact H) | (have H2_ := (Option.bind_some _ _).symm.trans H; rw [hy253]; with_reducible exact H2_) | (have H2_ := (Option.bind_some _ _).symm.trans H; with_reducible exact H2_) | with_reducible exact H | (rw [hy253]; exact H) | exact H
  have Ny253 := hqZ hy253
  clear hy253
  have H' := hqZ H
  clear H
  go_wp2_with (first | (go_at_call 34; (with_reducible refine (yt0.calls g s0_0 x1001_1 x1002_1 12 true t248 t249 w0 _ ?side1 ?side2 A13.1).mono ?_); (case side1 => repeat (first | exact HI0.1 | apply IsS46.alloc | apply IsS46.drewN | apply IsS46.drew | apply IsS46.set_1 | apply IsS46.set_2 | refine IsS46.far ?_ NB0_239.1 _ | refine IsS46.far ?_ NB0_246.1 _)); (case side2 => repeat (first | (with_reducible first | exact HB.1 | apply zn0 | apply zj0 | apply zk0 | refine zf0 ?_ (IsS46.ge HI0.1) | refine zf0 ?_ GE239.1 | refine zf0 ?_ GE246.1) | exact HB.1)); rintro e w17 ⟨rfl, hi, hb, hk⟩; replace HO_9 := hqZ (Kd.R_mono (Kd.R_keep (IsS46.apart (show IsS46 w0 _ g s0_0 x1001_1 x1002_1 from HI0.1) (HO_9.1) (by decide)) hk (fun _ h => h.2)) (fun _ h => h.1)); replace HO_247000 := hqZ (Kd.N_mono (Kd.N_keep (Kd.N_mono (ok := fun k_ => (((w.heap.size ≤ k_)) ∧ (some k_ ≠ (u9 : Value).ownBlock ∧ (k_ ≠ gb239 ∧ (k_ ≠ gb246 ∧ k_ ≠ g))))) (HO_247000.1) (fun k_ hk_ => (⟨hk_, hk_.2.2.2.2⟩ : _ ∧ k_ ≠ g))) hk (fun _ h => h.2)) (fun _ h => h.1)); replace BK239 := hqZ (zg0.blk hk (g' := gb239) (BK239.1) NB239_0.1 (by simp)); replace BK246 := hqZ (zg0.blk hk (g' := gb246) (BK246.1) NB246_0.1 (by simp)); replace HK := hqZ (zg0.trans (HK.1) hk (.inl rfl)); replace HB := hqZ (hb); replace HI0 := hqZ (hi); clear hb hk hi) | ((with_reducible refine ze0 (f := 55) rfl ?_); refine zq0 (some 36) rfl rfl Try.func55 (by kernel_rfl) rfl #[.pointer (some ⟨g, 0, none⟩), .int .i64 a1] rfl (by simp only [hqa, hqb, hqc]; rfl) ?_; (with_reducible refine (yu0.calls g s0_0 t248 t249 a1 t250 t251 t252 w0 _ ?side1 ?side2 A15.1).mono ?_); (case side1 => repeat (first | exact HI0.1 | apply IsS46.alloc | apply IsS46.drewN | apply IsS46.drew | apply IsS46.set_1 | apply IsS46.set_2 | refine IsS46.far ?_ NB0_239.1 _ | refine IsS46.far ?_ NB0_246.1 _)); (case side2 => repeat (first | (with_reducible first | exact HB.1 | apply zn0 | apply zj0 | apply zk0 | refine zf0 ?_ (IsS46.ge HI0.1) | refine zf0 ?_ GE239.1 | refine zf0 ?_ GE246.1) | exact HB.1)); rintro e w18 ⟨rfl, hi, hb, hk⟩; refine ⟨_, rfl, ?_⟩; replace HO_9 := hqZ (Kd.R_mono (Kd.R_keep (IsS46.apart (show IsS46 w0 _ g s0_0 t248 t249 from HI0.1) (HO_9.1) (by decide)) hk (fun _ h => h.2)) (fun _ h => h.1)); replace HO_247000 := hqZ (Kd.N_mono (Kd.N_keep (Kd.N_mono (ok := fun k_ => (((w.heap.size ≤ k_)) ∧ (some k_ ≠ (u9 : Value).ownBlock ∧ (k_ ≠ gb239 ∧ (k_ ≠ gb246 ∧ k_ ≠ g))))) (HO_247000.1) (fun k_ hk_ => (⟨hk_, hk_.2.2.2.2⟩ : _ ∧ k_ ≠ g))) hk (fun _ h => h.2)) (fun _ h => h.1)); replace BK239 := hqZ (zg0.blk hk (g' := gb239) (BK239.1) NB239_0.1 (by simp)); replace BK246 := hqZ (zg0.blk hk (g' := gb246) (BK246.1) NB246_0.1 (by simp)); replace HK := hqZ (zg0.trans (HK.1) hk (.inl rfl)); replace HB := hqZ (hb); replace HI0 := hqZ (hi); clear hb hk hi) | ((with_reducible refine gate_builtin (b := .append) (xs := #[.tmp 33, .tmp 37]) rfl ?_); at_builtin; refine Kd.R_append (Kd.int .i64) w.heap.size rfl (.tmp 33) (.tmp 37) 27 3 (.int .i64 0) 8 rfl Try.underlying27 info3 rfl (by decide) (by omega) u9 x9_1 t250 [.int .i64 t250] (fun k_ => (w.heap.size ≤ k_)) (fun _ => False) rfl rfl ?aP (fun _ hk => hk.elim) ?aF ?aO (Below.refl _ _) ?aS ?aL ?_; (case aP => exact rfl); (case aF => exact (fun k_ hk => (Nat.le_trans (zl0 (w := w) (g := g) (row := none) (HK.1)) hk))); (case aO => exact (by (with_reducible repeat (first | apply Kd.R_alloc | apply Kd.R_drewN | apply Kd.R_drew)); first | exact HO_9.1 | exact Kd.R_mono HO_9.1 (fun _ hk => ⟨hk.2, hk.1⟩))); (case aS => exact (zl0 (w := w) (g := g) (row := none) (HK.1))); (case aL => have := LMc16.1; omega); intro v254 w19 ho hb hg hat; rw [← Ny253.1] at ho; have n0_ := hqZ (Kd.N_afterv (ok := (fun k_ => (w.heap.size ≤ k_) ∧ k_ ≠ gb239 ∧ k_ ≠ gb246 ∧ k_ ≠ g)) (Kd.N_mono HO_247000.1 (fun _ hk => ⟨⟨hk.1, ⟨hk.2.2.1, ⟨hk.2.2.2.1, hk.2.2.2.2⟩⟩⟩, hk.2.1⟩)) hg hat); have n1_ := hqZ (zr0 (g := gb239) (BK239.1) hg (Kd.R_ne HO_9.1 BK239.1 (by decide))); have n2_ := hqZ (zr0 (g := gb246) (BK246.1) hg (Kd.R_ne HO_9.1 BK246.1 (by decide))); have n3_ := hqZ (IsS46.grown (HI0.1) hg (IsS46.own_ne HI0.1 HO_9.1 (by decide))); have n4_ := hqZ (below_weaken (HB.1) HL.1 hb); have n5_ := hqZ (zg0.trans (HK.1) (zg0.of_grown hg g) (Kd.R_base2 HO_9.1)); have n6_ := hqZ (ho); clear HO_247000; clear BK239; clear BK246; clear HI0; clear HB; clear HK; clear HO_9; have HO_247000 := n0_; have BK239 := n1_; have BK246 := n2_; have HI0 := n3_; have HB := n4_; have HK := n5_; have HO255 := n6_; clear n0_ n1_ n2_ n3_ n4_ n5_ n6_; clear ho hb hg hat))
  go_roundg k1
  case measure => have := HK1.1; omega
  case rel => exact ⟨(y253), (wrap64 (x19_1 + 1)), (t251), (t252), (rfl), H', ⟨by have := HK1.1; omega⟩, ⟨HO255.1⟩, ⟨Kd.N_mono HO_247000.1 (fun _ hk => ⟨hk.1.1, ⟨hk.2, ⟨hk.1.2.1, ⟨hk.1.2.2.1, hk.1.2.2.2⟩⟩⟩⟩)⟩, ⟨BK239.1⟩, ⟨BK246.1⟩, ⟨HI0.1⟩, ⟨HK.1⟩, ⟨HB.1⟩⟩
def yx1.f (k : Nat) (s0_0 : List Int) (s0_1 : Int) (s0_2 : Int) : Option ((List (List Int)) × Int × List Int × Int × Int) := (yi0.f k s0_0 s0_1 s0_2 8).bind fun bt282 => (some (bt282.1, bt282.2.1, bt282.2.2.1, bt282.2.2.2.1, bt282.2.2.2.2))
theorem yx1.mono : ∀ a0 a1 a2 k, LeO (yx1.f k a0 a1 a2) (yx1.f (k + 1) a0 a1 a2) := by
 intro a0 a1 a2 k
 unfold yx1.f
 repeat' (with_reducible first | exact yi0.mono _ _ _ _ _ | exact LeO.refl _ | exact LeO.none _ | refine LeO.ite ?_ ?_ | refine LeO.bind ?_ (fun _ => ?_))
theorem yx1.calls (k : Nat) (A0 : Option Addr) (c0 : Nat) (s0_0 : List Int) (r1 : List (List Int)) (r2 : Int) (r3 : List Int) (r4 : Int) (r5 : Int) (w : World) (hr0 : Kd.C (Kd.int .u8) w A0 s0_0.length s0_0) (hc0 : s0_0.length ≤ c0) (h : yx1.f k s0_0 0 0 = some (r1, r2, r3, r4, r5)) :
  Calls Try.prog 6 #[.slice A0 s0_0.length c0] w fun e w' => ∃ v0_ v2_ : Value, e = .returned (.tuple #[.agg #[v0_], .int .i64 r2, v2_]) ∧ Kd.N (Kd.slice 3 (Kd.int .i64)) 27 w' w.heap.size (fun k_ => (w.heap.size ≤ k_) ∧ some k_ ≠ (v2_ : Value).ownBlock) v0_ r1 ∧ Kd.R (Kd.int .i64) 3 w' w.heap.size (fun k_ => (w.heap.size ≤ k_)) v2_ r3 ∧ Below w.heap.size w w' := by
 have hu26 := Try.underlying26
 have hu46 := Try.underlying46
 have HR0 := hqZ hr0
 clear hr0
 have HW0 := hqZ (Nat.le_refl w.heap.size)
 have HL := hqZ (Nat.le_refl w.heap.size)
 have HB := hqZ (Below.refl w.heap.size w)
 have H : ((yi0.f k s0_0 0 0 8).bind fun bt282 => (some (bt282.1, bt282.2.1, bt282.2.2.1, bt282.2.2.2.1, bt282.2.2.2.2))) = some (r1, r2, r3, r4, r5) := h
 clear h
 replace H := Option.bind_eq_some_iff.mp H
 obtain ⟨⟨t282, t285, t286, t289, t290⟩, A20, H⟩ := H
 try dsimp only at H
 have A2 := hqZ A20
 clear A20
 simp only [Option.some.injEq, Prod.mk.injEq] at H
 obtain ⟨rfl, rfl, rfl, rfl, rfl⟩ := H
 go_enter Try.func6, Try.ntmps6
 go_wp2_with (first | ((with_reducible refine zo0 (N := 2) rfl ?_); refine zp0 ?hg (N := 2) ?hd (cs := #[.slice none 0 0]) (t := 26) ?hr ?_; (case hd | hg => rfl); (case hr => go_simp <;> rfl); intro gb281 hg wA hbox hb; have n2_ := hqZ (za0 (HB.1) hb); have n3_ := hqZ hbox; have n4_ := hqZ ((by rw [hg]; exact (show Below w.heap.size w _ from HB.1).size) : w.heap.size ≤ gb281); clear HB; have HB := n2_; have BK281 := n3_; have GW281 := n4_; have GE281 := n4_; clear n2_ n3_ n4_; clear hb hbox hg) | ((with_reducible refine zo0 (N := 8) rfl ?_); refine zp0 ?hg (N := 8) ?hd (cs := #[.slice A0 s0_0.length c0, .int .i64 0, .int .u64 0]) (t := 46) ?hr ?_; (case hd | hg => rfl); (case hr => go_simp <;> rfl); intro g hg wB hbox hb; have HI0 := hqZ (⟨A0, c0, hbox, (by rw [hg]; exact (show Below w.heap.size w _ from HB.1).size), HR0.1⟩ : IsS46 w wB g s0_0 0 0); have HK := hqZ (zg0.of_below (za0 (HB.1) hb) g none); replace HB := hqZ (za0 (HB.1) hb); have NB0_281 := hqZ (by rw [hg]; exact Nat.ne_of_gt (blk_lt (g := gb281) (BK281.1)) : g ≠ gb281); have NB281_0 := hqZ (by rw [hg]; exact Nat.ne_of_lt (blk_lt (g := gb281) (BK281.1)) : gb281 ≠ g); replace BK281 := hqZ (zc0 (g := gb281) (BK281.1) hb); clear hb hbox hg) | ((with_reducible refine ze0 (f := 27) rfl ?_); refine zq0 (some 10) rfl rfl Try.func27 (by kernel_rfl) rfl #[.pointer (some ⟨g, 0, none⟩), .int .i64 8] rfl (by simp only [hqa, hqb, hqc]; rfl) ?_; (with_reducible refine (yi0.calls k g s0_0 0 0 8 t282 t285 t286 t289 t290 w _ ?side1 ?side2 A2.1).mono ?_); (case side1 => repeat (first | exact HI0.1 | apply IsS46.alloc | apply IsS46.drewN | apply IsS46.drew | apply IsS46.set_1 | apply IsS46.set_2 | refine IsS46.far ?_ NB0_281.1 _)); (case side2 => repeat (first | (with_reducible first | exact HB.1 | apply zn0 | apply zj0 | apply zk0 | refine zf0 ?_ (IsS46.ge HI0.1) | refine zf0 ?_ GE281.1) | exact HB.1)); rintro e w4 ⟨v283, v287, rfl, ho0, ho1, hi, hb, hk⟩; refine ⟨_, rfl, ?_⟩; have HO284 := hqZ (Kd.N_lower (Kd.N_mono (ok' := fun k_ => (w.heap.size ≤ k_) ∧ some k_ ≠ (v287 : Value).ownBlock ∧ k_ ≠ gb281 ∧ k_ ≠ g) ho0 (fun k_ hk_ => ⟨(Nat.le_trans (zl0 (w := w) (g := g) (row := none) (HK.1)) hk_.1), hk_.2, (Kd.freshB (g := gb281) (BK281.1) k_ hk_.1), (IsS46.fresh (HI0.1) k_ hk_.1)⟩)) (zl0 (w := w) (g := g) (row := none) (HK.1))); replace BK281 := hqZ (zg0.blk hk (g' := gb281) (BK281.1) NB281_0.1 (by simp)); have HO288 := hqZ (Kd.R_lower (Kd.R_newM (M := fun k_ => (w.heap.size ≤ k_)) (Kd.R_mono (ok' := fun k_ => True) ho1 (fun _ hk_ => trivial)) (zl0 (w := w) (g := g) (row := none) (HK.1)) (fun k_ h_ => h_)) (zl0 (w := w) (g := g) (row := none) (HK.1))); replace HK := hqZ (zg0.trans (HK.1) hk (.inl rfl)); replace HB := hqZ (hb); replace HI0 := hqZ (hi); clear hb hk hi ho0 ho1; obtain ⟨Ao5, co5, eo5⟩ := Kd.N_slice HO284.1; subst eo5; have hnb6 := NB281_0.1; have hnc6 := NB0_281.1; have hcz7_0 : w4.cell? ⟨gb281, 0, none⟩ = some (.slice none 0 0) := (zh0 BK281.1 0).trans rfl; have hfz7_0 := zd0 BK281.1 0))
 refine bodyPost_ret (results_ctt rfl _ _ gb281 26 #[.slice Ao5 t282.length co5] (0, 0) _ rfl (by refine blk_put (cs := #[.slice none 0 0]) ?_ 0 _ rfl; exact BK281.1) Try.underlying26 rfl (by kernel_rfl)) rfl ?_
 exact ⟨_, _, rfl, Kd.N_mono (Kd.N_far (p := ⟨gb281, 0, none⟩) (Kd.N_mono HO284.1 (fun k_ hk => (⟨hk, hk.2.2.1⟩ : _ ∧ k_ ≠ gb281))) (fun _ hk => hk.2) (.slice Ao5 t282.length co5)) (fun _ hk => ⟨hk.1.1, hk.1.2.1⟩), Kd.R_mono (Kd.R_far (p := ⟨gb281, 0, none⟩) (Kd.R_types HO288.1 BK281.1 (by decide)) (fun _ hk => hk.2) (.slice Ao5 t282.length co5)) (fun _ hk => hk.1.1), zf0 HB.1 GE281.1⟩
def yi1.f (k : Nat) (l0 : List Int) : Option ((List (List Int)) × Int × List Int) := (yx1.f k l0 0 0).bind fun t => some (t.1, t.2.1, t.2.2.1)
theorem yi1.mono : ∀ a0 k, LeO (yi1.f k a0) (yi1.f (k + 1) a0) := fun a0 k => LeO.bind (yx1.mono _ _ _ _) (fun _ => LeO.refl _)
theorem yi1.calls (k : Nat) (A0 : Option Addr) (c0 : Nat) (l0 : List Int) (r1 : List (List Int)) (r2 : Int) (r3 : List Int) (w : World) (hr0 : Kd.C (Kd.int .u8) w A0 l0.length l0) (hc0 : l0.length ≤ c0) (h : yi1.f k l0 = some (r1, r2, r3)) :
  Calls Try.prog 6 #[.slice A0 l0.length c0] w fun e w' => ∃ v0_ v2_ : Value, e = .returned (.tuple #[.agg #[v0_], .int .i64 r2, v2_]) ∧ Kd.N (Kd.slice 3 (Kd.int .i64)) 27 w' w.heap.size (fun k_ => (w.heap.size ≤ k_) ∧ some k_ ≠ (v2_ : Value).ownBlock) v0_ r1 ∧ Kd.R (Kd.int .i64) 3 w' w.heap.size (fun k_ => (w.heap.size ≤ k_)) v2_ r3 ∧ Below w.heap.size w w' := by
 unfold yi1.f at h
 obtain ⟨t, ht, h⟩ := Option.bind_eq_some_iff.mp h
 obtain ⟨z1, z2, z3, z4, z5⟩ := t
 simp only [Option.some.injEq, Prod.mk.injEq] at h
 obtain ⟨rfl, rfl, rfl⟩ := h
 exact yx1.calls k A0 c0 l0 z1 z2 z3 z4 z5 w hr0 hc0 ht
def yk1.f (a0 : Int) (a1 : Int) (a2 : Int) : Option (Bool) := if a1 ≤ a0 then (some (decide (a0 ≤ a2))) else (some false)
theorem yk1.calls (a0 : Int) (a1 : Int) (a2 : Int) (r : Bool) (w : World) (h : yk1.f a0 a1 a2 = some r) :
  Calls Try.prog 60 #[.int .i64 a0, .int .i64 a1, .int .i64 a2] w fun e w' => e = .returned (.bool r) ∧ Drawn0 w w' := by
 have H : (if a1 ≤ a0 then (some (decide (a0 ≤ a2))) else (some false)) = some r := h
 clear h
 by_cases c4 : a1 ≤ a0
 ·rw [if_pos c4] at H
  have c4b0 : decide (a1 ≤ a0) = true := decide_eq_true c4
  clear c4
  obtain rfl := Option.some.inj H
  go_enter Try.func60, Try.ntmps60
  go_wp2
  go_ret
  exact ⟨rfl, by repeat (first | exact Drawn0.refl _ | apply Drawn0.step)⟩
 rw [if_neg c4] at H
 have c4b0 : decide (a1 ≤ a0) = false := decide_eq_false c4
 clear c4
 obtain rfl := Option.some.inj H
 go_enter Try.func60, Try.ntmps60
 go_wp2
 go_ret
 exact ⟨rfl, by repeat (first | exact Drawn0.refl _ | apply Drawn0.step)⟩
def PredK (g : Nat) (lb : Array Value) (p : Int → Bool) (w : World) : Prop :=
 ∀ (W : World) (x : Int), Below w.heap.size w W → Calls Try.prog g (#[.int .i64 x] ++ lb) W fun e w' => e = .returned (.bool (p x)) ∧ Below W.heap.size W w'
def idxF (p : Int → Bool) : List Int → Int → Int
 | [], _ => -1
 | x :: l, i => if p x then i else idxF p l (i + 1)
theorem idxF_any (p : Int → Bool) (l : List Int) : ∀ i : Int, 0 ≤ i → decide (0 ≤ idxF p l i) = l.any p := by
 induction l with
 | nil => intro i h; simp [idxF]
 | cons x l ih =>
  intro i h
  simp only [idxF, List.any_cons]
  by_cases hp : p x = true
  ·simp [hp, h]
  simp [hp, ih (i + 1) (by omega)]
theorem ye2.calls (p : Int → Bool) (g : Nat) (lb : Array Value) (eg : ∀ args w, (callFunc g args).run Try.prog w = .ok (.enter g args) w) (A0 : Option Addr) (c0 : Nat) (l0 : List Int) (w : World) (hr0 : Kd.C (Kd.int .i64) w A0 l0.length l0) (hc0 : l0.length ≤ c0) (hb : l0.length ≤ 9223372036854775807) (hp : PredK g lb p w) :
  Calls Try.prog 74 #[.slice A0 l0.length c0, .func (.func g) #[] lb] w fun e w' => e = .returned (.int .i64 (idxF p l0 0)) ∧ Below w.heap.size w w' := by
 have HR0 := hqZ hr0
 have HC0 := hqZ hc0
 clear hr0 hc0
 have HB := hqZ (Below.refl w.heap.size w)
 have HP := hqZ hp
 clear hp
 go_enter Try.func74, Try.ntmps74
 go_wp2
 go_loopg [5, 8] l0.length (fun kq _ v8 w' => ∃ j : Nat, v8 = .int .i64 j ∧ j ≤ l0.length ∧ l0.length - j ≤ kq ∧ zi0 (idxF p l0 0 = idxF p (l0.drop j) j) ∧ zi0 (Below w.heap.size w w'))
 case atStart => exact ⟨0, rfl, Nat.zero_le _, by omega, ⟨rfl⟩, ⟨HB.1⟩⟩
 case round =>
  obtain ⟨j, rfl, hj, hg, HA, HB⟩ := hrel
  by_cases hlt : j < l0.length
  rotate_left
  ·have hltz : ¬ (j : Int) < (l0.length : Int) := by omega
   have : j = l0.length := by omega
   subst this
   go_wp2
   go_ret
   refine ⟨?_, HB.1⟩
   rw [HA.1, List.drop_length]; rfl
  have hltz : (j : Int) < (l0.length : Int) := by omega
  have c0b := decide_eq_true hltz
  obtain ⟨ad101, e101, hx101_0⟩ := Kd.at_int HR0.1 (j : Int) (by omega) hltz
  cases e101
  replace hx101_0 := (HB.1.cell (World.block_lt_of_cell? w _ hx101_0)).trans hx101_0
  rw [Int.toNat_natCast] at hx101_0
  have hcall := HP.1 wr (rd l0 j) HB.1
  have hd : l0.drop j = rd l0 j :: l0.drop (j + 1) := by
   rw [List.drop_eq_getElem_cons hlt]; congr 1; simp [rd, hlt]
  have HD := hqZ hd
  clear hd
  cases hq : p (rd l0 j) with
  | true =>
   rw [hq] at hcall
   have HQ := hqZ hq
   clear hq
   go_wp2_with (fail)
   refine hcall.mono ?_
   rintro e w' ⟨rfl, hb'⟩
   go_wp2
   go_ret
   refine ⟨?_, HB.1.trans (hb'.mono HB.1.size)⟩
   rw [HA.1, HD.1]; simp only [idxF, HQ.1, if_true]; rfl
  | false =>
   rw [hq] at hcall
   have HQ := hqZ hq
   clear hq
   go_wp2_with (fail)
   refine hcall.mono ?_
   rintro e w' ⟨rfl, hb'⟩
   go_wp2
   go_roundg (l0.length - (j + 1))
   case measure => omega
   case rel =>
    refine ⟨j + 1, by go_num, by omega, by omega, ⟨?_⟩, ⟨HB.1.trans (hb'.mono HB.1.size)⟩⟩
    rw [HA.1, HD.1]; simp only [idxF, HQ.1]; simp
theorem yc2.calls (p : Int → Bool) (g : Nat) (lb : Array Value) (eg : ∀ args w, (callFunc g args).run Try.prog w = .ok (.enter g args) w) (A0 : Option Addr) (c0 : Nat) (l0 : List Int) (w : World) (hr0 : Kd.C (Kd.int .i64) w A0 l0.length l0) (hc0 : l0.length ≤ c0) (hb : l0.length ≤ 9223372036854775807) (hp : PredK g lb p w) :
  Calls Try.prog 58 #[.slice A0 l0.length c0, .func (.func g) #[] lb] w fun e w' => e = .returned (.bool (l0.any p)) ∧ Below w.heap.size w w' := by
 rw [← idxF_any p l0 0 (by omega)]
 go_enter Try.func58, Try.ntmps58
 go_wp2_with (go_at_call 74; refine (ye2.calls p g lb eg A0 c0 l0 _ hr0 hc0 hb hp).mono ?_; rintro e w' ⟨rfl, hb'⟩)
 go_ret
 exact ⟨rfl, hb'⟩
theorem areChips_1.calls (q : Int) (w : World) :
  Calls Try.prog 61 #[.int .i64 q] w fun e w' => e = .returned (.bool (!decide (0 ≤ q) || !decide (q ≤ 20))) ∧ Below w.heap.size w w' := by
 have hi : yk1.f q 0 20 = some (decide (0 ≤ q) && decide (q ≤ 20)) := by
  unfold yk1.f; split
  ·simp [*]
  ·simp [*]
 have HI := hqZ hi
 clear hi
 go_enter Try.func61, Try.ntmps61
 go_wp2_with (go_at_call 60; refine (yk1.calls _ _ _ _ _ HI.1).mono ?_; rintro e w' ⟨rfl, ⟨nd, rfl⟩⟩)
 go_ret
 exact ⟨by first | rfl | (simp; done), by repeat (first | exact Below.refl _ _ | apply zn0 | apply zj0 | apply zk0)⟩
def yu1.f (l0_0 : List (List Int)) (l1 : List Int) : Option Bool := some (decide (l1.length = l0_0.length) && l1.all (fun q => decide (0 ≤ q) && decide (q ≤ 20)))
theorem areChips_any (l : List Int) : (l.all fun q => decide (0 ≤ q) && decide (q ≤ 20)) = !l.any (fun q => !decide (0 ≤ q) || !decide (q ≤ 20)) := by
 rw [List.all_eq_not_any_not]; simp only [Bool.not_and]
theorem yu1.calls (A0_0 : Option Addr) (c0_0 : Nat) (l0_0 : List (List Int)) (A1 : Option Addr) (c1 : Nat) (l1 : List Int) (r : Bool) (w : World) (hr0_0 : Kd.C (Kd.slice 3 (Kd.int .i64)) w A0_0 l0_0.length l0_0) (hc0_0 : l0_0.length ≤ c0_0) (hr1 : Kd.C (Kd.int .i64) w A1 l1.length l1) (hc1 : l1.length ≤ c1) (h : yu1.f l0_0 l1 = some r) :
  Calls Try.prog 40 #[.agg #[.slice A0_0 l0_0.length c0_0], .slice A1 l1.length c1] w fun e w' => e = .returned (.bool r) ∧ Below w.heap.size w w' := by
 have hu25 := Try.underlying26
 obtain rfl := Option.some.inj h
 clear h
 have hbig : l1.length ≤ 9223372036854775807 := hr1.2.1
 have HBIG := hqZ hbig
 clear hbig
 have HR1 := hqZ hr1
 have HC1 := hqZ hc1
 clear hr0_0 hc0_0 hr1 hc1
 have HANY := hqZ (areChips_any l1)
 by_cases hlen : l1.length = l0_0.length
 rotate_left
 ·have hb1 : decide ((l1.length : Int) = (l0_0.length : Int)) = false := decide_eq_false (by omega)
  have hb2 := hqZ (show decide (l1.length = l0_0.length) = false from decide_eq_false hlen)
  clear hlen
  go_enter Try.func40, Try.ntmps40
  go_wp2_with (fail)
  ·exact absurd (by assumption) (of_decide_eq_false hb1)
  go_ret
  refine ⟨?_, ?_⟩
  ·rw [hb2.out]; rfl
  ·exact zn0 (Below.refl _ _) _
 have hb1 : decide ((l1.length : Int) = (l0_0.length : Int)) = true := decide_eq_true (by omega)
 have hb2 := hqZ (show decide (l1.length = l0_0.length) = true from decide_eq_true hlen)
 clear hlen
 go_enter Try.func40, Try.ntmps40
 go_wp2_with (fail)
 rotate_left
 ·exact absurd (of_decide_eq_true hb1) (by assumption)
 refine (yc2.calls (fun q => !decide (0 ≤ q) || !decide (q ≤ 20)) 61 _ (fun args w => rfl) A1 c1 l1 _ (Kd.C_alloc HR1.1 _) HC1.1 HBIG.1 ?hp).mono ?_
 case hp =>
  intro V q hV
  exact areChips_1.calls q V
 rintro e w2 ⟨rfl, hb2_⟩
 have HB2 := hqZ hb2_
 clear hb2_
 go_wp2
 go_ret
 refine ⟨?_, ?_⟩
 ·rw [HANY.1, hb2.out]; rfl
 ·exact (zn0 (Below.refl _ _) _).trans (HB2.1.mono (by simp))
theorem isGraph_1.calls (a : Addr) (n q : Int) (w : World) (hc : w.cell? a = some (.int .i64 n)) :
  Calls Try.prog 73 #[.int .i64 q, .pointer (some a)] w fun e w' => e = .returned (.bool (!decide (0 ≤ q) || !decide (q ≤ wrap64 (n - 1)))) ∧ Below w.heap.size w w' := by
 have hi : yk1.f q 0 (wrap64 (n - 1)) = some (decide (0 ≤ q) && decide (q ≤ wrap64 (n - 1))) := by
  unfold yk1.f; split
  ·simp [*]
  ·simp [*]
 have HI := hqZ hi
 clear hi
 go_enter Try.func73, Try.ntmps73
 go_wp2_with (go_at_call 60; refine (yk1.calls _ _ _ _ _ HI.1).mono ?_; rintro e w' ⟨rfl, ⟨nd, rfl⟩⟩)
 go_ret
 exact ⟨rfl, by repeat (first | exact Below.refl _ _ | apply zn0 | apply zj0 | apply zk0)⟩
def goodRow (n : Int) (row : List Int) : Bool := decide (row.length ≤ 5) && row.all (fun q => decide (0 ≤ q) && decide (q ≤ n - 1))
theorem goodRow_any (n : Int) (row : List Int) : goodRow n row = (decide (row.length ≤ 5) && !row.any (fun q => !decide (0 ≤ q) || !decide (q ≤ n - 1))) := by
 unfold goodRow; congr 1; rw [List.all_eq_not_any_not]; simp only [Bool.not_and]
def goodG (l : List (List Int)) : Bool := decide (1 ≤ l.length) && (decide (l.length ≤ 8) && l.all (goodRow l.length))
def ya2.f (l0_0 : List (List Int)) : Option Bool := some (goodG l0_0)
theorem ya2.calls (A0_0 : Option Addr) (c0_0 : Nat) (l0_0 : List (List Int)) (r : Bool) (w : World) (hr0_0 : Kd.C (Kd.slice 3 (Kd.int .i64)) w A0_0 l0_0.length l0_0) (hc0_0 : l0_0.length ≤ c0_0) (h : ya2.f l0_0 = some r) :
  Calls Try.prog 57 #[.agg #[.slice A0_0 l0_0.length c0_0]] w fun e w' => e = .returned (.bool r) ∧ Below w.heap.size w w' := by
 have hu26 := Try.underlying26
 have HR0_0 := hqZ hr0_0
 have HC0_0 := hqZ hc0_0
 clear hr0_0 hc0_0
 obtain rfl := Option.some.inj h
 by_cases h1 : l0_0.length ≤ 8
 rotate_left
 ·have c1 : yk1.f (l0_0.length : Int) 1 8 = some false := by
   unfold yk1.f; split <;> simp [*] <;> omega
  have C1 := hqZ c1
  clear c1
  go_enter Try.func57, Try.ntmps57
  go_wp2_with (go_at_call 60; refine (yk1.calls _ _ _ _ _ C1.1).mono ?_; rintro e w' ⟨rfl, ⟨nd, rfl⟩⟩)
  go_ret
  refine ⟨?_, by repeat (first | exact Below.refl _ _ | apply zn0 | apply zj0 | apply zk0)⟩
  simp [goodG, h1]
 have c1 : yk1.f (l0_0.length : Int) 1 8 = some (decide (1 ≤ (l0_0.length : Int))) := by
  unfold yk1.f; split <;> simp [*] <;> omega
 have C1 := hqZ c1
 clear c1
 by_cases h2 : 1 ≤ (l0_0.length : Int)
 rotate_left
 ·have h2b := decide_eq_false h2
  go_enter Try.func57, Try.ntmps57
  go_wp2_with (go_at_call 60; refine (yk1.calls _ _ _ _ _ C1.1).mono ?_; rintro e w' ⟨rfl, ⟨nd, rfl⟩⟩)
  go_ret
  refine ⟨?_, by repeat (first | exact Below.refl _ _ | apply zn0 | apply zj0 | apply zk0)⟩
  have : ¬ 1 ≤ l0_0.length := by omega
  simp [goodG, this]
 have h2b := decide_eq_true h2
 go_enter Try.func57, Try.ntmps57
 go_wp2_with (go_at_call 60; refine (yk1.calls _ _ _ _ _ C1.1).mono ?_; rintro e w' ⟨rfl, ⟨nd, rfl⟩⟩)
 go_loopg [2, 15] l0_0.length (fun kq v2 v15 w' => ∃ j : Nat, v2 = .bool false ∧ v15 = .int .i64 j ∧ j ≤ l0_0.length ∧ l0_0.length - j ≤ kq ∧ zi0 (goodG l0_0 = (l0_0.drop j).all (goodRow l0_0.length)) ∧ zi0 (Below w.heap.size w w') ∧ w'.cell? ⟨w.heap.size + 1, 0, none⟩ = some (.int .i64 l0_0.length))
 case atStart => exact ⟨0, rfl, rfl, Nat.zero_le _, by omega, ⟨by simp [goodG, h1]; omega⟩, ⟨by repeat (first | exact Below.refl _ _ | apply zn0 | apply zj0 | apply zk0)⟩, by simp⟩
 case round =>
  obtain ⟨j, rfl, rfl, hj, hg, HA, HB, hcn⟩ := hrel
  clear C1
  by_cases hlt : j < l0_0.length
  rotate_left
  ·have hltz : ¬ (j : Int) < (l0_0.length : Int) := by omega
   have : j = l0_0.length := by omega
   subst this
   go_wp2
   go_ret
   refine ⟨?_, HB.1⟩
   rw [HA.1, List.drop_length]; rfl
  have hltz : (j : Int) < (l0_0.length : Int) := by omega
  have c0b := decide_eq_true hltz
  obtain ⟨ad101, A1, c1, e101, hx101_0, hl1, hi1⟩ := at_L2 HR0_0.1 (j : Int) (by omega) hltz
  cases e101
  replace hx101_0 := (HB.1.cell (World.block_lt_of_cell? w _ hx101_0)).trans hx101_0
  rw [Int.toNat_natCast] at hx101_0
  have hd : l0_0.drop j = rd_L2 l0_0 j :: l0_0.drop (j + 1) := by
   rw [List.drop_eq_getElem_cons hlt]; congr 1; simp [rd_L2, hlt]
  have HD := hqZ hd
  have HI1 := hqZ hi1
  have HL1 := hqZ hl1
  clear hd hi1 hl1
  generalize hrow : rd_L2 l0_0 j = row at hx101_0 HD HI1 HL1
  clear hrow
  by_cases h5 : row.length ≤ 5
  rotate_left
  ·have c9b0 : decide (5 < (row.length : Int)) = true := decide_eq_true (by omega)
   have c9b1 : decide (5 < row.length) = true := decide_eq_true (by omega)
   go_wp2
   go_ret
   refine ⟨?_, HB.1⟩
   rw [HA.1, HD.1]; simp [goodRow, h5]
  have c9b0 : decide (5 < (row.length : Int)) = false := decide_eq_false (by omega)
  have c9b1 : decide (5 < row.length) = false := decide_eq_false (by omega)
  have hpred : ∀ W : World, Below wr.heap.size wr W → PredK 73 #[.pointer (some ⟨w.heap.size + 1, 0, none⟩)] (fun q => !decide (0 ≤ q) || !decide (q ≤ (l0_0.length : Int) - 1)) W := by
   intro W hW V q hV
   have hw1 : wrap64 ((l0_0.length : Int) - 1) = (l0_0.length : Int) - 1 := by unfold wrap64; omega
   have := isGraph_1.calls ⟨w.heap.size + 1, 0, none⟩ l0_0.length q V ?_
   ·rw [hw1] at this; exact this
   have hlt := World.block_lt_of_cell? wr _ hcn
   exact (hV.cell (p := ⟨w.heap.size + 1, 0, none⟩) (Nat.lt_of_lt_of_le hlt hW.size)).trans ((hW.cell hlt).trans hcn)
  have HPR := hqZ hpred
  clear hpred
  cases hq : row.any (fun q => !decide (0 ≤ q) || !decide (q ≤ (l0_0.length : Int) - 1)) with
  | true =>
   have HQ := hqZ hq
   clear hq
   go_wp2_with (go_at_call 58; refine (yc2.calls _ 73 _ (fun args w => rfl) A1 c1 row _ (Kd.C_below HI1.1 HB.1) HL1.1 (by omega) (HPR.1 _ (Below.refl _ _))).mono ?_; rw [HQ.1]; rintro e w' ⟨rfl, hb'⟩)
   go_ret
   refine ⟨?_, HB.1.trans (hb'.mono HB.1.size)⟩
   rw [HA.1, HD.1, List.all_cons, goodRow_any, HQ.1]
   simp
  | false =>
   have HQ := hqZ hq
   clear hq
   go_wp2_with (go_at_call 58; refine (yc2.calls _ 73 _ (fun args w => rfl) A1 c1 row _ (Kd.C_below HI1.1 HB.1) HL1.1 (by omega) (HPR.1 _ (Below.refl _ _))).mono ?_; rw [HQ.1]; rintro e w' ⟨rfl, hb'⟩)
   go_roundg (l0_0.length - (j + 1))
   case measure => omega
   case rel =>
    have hlt := World.block_lt_of_cell? wr _ hcn
    refine ⟨j + 1, rfl, by go_num, by omega, by omega, ⟨?_⟩, ⟨HB.1.trans (hb'.mono HB.1.size)⟩, (hb'.cell hlt).trans hcn⟩
    rw [HA.1, HD.1, List.all_cons, goodRow_any, HQ.1]
    simp [h5]
theorem has_1.calls (b : Nat) (A : Option Addr) (n c : Nat) (q : Int) (w : World) (hc : w.cell? ⟨b, 0, none⟩ = some (.slice A n c)) :
  Calls Try.prog 59 #[.int .i64 q, .pointer (some ⟨b, 0, none⟩)] w fun e w' => e = .returned (.bool (!decide (0 ≤ q) || !decide (q ≤ wrap64 ((n : Int) - 1)))) ∧ Below w.heap.size w w' := by
 have hu := Try.underlying26
 have hi : yk1.f q 0 (wrap64 ((n : Int) - 1)) = some (decide (0 ≤ q) && decide (q ≤ wrap64 ((n : Int) - 1))) := by
  unfold yk1.f; split
  ·simp [*]
  ·simp [*]
 have HI := hqZ hi
 clear hi
 go_enter Try.func59, Try.ntmps59
 go_wp2_with (go_at_call 60; refine (yk1.calls _ _ _ _ _ HI.1).mono ?_; rintro e w' ⟨rfl, ⟨nd, rfl⟩⟩)
 go_ret
 exact ⟨rfl, by repeat (first | exact Below.refl _ _ | apply zn0 | apply zj0 | apply zk0)⟩
def yo1.f (l0_0 : List (List Int)) (l1 : List Int) : Option Bool := some (goodG l0_0 && l1.all (fun q => decide (0 ≤ q) && decide (q ≤ (l0_0.length : Int) - 1)))
theorem has_any (n : Int) (l : List Int) : (l.all fun q => decide (0 ≤ q) && decide (q ≤ n - 1)) = !l.any (fun q => !decide (0 ≤ q) || !decide (q ≤ n - 1)) := by
 rw [List.all_eq_not_any_not]; simp only [Bool.not_and]
theorem yo1.calls (A0_0 : Option Addr) (c0_0 : Nat) (l0_0 : List (List Int)) (A1 : Option Addr) (c1 : Nat) (l1 : List Int) (r : Bool) (w : World) (hr0_0 : Kd.C (Kd.slice 3 (Kd.int .i64)) w A0_0 l0_0.length l0_0) (hc0_0 : l0_0.length ≤ c0_0) (hr1 : Kd.C (Kd.int .i64) w A1 l1.length l1) (hc1 : l1.length ≤ c1) (h : yo1.f l0_0 l1 = some r) :
  Calls Try.prog 36 #[.agg #[.slice A0_0 l0_0.length c0_0], .slice A1 l1.length c1] w fun e w' => e = .returned (.bool r) ∧ Below w.heap.size w w' := by
 have hu25 := Try.underlying26
 obtain rfl := Option.some.inj h
 clear h
 have hbig : l1.length ≤ 9223372036854775807 := hr1.2.1
 have HBIG := hqZ hbig
 clear hbig
 have HR0_0 := hqZ hr0_0
 have HC0_0 := hqZ hc0_0
 have HR1 := hqZ hr1
 have HC1 := hqZ hc1
 clear hr0_0 hc0_0 hr1 hc1
 by_cases hg : goodG l0_0 = true
 rotate_left
 ·have hg' : goodG l0_0 = false := Bool.eq_false_iff.mpr hg
  have HG := hqZ hg'
  clear hg hg'
  have hgr : ya2.f l0_0 = some false := by unfold ya2.f; rw [HG.1]
  have HGR := hqZ hgr
  clear hgr
  go_enter Try.func36, Try.ntmps36
  go_wp2_with (fail)
  refine (ya2.calls A0_0 c0_0 l0_0 false _ (Kd.C_alloc HR0_0.1 _) HC0_0.1 HGR.1).mono ?_
  rintro e w1 ⟨rfl, hb1⟩
  have HB1 := hqZ hb1
  clear hb1
  go_wp2
  go_ret
  refine ⟨?_, ?_⟩
  ·rw [HG.1]; rfl
  ·exact (zn0 (Below.refl _ _) _).trans (HB1.1.mono (by simp))
 have HG := hqZ hg
 have hlen : 1 ≤ l0_0.length ∧ l0_0.length ≤ 8 := by
  simp only [goodG, Bool.and_eq_true, decide_eq_true_eq] at hg; exact ⟨hg.1, hg.2.1⟩
 have HW := hqZ (show wrap64 ((l0_0.length : Int) - 1) = (l0_0.length : Int) - 1 by unfold wrap64; omega)
 clear hg hlen
 have HA : zi0 (goodG l0_0 && l1.all (fun q => decide (0 ≤ q) && decide (q ≤ (l0_0.length : Int) - 1))) = zi0 (!l1.any (fun q => !decide (0 ≤ q) || !decide (q ≤ (l0_0.length : Int) - 1))) := by
  rw [HG.1, Bool.true_and, has_any]
 have hres : (goodG l0_0 && l1.all (fun q => decide (0 ≤ q) && decide (q ≤ (l0_0.length : Int) - 1))) = !l1.any (fun q => !decide (0 ≤ q) || !decide (q ≤ (l0_0.length : Int) - 1)) := by
  rw [HG.1, Bool.true_and, has_any]
 clear HA
 have HRES := hqZ hres
 clear hres
 have hgr : ya2.f l0_0 = some true := by unfold ya2.f; rw [HG.1]
 have HGR := hqZ hgr
 clear hgr
 go_enter Try.func36, Try.ntmps36
 go_wp2_with (fail)
 refine (ya2.calls A0_0 c0_0 l0_0 true _ (Kd.C_alloc HR0_0.1 _) HC0_0.1 HGR.1).mono ?_
 rintro e w1 ⟨rfl, hb1⟩
 have HB1 := hqZ hb1
 clear hb1
 go_wp2_with (fail)
 refine (yc2.calls (fun q => !decide (0 ≤ q) || !decide (q ≤ (l0_0.length : Int) - 1)) 59 _ (fun args w => rfl) A1 c1 l1 _ (Kd.C_below (Kd.C_alloc HR1.1 _) HB1.1) HC1.1 HBIG.1 ?hp).mono ?_
 case hp =>
  intro V q hV
  have h0 := has_1.calls w.heap.size A0_0 l0_0.length c0_0 q V ((hV.cell (p := ⟨w.heap.size, 0, none⟩) (by have := HB1.1.size; simp at this; simp; omega)).trans ((HB1.1.cell (p := ⟨w.heap.size, 0, none⟩) (by simp)).trans (by simp)))
  rw [HW.1] at h0; exact h0
 rintro e w2 ⟨rfl, hb2⟩
 have HB2 := hqZ hb2
 clear hb2
 go_wp2
 go_ret
 refine ⟨?_, ?_⟩
 ·rw [HRES.1]; rfl
 ·exact (zn0 (Below.refl _ _) _).trans ((HB1.1.trans (HB2.1.mono HB1.1.size)).mono (by simp))
def yb2.f (a0 : Int) (a1 : Int) : Option (Int × Int) := some (IntKind.u64.wrap ((IntKind.u64.wrap ((IntKind.u64.wrap ((a0 / 4294967296) * (a1 / 4294967296))) + ((IntKind.u64.wrap ((IntKind.u64.wrap ((a0 / 4294967296) * (Go.bits .and .u64 a1 4294967295))) + ((IntKind.u64.wrap ((Go.bits .and .u64 a0 4294967295) * (Go.bits .and .u64 a1 4294967295))) / 4294967296))) / 4294967296))) + ((IntKind.u64.wrap ((Go.bits .and .u64 (IntKind.u64.wrap ((IntKind.u64.wrap ((a0 / 4294967296) * (Go.bits .and .u64 a1 4294967295))) + ((IntKind.u64.wrap ((Go.bits .and .u64 a0 4294967295) * (Go.bits .and .u64 a1 4294967295))) / 4294967296))) 4294967295) + (IntKind.u64.wrap ((Go.bits .and .u64 a0 4294967295) * (a1 / 4294967296))))) / 4294967296)), IntKind.u64.wrap (a0 * a1))
theorem yb2.calls (a0 : Int) (a1 : Int) (r1 : Int) (r2 : Int) (w : World) (h : yb2.f a0 a1 = some (r1, r2)) :
  Calls Try.prog 80 #[.int .u64 a0, .int .u64 a1] w fun e w' => e = .returned (.tuple #[.int .u64 r1, .int .u64 r2]) ∧ Drawn0 w w' := by
 have H : (some (IntKind.u64.wrap ((IntKind.u64.wrap ((IntKind.u64.wrap ((a0 / 4294967296) * (a1 / 4294967296))) + ((IntKind.u64.wrap ((IntKind.u64.wrap ((a0 / 4294967296) * (Go.bits .and .u64 a1 4294967295))) + ((IntKind.u64.wrap ((Go.bits .and .u64 a0 4294967295) * (Go.bits .and .u64 a1 4294967295))) / 4294967296))) / 4294967296))) + ((IntKind.u64.wrap ((Go.bits .and .u64 (IntKind.u64.wrap ((IntKind.u64.wrap ((a0 / 4294967296) * (Go.bits .and .u64 a1 4294967295))) + ((IntKind.u64.wrap ((Go.bits .and .u64 a0 4294967295) * (Go.bits .and .u64 a1 4294967295))) / 4294967296))) 4294967295) + (IntKind.u64.wrap ((Go.bits .and .u64 a0 4294967295) * (a1 / 4294967296))))) / 4294967296)), IntKind.u64.wrap (a0 * a1))) = some (r1, r2) := h
 clear h
 simp only [Option.some.injEq, Prod.mk.injEq] at H
 obtain ⟨rfl, rfl⟩ := H
 go_enter Try.func80, Try.ntmps80
 go_wp2
 go_ret2
 exact ⟨rfl, by repeat (first | exact Drawn0.refl _ | apply Drawn0.step)⟩
def yd2.f (a0 : Int) (a1 : Int) : Option (Int × Int) := (yb2.f a0 a1).bind fun bt281 => (some (bt281.1, bt281.2))
theorem yd2.calls (a0 : Int) (a1 : Int) (r1 : Int) (r2 : Int) (w : World) (h : yd2.f a0 a1 = some (r1, r2)) :
  Calls Try.prog 78 #[.int .u64 a0, .int .u64 a1] w fun e w' => e = .returned (.tuple #[.int .u64 r1, .int .u64 r2]) ∧ Drawn0 w w' := by
 have H : ((yb2.f a0 a1).bind fun bt281 => (some (bt281.1, bt281.2))) = some (r1, r2) := h
 clear h
 replace H := Option.bind_eq_some_iff.mp H
 obtain ⟨⟨t281, t282⟩, A30, H⟩ := H
 try dsimp only at H
 have A3 := hqZ A30
 clear A30
 simp only [Option.some.injEq, Prod.mk.injEq] at H
 obtain ⟨rfl, rfl⟩ := H
 go_enter Try.func78, Try.ntmps78
 go_wp2_with (first | ((with_reducible refine ze0 (f := 80) rfl ?_); refine zq0 (some 25) rfl rfl Try.func80 (by kernel_rfl) rfl #[.int .u64 a0, .int .u64 a1] rfl (by simp only [hqa, hqb, hqc]; rfl) ?_; (with_reducible refine (yb2.calls a0 a1 t281 t282 _ A3.1).mono ?_); rintro e w' ⟨rfl, ⟨nd, rfl⟩⟩; refine ⟨_, rfl, ?_⟩))
 go_ret2
 exact ⟨rfl, by repeat (first | exact Drawn0.refl _ | apply Drawn0.step)⟩
def yv1.f (l0 : List Int) (a1 : Int) : Option (List Int) := if l0.length = 1 ∧ 1 ≤ a1 ∧ a1 ≤ 8 then some (List.replicate a1.toNat (l0.getD 0 0)) else none
theorem own_row {w : World} {b : Nat} {v : Value} {l : List Int} (h : Kd.R (Kd.int .i64) 3 w b (fun _ => True) v l) (hl : 0 < l.length) : ∃ (g cap : Nat) (cur : List Value), v = .slice (some ⟨g, 0, none⟩) l.length cap ∧ b ≤ g ∧ zi0 (w.heap[g]? = some (.cells cur.toArray 3 (0, 0))) ∧ l.length ≤ cap ∧ cap ≤ maxLen ∧ cur.length = cap ∧ zi0 (cur.take l.length = l.map (Value.int .i64)) := by
 obtain ⟨h1, h2⟩ := Kd.own_of_R h
 rcases h2 with ⟨_, h2⟩ | ⟨g, cap, cur, rfl, hg, hh, hn, hc, hs, ht⟩
 ·omega
 ·exact ⟨g, cap, cur.toList, rfl, hg, ⟨by simpa using hh⟩, hn, hc, by simpa using hs, ⟨by simpa [encs] using ht⟩⟩
theorem rep_at {f : Int → Value} {cu : List Value} {c n : Nat} {x z : Int} (h : cu.take n = (List.replicate c x ++ List.replicate (n - c) z).map f) {i : Nat} (hi : i < n) (hc : c ≤ n) : cu[i]? = some (f (if i < c then x else z)) := by
 have h1 : (cu.take n)[i]? = cu[i]? := by rw [List.getElem?_take, if_pos hi]
 rw [← h1, h, List.getElem?_map, List.getElem?_append, List.length_replicate]
 by_cases hic : i < c
 ·rw [if_pos hic, if_pos hic, List.getElem?_replicate, if_pos hic]; rfl
 rw [if_neg hic, if_neg hic, List.getElem?_replicate, if_pos (by omega)]; rfl
theorem splice_rep {f : Int → Value} (cu : List Value) (c m n : Nat) (x z : Int) (h : cu.take n = (List.replicate c x ++ List.replicate (n - c) z).map f) (hn : n ≤ cu.length) (h1 : m ≤ c) (h2 : c + m ≤ n) : (splice cu c (cu.take m)).take n = (List.replicate (c + m) x ++ List.replicate (n - (c + m)) z).map f := by
 have hl : (cu.take m).length = m := by rw [List.length_take]; omega
 apply List.ext_getElem?
 intro i
 by_cases hi : i < n
 rotate_left
 ·rw [List.getElem?_eq_none (by rw [List.length_take]; omega), List.getElem?_eq_none (by simp; omega)]
 rw [List.getElem?_take, if_pos hi, List.getElem?_map, List.getElem?_append (l₁ := List.replicate (c + m) x), List.length_replicate]
 unfold splice
 rw [hl, List.getElem?_append, List.length_take, Nat.min_eq_left (by omega)]
 by_cases a : i < c
 ·rw [if_pos a, List.getElem?_take, if_pos a, rep_at h hi (by omega), if_pos a, if_pos (by omega), List.getElem?_replicate, if_pos (by omega)]; rfl
 rw [if_neg a, List.getElem?_append, hl]
 by_cases b : i - c < m
 ·rw [if_pos b, List.getElem?_take, if_pos b, rep_at h (by omega) (by omega), if_pos (by omega), if_pos (by omega), List.getElem?_replicate, if_pos (by omega)]; rfl
 rw [if_neg b, List.getElem?_drop, show c + m + (i - c - m) = i by omega, rep_at h hi (by omega), if_neg a, if_neg (by omega), List.getElem?_replicate, if_pos (by omega)]; rfl
theorem copy_cell {w : World} {g t m : Nat} {cu : List Value} (h : w.heap[g]? = some (.cells cu.toArray t (0, 0))) {j : Nat} {v : Value} (hj : (cu.take m)[j]? = some v) : w.cell? (Addr.add ⟨g, 0, none⟩ j) = some v := by
 rw [List.getElem?_take] at hj
 split at hj
 ·rw [Addr.add_lit, Nat.zero_add, zh0 h j]; simpa using hj
 ·cases hj
theorem one_of_rep {cu : List Value} {c n m : Nat} {x z : Int} (h : cu.take n = (List.replicate c x ++ List.replicate (n - c) z).map (Value.int .i64)) (h1 : m ≤ c) (h2 : c ≤ n) {v : Value} (hv : v ∈ cu.take m) : v.oneCell' = true := by
 have h3 : v ∈ cu.take n := by
  have : cu.take m = (cu.take n).take m := by rw [List.take_take, Nat.min_eq_left (by omega)]
  rw [this] at hv
  exact List.mem_of_mem_take hv
 rw [h, List.mem_map] at h3
 obtain ⟨y, _, rfl⟩ := h3
 rfl
theorem mul_one_small (n : Int) (h : 1 ≤ n ∧ n ≤ 8) : yd2.f 1 n = some (0, n) := by
 have : n = 1 ∨ n = 2 ∨ n = 3 ∨ n = 4 ∨ n = 5 ∨ n = 6 ∨ n = 7 ∨ n = 8 := by omega
 rcases this with rfl | rfl | rfl | rfl | rfl | rfl | rfl | rfl <;> rfl
theorem yv1.calls (A0 : Option Addr) (c0 : Nat) (l0 : List Int) (a1 : Int) (r : List Int) (w : World) (hr0 : Kd.C (Kd.int .i64) w A0 l0.length l0) (hc0 : l0.length ≤ c0) (h : yv1.f l0 a1 = some r) :
  Calls Try.prog 77 #[.slice A0 l0.length c0, .int .i64 a1] w fun e w' => ∃ v0_ : Value, e = .returned (v0_) ∧ Kd.R (Kd.int .i64) 3 w' w.heap.size (fun _ => True) v0_ r ∧ Below w.heap.size w w' := by
 unfold yv1.f at h
 by_cases hc : l0.length = 1 ∧ 1 ≤ a1 ∧ a1 ≤ 8
 rotate_left
 ·rw [if_neg hc] at h
  cases h
 rw [if_pos hc] at h
 obtain rfl := Option.some.inj h
 clear h
 obtain ⟨h1, h2, h3⟩ := hc
 obtain ⟨x, rfl⟩ : ∃ x, l0 = [x] := by
  match l0, h1 with
  | [x], _ => exact ⟨x, rfl⟩
 have HM := hqZ (mul_one_small a1 ⟨h2, h3⟩)
 obtain ⟨n, rfl⟩ : ∃ n : Nat, a1 = n := ⟨a1.toNat, by omega⟩
 have hneg : decide ((n : Int) < 0) = false := decide_eq_false (by omega)
 have HR0 := hqZ hr0
 have HC0 := hqZ hc0
 clear hr0 hc0 h1
 have HB := hqZ (Below.refl w.heap.size w)
 go_enter Try.func77, Try.ntmps77
 obtain ⟨ad, eA, hx⟩ := Kd.at_int HR0.1 0 (by omega) (by simp)
 cases eA
 have HX := hqZ (show w.cell? (ad.add 0) = some (.int .i64 x) from hx)
 clear hx
 go_wp2_with (fail)
 refine (yd2.calls 1 n 0 n _ HM.1).mono ?_
 rintro e w' ⟨rfl, ⟨nd, rfl⟩⟩
 have hgt : decide ((n : Int) > 9223372036854775807) = false := decide_eq_false (by omega)
 have hw1 : wrap64 (n : Int) = n := by unfold wrap64; omega
 have HW1 := hqZ hw1
 clear hw1
 go_wp2_with (first | ((with_reducible refine zo0 (N := 30) rfl ?_); refine Kd.R_make (Kd.int .i64) _ 3 rfl (N := 30) rfl 27 _ _ rfl (n : Int) rfl rfl Try.underlying27 (.int .i64 0) 8 info3 rfl (by decide) (by omega) 0 (ok := fun _ => True) (okp := fun _ => True) rfl (fun _ hk => hk) trivial (by omega) (by omega) (Below.refl _ _) (Nat.le_refl _) ?_; intro v122 w4 ho5 hb hg_ hnew_; clear hg_ hnew_; obtain ⟨g, cap, cur, rfl, hbg, HCUR, hnc, hcm, hcs, hct⟩ := own_row ho5 (by simp; omega); have HB4 := hqZ (show Below w.heap.size w w4 from (zj0 (Below.refl _ _) nd).trans (hb.mono (by simp))); have HG4 := hqZ (show w.heap.size ≤ g from hbg); clear ho5 hb hbg; simp only [List.length_replicate, Int.toNat_natCast] at hnc hct ⊢) | ((with_reducible refine wpList_copy_splice rfl (.tmp 31) (.tmp 32) 27 27 rfl 3 Try.underlying27 ?isz (some ⟨g, 0, none⟩) (some ad) n cap 1 c0 rfl rfl g 0 cur 3 HCUR.1 [.int .i64 x] ?hn ?hpos ?hfit ?h1 w.heap.size w HB4.1 HG4.1 ?_); (case isz => rfl); (case hn => exact (Nat.min_eq_left (by omega : 1 ≤ n)).symm); (case hpos => (intro _; exact ⟨rfl, ad, rfl, fun j v hj => by (have hj0 : j = 0 := by (cases j with | zero => rfl | succ j => simp at hj)); subst hj0; obtain rfl := Option.some.inj hj; exact (HB4.1.cell (World.block_lt_of_cell? w _ HX.1)).trans HX.1⟩)); (case hfit => show 0 + 1 ≤ cur.length; omega); (case h1 => (intro v hv; obtain rfl := List.mem_singleton.1 hv; rfl)); intro w5 hc5 hb5; have HC5 := hqZ hc5.out; have HB5 := hqZ hb5; clear hc5 hb5 HCUR))
 obtain ⟨i0q, hi0q, _, hszq, _⟩ := info_parts info3
 have HI := hqZ hi0q
 have HSZ := hqZ hszq
 clear hi0q hszq
 have HISZ := hqZ (show (Try.prog.info? 3).map (·.size) = some 1 by rw [HI.1]; simp [HSZ.1])
 have HST := hqZ (show (splice cur 0 [Value.int .i64 x]).take n = (List.replicate 1 x ++ List.replicate (n - 1) 0).map (Value.int .i64) by
  have h0 := hct.out
  cases hcur : cur with
  | nil => rw [hcur] at hcs; simp at hcs; omega
  | cons y ys =>
   rw [hcur] at h0
   obtain ⟨m, rfl⟩ : ∃ m, n = m + 1 := ⟨n - 1, by omega⟩
   simp only [List.take_succ_cons, List.replicate_succ, List.map_cons] at h0
   injection h0 with h01 h02
   simp [splice, h02])
 have HLS := hqZ (show (splice cur 0 [Value.int .i64 x]).length = cap by rw [length_splice _ _ _ (by show 0 + 1 ≤ cur.length; omega)]; exact hcs)
 go_loopg [8] n (fun kq v8 w' => ∃ (c : Nat) (cu : List Value), v8 = .int .i64 c ∧ 1 ≤ c ∧ c ≤ n ∧ n - c ≤ kq ∧ zi0 (w'.heap[g]? = some (.cells cu.toArray 3 (0, 0))) ∧ zi0 (cu.length = cap) ∧ zi0 (cu.take n = (List.replicate c x ++ List.replicate (n - c) 0).map (Value.int .i64)) ∧ zi0 (Below w.heap.size w w'))
 case atStart => exact ⟨1, _, rfl, Nat.le_refl _, by omega, by omega, ⟨HC5.1⟩, ⟨HLS.1⟩, ⟨HST.1⟩, ⟨HB5.1⟩⟩
 case round =>
  clear HC5 HLS HST HB5 hct HB4 HB
  obtain ⟨c, cu, rfl, hc1, hcn, hg, HC, HL, HT, HB⟩ := hrel
  by_cases hlt : c < n
  rotate_left
  ·have hcn' : c = n := by omega
   subst hcn'
   have hltz : ¬ (c : Int) < (c : Int) := by omega
   have hltb := decide_eq_false hltz
   go_wp2
   go_ret
   refine ⟨_, rfl, ?_, HB.1⟩
   refine Kd.R_of_own ⟨?_, .inr ⟨g, cap, cu.toArray, ?_, HG4.1, HC.1, ?_, ?_, ?_, ?_⟩⟩ (fun _ _ => trivial)
   ·simp [encs]
   ·simp
   ·exact by simpa using hnc
   ·exact hcm
   ·simpa using HL.1
   ·have := HT.1
    simpa [encs] using this
  have hltz : (c : Int) < (n : Int) := by omega
  have hltb := decide_eq_true hltz
  have hcutA := cut_from (P := Try.prog) 27 3 .i64 Try.underlying27 HI.1 1 HSZ.1 (some ⟨g, 0, none⟩) n cap (c : Int) (by omega) (by omega)
  have hcutB := cut_to (P := Try.prog) 27 3 .i64 Try.underlying27 HI.1 (some ⟨g, 0, none⟩) n cap (c : Int) (by omega) (by omega) hnc
  rw [if_neg (by simp; omega)] at hcutA
  simp only [Option.map_some, Int.toNat_natCast, Nat.mul_one, Addr.add_lit, Nat.zero_add] at hcutA hcutB
  obtain ⟨m, hm⟩ : ∃ m, m = min c (n - c) := ⟨_, rfl⟩
  have hm1 : 1 ≤ m := by omega
  have hm2 : m ≤ c := by omega
  have hm3 : c + m ≤ n := by omega
  have HMN := hqZ (show (cu.take m).length = Nat.min c (n - c) by show _ = min c (n - c); rw [List.length_take, HL.1]; omega)
  have hmlen : (cu.take m).length = m := by rw [List.length_take, HL.1]; omega
  have HML := hqZ hmlen
  have HWR := hqZ (show IntKind.i64.wrap ((c : Int) + (m : Int)) = ((c + m : Nat) : Int) from (IntWalk.i64_in _ (by omega)).trans (by omega))
  clear hm hmlen
  have HT2 := hqZ (splice_rep (f := Value.int .i64) cu c m n x 0 HT.1 (by rw [HL.1]; exact hnc) hm2 hm3)
  have HL2 := hqZ (show (splice cu c (cu.take m)).length = cap by rw [length_splice _ _ _ (by rw [HML.1, HL.1]; omega)]; exact HL.1)
  go_wp2
  go_region_law (refine step_copy_splice rfl (.tmp 41) (.tmp 44) 27 27 rfl 3 Try.underlying27 HISZ.1 (some ⟨g, c, none⟩) (some ⟨g, 0, none⟩) (n - c) (cap - c) c cap (by go_simp) (by go_simp) g c cu 3 HC.1 (cu.take m) HMN.1 (fun _ => ⟨rfl, ⟨g, 0, none⟩, rfl, fun j v hj => copy_cell HC.1 hj⟩) (by rw [HML.1, HL.1]; omega) (fun v hv => one_of_rep HT.1 hm2 hcn hv) w.heap.size w (by repeat (first | exact HB.1 | apply zk0 | apply zj0)) HG4.1 ?_; intro w6 hc6 hb6; have HC6 := hqZ hc6.out; have HB6 := hqZ hb6; clear hc6 hb6; rw [HML.1])
  go_wp2
  go_roundg (n - (c + m))
  case measure => omega
  case rel => exact ⟨c + m, _, by rw [HWR.1], by omega, hm3, by omega, ⟨HC6.1⟩, ⟨HL2.1⟩, ⟨HT2.1⟩, ⟨HB6.1⟩⟩
end Go.Proofs.Ytdfabioienofhaa.P
