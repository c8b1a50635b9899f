/- What this text proves: the machine calls of these functions return what the plain functions say. Conditions: as each theorem says. Printed by a program of this session out of the translation. -/
import Derived.Test.YtbnadnfggpnbgaaPSLx0
import Derived.Test.YtbnadnfggpnbgaaPSLx2
import Derived.Test.YtbnadnfggpnbgaaPSLx3
namespace Go.Proofs.Ytbnadnfggpnbgaa.PSL
open Go.RowKit Go.Proofs.YtbnadnfggpnbgaaW.PrintWords Go.Proofs.YtbnadnfggpnbgaaW.PrintLast Go.Proofs.YtbnadnfggpnbgaaW.PrintMore
attribute [local go_sem] max2_int min2_int max_two min_two max_three min_three max_four min_four   -- for this text's walks alone
set_option linter.unusedVariables false
set_option linter.unusedSimpArgs false

/-! ### spec_l11Step: function 53 -/
def spec_l11Step.j0 : Nat → Bool → Int → Int → List Int → Int → Int → List Int → Int → Int → Int → Option (Int × Int × List Int × Int × Int × List Int × Bool)
 | 0, _, _, _, _, _, _, _, _, _, _ => none
 | k + 1, x55, x147000, x147001, x147002, x147003, x147004, x147005, x148000, x148001, x148002 => if x55 = true then (some (x147000, x147001, x147002, x147003, x147004, x147005, false)) else (if x147003 = x148001 then (if x147004 > (wrap64 (x147001 + x148002)) then ((spec_GoodLeases.f k x147000 x147001 x147002 x148001 x147004 x147005).bind fun t153 => (some (x147000, x147001, x147002, x148001, x147004, x147005, t153))) else ((spec_GoodLeases.f k x147000 x147001 x147002 x148001 (wrap64 (x147001 + x148002)) x147005).bind fun t154 => (some (x147000, x147001, x147002, x148001, wrap64 (x147001 + x148002), x147005, t154)))) else ((spec_GoodLeases.f k x147000 x147001 x147002 x148001 (wrap64 (x147001 + x148002)) x147005).bind fun t155 => (some (x147000, x147001, x147002, x148001, wrap64 (x147001 + x148002), x147005, t155))))
def spec_l11Step.f (k : Nat) (a0_0 : Int) (a0_1 : Int) (l0_2 : List Int) (a0_3 : Int) (a0_4 : Int) (l0_5 : List Int) (a1_0 : Int) (a1_1 : Int) (a1_2 : Int) : Option (Int × Int × List Int × Int × Int × List Int × Bool) := if a1_0 = 3 then ((spec_l1In.f a1_2 1 1000000).bind fun t149 => (if t149 = true then ((spec_GoodLeases.f k a0_0 (wrap64 (a0_1 + a1_2)) l0_2 a0_3 a0_4 l0_5).bind fun t150 => (some (a0_0, wrap64 (a0_1 + a1_2), l0_2, a0_3, a0_4, l0_5, t150))) else (some (a0_0, a0_1, l0_2, a0_3, a0_4, l0_5, false)))) else ((spec_l1In.f a1_1 0 (wrap64 ((l0_2.length : Int) - 1))).bind fun t151 => (if t151 = true then (if a1_0 = 1 then ((spec_l1In.f a1_2 1 1000000).bind fun t152 => (if t152 = true then (if a0_3 = a1_1 then (spec_l11Step.j0 k false a0_0 a0_1 l0_2 a0_3 a0_4 l0_5 a1_0 a1_1 a1_2) else (spec_l11Step.j0 k (decide (a0_1 < a0_4)) a0_0 a0_1 l0_2 a0_3 a0_4 l0_5 a1_0 a1_1 a1_2)) else (spec_l11Step.j0 k true a0_0 a0_1 l0_2 a0_3 a0_4 l0_5 a1_0 a1_1 a1_2))) else (if a1_0 = 2 then (if a0_3 = a1_1 then (if 0 ≤ a1_1 then (if a1_1 < (l0_5.length : Int) then ((some (l0_5.set (a1_1 : Int).toNat a0_4 : List Int)).bind fun y156 => ((spec_GoodLeases.f k a0_0 a0_1 l0_2 a0_3 a0_4 y156).bind fun t157 => (some (a0_0, a0_1, l0_2, a0_3, a0_4, y156, t157)))) else (none)) else (none)) else (some (a0_0, a0_1, l0_2, a0_3, a0_4, l0_5, false))) else (if a1_0 = 4 then ((spec_l1In.f a1_2 (-1000) 1000000).bind fun t158 => (if t158 = true then (if 0 ≤ a1_1 then (if a1_1 < (l0_2.length : Int) then ((some (l0_2.set (a1_1 : Int).toNat (wrap64 ((rd l0_2 a1_1) + a1_2)) : List Int)).bind fun y160 => ((spec_GoodLeases.f k a0_0 a0_1 y160 a0_3 a0_4 l0_5).bind fun t161 => (some (a0_0, a0_1, y160, a0_3, a0_4, l0_5, t161)))) else (none)) else (none)) else (some (a0_0, a0_1, l0_2, a0_3, a0_4, l0_5, false)))) else (some (a0_0, a0_1, l0_2, a0_3, a0_4, l0_5, false))))) else (some (a0_0, a0_1, l0_2, a0_3, a0_4, l0_5, false))))
theorem spec_l11Step.mono_l : ∀ k, (∀ y0 y1 y2 y3 y4 y5 y6 y7 y8 y9, LeO (spec_l11Step.j0 k y0 y1 y2 y3 y4 y5 y6 y7 y8 y9) (spec_l11Step.j0 (k + 1) y0 y1 y2 y3 y4 y5 y6 y7 y8 y9))
 | 0 => fun _ _ _ _ _ _ _ _ _ _ r h => by simp [spec_l11Step.j0] at h
 | k + 1 => by
  have ih0 := spec_l11Step.mono_l k
  ·intro y0 y1 y2 y3 y4 y5 y6 y7 y8 y9
   unfold spec_l11Step.j0
   repeat' first
   | (with_reducible exact ih0 _ _ _ _ _ _ _ _ _ _)
   | (with_reducible exact spec_GoodLeases.mono _ _ _ _ _ _ _)
   | (with_reducible exact LeO.refl _)
   | (with_reducible exact LeO.none _)
   | (with_reducible refine LeO.ite ?_ ?_)
   | (with_reducible refine LeO.bind ?_ (fun _ => ?_))
   | exact ih0 _ _ _ _ _ _ _ _ _ _
   | exact spec_GoodLeases.mono _ _ _ _ _ _ _
   | exact LeO.none _
   | refine LeO.ite ?_ ?_
   | refine LeO.bind ?_ (fun _ => ?_)
theorem spec_l11Step.mono : ∀ a0 a1 a2 a3 a4 a5 a6 a7 a8 k, LeO (spec_l11Step.f k a0 a1 a2 a3 a4 a5 a6 a7 a8) (spec_l11Step.f (k + 1) a0 a1 a2 a3 a4 a5 a6 a7 a8) := by
 intro a0 a1 a2 a3 a4 a5 a6 a7 a8 k
 have ih0 := spec_l11Step.mono_l k
 unfold spec_l11Step.f
 repeat' first
   | (with_reducible exact ih0 _ _ _ _ _ _ _ _ _ _)
   | (with_reducible exact spec_GoodLeases.mono _ _ _ _ _ _ _)
   | (with_reducible exact LeO.refl _)
   | (with_reducible exact LeO.none _)
   | (with_reducible refine LeO.ite ?_ ?_)
   | (with_reducible refine LeO.bind ?_ (fun _ => ?_))
   | exact ih0 _ _ _ _ _ _ _ _ _ _
   | exact spec_GoodLeases.mono _ _ _ _ _ _ _
   | exact LeO.none _
   | refine LeO.ite ?_ ?_
   | refine LeO.bind ?_ (fun _ => ?_)
def spec_l11Step.T25 : Bool × List (List Nat × List Nat) := (true, [([], []), ([0], [0]), ([], []), ([2], [2]), ([1, 3], [1, 3]), ([4], [4]), ([], []), ([6], [6]), ([5, 7], [5, 7]), ([1, 3, 0, 1, 2, 3, 4, 5, 6, 7, 8], [1, 3]), ([9, 8, 0, 1, 2, 3, 4, 5, 6, 7, 8], [8, 9])])
def spec_l11Step.B25 : List Nat := [0, 1, 0, 4, 15, 31, 0, 64, 255, 511, 1023]
theorem spec_l11Step.tab25 : rtab .any (opsOf Try.f53 25) = spec_l11Step.T25 := by kernel_rfl
theorem spec_l11Step.bits25 : waitsOk spec_l11Step.T25.2 spec_l11Step.B25 = true := by kernel_rfl
set_option maxHeartbeats 8000000 in
set_option maxRecDepth 100000 in
theorem spec_l11Step.calls (k : Nat) (a0_0 : Int) (a0_1 : Int) (P0_2_ : Nat → Prop) (u9000_ : Value) (l0_2 : List Int) (a0_3 : Int) (a0_4 : Int) (P0_5_ : Nat → Prop) (u9001_ : Value) (l0_5 : List Int) (a1_0 : Int) (a1_1 : Int) (a1_2 : Int) (r1 : Int) (r2 : Int) (r3 : List Int) (r4 : Int) (r5 : Int) (r6 : List Int) (r7 : Bool) (w0 w : World) (hB : Below w0.heap.size w0 w) (ho0_2 : Kd.R (Kd.int .i64) 3 w w0.heap.size P0_2_ u9000_ l0_2) (hp0_2_0_5 : ∀ k_, P0_2_ k_ → ¬ P0_5_ k_) (ho0_5 : Kd.R (Kd.int .i64) 3 w w0.heap.size P0_5_ u9001_ l0_5) (hp0_5_0_2 : ∀ k_, P0_5_ k_ → ¬ P0_2_ k_) (h : spec_l11Step.f k a0_0 a0_1 l0_2 a0_3 a0_4 l0_5 a1_0 a1_1 a1_2 = some (r1, r2, r3, r4, r5, r6, r7)) :
  Calls Try.prog 53 #[.agg #[.int .i64 a0_0, .int .i64 a0_1, u9000_, .int .i64 a0_3, .int .i64 a0_4, u9001_], .agg #[.int .i64 a1_0, .int .i64 a1_1, .int .i64 a1_2]] w fun e w' => ∃ v2_ v5_ : Value, e = .returned (.tuple #[.agg #[.int .i64 r1, .int .i64 r2, v2_, .int .i64 r4, .int .i64 r5, v5_], .bool r7]) ∧ Kd.R (Kd.int .i64) 3 w' w0.heap.size (fun k_ => ((P0_2_ k_ ∨ P0_5_ k_) ∨ w.heap.size ≤ k_) ∧ some k_ ≠ (v5_ : Value).ownBlock) v2_ r3 ∧ Kd.R (Kd.int .i64) 3 w' w0.heap.size (fun k_ => ((P0_2_ k_ ∨ P0_5_ k_) ∨ w.heap.size ≤ k_) ∧ some k_ ≠ (v2_ : Value).ownBlock) v5_ r6 ∧ Below w0.heap.size w0 w' ∧ Kept w w' (fun k_ => P0_2_ k_ ∨ P0_5_ k_) := by
 have hu24 := Try.underlying24
 have hu45 := Try.underlying45
 have HO0_2 := Aside0.mk (show Kd.R (Kd.int .i64) 3 w w0.heap.size (fun k_ => ((P0_2_ k_ ∨ P0_5_ k_) ∨ w.heap.size ≤ k_) ∧ some k_ ≠ (u9001_ : Value).ownBlock) u9000_ l0_2 from Kd.R_mono ho0_2 (fun k_ hk => ⟨(.inl (.inl hk)), fun e_ => hp0_2_0_5 k_ hk (ho0_5.1 k_ e_.symm)⟩))
 have HO0_5 := Aside0.mk (show Kd.R (Kd.int .i64) 3 w w0.heap.size (fun k_ => ((P0_2_ k_ ∨ P0_5_ k_) ∨ w.heap.size ≤ k_) ∧ some k_ ≠ (u9000_ : Value).ownBlock) u9001_ l0_5 from Kd.R_mono ho0_5 (fun k_ hk => ⟨(.inl (.inr hk)), fun e_ => hp0_5_0_2 k_ hk (ho0_2.1 k_ e_.symm)⟩))
 have HK := Aside0.mk (Kept.refl w (fun k_ => P0_2_ k_ ∨ P0_5_ k_))
 have HW0 := Aside0.mk hB.size
 have HB := Aside0.mk hB
 clear hB
 have H : (if a1_0 = 3 then ((spec_l1In.f a1_2 1 1000000).bind fun t149 => (if t149 = true then ((spec_GoodLeases.f k a0_0 (wrap64 (a0_1 + a1_2)) l0_2 a0_3 a0_4 l0_5).bind fun t150 => (some (a0_0, wrap64 (a0_1 + a1_2), l0_2, a0_3, a0_4, l0_5, t150))) else (some (a0_0, a0_1, l0_2, a0_3, a0_4, l0_5, false)))) else ((spec_l1In.f a1_1 0 (wrap64 ((l0_2.length : Int) - 1))).bind fun t151 => (if t151 = true then (if a1_0 = 1 then ((spec_l1In.f a1_2 1 1000000).bind fun t152 => (if t152 = true then (if a0_3 = a1_1 then (spec_l11Step.j0 k false a0_0 a0_1 l0_2 a0_3 a0_4 l0_5 a1_0 a1_1 a1_2) else (spec_l11Step.j0 k (decide (a0_1 < a0_4)) a0_0 a0_1 l0_2 a0_3 a0_4 l0_5 a1_0 a1_1 a1_2)) else (spec_l11Step.j0 k true a0_0 a0_1 l0_2 a0_3 a0_4 l0_5 a1_0 a1_1 a1_2))) else (if a1_0 = 2 then (if a0_3 = a1_1 then (if 0 ≤ a1_1 then (if a1_1 < (l0_5.length : Int) then ((some (l0_5.set (a1_1 : Int).toNat a0_4 : List Int)).bind fun y156 => ((spec_GoodLeases.f k a0_0 a0_1 l0_2 a0_3 a0_4 y156).bind fun t157 => (some (a0_0, a0_1, l0_2, a0_3, a0_4, y156, t157)))) else (none)) else (none)) else (some (a0_0, a0_1, l0_2, a0_3, a0_4, l0_5, false))) else (if a1_0 = 4 then ((spec_l1In.f a1_2 (-1000) 1000000).bind fun t158 => (if t158 = true then (if 0 ≤ a1_1 then (if a1_1 < (l0_2.length : Int) then ((some (l0_2.set (a1_1 : Int).toNat (wrap64 ((rd l0_2 a1_1) + a1_2)) : List Int)).bind fun y160 => ((spec_GoodLeases.f k a0_0 a0_1 y160 a0_3 a0_4 l0_5).bind fun t161 => (some (a0_0, a0_1, y160, a0_3, a0_4, l0_5, t161)))) else (none)) else (none)) else (some (a0_0, a0_1, l0_2, a0_3, a0_4, l0_5, false)))) else (some (a0_0, a0_1, l0_2, a0_3, a0_4, l0_5, false))))) else (some (a0_0, a0_1, l0_2, a0_3, a0_4, l0_5, false))))) = some (r1, r2, r3, r4, r5, r6, r7) := h
 clear h
 by_cases c3 : a1_0 = 3
 ·rw [if_pos c3] at H
  have c3b0 : (a1_0 == 3) = true := beq_iff_eq.mpr c3
  have c3b1 : (a1_0 != 3) = false := bne_eq_false_iff_eq.mpr c3
  clear c3
  replace H := Option.bind_eq_some_iff.mp H
  obtain ⟨t149, A40, H⟩ := H
  replace H : (if t149 = true then ((spec_GoodLeases.f k a0_0 (wrap64 (a0_1 + a1_2)) l0_2 a0_3 a0_4 l0_5).bind fun t150 => (some (a0_0, wrap64 (a0_1 + a1_2), l0_2, a0_3, a0_4, l0_5, t150))) else (some (a0_0, a0_1, l0_2, a0_3, a0_4, l0_5, false))) = some (r1, r2, r3, r4, r5, r6, r7) := H
  have A4 := Aside0.mk A40
  clear A40
  by_cases c5 : t149 = true
  rotate_left
  ·replace c5 := Bool.eq_false_iff.mpr c5
   subst c5
   have H1 : (some (a0_0, a0_1, l0_2, a0_3, a0_4, l0_5, false)) = some (r1, r2, r3, r4, r5, r6, r7) := by rw [if_neg (show ¬ (false = true) by decide)] at H; exact H
   clear H
   have H := H1
   clear H1
   simp only [Option.some.injEq, Prod.mk.injEq] at H
   obtain ⟨rfl, rfl, rfl, rfl, rfl, rfl, rfl⟩ := H
   obtain ⟨Ao26, co26, eo26⟩ := Kd.R_slice HO0_2.out
   subst eo26
   obtain ⟨Ao27, co27, eo27⟩ := Kd.R_slice HO0_5.out
   subst eo27
   go_enter Try.func53, Try.ntmps53
   go_wp2_with (first | ((with_reducible refine gate_dst (N := 2) rfl ?_); refine box_event rfl (N := 2) rfl (cs := #[.int .i64 a0_0, .int .i64 a0_1, .slice Ao26 l0_2.length co26, .int .i64 a0_3, .int .i64 a0_4, .slice Ao27 l0_5.length co27]) (t := 24) gs_ ?_; intro gb146 hg w28 hbox hb; replace HO0_2 := rb_ HO0_2 hb; replace HO0_5 := rb_ HO0_5 hb; have BK146 := Aside0.mk (hbox); have GW146 := Aside0.mk ((by rw [hg]; exact (by first | exact HK.out.1 | exact (show Kept w _ (fun k_ => P0_2_ k_ ∨ P0_5_ k_) from by repeat (first | (with_reducible first | exact HK.out | apply Kept.alloc | apply Kept.drewN | apply Kept.drew) | exact HK.out)).1) : w.heap.size ≤ gb146)); replace HK := Aside0.mk (Kept.below (S := (fun k_ => P0_2_ k_ ∨ P0_5_ k_)) (by repeat (first | (with_reducible first | exact HK.out | apply Kept.alloc | apply Kept.drewN | apply Kept.drew) | exact HK.out)) hb); have GE146 := Aside0.mk ((by rw [hg]; exact bz_ : w0.heap.size ≤ gb146)); replace HB := Aside0.mk (below_step bl_ hb); clear hb hbox hg) | ((with_reducible refine gate_dst (N := 3) rfl ?_); refine box_event rfl (N := 3) rfl (cs := #[.int .i64 a1_0, .int .i64 a1_1, .int .i64 a1_2]) (t := 45) gs_ ?_; intro gb147 hg w29 hbox hb; replace HO0_2 := rb_ HO0_2 hb; replace HO0_5 := rb_ HO0_5 hb; have BK147 := Aside0.mk (hbox); have GW147 := Aside0.mk ((by rw [hg]; exact (by first | exact HK.out.1 | exact (show Kept w _ (fun k_ => P0_2_ k_ ∨ P0_5_ k_) from by repeat (first | (with_reducible first | exact HK.out | apply Kept.alloc | apply Kept.drewN | apply Kept.drew | refine Kept.setCell ?_ (.inr GW146.out) _) | exact HK.out)).1) : w.heap.size ≤ gb147)); replace HK := Aside0.mk (Kept.below (S := (fun k_ => P0_2_ k_ ∨ P0_5_ k_)) (by repeat (first | (with_reducible first | exact HK.out | apply Kept.alloc | apply Kept.drewN | apply Kept.drew | refine Kept.setCell ?_ (.inr GW146.out) _) | exact HK.out)) hb); have GE147 := Aside0.mk ((by rw [hg]; exact bz_ : w0.heap.size ≤ gb147)); replace HB := Aside0.mk (below_step bl_ hb); have NB146_147 := nl_ hg BK146; have NB147_146 := nm_ hg BK146; replace BK146 := bb_ BK146 hb; clear hb hbox hg) | ((with_reducible refine gate_dst (N := 4) rfl ?_); refine box_event rfl (N := 4) rfl (cs := #[.int .i64 0, .int .i64 0, .slice none 0 0, .int .i64 0, .int .i64 0, .slice none 0 0]) (t := 24) gs_ ?_; intro gb148 hg w30 hbox hb; replace HO0_2 := rb_ HO0_2 hb; replace HO0_5 := rb_ HO0_5 hb; have BK148 := Aside0.mk (hbox); have GW148 := Aside0.mk ((by rw [hg]; exact (by first | exact HK.out.1 | exact (show Kept w _ (fun k_ => P0_2_ k_ ∨ P0_5_ k_) from by repeat (first | (with_reducible first | exact HK.out | apply Kept.alloc | apply Kept.drewN | apply Kept.drew | refine Kept.setCell ?_ (.inr GW146.out) _ | refine Kept.setCell ?_ (.inr GW147.out) _) | exact HK.out)).1) : w.heap.size ≤ gb148)); replace HK := Aside0.mk (Kept.below (S := (fun k_ => P0_2_ k_ ∨ P0_5_ k_)) (by repeat (first | (with_reducible first | exact HK.out | apply Kept.alloc | apply Kept.drewN | apply Kept.drew | refine Kept.setCell ?_ (.inr GW146.out) _ | refine Kept.setCell ?_ (.inr GW147.out) _) | exact HK.out)) hb); have GE148 := Aside0.mk ((by rw [hg]; exact bz_ : w0.heap.size ≤ gb148)); replace HB := Aside0.mk (below_step bl_ hb); have NB146_148 := nl_ hg BK146; have NB148_146 := nm_ hg BK146; replace BK146 := bb_ BK146 hb; have NB147_148 := nl_ hg BK147; have NB148_147 := nm_ hg BK147; replace BK147 := bb_ BK147 hb; clear hb hbox hg; have hnb31 := NB147_146.out; have hnc31 := NB146_147.out; have hnb32 := NB147_148.out; have hnc32 := NB148_147.out; have hcz33_0 : w30.cell? ⟨gb147, 0, none⟩ = some (.int .i64 a1_0) := bc_ BK147.out 0; have hcz33_1 : w30.cell? ⟨gb147, 1, none⟩ = some (.int .i64 a1_1) := bc_ BK147.out 1; have hcz33_2 : w30.cell? ⟨gb147, 2, none⟩ = some (.int .i64 a1_2) := bc_ BK147.out 2; have hfz33_0 := blk_frozen BK147.out 0; have hfz33_1 := blk_frozen BK147.out 1; have hfz33_2 := blk_frozen BK147.out 2) | ((with_reducible refine gate_callee (f := 45) rfl ?_); refine goesL_ (some 12) rfl rfl Try.func45 (by kernel_rfl) rfl #[.int .i64 a1_2, .int .i64 1, .int .i64 1000000] rfl nc_ ?_; (with_reducible refine (spec_l1In.calls a1_2 1 1000000 false _ A4.out).mono ?_); rintro e w' ⟨rfl, ⟨nd, rfl⟩⟩; refine ⟨_, rfl, ?_⟩; (try (rw [drewN_self w30]; generalize hq_ : World.drewN w30 _ = w30; have n0_ : Aside0 (Kd.R (Kd.int .i64) 3 w30 w0.heap.size (fun k_ => ((P0_2_ k_ ∨ P0_5_ k_) ∨ w.heap.size ≤ k_) ∧ some k_ ≠ (.slice Ao27 l0_5.length co27 : Value).ownBlock) (.slice Ao26 l0_2.length co26) l0_2) := ⟨by rw [← hq_]; exact (kr_ HO0_2.out)⟩; have n1_ : Aside0 (Kd.R (Kd.int .i64) 3 w30 w0.heap.size (fun k_ => ((P0_2_ k_ ∨ P0_5_ k_) ∨ w.heap.size ≤ k_) ∧ some k_ ≠ (.slice Ao26 l0_2.length co26 : Value).ownBlock) (.slice Ao27 l0_5.length co27) l0_5) := ⟨by rw [← hq_]; exact (kr_ HO0_5.out)⟩; have n2_ : Aside0 (w30.heap[gb146]? = some (.cells #[.int .i64 a0_0, .int .i64 a0_1, .slice Ao26 l0_2.length co26, .int .i64 a0_3, .int .i64 a0_4, .slice Ao27 l0_5.length co27] 24 (0, 0))) := ⟨by rw [← hq_]; exact (kb_ BK146.out)⟩; have n3_ : Aside0 (w30.heap[gb147]? = some (.cells #[.int .i64 a1_0, .int .i64 a1_1, .int .i64 a1_2] 45 (0, 0))) := ⟨by rw [← hq_]; exact (kb_ BK147.out)⟩; have n4_ : Aside0 (w30.heap[gb148]? = some (.cells #[.int .i64 0, .int .i64 0, .slice none 0 0, .int .i64 0, .int .i64 0, .slice none 0 0] 24 (0, 0))) := ⟨by rw [← hq_]; exact (kb_ BK148.out)⟩; have n5_ : Aside0 (Kept w w30 (fun k_ => P0_2_ k_ ∨ P0_5_ k_)) := ⟨by rw [← hq_]; exact (by repeat (first | (with_reducible first | exact HK.out | apply Kept.alloc | apply Kept.drewN | apply Kept.drew | refine Kept.setCell ?_ (.inr GW146.out) _ | refine Kept.setCell ?_ (.inr GW147.out) _ | refine Kept.setCell ?_ (.inr GW148.out) _) | exact HK.out))⟩; have n6_ : Aside0 (Below w0.heap.size w0 w30) := ⟨by rw [← hq_]; exact bl_⟩; clear HO0_2 HO0_5 BK146 BK147 BK148 HK HB hq_; have HO0_2 := n0_; have HO0_5 := n1_; have BK146 := n2_; have BK147 := n3_; have BK148 := n4_; have HK := n5_; have HB := n6_; clear n0_ n1_ n2_ n3_ n4_ n5_ n6_)); (try (have hcz33_0 : w30.cell? ⟨gb147, 0, none⟩ = some (.int .i64 a1_0) := bc_ BK147.out 0)); (try (have hcz33_1 : w30.cell? ⟨gb147, 1, none⟩ = some (.int .i64 a1_1) := bc_ BK147.out 1)); (try (have hcz33_2 : w30.cell? ⟨gb147, 2, none⟩ = some (.int .i64 a1_2) := bc_ BK147.out 2)); (try (have hfz33_0 := blk_frozen BK147.out 0)); (try (have hfz33_1 := blk_frozen BK147.out 1)); (try (have hfz33_2 := blk_frozen BK147.out 2)); have hnb34 := NB146_148.out; have hnc34 := NB148_146.out; have hcz35_0 : w30.cell? ⟨gb146, 0, none⟩ = some (.int .i64 a0_0) := bc_ BK146.out 0; have hcz35_1 : w30.cell? ⟨gb146, 1, none⟩ = some (.int .i64 a0_1) := bc_ BK146.out 1; have hcz35_2 : w30.cell? ⟨gb146, 2, none⟩ = some (.slice Ao26 l0_2.length co26) := bc_ BK146.out 2; have hcz35_3 : w30.cell? ⟨gb146, 3, none⟩ = some (.int .i64 a0_3) := bc_ BK146.out 3; have hcz35_4 : w30.cell? ⟨gb146, 4, none⟩ = some (.int .i64 a0_4) := bc_ BK146.out 4; have hcz35_5 : w30.cell? ⟨gb146, 5, none⟩ = some (.slice Ao27 l0_5.length co27) := bc_ BK146.out 5; have hfz35_0 := blk_frozen BK146.out 0; have hfz35_1 := blk_frozen BK146.out 1; have hfz35_2 := blk_frozen BK146.out 2; have hfz35_3 := blk_frozen BK146.out 3; have hfz35_4 := blk_frozen BK146.out 4; have hfz35_5 := blk_frozen BK146.out 5; have hcz36_0 : w30.cell? ⟨gb148, 0, none⟩ = some (.int .i64 0) := bc_ BK148.out 0; have hcz36_1 : w30.cell? ⟨gb148, 1, none⟩ = some (.int .i64 0) := bc_ BK148.out 1; have hcz36_2 : w30.cell? ⟨gb148, 2, none⟩ = some (.slice none 0 0) := bc_ BK148.out 2; have hcz36_3 : w30.cell? ⟨gb148, 3, none⟩ = some (.int .i64 0) := bc_ BK148.out 3; have hcz36_4 : w30.cell? ⟨gb148, 4, none⟩ = some (.int .i64 0) := bc_ BK148.out 4; have hcz36_5 : w30.cell? ⟨gb148, 5, none⟩ = some (.slice none 0 0) := bc_ BK148.out 5; have hfz36_0 := blk_frozen BK148.out 0; have hfz36_1 := blk_frozen BK148.out 1; have hfz36_2 := blk_frozen BK148.out 2; have hfz36_3 := blk_frozen BK148.out 3; have hfz36_4 := blk_frozen BK148.out 4; have hfz36_5 := blk_frozen BK148.out 5))
   refine bodyPost_ret (results_ct rfl _ _ gb148 24 #[.int .i64 a0_0, .int .i64 a0_1, .slice Ao26 l0_2.length co26, .int .i64 a0_3, .int .i64 a0_4, .slice Ao27 l0_5.length co27] (0, 0) _ rfl (by (with_reducible repeat (first | refine blk_drewN ?_ _ | refine blk_drew ?_ | refine blk_alloc ?_ _)); refine blk_put (cs := #[.int .i64 a0_0, .int .i64 a0_1, .slice Ao26 l0_2.length co26, .int .i64 a0_3, .int .i64 a0_4, .slice none 0 0]) ?_ 5 _ rfl; (with_reducible repeat (first | refine blk_drewN ?_ _ | refine blk_drew ?_ | refine blk_alloc ?_ _)); refine blk_put (cs := #[.int .i64 a0_0, .int .i64 a0_1, .slice Ao26 l0_2.length co26, .int .i64 a0_3, .int .i64 0, .slice none 0 0]) ?_ 4 _ rfl; (with_reducible repeat (first | refine blk_drewN ?_ _ | refine blk_drew ?_ | refine blk_alloc ?_ _)); refine blk_put (cs := #[.int .i64 a0_0, .int .i64 a0_1, .slice Ao26 l0_2.length co26, .int .i64 0, .int .i64 0, .slice none 0 0]) ?_ 3 _ rfl; (with_reducible repeat (first | refine blk_drewN ?_ _ | refine blk_drew ?_ | refine blk_alloc ?_ _)); refine blk_put (cs := #[.int .i64 a0_0, .int .i64 a0_1, .slice none 0 0, .int .i64 0, .int .i64 0, .slice none 0 0]) ?_ 2 _ rfl; (with_reducible repeat (first | refine blk_drewN ?_ _ | refine blk_drew ?_ | refine blk_alloc ?_ _)); refine blk_put (cs := #[.int .i64 a0_0, .int .i64 0, .slice none 0 0, .int .i64 0, .int .i64 0, .slice none 0 0]) ?_ 1 _ rfl; (with_reducible repeat (first | refine blk_drewN ?_ _ | refine blk_drew ?_ | refine blk_alloc ?_ _)); refine blk_put (cs := #[.int .i64 0, .int .i64 0, .slice none 0 0, .int .i64 0, .int .i64 0, .slice none 0 0]) ?_ 0 _ rfl; exact kb_ BK148.out) Try.underlying24 rfl (by kernel_rfl)) rfl ?_
   exact ⟨_, _, ng_, by exact kr_ (Kd.R_mono (Kd.R_far (p := ⟨gb148, 5, none⟩) (Kd.R_far (p := ⟨gb148, 4, none⟩) (Kd.R_far (p := ⟨gb148, 3, none⟩) (Kd.R_far (p := ⟨gb148, 2, none⟩) (Kd.R_far (p := ⟨gb148, 1, none⟩) (Kd.R_far (p := ⟨gb148, 0, none⟩) (Kd.R_types HO0_2.out BK148.out (by decide)) (fun _ hk => hk.2) (.int .i64 a0_0)) (fun _ hk => hk.2) (.int .i64 a0_1)) (fun _ hk => hk.2) (.slice Ao26 l0_2.length co26)) (fun _ hk => hk.2) (.int .i64 a0_3)) (fun _ hk => hk.2) (.int .i64 a0_4)) (fun _ hk => hk.2) (.slice Ao27 l0_5.length co27)) (fun _ hk => ⟨hk.1.1, hk.1.2⟩)), by exact kr_ (Kd.R_mono (Kd.R_far (p := ⟨gb148, 5, none⟩) (Kd.R_far (p := ⟨gb148, 4, none⟩) (Kd.R_far (p := ⟨gb148, 3, none⟩) (Kd.R_far (p := ⟨gb148, 2, none⟩) (Kd.R_far (p := ⟨gb148, 1, none⟩) (Kd.R_far (p := ⟨gb148, 0, none⟩) (Kd.R_types HO0_5.out BK148.out (by decide)) (fun _ hk => hk.2) (.int .i64 a0_0)) (fun _ hk => hk.2) (.int .i64 a0_1)) (fun _ hk => hk.2) (.slice Ao26 l0_2.length co26)) (fun _ hk => hk.2) (.int .i64 a0_3)) (fun _ hk => hk.2) (.int .i64 a0_4)) (fun _ hk => hk.2) (.slice Ao27 l0_5.length co27)) (fun _ hk => ⟨hk.1.1, hk.1.2⟩)), bl_, by repeat (first | (with_reducible first | exact HK.out | apply Kept.alloc | apply Kept.drewN | apply Kept.drew | refine Kept.setCell ?_ (.inr GW146.out) _ | refine Kept.setCell ?_ (.inr GW147.out) _ | refine Kept.setCell ?_ (.inr GW148.out) _) | exact HK.out)⟩
  subst c5
  have H1 : ((spec_GoodLeases.f k a0_0 (wrap64 (a0_1 + a1_2)) l0_2 a0_3 a0_4 l0_5).bind fun t150 => (some (a0_0, wrap64 (a0_1 + a1_2), l0_2, a0_3, a0_4, l0_5, t150))) = some (r1, r2, r3, r4, r5, r6, r7) := by rw [if_pos rfl] at H; exact H
  clear H
  have H := H1
  clear H1
  replace H := Option.bind_eq_some_iff.mp H
  obtain ⟨t150, A60, H⟩ := H
  replace H : (some (a0_0, wrap64 (a0_1 + a1_2), l0_2, a0_3, a0_4, l0_5, t150)) = some (r1, r2, r3, r4, r5, r6, r7) := H
  have A6 := Aside0.mk A60
  clear A60
  simp only [Option.some.injEq, Prod.mk.injEq] at H
  obtain ⟨rfl, rfl, rfl, rfl, rfl, rfl, rfl⟩ := H
  obtain ⟨Ao7, co7, eo7⟩ := Kd.R_slice HO0_2.out
  subst eo7
  obtain ⟨Ao8, co8, eo8⟩ := Kd.R_slice HO0_5.out
  subst eo8
  go_enter Try.func53, Try.ntmps53
  try go_wp2_with (first | ((with_reducible refine gate_dst (N := 2) rfl ?_); refine box_event rfl (N := 2) rfl (cs := #[.int .i64 a0_0, .int .i64 a0_1, .slice Ao7 l0_2.length co7, .int .i64 a0_3, .int .i64 a0_4, .slice Ao8 l0_5.length co8]) (t := 24) gs_ ?_; intro gb146 hg w9 hbox hb; replace HO0_2 := rb_ HO0_2 hb; replace HO0_5 := rb_ HO0_5 hb; have BK146 := Aside0.mk (hbox); have GW146 := Aside0.mk ((by rw [hg]; exact (by first | exact HK.out.1 | exact (show Kept w _ (fun k_ => P0_2_ k_ ∨ P0_5_ k_) from by repeat (first | (with_reducible first | exact HK.out | apply Kept.alloc | apply Kept.drewN | apply Kept.drew) | exact HK.out)).1) : w.heap.size ≤ gb146)); replace HK := Aside0.mk (Kept.below (S := (fun k_ => P0_2_ k_ ∨ P0_5_ k_)) (by repeat (first | (with_reducible first | exact HK.out | apply Kept.alloc | apply Kept.drewN | apply Kept.drew) | exact HK.out)) hb); have GE146 := Aside0.mk ((by rw [hg]; exact bz_ : w0.heap.size ≤ gb146)); replace HB := Aside0.mk (below_step bl_ hb); clear hb hbox hg) | ((with_reducible refine gate_dst (N := 3) rfl ?_); refine box_event rfl (N := 3) rfl (cs := #[.int .i64 a1_0, .int .i64 a1_1, .int .i64 a1_2]) (t := 45) gs_ ?_; intro gb147 hg w10 hbox hb; replace HO0_2 := rb_ HO0_2 hb; replace HO0_5 := rb_ HO0_5 hb; have BK147 := Aside0.mk (hbox); have GW147 := Aside0.mk ((by rw [hg]; exact (by first | exact HK.out.1 | exact (show Kept w _ (fun k_ => P0_2_ k_ ∨ P0_5_ k_) from by repeat (first | (with_reducible first | exact HK.out | apply Kept.alloc | apply Kept.drewN | apply Kept.drew | refine Kept.setCell ?_ (.inr GW146.out) _) | exact HK.out)).1) : w.heap.size ≤ gb147)); replace HK := Aside0.mk (Kept.below (S := (fun k_ => P0_2_ k_ ∨ P0_5_ k_)) (by repeat (first | (with_reducible first | exact HK.out | apply Kept.alloc | apply Kept.drewN | apply Kept.drew | refine Kept.setCell ?_ (.inr GW146.out) _) | exact HK.out)) hb); have GE147 := Aside0.mk ((by rw [hg]; exact bz_ : w0.heap.size ≤ gb147)); replace HB := Aside0.mk (below_step bl_ hb); have NB146_147 := nl_ hg BK146; have NB147_146 := nm_ hg BK146; replace BK146 := bb_ BK146 hb; clear hb hbox hg) | ((with_reducible refine gate_dst (N := 4) rfl ?_); refine box_event rfl (N := 4) rfl (cs := #[.int .i64 0, .int .i64 0, .slice none 0 0, .int .i64 0, .int .i64 0, .slice none 0 0]) (t := 24) gs_ ?_; intro gb148 hg w11 hbox hb; replace HO0_2 := rb_ HO0_2 hb; replace HO0_5 := rb_ HO0_5 hb; have BK148 := Aside0.mk (hbox); have GW148 := Aside0.mk ((by rw [hg]; exact (by first | exact HK.out.1 | exact (show Kept w _ (fun k_ => P0_2_ k_ ∨ P0_5_ k_) from by repeat (first | (with_reducible first | exact HK.out | apply Kept.alloc | apply Kept.drewN | apply Kept.drew | refine Kept.setCell ?_ (.inr GW146.out) _ | refine Kept.setCell ?_ (.inr GW147.out) _) | exact HK.out)).1) : w.heap.size ≤ gb148)); replace HK := Aside0.mk (Kept.below (S := (fun k_ => P0_2_ k_ ∨ P0_5_ k_)) (by repeat (first | (with_reducible first | exact HK.out | apply Kept.alloc | apply Kept.drewN | apply Kept.drew | refine Kept.setCell ?_ (.inr GW146.out) _ | refine Kept.setCell ?_ (.inr GW147.out) _) | exact HK.out)) hb); have GE148 := Aside0.mk ((by rw [hg]; exact bz_ : w0.heap.size ≤ gb148)); replace HB := Aside0.mk (below_step bl_ hb); have NB146_148 := nl_ hg BK146; have NB148_146 := nm_ hg BK146; replace BK146 := bb_ BK146 hb; have NB147_148 := nl_ hg BK147; have NB148_147 := nm_ hg BK147; replace BK147 := bb_ BK147 hb; clear hb hbox hg; have hnb12 := NB147_146.out; have hnc12 := NB146_147.out; have hnb13 := NB147_148.out; have hnc13 := NB148_147.out; have hcz14_0 : w11.cell? ⟨gb147, 0, none⟩ = some (.int .i64 a1_0) := bc_ BK147.out 0; have hcz14_1 : w11.cell? ⟨gb147, 1, none⟩ = some (.int .i64 a1_1) := bc_ BK147.out 1; have hcz14_2 : w11.cell? ⟨gb147, 2, none⟩ = some (.int .i64 a1_2) := bc_ BK147.out 2; have hfz14_0 := blk_frozen BK147.out 0; have hfz14_1 := blk_frozen BK147.out 1; have hfz14_2 := blk_frozen BK147.out 2) | ((with_reducible refine gate_callee (f := 45) rfl ?_); refine goesL_ (some 12) rfl rfl Try.func45 (by kernel_rfl) rfl #[.int .i64 a1_2, .int .i64 1, .int .i64 1000000] rfl nc_ ?_; (with_reducible refine (spec_l1In.calls a1_2 1 1000000 true _ A4.out).mono ?_); rintro e w' ⟨rfl, ⟨nd, rfl⟩⟩; refine ⟨_, rfl, ?_⟩; (try (rw [drewN_self w11]; generalize hq_ : World.drewN w11 _ = w11; have n0_ : Aside0 (Kd.R (Kd.int .i64) 3 w11 w0.heap.size (fun k_ => ((P0_2_ k_ ∨ P0_5_ k_) ∨ w.heap.size ≤ k_) ∧ some k_ ≠ (.slice Ao8 l0_5.length co8 : Value).ownBlock) (.slice Ao7 l0_2.length co7) l0_2) := ⟨by rw [← hq_]; exact (kr_ HO0_2.out)⟩; have n1_ : Aside0 (Kd.R (Kd.int .i64) 3 w11 w0.heap.size (fun k_ => ((P0_2_ k_ ∨ P0_5_ k_) ∨ w.heap.size ≤ k_) ∧ some k_ ≠ (.slice Ao7 l0_2.length co7 : Value).ownBlock) (.slice Ao8 l0_5.length co8) l0_5) := ⟨by rw [← hq_]; exact (kr_ HO0_5.out)⟩; have n2_ : Aside0 (w11.heap[gb146]? = some (.cells #[.int .i64 a0_0, .int .i64 a0_1, .slice Ao7 l0_2.length co7, .int .i64 a0_3, .int .i64 a0_4, .slice Ao8 l0_5.length co8] 24 (0, 0))) := ⟨by rw [← hq_]; exact (kb_ BK146.out)⟩; have n3_ : Aside0 (w11.heap[gb147]? = some (.cells #[.int .i64 a1_0, .int .i64 a1_1, .int .i64 a1_2] 45 (0, 0))) := ⟨by rw [← hq_]; exact (kb_ BK147.out)⟩; have n4_ : Aside0 (w11.heap[gb148]? = some (.cells #[.int .i64 0, .int .i64 0, .slice none 0 0, .int .i64 0, .int .i64 0, .slice none 0 0] 24 (0, 0))) := ⟨by rw [← hq_]; exact (kb_ BK148.out)⟩; have n5_ : Aside0 (Kept w w11 (fun k_ => P0_2_ k_ ∨ P0_5_ k_)) := ⟨by rw [← hq_]; exact (by repeat (first | (with_reducible first | exact HK.out | apply Kept.alloc | apply Kept.drewN | apply Kept.drew | refine Kept.setCell ?_ (.inr GW146.out) _ | refine Kept.setCell ?_ (.inr GW147.out) _ | refine Kept.setCell ?_ (.inr GW148.out) _) | exact HK.out))⟩; have n6_ : Aside0 (Below w0.heap.size w0 w11) := ⟨by rw [← hq_]; exact bl_⟩; clear HO0_2 HO0_5 BK146 BK147 BK148 HK HB hq_; have HO0_2 := n0_; have HO0_5 := n1_; have BK146 := n2_; have BK147 := n3_; have BK148 := n4_; have HK := n5_; have HB := n6_; clear n0_ n1_ n2_ n3_ n4_ n5_ n6_)); (try (have hcz14_0 : w11.cell? ⟨gb147, 0, none⟩ = some (.int .i64 a1_0) := bc_ BK147.out 0)); (try (have hcz14_1 : w11.cell? ⟨gb147, 1, none⟩ = some (.int .i64 a1_1) := bc_ BK147.out 1)); (try (have hcz14_2 : w11.cell? ⟨gb147, 2, none⟩ = some (.int .i64 a1_2) := bc_ BK147.out 2)); (try (have hfz14_0 := blk_frozen BK147.out 0)); (try (have hfz14_1 := blk_frozen BK147.out 1)); (try (have hfz14_2 := blk_frozen BK147.out 2)); have hnb15 := NB146_148.out; have hnc15 := NB148_146.out; have hcz16_0 : w11.cell? ⟨gb146, 0, none⟩ = some (.int .i64 a0_0) := bc_ BK146.out 0; have hcz16_1 : w11.cell? ⟨gb146, 1, none⟩ = some (.int .i64 a0_1) := bc_ BK146.out 1; have hcz16_2 : w11.cell? ⟨gb146, 2, none⟩ = some (.slice Ao7 l0_2.length co7) := bc_ BK146.out 2; have hcz16_3 : w11.cell? ⟨gb146, 3, none⟩ = some (.int .i64 a0_3) := bc_ BK146.out 3; have hcz16_4 : w11.cell? ⟨gb146, 4, none⟩ = some (.int .i64 a0_4) := bc_ BK146.out 4; have hcz16_5 : w11.cell? ⟨gb146, 5, none⟩ = some (.slice Ao8 l0_5.length co8) := bc_ BK146.out 5; have hfz16_0 := blk_frozen BK146.out 0; have hfz16_1 := blk_frozen BK146.out 1; have hfz16_2 := blk_frozen BK146.out 2; have hfz16_3 := blk_frozen BK146.out 3; have hfz16_4 := blk_frozen BK146.out 4; have hfz16_5 := blk_frozen BK146.out 5))
  have n0_ : Aside0 (Kd.R (Kd.int .i64) 3 (w11.setCell ⟨gb146, 1, none⟩ (.int .i64 (wrap64 (a0_1 + a1_2)))) w0.heap.size (fun k_ => ((P0_2_ k_ ∨ P0_5_ k_) ∨ w.heap.size ≤ k_) ∧ some k_ ≠ (.slice Ao8 l0_5.length co8 : Value).ownBlock) (.slice Ao7 l0_2.length co7) l0_2) := ⟨by exact kr_ (Kd.R_mono (Kd.R_far (p := ⟨gb146, 1, none⟩) (Kd.R_types HO0_2.out BK146.out (by decide)) (fun _ hk => hk.2) (.int .i64 (wrap64 (a0_1 + a1_2)))) (fun _ hk => ⟨hk.1.1, hk.1.2⟩))⟩
  have n1_ : Aside0 (Kd.R (Kd.int .i64) 3 (w11.setCell ⟨gb146, 1, none⟩ (.int .i64 (wrap64 (a0_1 + a1_2)))) w0.heap.size (fun k_ => ((P0_2_ k_ ∨ P0_5_ k_) ∨ w.heap.size ≤ k_) ∧ some k_ ≠ (.slice Ao7 l0_2.length co7 : Value).ownBlock) (.slice Ao8 l0_5.length co8) l0_5) := ⟨by exact kr_ (Kd.R_mono (Kd.R_far (p := ⟨gb146, 1, none⟩) (Kd.R_types HO0_5.out BK146.out (by decide)) (fun _ hk => hk.2) (.int .i64 (wrap64 (a0_1 + a1_2)))) (fun _ hk => ⟨hk.1.1, hk.1.2⟩))⟩
  have n2_ : Aside0 ((w11.setCell ⟨gb146, 1, none⟩ (.int .i64 (wrap64 (a0_1 + a1_2)))).heap[gb146]? = some (.cells #[.int .i64 a0_0, .int .i64 (wrap64 (a0_1 + a1_2)), .slice Ao7 l0_2.length co7, .int .i64 a0_3, .int .i64 a0_4, .slice Ao8 l0_5.length co8] 24 (0, 0))) := ⟨by (with_reducible repeat (first | refine blk_drewN ?_ _ | refine blk_drew ?_ | refine blk_alloc ?_ _)); refine blk_put (cs := #[.int .i64 a0_0, .int .i64 a0_1, .slice Ao7 l0_2.length co7, .int .i64 a0_3, .int .i64 a0_4, .slice Ao8 l0_5.length co8]) ?_ 1 _ rfl; exact kb_ BK146.out⟩
  have n3_ : Aside0 ((w11.setCell ⟨gb146, 1, none⟩ (.int .i64 (wrap64 (a0_1 + a1_2)))).heap[gb147]? = some (.cells #[.int .i64 a1_0, .int .i64 a1_1, .int .i64 a1_2] 45 (0, 0))) := ⟨kz_⟩
  have n4_ : Aside0 ((w11.setCell ⟨gb146, 1, none⟩ (.int .i64 (wrap64 (a0_1 + a1_2)))).heap[gb148]? = some (.cells #[.int .i64 0, .int .i64 0, .slice none 0 0, .int .i64 0, .int .i64 0, .slice none 0 0] 24 (0, 0))) := ⟨kz_⟩
  have n5_ : Aside0 (Kept w (w11.setCell ⟨gb146, 1, none⟩ (.int .i64 (wrap64 (a0_1 + a1_2)))) (fun k_ => P0_2_ k_ ∨ P0_5_ k_)) := ⟨by repeat (first | (with_reducible first | exact HK.out | apply Kept.alloc | apply Kept.drewN | apply Kept.drew | refine Kept.setCell ?_ (.inr GW146.out) _ | refine Kept.setCell ?_ (.inr GW147.out) _ | refine Kept.setCell ?_ (.inr GW148.out) _) | exact HK.out)⟩
  have n6_ : Aside0 (Below w0.heap.size w0 (w11.setCell ⟨gb146, 1, none⟩ (.int .i64 (wrap64 (a0_1 + a1_2))))) := ⟨bl_⟩
  (try clear HO0_2)
  (try clear HO0_5)
  (try clear BK146)
  (try clear BK147)
  (try clear BK148)
  (try clear HK)
  (try clear HB)
  generalize (w11.setCell ⟨gb146, 1, none⟩ (.int .i64 (wrap64 (a0_1 + a1_2)))) = w17 at n0_ n1_ n2_ n3_ n4_ n5_ n6_ ⊢
  have HO0_2 := n0_
  have HO0_5 := n1_
  have BK146 := n2_
  have BK147 := n3_
  have BK148 := n4_
  have HK := n5_
  have HB := n6_
  clear n0_ n1_ n2_ n3_ n4_ n5_ n6_
  replace HO0_2 := Aside0.mk (Kd.R_drew HO0_2.out)
  replace HO0_5 := Aside0.mk (Kd.R_drew HO0_5.out)
  replace BK146 := Aside0.mk (blk_drew BK146.out)
  replace BK147 := Aside0.mk (blk_drew BK147.out)
  replace BK148 := Aside0.mk (blk_drew BK148.out)
  replace HK := Aside0.mk (Kept.drew HK.out)
  replace HB := Aside0.mk (below_drew1 HB.out)
  refine start_ (n := 5) (S := fun w' => w'.cell? ⟨gb146, 0, none⟩ = some (.int .i64 a0_0) ∧ w'.cell? ⟨gb146, 1, none⟩ = some (.int .i64 (wrap64 (a0_1 + a1_2))) ∧ w'.cell? ⟨gb146, 2, none⟩ = some (.slice Ao7 l0_2.length co7) ∧ w'.cell? ⟨gb146, 3, none⟩ = some (.int .i64 a0_3) ∧ w'.cell? ⟨gb146, 4, none⟩ = some (.int .i64 a0_4) ∧ w'.cell? ⟨gb146, 5, none⟩ = some (.slice Ao8 l0_5.length co8)) (ds := []) #[false, false, false, false, false] (by kernel_rfl) rfl rfl ⟨bc_ BK146.out 0, bc_ BK146.out 1, bc_ BK146.out 2, bc_ BK146.out 3, bc_ BK146.out 4, bc_ BK146.out 5⟩ (fun hHeld => ?_)
  generalize w17.drew = w18 at HO0_2 HO0_5 BK146 BK147 BK148 HK HB hHeld ⊢
  refine tk6_ 0 (some 21) (h := ?_)
  refine tk6_ 1 (some 22) (h := ?_)
  refine on_ 2 (some 23) (h := fun K hK => ?_)
  refine goes_ Try.func18 (by kernel_rfl) rfl #[.agg #[.int .i64 a0_0, .int .i64 (wrap64 (a0_1 + a1_2)), .slice Ao7 l0_2.length co7, .int .i64 a0_3, .int .i64 a0_4, .slice Ao8 l0_5.length co8]] (by rfl) rfl rfl nc_ ?_
  with_reducible refine (spec_GoodLeases.calls k a0_0 (wrap64 (a0_1 + a1_2)) _ _ l0_2 a0_3 a0_4 _ _ l0_5 t150 _ ?side1 ?side2 ?side3 ?side4 A6.out).mono ?_
  (case side1 => exact kc_ (Kd.R_reads' HO0_2.out).2.2)
  (case side2 => exact (Kd.R_reads' HO0_2.out).2.1)
  (case side3 => exact kc_ (Kd.R_reads' HO0_5.out).2.2)
  (case side4 => exact (Kd.R_reads' HO0_5.out).2.1)
  rintro e w19 ⟨rfl, hb⟩
  refine ⟨_, rfl, ?_⟩
  replace HO0_2 := rb_ HO0_2 hb
  replace HO0_5 := rb_ HO0_5 hb
  replace BK146 := bb_ BK146 hb
  replace BK147 := bb_ BK147 hb
  replace BK148 := bb_ BK148 hb
  replace HK := Aside0.mk (Kept.below (S := (fun k_ => P0_2_ k_ ∨ P0_5_ k_)) (by repeat (first | (with_reducible first | exact HK.out | apply Kept.alloc | apply Kept.drewN | apply Kept.drew | refine Kept.setCell ?_ (.inr GW146.out) _ | refine Kept.setCell ?_ (.inr GW147.out) _ | refine Kept.setCell ?_ (.inr GW148.out) _) | exact HK.out)) hb)
  replace HB := Aside0.mk (below_step bl_ hb)
  clear hb
  refine hK.out _ _ ⟨bc_ BK146.out 0, bc_ BK146.out 1, bc_ BK146.out 2, bc_ BK146.out 3, bc_ BK146.out 4, bc_ BK146.out 5⟩ (fun hHeld => ?_)
  clear hK K
  refine norm_ nn_ ?_
  refine on_ 3 none (h := fun K hK => ?_)
  have hs20 : w19.cell? ⟨gb148, 0, none⟩ = some (.int .i64 0) := bc_ BK148.out 0
  have hfs20 := blk_frozen BK148.out 0
  have hns20_0 := NB146_148.out
  have hns20_1 := NB147_148.out
  have hms20_0 := NB148_146.out
  have hms20_1 := NB148_147.out
  have hs21 : w19.cell? ⟨gb148, 1, none⟩ = some (.int .i64 0) := bc_ BK148.out 1
  have hfs21 := blk_frozen BK148.out 1
  have hns21_0 := NB146_148.out
  have hns21_1 := NB147_148.out
  have hms21_0 := NB148_146.out
  have hms21_1 := NB148_147.out
  have hs22 : w19.cell? ⟨gb148, 2, none⟩ = some (.slice none 0 0) := bc_ BK148.out 2
  have hfs22 := blk_frozen BK148.out 2
  have hns22_0 := NB146_148.out
  have hns22_1 := NB147_148.out
  have hms22_0 := NB148_146.out
  have hms22_1 := NB148_147.out
  have hs23 : w19.cell? ⟨gb148, 3, none⟩ = some (.int .i64 0) := bc_ BK148.out 3
  have hfs23 := blk_frozen BK148.out 3
  have hns23_0 := NB146_148.out
  have hns23_1 := NB147_148.out
  have hms23_0 := NB148_146.out
  have hms23_1 := NB148_147.out
  have hs24 : w19.cell? ⟨gb148, 4, none⟩ = some (.int .i64 0) := bc_ BK148.out 4
  have hfs24 := blk_frozen BK148.out 4
  have hns24_0 := NB146_148.out
  have hns24_1 := NB147_148.out
  have hms24_0 := NB148_146.out
  have hms24_1 := NB148_147.out
  have hs25 : w19.cell? ⟨gb148, 5, none⟩ = some (.slice none 0 0) := bc_ BK148.out 5
  have hfs25 := blk_frozen BK148.out 5
  have hns25_0 := NB146_148.out
  have hns25_1 := NB147_148.out
  have hms25_0 := NB148_146.out
  have hms25_1 := NB148_147.out
  refine skip_ (w1 := ?_) (by rfl) rfl ?_ ?_
  rotate_left
  ·go_simp
   rfl
  refine hK.out _ _ ⟨((cell_far (p := ⟨gb148, _, none⟩) NB146_148.out _).trans (((cell_far (p := ⟨gb148, _, none⟩) NB146_148.out _).trans (((cell_far (p := ⟨gb148, _, none⟩) NB146_148.out _).trans (((cell_far (p := ⟨gb148, _, none⟩) NB146_148.out _).trans (((cell_far (p := ⟨gb148, _, none⟩) NB146_148.out _).trans (((cell_far (p := ⟨gb148, _, none⟩) NB146_148.out _).trans (hHeld.1)))))))))))), ((cell_far (p := ⟨gb148, _, none⟩) NB146_148.out _).trans (((cell_far (p := ⟨gb148, _, none⟩) NB146_148.out _).trans (((cell_far (p := ⟨gb148, _, none⟩) NB146_148.out _).trans (((cell_far (p := ⟨gb148, _, none⟩) NB146_148.out _).trans (((cell_far (p := ⟨gb148, _, none⟩) NB146_148.out _).trans (((cell_far (p := ⟨gb148, _, none⟩) NB146_148.out _).trans (hHeld.2.1)))))))))))), ((cell_far (p := ⟨gb148, _, none⟩) NB146_148.out _).trans (((cell_far (p := ⟨gb148, _, none⟩) NB146_148.out _).trans (((cell_far (p := ⟨gb148, _, none⟩) NB146_148.out _).trans (((cell_far (p := ⟨gb148, _, none⟩) NB146_148.out _).trans (((cell_far (p := ⟨gb148, _, none⟩) NB146_148.out _).trans (((cell_far (p := ⟨gb148, _, none⟩) NB146_148.out _).trans (hHeld.2.2.1)))))))))))), ((cell_far (p := ⟨gb148, _, none⟩) NB146_148.out _).trans (((cell_far (p := ⟨gb148, _, none⟩) NB146_148.out _).trans (((cell_far (p := ⟨gb148, _, none⟩) NB146_148.out _).trans (((cell_far (p := ⟨gb148, _, none⟩) NB146_148.out _).trans (((cell_far (p := ⟨gb148, _, none⟩) NB146_148.out _).trans (((cell_far (p := ⟨gb148, _, none⟩) NB146_148.out _).trans (hHeld.2.2.2.1)))))))))))), ((cell_far (p := ⟨gb148, _, none⟩) NB146_148.out _).trans (((cell_far (p := ⟨gb148, _, none⟩) NB146_148.out _).trans (((cell_far (p := ⟨gb148, _, none⟩) NB146_148.out _).trans (((cell_far (p := ⟨gb148, _, none⟩) NB146_148.out _).trans (((cell_far (p := ⟨gb148, _, none⟩) NB146_148.out _).trans (((cell_far (p := ⟨gb148, _, none⟩) NB146_148.out _).trans (hHeld.2.2.2.2.1)))))))))))), ((cell_far (p := ⟨gb148, _, none⟩) NB146_148.out _).trans (((cell_far (p := ⟨gb148, _, none⟩) NB146_148.out _).trans (((cell_far (p := ⟨gb148, _, none⟩) NB146_148.out _).trans (((cell_far (p := ⟨gb148, _, none⟩) NB146_148.out _).trans (((cell_far (p := ⟨gb148, _, none⟩) NB146_148.out _).trans (((cell_far (p := ⟨gb148, _, none⟩) NB146_148.out _).trans (hHeld.2.2.2.2.2))))))))))))⟩ (fun hHeld => ?_)
  clear hK K
  refine pu_ 4 (some 5) (h := ?_)
  refine done_ (by kernel_rfl) ?_
  try go_wp2
  refine bodyPost_ret (results_ct rfl _ _ gb148 24 #[.int .i64 a0_0, .int .i64 (wrap64 (a0_1 + a1_2)), .slice Ao7 l0_2.length co7, .int .i64 a0_3, .int .i64 a0_4, .slice Ao8 l0_5.length co8] (0, 0) _ rfl (by (with_reducible repeat (first | refine blk_drewN ?_ _ | refine blk_drew ?_ | refine blk_alloc ?_ _)); refine blk_put (cs := #[.int .i64 a0_0, .int .i64 (wrap64 (a0_1 + a1_2)), .slice Ao7 l0_2.length co7, .int .i64 a0_3, .int .i64 a0_4, .slice none 0 0]) ?_ 5 _ rfl; (with_reducible repeat (first | refine blk_drewN ?_ _ | refine blk_drew ?_ | refine blk_alloc ?_ _)); refine blk_put (cs := #[.int .i64 a0_0, .int .i64 (wrap64 (a0_1 + a1_2)), .slice Ao7 l0_2.length co7, .int .i64 a0_3, .int .i64 0, .slice none 0 0]) ?_ 4 _ rfl; (with_reducible repeat (first | refine blk_drewN ?_ _ | refine blk_drew ?_ | refine blk_alloc ?_ _)); refine blk_put (cs := #[.int .i64 a0_0, .int .i64 (wrap64 (a0_1 + a1_2)), .slice Ao7 l0_2.length co7, .int .i64 0, .int .i64 0, .slice none 0 0]) ?_ 3 _ rfl; (with_reducible repeat (first | refine blk_drewN ?_ _ | refine blk_drew ?_ | refine blk_alloc ?_ _)); refine blk_put (cs := #[.int .i64 a0_0, .int .i64 (wrap64 (a0_1 + a1_2)), .slice none 0 0, .int .i64 0, .int .i64 0, .slice none 0 0]) ?_ 2 _ rfl; (with_reducible repeat (first | refine blk_drewN ?_ _ | refine blk_drew ?_ | refine blk_alloc ?_ _)); refine blk_put (cs := #[.int .i64 a0_0, .int .i64 0, .slice none 0 0, .int .i64 0, .int .i64 0, .slice none 0 0]) ?_ 1 _ rfl; (with_reducible repeat (first | refine blk_drewN ?_ _ | refine blk_drew ?_ | refine blk_alloc ?_ _)); refine blk_put (cs := #[.int .i64 0, .int .i64 0, .slice none 0 0, .int .i64 0, .int .i64 0, .slice none 0 0]) ?_ 0 _ rfl; exact kb_ BK148.out) Try.underlying24 rfl (by kernel_rfl)) rfl ?_
  exact ⟨_, _, ng_, by exact kr_ (Kd.R_mono (Kd.R_far (p := ⟨gb148, 5, none⟩) (Kd.R_far (p := ⟨gb148, 4, none⟩) (Kd.R_far (p := ⟨gb148, 3, none⟩) (Kd.R_far (p := ⟨gb148, 2, none⟩) (Kd.R_far (p := ⟨gb148, 1, none⟩) (Kd.R_far (p := ⟨gb148, 0, none⟩) (Kd.R_types HO0_2.out BK148.out (by decide)) (fun _ hk => hk.2) (.int .i64 a0_0)) (fun _ hk => hk.2) (.int .i64 (wrap64 (a0_1 + a1_2)))) (fun _ hk => hk.2) (.slice Ao7 l0_2.length co7)) (fun _ hk => hk.2) (.int .i64 a0_3)) (fun _ hk => hk.2) (.int .i64 a0_4)) (fun _ hk => hk.2) (.slice Ao8 l0_5.length co8)) (fun _ hk => ⟨hk.1.1, hk.1.2⟩)), by exact kr_ (Kd.R_mono (Kd.R_far (p := ⟨gb148, 5, none⟩) (Kd.R_far (p := ⟨gb148, 4, none⟩) (Kd.R_far (p := ⟨gb148, 3, none⟩) (Kd.R_far (p := ⟨gb148, 2, none⟩) (Kd.R_far (p := ⟨gb148, 1, none⟩) (Kd.R_far (p := ⟨gb148, 0, none⟩) (Kd.R_types HO0_5.out BK148.out (by decide)) (fun _ hk => hk.2) (.int .i64 a0_0)) (fun _ hk => hk.2) (.int .i64 (wrap64 (a0_1 + a1_2)))) (fun _ hk => hk.2) (.slice Ao7 l0_2.length co7)) (fun _ hk => hk.2) (.int .i64 a0_3)) (fun _ hk => hk.2) (.int .i64 a0_4)) (fun _ hk => hk.2) (.slice Ao8 l0_5.length co8)) (fun _ hk => ⟨hk.1.1, hk.1.2⟩)), bl_, by repeat (first | (with_reducible first | exact HK.out | apply Kept.alloc | apply Kept.drewN | apply Kept.drew | refine Kept.setCell ?_ (.inr GW146.out) _ | refine Kept.setCell ?_ (.inr GW147.out) _ | refine Kept.setCell ?_ (.inr GW148.out) _) | exact HK.out)⟩
 rw [if_neg c3] at H
 have c3b0 : (a1_0 == 3) = false := beq_eq_false_iff_ne.mpr c3
 have c3b1 : (a1_0 != 3) = true := bne_iff_ne.mpr c3
 replace H := Option.bind_eq_some_iff.mp H
 obtain ⟨t151, A370, H⟩ := H
 replace H : (if t151 = true then (if a1_0 = 1 then ((spec_l1In.f a1_2 1 1000000).bind fun t152 => (if t152 = true then (if a0_3 = a1_1 then (spec_l11Step.j0 k false a0_0 a0_1 l0_2 a0_3 a0_4 l0_5 a1_0 a1_1 a1_2) else (spec_l11Step.j0 k (decide (a0_1 < a0_4)) a0_0 a0_1 l0_2 a0_3 a0_4 l0_5 a1_0 a1_1 a1_2)) else (spec_l11Step.j0 k true a0_0 a0_1 l0_2 a0_3 a0_4 l0_5 a1_0 a1_1 a1_2))) else (if a1_0 = 2 then (if a0_3 = a1_1 then (if 0 ≤ a1_1 then (if a1_1 < (l0_5.length : Int) then ((some (l0_5.set (a1_1 : Int).toNat a0_4 : List Int)).bind fun y156 => ((spec_GoodLeases.f k a0_0 a0_1 l0_2 a0_3 a0_4 y156).bind fun t157 => (some (a0_0, a0_1, l0_2, a0_3, a0_4, y156, t157)))) else (none)) else (none)) else (some (a0_0, a0_1, l0_2, a0_3, a0_4, l0_5, false))) else (if a1_0 = 4 then ((spec_l1In.f a1_2 (-1000) 1000000).bind fun t158 => (if t158 = true then (if 0 ≤ a1_1 then (if a1_1 < (l0_2.length : Int) then ((some (l0_2.set (a1_1 : Int).toNat (wrap64 ((rd l0_2 a1_1) + a1_2)) : List Int)).bind fun y160 => ((spec_GoodLeases.f k a0_0 a0_1 y160 a0_3 a0_4 l0_5).bind fun t161 => (some (a0_0, a0_1, y160, a0_3, a0_4, l0_5, t161)))) else (none)) else (none)) else (some (a0_0, a0_1, l0_2, a0_3, a0_4, l0_5, false)))) else (some (a0_0, a0_1, l0_2, a0_3, a0_4, l0_5, false))))) else (some (a0_0, a0_1, l0_2, a0_3, a0_4, l0_5, false))) = some (r1, r2, r3, r4, r5, r6, r7) := H
 have A37 := Aside0.mk A370
 clear A370
 by_cases c38 : t151 = true
 rotate_left
 ·replace c38 := Bool.eq_false_iff.mpr c38
  subst c38
  have H1 : (some (a0_0, a0_1, l0_2, a0_3, a0_4, l0_5, false)) = some (r1, r2, r3, r4, r5, r6, r7) := by rw [if_neg (show ¬ (false = true) by decide)] at H; exact H
  clear H
  have H := H1
  clear H1
  simp only [Option.some.injEq, Prod.mk.injEq] at H
  obtain ⟨rfl, rfl, rfl, rfl, rfl, rfl, rfl⟩ := H
  obtain ⟨Ao207, co207, eo207⟩ := Kd.R_slice HO0_2.out
  subst eo207
  obtain ⟨Ao208, co208, eo208⟩ := Kd.R_slice HO0_5.out
  subst eo208
  go_enter Try.func53, Try.ntmps53
  go_wp2_with (first | ((with_reducible refine gate_dst (N := 2) rfl ?_); refine box_event rfl (N := 2) rfl (cs := #[.int .i64 a0_0, .int .i64 a0_1, .slice Ao207 l0_2.length co207, .int .i64 a0_3, .int .i64 a0_4, .slice Ao208 l0_5.length co208]) (t := 24) gs_ ?_; intro gb146 hg w209 hbox hb; replace HO0_2 := rb_ HO0_2 hb; replace HO0_5 := rb_ HO0_5 hb; have BK146 := Aside0.mk (hbox); have GW146 := Aside0.mk ((by rw [hg]; exact (by first | exact HK.out.1 | exact (show Kept w _ (fun k_ => P0_2_ k_ ∨ P0_5_ k_) from by repeat (first | (with_reducible first | exact HK.out | apply Kept.alloc | apply Kept.drewN | apply Kept.drew) | exact HK.out)).1) : w.heap.size ≤ gb146)); replace HK := Aside0.mk (Kept.below (S := (fun k_ => P0_2_ k_ ∨ P0_5_ k_)) (by repeat (first | (with_reducible first | exact HK.out | apply Kept.alloc | apply Kept.drewN | apply Kept.drew) | exact HK.out)) hb); have GE146 := Aside0.mk ((by rw [hg]; exact bz_ : w0.heap.size ≤ gb146)); replace HB := Aside0.mk (below_step bl_ hb); clear hb hbox hg) | ((with_reducible refine gate_dst (N := 3) rfl ?_); refine box_event rfl (N := 3) rfl (cs := #[.int .i64 a1_0, .int .i64 a1_1, .int .i64 a1_2]) (t := 45) gs_ ?_; intro gb147 hg w210 hbox hb; replace HO0_2 := rb_ HO0_2 hb; replace HO0_5 := rb_ HO0_5 hb; have BK147 := Aside0.mk (hbox); have GW147 := Aside0.mk ((by rw [hg]; exact (by first | exact HK.out.1 | exact (show Kept w _ (fun k_ => P0_2_ k_ ∨ P0_5_ k_) from by repeat (first | (with_reducible first | exact HK.out | apply Kept.alloc | apply Kept.drewN | apply Kept.drew | refine Kept.setCell ?_ (.inr GW146.out) _) | exact HK.out)).1) : w.heap.size ≤ gb147)); replace HK := Aside0.mk (Kept.below (S := (fun k_ => P0_2_ k_ ∨ P0_5_ k_)) (by repeat (first | (with_reducible first | exact HK.out | apply Kept.alloc | apply Kept.drewN | apply Kept.drew | refine Kept.setCell ?_ (.inr GW146.out) _) | exact HK.out)) hb); have GE147 := Aside0.mk ((by rw [hg]; exact bz_ : w0.heap.size ≤ gb147)); replace HB := Aside0.mk (below_step bl_ hb); have NB146_147 := nl_ hg BK146; have NB147_146 := nm_ hg BK146; replace BK146 := bb_ BK146 hb; clear hb hbox hg) | ((with_reducible refine gate_dst (N := 4) rfl ?_); refine box_event rfl (N := 4) rfl (cs := #[.int .i64 0, .int .i64 0, .slice none 0 0, .int .i64 0, .int .i64 0, .slice none 0 0]) (t := 24) gs_ ?_; intro gb148 hg w211 hbox hb; replace HO0_2 := rb_ HO0_2 hb; replace HO0_5 := rb_ HO0_5 hb; have BK148 := Aside0.mk (hbox); have GW148 := Aside0.mk ((by rw [hg]; exact (by first | exact HK.out.1 | exact (show Kept w _ (fun k_ => P0_2_ k_ ∨ P0_5_ k_) from by repeat (first | (with_reducible first | exact HK.out | apply Kept.alloc | apply Kept.drewN | apply Kept.drew | refine Kept.setCell ?_ (.inr GW146.out) _ | refine Kept.setCell ?_ (.inr GW147.out) _) | exact HK.out)).1) : w.heap.size ≤ gb148)); replace HK := Aside0.mk (Kept.below (S := (fun k_ => P0_2_ k_ ∨ P0_5_ k_)) (by repeat (first | (with_reducible first | exact HK.out | apply Kept.alloc | apply Kept.drewN | apply Kept.drew | refine Kept.setCell ?_ (.inr GW146.out) _ | refine Kept.setCell ?_ (.inr GW147.out) _) | exact HK.out)) hb); have GE148 := Aside0.mk ((by rw [hg]; exact bz_ : w0.heap.size ≤ gb148)); replace HB := Aside0.mk (below_step bl_ hb); have NB146_148 := nl_ hg BK146; have NB148_146 := nm_ hg BK146; replace BK146 := bb_ BK146 hb; have NB147_148 := nl_ hg BK147; have NB148_147 := nm_ hg BK147; replace BK147 := bb_ BK147 hb; clear hb hbox hg; have hnb212 := NB147_146.out; have hnc212 := NB146_147.out; have hnb213 := NB147_148.out; have hnc213 := NB148_147.out; have hcz214_0 : w211.cell? ⟨gb147, 0, none⟩ = some (.int .i64 a1_0) := bc_ BK147.out 0; have hcz214_1 : w211.cell? ⟨gb147, 1, none⟩ = some (.int .i64 a1_1) := bc_ BK147.out 1; have hcz214_2 : w211.cell? ⟨gb147, 2, none⟩ = some (.int .i64 a1_2) := bc_ BK147.out 2; have hfz214_0 := blk_frozen BK147.out 0; have hfz214_1 := blk_frozen BK147.out 1; have hfz214_2 := blk_frozen BK147.out 2; have hnb215 := NB146_148.out; have hnc215 := NB148_146.out; have hcz216_0 : w211.cell? ⟨gb146, 0, none⟩ = some (.int .i64 a0_0) := bc_ BK146.out 0; have hcz216_1 : w211.cell? ⟨gb146, 1, none⟩ = some (.int .i64 a0_1) := bc_ BK146.out 1; have hcz216_2 : w211.cell? ⟨gb146, 2, none⟩ = some (.slice Ao207 l0_2.length co207) := bc_ BK146.out 2; have hcz216_3 : w211.cell? ⟨gb146, 3, none⟩ = some (.int .i64 a0_3) := bc_ BK146.out 3; have hcz216_4 : w211.cell? ⟨gb146, 4, none⟩ = some (.int .i64 a0_4) := bc_ BK146.out 4; have hcz216_5 : w211.cell? ⟨gb146, 5, none⟩ = some (.slice Ao208 l0_5.length co208) := bc_ BK146.out 5; have hfz216_0 := blk_frozen BK146.out 0; have hfz216_1 := blk_frozen BK146.out 1; have hfz216_2 := blk_frozen BK146.out 2; have hfz216_3 := blk_frozen BK146.out 3; have hfz216_4 := blk_frozen BK146.out 4; have hfz216_5 := blk_frozen BK146.out 5) | ((with_reducible refine gate_callee (f := 45) rfl ?_); refine goesL_ (some 30) rfl rfl Try.func45 (by kernel_rfl) rfl #[.int .i64 a1_1, .int .i64 0, .int .i64 (wrap64 ((l0_2.length : Int) - 1))] rfl nc_ ?_; (with_reducible refine (spec_l1In.calls a1_1 0 (wrap64 ((l0_2.length : Int) - 1)) false _ A37.out).mono ?_); rintro e w' ⟨rfl, ⟨nd, rfl⟩⟩; refine ⟨_, rfl, ?_⟩; (try (rw [drewN_self w211]; generalize hq_ : World.drewN w211 _ = w211; have n0_ : Aside0 (Kd.R (Kd.int .i64) 3 w211 w0.heap.size (fun k_ => ((P0_2_ k_ ∨ P0_5_ k_) ∨ w.heap.size ≤ k_) ∧ some k_ ≠ (.slice Ao208 l0_5.length co208 : Value).ownBlock) (.slice Ao207 l0_2.length co207) l0_2) := ⟨by rw [← hq_]; exact (kr_ HO0_2.out)⟩; have n1_ : Aside0 (Kd.R (Kd.int .i64) 3 w211 w0.heap.size (fun k_ => ((P0_2_ k_ ∨ P0_5_ k_) ∨ w.heap.size ≤ k_) ∧ some k_ ≠ (.slice Ao207 l0_2.length co207 : Value).ownBlock) (.slice Ao208 l0_5.length co208) l0_5) := ⟨by rw [← hq_]; exact (kr_ HO0_5.out)⟩; have n2_ : Aside0 (w211.heap[gb146]? = some (.cells #[.int .i64 a0_0, .int .i64 a0_1, .slice Ao207 l0_2.length co207, .int .i64 a0_3, .int .i64 a0_4, .slice Ao208 l0_5.length co208] 24 (0, 0))) := ⟨by rw [← hq_]; exact (kb_ BK146.out)⟩; have n3_ : Aside0 (w211.heap[gb147]? = some (.cells #[.int .i64 a1_0, .int .i64 a1_1, .int .i64 a1_2] 45 (0, 0))) := ⟨by rw [← hq_]; exact (kb_ BK147.out)⟩; have n4_ : Aside0 (w211.heap[gb148]? = some (.cells #[.int .i64 0, .int .i64 0, .slice none 0 0, .int .i64 0, .int .i64 0, .slice none 0 0] 24 (0, 0))) := ⟨by rw [← hq_]; exact (kb_ BK148.out)⟩; have n5_ : Aside0 (Kept w w211 (fun k_ => P0_2_ k_ ∨ P0_5_ k_)) := ⟨by rw [← hq_]; exact (by repeat (first | (with_reducible first | exact HK.out | apply Kept.alloc | apply Kept.drewN | apply Kept.drew | refine Kept.setCell ?_ (.inr GW146.out) _ | refine Kept.setCell ?_ (.inr GW147.out) _ | refine Kept.setCell ?_ (.inr GW148.out) _) | exact HK.out))⟩; have n6_ : Aside0 (Below w0.heap.size w0 w211) := ⟨by rw [← hq_]; exact bl_⟩; clear HO0_2 HO0_5 BK146 BK147 BK148 HK HB hq_; have HO0_2 := n0_; have HO0_5 := n1_; have BK146 := n2_; have BK147 := n3_; have BK148 := n4_; have HK := n5_; have HB := n6_; clear n0_ n1_ n2_ n3_ n4_ n5_ n6_)); (try (have hcz214_0 : w211.cell? ⟨gb147, 0, none⟩ = some (.int .i64 a1_0) := bc_ BK147.out 0)); (try (have hcz214_1 : w211.cell? ⟨gb147, 1, none⟩ = some (.int .i64 a1_1) := bc_ BK147.out 1)); (try (have hcz214_2 : w211.cell? ⟨gb147, 2, none⟩ = some (.int .i64 a1_2) := bc_ BK147.out 2)); (try (have hfz214_0 := blk_frozen BK147.out 0)); (try (have hfz214_1 := blk_frozen BK147.out 1)); (try (have hfz214_2 := blk_frozen BK147.out 2)); (try (have hcz216_0 : w211.cell? ⟨gb146, 0, none⟩ = some (.int .i64 a0_0) := bc_ BK146.out 0)); (try (have hcz216_1 : w211.cell? ⟨gb146, 1, none⟩ = some (.int .i64 a0_1) := bc_ BK146.out 1)); (try (have hcz216_2 : w211.cell? ⟨gb146, 2, none⟩ = some (.slice Ao207 l0_2.length co207) := bc_ BK146.out 2)); (try (have hcz216_3 : w211.cell? ⟨gb146, 3, none⟩ = some (.int .i64 a0_3) := bc_ BK146.out 3)); (try (have hcz216_4 : w211.cell? ⟨gb146, 4, none⟩ = some (.int .i64 a0_4) := bc_ BK146.out 4)); (try (have hcz216_5 : w211.cell? ⟨gb146, 5, none⟩ = some (.slice Ao208 l0_5.length co208) := bc_ BK146.out 5)); (try (have hfz216_0 := blk_frozen BK146.out 0)); (try (have hfz216_1 := blk_frozen BK146.out 1)); (try (have hfz216_2 := blk_frozen BK146.out 2)); (try (have hfz216_3 := blk_frozen BK146.out 3)); (try (have hfz216_4 := blk_frozen BK146.out 4)); (try (have hfz216_5 := blk_frozen BK146.out 5)); have hcz217_0 : w211.cell? ⟨gb148, 0, none⟩ = some (.int .i64 0) := bc_ BK148.out 0; have hcz217_1 : w211.cell? ⟨gb148, 1, none⟩ = some (.int .i64 0) := bc_ BK148.out 1; have hcz217_2 : w211.cell? ⟨gb148, 2, none⟩ = some (.slice none 0 0) := bc_ BK148.out 2; have hcz217_3 : w211.cell? ⟨gb148, 3, none⟩ = some (.int .i64 0) := bc_ BK148.out 3; have hcz217_4 : w211.cell? ⟨gb148, 4, none⟩ = some (.int .i64 0) := bc_ BK148.out 4; have hcz217_5 : w211.cell? ⟨gb148, 5, none⟩ = some (.slice none 0 0) := bc_ BK148.out 5; have hfz217_0 := blk_frozen BK148.out 0; have hfz217_1 := blk_frozen BK148.out 1; have hfz217_2 := blk_frozen BK148.out 2; have hfz217_3 := blk_frozen BK148.out 3; have hfz217_4 := blk_frozen BK148.out 4; have hfz217_5 := blk_frozen BK148.out 5))
  refine bodyPost_ret (results_ct rfl _ _ gb148 24 #[.int .i64 a0_0, .int .i64 a0_1, .slice Ao207 l0_2.length co207, .int .i64 a0_3, .int .i64 a0_4, .slice Ao208 l0_5.length co208] (0, 0) _ rfl (by (with_reducible repeat (first | refine blk_drewN ?_ _ | refine blk_drew ?_ | refine blk_alloc ?_ _)); refine blk_put (cs := #[.int .i64 a0_0, .int .i64 a0_1, .slice Ao207 l0_2.length co207, .int .i64 a0_3, .int .i64 a0_4, .slice none 0 0]) ?_ 5 _ rfl; (with_reducible repeat (first | refine blk_drewN ?_ _ | refine blk_drew ?_ | refine blk_alloc ?_ _)); refine blk_put (cs := #[.int .i64 a0_0, .int .i64 a0_1, .slice Ao207 l0_2.length co207, .int .i64 a0_3, .int .i64 0, .slice none 0 0]) ?_ 4 _ rfl; (with_reducible repeat (first | refine blk_drewN ?_ _ | refine blk_drew ?_ | refine blk_alloc ?_ _)); refine blk_put (cs := #[.int .i64 a0_0, .int .i64 a0_1, .slice Ao207 l0_2.length co207, .int .i64 0, .int .i64 0, .slice none 0 0]) ?_ 3 _ rfl; (with_reducible repeat (first | refine blk_drewN ?_ _ | refine blk_drew ?_ | refine blk_alloc ?_ _)); refine blk_put (cs := #[.int .i64 a0_0, .int .i64 a0_1, .slice none 0 0, .int .i64 0, .int .i64 0, .slice none 0 0]) ?_ 2 _ rfl; (with_reducible repeat (first | refine blk_drewN ?_ _ | refine blk_drew ?_ | refine blk_alloc ?_ _)); refine blk_put (cs := #[.int .i64 a0_0, .int .i64 0, .slice none 0 0, .int .i64 0, .int .i64 0, .slice none 0 0]) ?_ 1 _ rfl; (with_reducible repeat (first | refine blk_drewN ?_ _ | refine blk_drew ?_ | refine blk_alloc ?_ _)); refine blk_put (cs := #[.int .i64 0, .int .i64 0, .slice none 0 0, .int .i64 0, .int .i64 0, .slice none 0 0]) ?_ 0 _ rfl; exact kb_ BK148.out) Try.underlying24 rfl (by kernel_rfl)) rfl ?_
  exact ⟨_, _, ng_, by exact kr_ (Kd.R_mono (Kd.R_far (p := ⟨gb148, 5, none⟩) (Kd.R_far (p := ⟨gb148, 4, none⟩) (Kd.R_far (p := ⟨gb148, 3, none⟩) (Kd.R_far (p := ⟨gb148, 2, none⟩) (Kd.R_far (p := ⟨gb148, 1, none⟩) (Kd.R_far (p := ⟨gb148, 0, none⟩) (Kd.R_types HO0_2.out BK148.out (by decide)) (fun _ hk => hk.2) (.int .i64 a0_0)) (fun _ hk => hk.2) (.int .i64 a0_1)) (fun _ hk => hk.2) (.slice Ao207 l0_2.length co207)) (fun _ hk => hk.2) (.int .i64 a0_3)) (fun _ hk => hk.2) (.int .i64 a0_4)) (fun _ hk => hk.2) (.slice Ao208 l0_5.length co208)) (fun _ hk => ⟨hk.1.1, hk.1.2⟩)), by exact kr_ (Kd.R_mono (Kd.R_far (p := ⟨gb148, 5, none⟩) (Kd.R_far (p := ⟨gb148, 4, none⟩) (Kd.R_far (p := ⟨gb148, 3, none⟩) (Kd.R_far (p := ⟨gb148, 2, none⟩) (Kd.R_far (p := ⟨gb148, 1, none⟩) (Kd.R_far (p := ⟨gb148, 0, none⟩) (Kd.R_types HO0_5.out BK148.out (by decide)) (fun _ hk => hk.2) (.int .i64 a0_0)) (fun _ hk => hk.2) (.int .i64 a0_1)) (fun _ hk => hk.2) (.slice Ao207 l0_2.length co207)) (fun _ hk => hk.2) (.int .i64 a0_3)) (fun _ hk => hk.2) (.int .i64 a0_4)) (fun _ hk => hk.2) (.slice Ao208 l0_5.length co208)) (fun _ hk => ⟨hk.1.1, hk.1.2⟩)), bl_, by repeat (first | (with_reducible first | exact HK.out | apply Kept.alloc | apply Kept.drewN | apply Kept.drew | refine Kept.setCell ?_ (.inr GW146.out) _ | refine Kept.setCell ?_ (.inr GW147.out) _ | refine Kept.setCell ?_ (.inr GW148.out) _) | exact HK.out)⟩
 subst c38
 have H1 : (if a1_0 = 1 then ((spec_l1In.f a1_2 1 1000000).bind fun t152 => (if t152 = true then (if a0_3 = a1_1 then (spec_l11Step.j0 k false a0_0 a0_1 l0_2 a0_3 a0_4 l0_5 a1_0 a1_1 a1_2) else (spec_l11Step.j0 k (decide (a0_1 < a0_4)) a0_0 a0_1 l0_2 a0_3 a0_4 l0_5 a1_0 a1_1 a1_2)) else (spec_l11Step.j0 k true a0_0 a0_1 l0_2 a0_3 a0_4 l0_5 a1_0 a1_1 a1_2))) else (if a1_0 = 2 then (if a0_3 = a1_1 then (if 0 ≤ a1_1 then (if a1_1 < (l0_5.length : Int) then ((some (l0_5.set (a1_1 : Int).toNat a0_4 : List Int)).bind fun y156 => ((spec_GoodLeases.f k a0_0 a0_1 l0_2 a0_3 a0_4 y156).bind fun t157 => (some (a0_0, a0_1, l0_2, a0_3, a0_4, y156, t157)))) else (none)) else (none)) else (some (a0_0, a0_1, l0_2, a0_3, a0_4, l0_5, false))) else (if a1_0 = 4 then ((spec_l1In.f a1_2 (-1000) 1000000).bind fun t158 => (if t158 = true then (if 0 ≤ a1_1 then (if a1_1 < (l0_2.length : Int) then ((some (l0_2.set (a1_1 : Int).toNat (wrap64 ((rd l0_2 a1_1) + a1_2)) : List Int)).bind fun y160 => ((spec_GoodLeases.f k a0_0 a0_1 y160 a0_3 a0_4 l0_5).bind fun t161 => (some (a0_0, a0_1, y160, a0_3, a0_4, l0_5, t161)))) else (none)) else (none)) else (some (a0_0, a0_1, l0_2, a0_3, a0_4, l0_5, false)))) else (some (a0_0, a0_1, l0_2, a0_3, a0_4, l0_5, false))))) = some (r1, r2, r3, r4, r5, r6, r7) := by rw [if_pos rfl] at H; exact H
 clear H
 have H := H1
 clear H1
 by_cases c39 : a1_0 = 1
 ·rw [if_pos c39] at H
  have c39b0 : (a1_0 == 1) = true := beq_iff_eq.mpr c39
  have c39b1 : (a1_0 != 1) = false := bne_eq_false_iff_eq.mpr c39
  clear c39
  have HC40 := Aside0.mk H
  clear H
  obtain ⟨Ao41, co41, eo41⟩ := Kd.R_slice HO0_2.out
  subst eo41
  obtain ⟨Ao42, co42, eo42⟩ := Kd.R_slice HO0_5.out
  subst eo42
  go_enter Try.func53, Try.ntmps53
  go_upto_region 11 with (first | ((with_reducible refine gate_dst (N := 2) rfl ?_); refine box_event rfl (N := 2) rfl (cs := #[.int .i64 a0_0, .int .i64 a0_1, .slice Ao41 l0_2.length co41, .int .i64 a0_3, .int .i64 a0_4, .slice Ao42 l0_5.length co42]) (t := 24) gs_ ?_; intro gb146 hg w43 hbox hb; replace HO0_2 := rb_ HO0_2 hb; replace HO0_5 := rb_ HO0_5 hb; have BK146 := Aside0.mk (hbox); have GW146 := Aside0.mk ((by rw [hg]; exact (by first | exact HK.out.1 | exact (show Kept w _ (fun k_ => P0_2_ k_ ∨ P0_5_ k_) from by repeat (first | (with_reducible first | exact HK.out | apply Kept.alloc | apply Kept.drewN | apply Kept.drew) | exact HK.out)).1) : w.heap.size ≤ gb146)); replace HK := Aside0.mk (Kept.below (S := (fun k_ => P0_2_ k_ ∨ P0_5_ k_)) (by repeat (first | (with_reducible first | exact HK.out | apply Kept.alloc | apply Kept.drewN | apply Kept.drew) | exact HK.out)) hb); have GE146 := Aside0.mk ((by rw [hg]; exact bz_ : w0.heap.size ≤ gb146)); replace HB := Aside0.mk (below_step bl_ hb); clear hb hbox hg) | ((with_reducible refine gate_dst (N := 3) rfl ?_); refine box_event rfl (N := 3) rfl (cs := #[.int .i64 a1_0, .int .i64 a1_1, .int .i64 a1_2]) (t := 45) gs_ ?_; intro gb147 hg w44 hbox hb; replace HO0_2 := rb_ HO0_2 hb; replace HO0_5 := rb_ HO0_5 hb; have BK147 := Aside0.mk (hbox); have GW147 := Aside0.mk ((by rw [hg]; exact (by first | exact HK.out.1 | exact (show Kept w _ (fun k_ => P0_2_ k_ ∨ P0_5_ k_) from by repeat (first | (with_reducible first | exact HK.out | apply Kept.alloc | apply Kept.drewN | apply Kept.drew | refine Kept.setCell ?_ (.inr GW146.out) _) | exact HK.out)).1) : w.heap.size ≤ gb147)); replace HK := Aside0.mk (Kept.below (S := (fun k_ => P0_2_ k_ ∨ P0_5_ k_)) (by repeat (first | (with_reducible first | exact HK.out | apply Kept.alloc | apply Kept.drewN | apply Kept.drew | refine Kept.setCell ?_ (.inr GW146.out) _) | exact HK.out)) hb); have GE147 := Aside0.mk ((by rw [hg]; exact bz_ : w0.heap.size ≤ gb147)); replace HB := Aside0.mk (below_step bl_ hb); have NB146_147 := nl_ hg BK146; have NB147_146 := nm_ hg BK146; replace BK146 := bb_ BK146 hb; clear hb hbox hg) | ((with_reducible refine gate_dst (N := 4) rfl ?_); refine box_event rfl (N := 4) rfl (cs := #[.int .i64 0, .int .i64 0, .slice none 0 0, .int .i64 0, .int .i64 0, .slice none 0 0]) (t := 24) gs_ ?_; intro gb148 hg w45 hbox hb; replace HO0_2 := rb_ HO0_2 hb; replace HO0_5 := rb_ HO0_5 hb; have BK148 := Aside0.mk (hbox); have GW148 := Aside0.mk ((by rw [hg]; exact (by first | exact HK.out.1 | exact (show Kept w _ (fun k_ => P0_2_ k_ ∨ P0_5_ k_) from by repeat (first | (with_reducible first | exact HK.out | apply Kept.alloc | apply Kept.drewN | apply Kept.drew | refine Kept.setCell ?_ (.inr GW146.out) _ | refine Kept.setCell ?_ (.inr GW147.out) _) | exact HK.out)).1) : w.heap.size ≤ gb148)); replace HK := Aside0.mk (Kept.below (S := (fun k_ => P0_2_ k_ ∨ P0_5_ k_)) (by repeat (first | (with_reducible first | exact HK.out | apply Kept.alloc | apply Kept.drewN | apply Kept.drew | refine Kept.setCell ?_ (.inr GW146.out) _ | refine Kept.setCell ?_ (.inr GW147.out) _) | exact HK.out)) hb); have GE148 := Aside0.mk ((by rw [hg]; exact bz_ : w0.heap.size ≤ gb148)); replace HB := Aside0.mk (below_step bl_ hb); have NB146_148 := nl_ hg BK146; have NB148_146 := nm_ hg BK146; replace BK146 := bb_ BK146 hb; have NB147_148 := nl_ hg BK147; have NB148_147 := nm_ hg BK147; replace BK147 := bb_ BK147 hb; clear hb hbox hg; have hnb46 := NB147_146.out; have hnc46 := NB146_147.out; have hnb47 := NB147_148.out; have hnc47 := NB148_147.out; have hcz48_0 : w45.cell? ⟨gb147, 0, none⟩ = some (.int .i64 a1_0) := bc_ BK147.out 0; have hcz48_1 : w45.cell? ⟨gb147, 1, none⟩ = some (.int .i64 a1_1) := bc_ BK147.out 1; have hcz48_2 : w45.cell? ⟨gb147, 2, none⟩ = some (.int .i64 a1_2) := bc_ BK147.out 2; have hfz48_0 := blk_frozen BK147.out 0; have hfz48_1 := blk_frozen BK147.out 1; have hfz48_2 := blk_frozen BK147.out 2; have hnb49 := NB146_148.out; have hnc49 := NB148_146.out; have hcz50_0 : w45.cell? ⟨gb146, 0, none⟩ = some (.int .i64 a0_0) := bc_ BK146.out 0; have hcz50_1 : w45.cell? ⟨gb146, 1, none⟩ = some (.int .i64 a0_1) := bc_ BK146.out 1; have hcz50_2 : w45.cell? ⟨gb146, 2, none⟩ = some (.slice Ao41 l0_2.length co41) := bc_ BK146.out 2; have hcz50_3 : w45.cell? ⟨gb146, 3, none⟩ = some (.int .i64 a0_3) := bc_ BK146.out 3; have hcz50_4 : w45.cell? ⟨gb146, 4, none⟩ = some (.int .i64 a0_4) := bc_ BK146.out 4; have hcz50_5 : w45.cell? ⟨gb146, 5, none⟩ = some (.slice Ao42 l0_5.length co42) := bc_ BK146.out 5; have hfz50_0 := blk_frozen BK146.out 0; have hfz50_1 := blk_frozen BK146.out 1; have hfz50_2 := blk_frozen BK146.out 2; have hfz50_3 := blk_frozen BK146.out 3; have hfz50_4 := blk_frozen BK146.out 4; have hfz50_5 := blk_frozen BK146.out 5) | ((with_reducible refine gate_callee (f := 45) rfl ?_); refine goesL_ (some 30) rfl rfl Try.func45 (by kernel_rfl) rfl #[.int .i64 a1_1, .int .i64 0, .int .i64 (wrap64 ((l0_2.length : Int) - 1))] rfl nc_ ?_; (with_reducible refine (spec_l1In.calls a1_1 0 (wrap64 ((l0_2.length : Int) - 1)) true _ A37.out).mono ?_); rintro e w' ⟨rfl, ⟨nd, rfl⟩⟩; refine ⟨_, rfl, ?_⟩))
  (try simp only [Act.put, List.setIfInBounds_toArray, List.set_cons_zero, List.set_cons_succ])
  go_cut [55] (fun v55 wc => ∃ (kq : Nat) (x55_39 : Bool), v55 = .bool x55_39 ∧ Aside0 (spec_l11Step.j0 kq x55_39 a0_0 a0_1 l0_2 a0_3 a0_4 l0_5 a1_0 a1_1 a1_2 = some (r1, r2, r3, r4, r5, r6, r7)) ∧ Aside0 (kq ≤ k) ∧ Aside0 (Kd.R (Kd.int .i64) 3 wc w0.heap.size (fun k_ => ((P0_2_ k_ ∨ P0_5_ k_) ∨ w.heap.size ≤ k_) ∧ some k_ ≠ ((.slice Ao42 l0_5.length co42) : Value).ownBlock) (.slice Ao41 l0_2.length co41) l0_2) ∧ Aside0 (Kd.R (Kd.int .i64) 3 wc w0.heap.size (fun k_ => ((P0_2_ k_ ∨ P0_5_ k_) ∨ w.heap.size ≤ k_) ∧ some k_ ≠ ((.slice Ao41 l0_2.length co41) : Value).ownBlock) (.slice Ao42 l0_5.length co42) l0_5) ∧ Aside0 (wc.heap[gb146]? = some (.cells #[.int .i64 a0_0, .int .i64 a0_1, (.slice Ao41 l0_2.length co41), .int .i64 a0_3, .int .i64 a0_4, (.slice Ao42 l0_5.length co42)] 24 (0, 0))) ∧ Aside0 (wc.heap[gb147]? = some (.cells #[.int .i64 a1_0, .int .i64 a1_1, .int .i64 a1_2] 45 (0, 0))) ∧ Aside0 (wc.heap[gb148]? = some (.cells #[.int .i64 0, .int .i64 0, (.slice none 0 0), .int .i64 0, .int .i64 0, (.slice none 0 0)] 24 (0, 0))) ∧ Aside0 (Kept w wc (fun k_ => P0_2_ k_ ∨ P0_5_ k_)) ∧ Aside0 (Below w0.heap.size w0 wc))
  case first =>
   have H := HC40.out
   clear HC40
   replace H := Option.bind_eq_some_iff.mp H
   obtain ⟨t152, A510, H⟩ := H
   replace H : (if t152 = true then (if a0_3 = a1_1 then (spec_l11Step.j0 k false a0_0 a0_1 l0_2 a0_3 a0_4 l0_5 a1_0 a1_1 a1_2) else (spec_l11Step.j0 k (decide (a0_1 < a0_4)) a0_0 a0_1 l0_2 a0_3 a0_4 l0_5 a1_0 a1_1 a1_2)) else (spec_l11Step.j0 k true a0_0 a0_1 l0_2 a0_3 a0_4 l0_5 a1_0 a1_1 a1_2)) = some (r1, r2, r3, r4, r5, r6, r7) := H
   have A51 := Aside0.mk A510
   clear A510
   by_cases c52 : t152 = true
   rotate_left
   ·replace c52 := Bool.eq_false_iff.mpr c52
    subst c52
    have H1 : (spec_l11Step.j0 k true a0_0 a0_1 l0_2 a0_3 a0_4 l0_5 a1_0 a1_1 a1_2) = some (r1, r2, r3, r4, r5, r6, r7) := by rw [if_neg (show ¬ (false = true) by decide)] at H; exact H
    clear H
    have H := H1
    clear H1
    have H' := Aside0.mk H
    clear H
    have hnb64 := NB147_146.out
    have hnc64 := NB146_147.out
    have hnb65 := NB147_148.out
    have hnc65 := NB148_147.out
    have hcz66_0 : w45.cell? ⟨gb147, 0, none⟩ = some (.int .i64 a1_0) := bc_ BK147.out 0
    have hcz66_1 : w45.cell? ⟨gb147, 1, none⟩ = some (.int .i64 a1_1) := bc_ BK147.out 1
    have hcz66_2 : w45.cell? ⟨gb147, 2, none⟩ = some (.int .i64 a1_2) := bc_ BK147.out 2
    have hfz66_0 := blk_frozen BK147.out 0
    have hfz66_1 := blk_frozen BK147.out 1
    have hfz66_2 := blk_frozen BK147.out 2
    go_wp2_with (first | ((with_reducible refine gate_callee (f := 45) rfl ?_); refine goesL_ (some 40) rfl rfl Try.func45 (by kernel_rfl) rfl #[.int .i64 a1_2, .int .i64 1, .int .i64 1000000] rfl nc_ ?_; (with_reducible refine (spec_l1In.calls a1_2 1 1000000 false _ A51.out).mono ?_); rintro e w' ⟨rfl, ⟨nd, rfl⟩⟩; refine ⟨_, rfl, ?_⟩))
    go_meet
    case rel => exact ⟨_, (true), (by first | rfl | (simp; done) | (simp [*]; done)), H', ⟨by first | omega | exact Nat.le_refl _⟩, ⟨by exact kr_ HO0_2.out⟩, ⟨by exact kr_ HO0_5.out⟩, ⟨by exact kb_ BK146.out⟩, ⟨by exact kb_ BK147.out⟩, ⟨by exact kb_ BK148.out⟩, ⟨by repeat (first | (with_reducible first | exact HK.out | apply Kept.alloc | apply Kept.drewN | apply Kept.drew | refine Kept.setCell ?_ (.inr GW146.out) _ | refine Kept.setCell ?_ (.inr GW147.out) _ | refine Kept.setCell ?_ (.inr GW148.out) _) | exact HK.out)⟩, ⟨bl_⟩⟩
   subst c52
   have H1 : (if a0_3 = a1_1 then (spec_l11Step.j0 k false a0_0 a0_1 l0_2 a0_3 a0_4 l0_5 a1_0 a1_1 a1_2) else (spec_l11Step.j0 k (decide (a0_1 < a0_4)) a0_0 a0_1 l0_2 a0_3 a0_4 l0_5 a1_0 a1_1 a1_2)) = some (r1, r2, r3, r4, r5, r6, r7) := by rw [if_pos rfl] at H; exact H
   clear H
   have H := H1
   clear H1
   by_cases c53 : a0_3 = a1_1
   ·rw [if_pos c53] at H
    have c53b0 : (a0_3 == a1_1) = true := beq_iff_eq.mpr c53
    have c53b1 : (a0_3 != a1_1) = false := bne_eq_false_iff_eq.mpr c53
    clear c53
    (first | rw [c53b0] | (simp only [i64_w, i32_w]; rw [c53b0]) | skip)
    have H' := Aside0.mk H
    clear H
    have hnb54 := NB147_146.out
    have hnc54 := NB146_147.out
    have hnb55 := NB147_148.out
    have hnc55 := NB148_147.out
    have hcz56_0 : w45.cell? ⟨gb147, 0, none⟩ = some (.int .i64 a1_0) := bc_ BK147.out 0
    have hcz56_1 : w45.cell? ⟨gb147, 1, none⟩ = some (.int .i64 a1_1) := bc_ BK147.out 1
    have hcz56_2 : w45.cell? ⟨gb147, 2, none⟩ = some (.int .i64 a1_2) := bc_ BK147.out 2
    have hfz56_0 := blk_frozen BK147.out 0
    have hfz56_1 := blk_frozen BK147.out 1
    have hfz56_2 := blk_frozen BK147.out 2
    go_wp2_with (first | ((with_reducible refine gate_callee (f := 45) rfl ?_); refine goesL_ (some 40) rfl rfl Try.func45 (by kernel_rfl) rfl #[.int .i64 a1_2, .int .i64 1, .int .i64 1000000] rfl nc_ ?_; (with_reducible refine (spec_l1In.calls a1_2 1 1000000 true _ A51.out).mono ?_); rintro e w' ⟨rfl, ⟨nd, rfl⟩⟩; refine ⟨_, rfl, ?_⟩; have hnb57 := NB146_148.out; have hnc57 := NB148_146.out; have hcz58_0 : w45.cell? ⟨gb146, 0, none⟩ = some (.int .i64 a0_0) := bc_ BK146.out 0; have hcz58_1 : w45.cell? ⟨gb146, 1, none⟩ = some (.int .i64 a0_1) := bc_ BK146.out 1; have hcz58_2 : w45.cell? ⟨gb146, 2, none⟩ = some (.slice Ao41 l0_2.length co41) := bc_ BK146.out 2; have hcz58_3 : w45.cell? ⟨gb146, 3, none⟩ = some (.int .i64 a0_3) := bc_ BK146.out 3; have hcz58_4 : w45.cell? ⟨gb146, 4, none⟩ = some (.int .i64 a0_4) := bc_ BK146.out 4; have hcz58_5 : w45.cell? ⟨gb146, 5, none⟩ = some (.slice Ao42 l0_5.length co42) := bc_ BK146.out 5; have hfz58_0 := blk_frozen BK146.out 0; have hfz58_1 := blk_frozen BK146.out 1; have hfz58_2 := blk_frozen BK146.out 2; have hfz58_3 := blk_frozen BK146.out 3; have hfz58_4 := blk_frozen BK146.out 4; have hfz58_5 := blk_frozen BK146.out 5))
    go_meet
    case rel => exact ⟨_, (false), (by first | rfl | (simp; done) | (simp [*]; done)), H', ⟨by first | omega | exact Nat.le_refl _⟩, ⟨by exact kr_ HO0_2.out⟩, ⟨by exact kr_ HO0_5.out⟩, ⟨by exact kb_ BK146.out⟩, ⟨by exact kb_ BK147.out⟩, ⟨by exact kb_ BK148.out⟩, ⟨by repeat (first | (with_reducible first | exact HK.out | apply Kept.alloc | apply Kept.drewN | apply Kept.drew | refine Kept.setCell ?_ (.inr GW146.out) _ | refine Kept.setCell ?_ (.inr GW147.out) _ | refine Kept.setCell ?_ (.inr GW148.out) _) | exact HK.out)⟩, ⟨bl_⟩⟩
   rw [if_neg c53] at H
   have c53b0 : (a0_3 == a1_1) = false := beq_eq_false_iff_ne.mpr c53
   have c53b1 : (a0_3 != a1_1) = true := bne_iff_ne.mpr c53
   (first | rw [c53b0] | (simp only [i64_w, i32_w]; rw [c53b0]) | skip)
   have H' := Aside0.mk H
   clear H
   have hnb59 := NB147_146.out
   have hnc59 := NB146_147.out
   have hnb60 := NB147_148.out
   have hnc60 := NB148_147.out
   have hcz61_0 : w45.cell? ⟨gb147, 0, none⟩ = some (.int .i64 a1_0) := bc_ BK147.out 0
   have hcz61_1 : w45.cell? ⟨gb147, 1, none⟩ = some (.int .i64 a1_1) := bc_ BK147.out 1
   have hcz61_2 : w45.cell? ⟨gb147, 2, none⟩ = some (.int .i64 a1_2) := bc_ BK147.out 2
   have hfz61_0 := blk_frozen BK147.out 0
   have hfz61_1 := blk_frozen BK147.out 1
   have hfz61_2 := blk_frozen BK147.out 2
   go_wp2_with (first | ((with_reducible refine gate_callee (f := 45) rfl ?_); refine goesL_ (some 40) rfl rfl Try.func45 (by kernel_rfl) rfl #[.int .i64 a1_2, .int .i64 1, .int .i64 1000000] rfl nc_ ?_; (with_reducible refine (spec_l1In.calls a1_2 1 1000000 true _ A51.out).mono ?_); rintro e w' ⟨rfl, ⟨nd, rfl⟩⟩; refine ⟨_, rfl, ?_⟩; have hnb62 := NB146_148.out; have hnc62 := NB148_146.out; have hcz63_0 : w45.cell? ⟨gb146, 0, none⟩ = some (.int .i64 a0_0) := bc_ BK146.out 0; have hcz63_1 : w45.cell? ⟨gb146, 1, none⟩ = some (.int .i64 a0_1) := bc_ BK146.out 1; have hcz63_2 : w45.cell? ⟨gb146, 2, none⟩ = some (.slice Ao41 l0_2.length co41) := bc_ BK146.out 2; have hcz63_3 : w45.cell? ⟨gb146, 3, none⟩ = some (.int .i64 a0_3) := bc_ BK146.out 3; have hcz63_4 : w45.cell? ⟨gb146, 4, none⟩ = some (.int .i64 a0_4) := bc_ BK146.out 4; have hcz63_5 : w45.cell? ⟨gb146, 5, none⟩ = some (.slice Ao42 l0_5.length co42) := bc_ BK146.out 5; have hfz63_0 := blk_frozen BK146.out 0; have hfz63_1 := blk_frozen BK146.out 1; have hfz63_2 := blk_frozen BK146.out 2; have hfz63_3 := blk_frozen BK146.out 3; have hfz63_4 := blk_frozen BK146.out 4; have hfz63_5 := blk_frozen BK146.out 5))
   go_meet
   case rel => exact ⟨_, (decide (a0_1 < a0_4)), (by first | rfl | (simp; done) | (simp [*]; done)), H', ⟨by first | omega | exact Nat.le_refl _⟩, ⟨by exact kr_ HO0_2.out⟩, ⟨by exact kr_ HO0_5.out⟩, ⟨by exact kb_ BK146.out⟩, ⟨by exact kb_ BK147.out⟩, ⟨by exact kb_ BK148.out⟩, ⟨by repeat (first | (with_reducible first | exact HK.out | apply Kept.alloc | apply Kept.drewN | apply Kept.drew | refine Kept.setCell ?_ (.inr GW146.out) _ | refine Kept.setCell ?_ (.inr GW147.out) _ | refine Kept.setCell ?_ (.inr GW148.out) _) | exact HK.out)⟩, ⟨bl_⟩⟩
  clear HC40
  try clear c1
  try clear p2
  try clear c3
  try clear c3b0
  try clear c3b1
  try clear c4
  try clear c5
  try clear c6
  try clear p6
  try clear c12
  try clear c13
  try clear c15
  try clear c18
  try clear c31
  try clear c32
  try clear c34
  try clear c38
  try clear c39
  try clear c39b0
  try clear c39b1
  try clear c45
  try clear c46
  try clear c47
  try clear c49
  try clear c52
  try clear c53
  try clear c53b0
  try clear c53b1
  try clear c54
  try clear c55
  try clear c57
  try clear c59
  try clear c60
  try clear c62
  try clear c64
  try clear p64
  try clear c65
  try clear hcz14_0
  try clear hcz14_1
  try clear hcz14_2
  try clear hcz16_0
  try clear hcz16_1
  try clear hcz16_2
  try clear hcz16_3
  try clear hcz16_4
  try clear hcz16_5
  try clear hcz33_0
  try clear hcz33_1
  try clear hcz33_2
  try clear hcz35_0
  try clear hcz35_1
  try clear hcz35_2
  try clear hcz35_3
  try clear hcz35_4
  try clear hcz35_5
  try clear hcz36_0
  try clear hcz36_1
  try clear hcz36_2
  try clear hcz36_3
  try clear hcz36_4
  try clear hcz36_5
  try clear hcz48_0
  try clear hcz48_1
  try clear hcz48_2
  try clear hcz50_0
  try clear hcz50_1
  try clear hcz50_2
  try clear hcz50_3
  try clear hcz50_4
  try clear hcz50_5
  try clear hcz56_0
  try clear hcz56_1
  try clear hcz56_2
  try clear hcz58_0
  try clear hcz58_1
  try clear hcz58_2
  try clear hcz58_3
  try clear hcz58_4
  try clear hcz58_5
  try clear hcz61_0
  try clear hcz61_1
  try clear hcz61_2
  try clear hcz63_0
  try clear hcz63_1
  try clear hcz63_2
  try clear hcz63_3
  try clear hcz63_4
  try clear hcz63_5
  try clear hcz66_0
  try clear hcz66_1
  try clear hcz66_2
  try clear hfz14_0
  try clear hfz14_1
  try clear hfz14_2
  try clear hfz16_0
  try clear hfz16_1
  try clear hfz16_2
  try clear hfz16_3
  try clear hfz16_4
  try clear hfz16_5
  try clear hfz33_0
  try clear hfz33_1
  try clear hfz33_2
  try clear hfz35_0
  try clear hfz35_1
  try clear hfz35_2
  try clear hfz35_3
  try clear hfz35_4
  try clear hfz35_5
  try clear hfz36_0
  try clear hfz36_1
  try clear hfz36_2
  try clear hfz36_3
  try clear hfz36_4
  try clear hfz36_5
  try clear hfz48_0
  try clear hfz48_1
  try clear hfz48_2
  try clear hfz50_0
  try clear hfz50_1
  try clear hfz50_2
  try clear hfz50_3
  try clear hfz50_4
  try clear hfz50_5
  try clear hfz56_0
  try clear hfz56_1
  try clear hfz56_2
  try clear hfz58_0
  try clear hfz58_1
  try clear hfz58_2
  try clear hfz58_3
  try clear hfz58_4
  try clear hfz58_5
  try clear hfz61_0
  try clear hfz61_1
  try clear hfz61_2
  try clear hfz63_0
  try clear hfz63_1
  try clear hfz63_2
  try clear hfz63_3
  try clear hfz63_4
  try clear hfz63_5
  try clear hfz66_0
  try clear hfz66_1
  try clear hfz66_2
  obtain ⟨kq, x55_39, rfl, HA, HJ39, HO_147002, HO_147005, BK146, BK147, BK148, HK, HB⟩ := hcut
  cases kq with
  | zero => exact absurd HA.out (by simp [spec_l11Step.j0])
  | succ kj39 => ?_
  have H := HA.out
  clear HA
  simp only [spec_l11Step.j0] at H
  by_cases c67 : x55_39 = true
  ·subst c67
   have H1 : (some (a0_0, a0_1, l0_2, a0_3, a0_4, l0_5, false)) = some (r1, r2, r3, r4, r5, r6, r7) := by rw [if_pos rfl] at H; exact H
   clear H
   have H := H1
   clear H1
   simp only [Option.some.injEq, Prod.mk.injEq] at H
   obtain ⟨rfl, rfl, rfl, rfl, rfl, rfl, rfl⟩ := H
   have hnb68 := NB146_147.out
   have hnc68 := NB147_146.out
   have hnb69 := NB146_148.out
   have hnc69 := NB148_146.out
   have hcz70_0 : wc.cell? ⟨gb146, 0, none⟩ = some (.int .i64 a0_0) := bc_ BK146.out 0
   have hcz70_1 : wc.cell? ⟨gb146, 1, none⟩ = some (.int .i64 a0_1) := bc_ BK146.out 1
   have hcz70_2 : wc.cell? ⟨gb146, 2, none⟩ = some (.slice Ao41 l0_2.length co41) := bc_ BK146.out 2
   have hcz70_3 : wc.cell? ⟨gb146, 3, none⟩ = some (.int .i64 a0_3) := bc_ BK146.out 3
   have hcz70_4 : wc.cell? ⟨gb146, 4, none⟩ = some (.int .i64 a0_4) := bc_ BK146.out 4
   have hcz70_5 : wc.cell? ⟨gb146, 5, none⟩ = some (.slice Ao42 l0_5.length co42) := bc_ BK146.out 5
   have hfz70_0 := blk_frozen BK146.out 0
   have hfz70_1 := blk_frozen BK146.out 1
   have hfz70_2 := blk_frozen BK146.out 2
   have hfz70_3 := blk_frozen BK146.out 3
   have hfz70_4 := blk_frozen BK146.out 4
   have hfz70_5 := blk_frozen BK146.out 5
   have hnb71 := NB148_147.out
   have hnc71 := NB147_148.out
   have hcz72_0 : wc.cell? ⟨gb148, 0, none⟩ = some (.int .i64 0) := bc_ BK148.out 0
   have hcz72_1 : wc.cell? ⟨gb148, 1, none⟩ = some (.int .i64 0) := bc_ BK148.out 1
   have hcz72_2 : wc.cell? ⟨gb148, 2, none⟩ = some (.slice none 0 0) := bc_ BK148.out 2
   have hcz72_3 : wc.cell? ⟨gb148, 3, none⟩ = some (.int .i64 0) := bc_ BK148.out 3
   have hcz72_4 : wc.cell? ⟨gb148, 4, none⟩ = some (.int .i64 0) := bc_ BK148.out 4
   have hcz72_5 : wc.cell? ⟨gb148, 5, none⟩ = some (.slice none 0 0) := bc_ BK148.out 5
   have hfz72_0 := blk_frozen BK148.out 0
   have hfz72_1 := blk_frozen BK148.out 1
   have hfz72_2 := blk_frozen BK148.out 2
   have hfz72_3 := blk_frozen BK148.out 3
   have hfz72_4 := blk_frozen BK148.out 4
   have hfz72_5 := blk_frozen BK148.out 5
   go_wp2
   refine bodyPost_ret (results_ct rfl _ _ gb148 24 #[.int .i64 a0_0, .int .i64 a0_1, .slice Ao41 l0_2.length co41, .int .i64 a0_3, .int .i64 a0_4, .slice Ao42 l0_5.length co42] (0, 0) _ rfl (by (with_reducible repeat (first | refine blk_drewN ?_ _ | refine blk_drew ?_ | refine blk_alloc ?_ _)); refine blk_put (cs := #[.int .i64 a0_0, .int .i64 a0_1, .slice Ao41 l0_2.length co41, .int .i64 a0_3, .int .i64 a0_4, .slice none 0 0]) ?_ 5 _ rfl; (with_reducible repeat (first | refine blk_drewN ?_ _ | refine blk_drew ?_ | refine blk_alloc ?_ _)); refine blk_put (cs := #[.int .i64 a0_0, .int .i64 a0_1, .slice Ao41 l0_2.length co41, .int .i64 a0_3, .int .i64 0, .slice none 0 0]) ?_ 4 _ rfl; (with_reducible repeat (first | refine blk_drewN ?_ _ | refine blk_drew ?_ | refine blk_alloc ?_ _)); refine blk_put (cs := #[.int .i64 a0_0, .int .i64 a0_1, .slice Ao41 l0_2.length co41, .int .i64 0, .int .i64 0, .slice none 0 0]) ?_ 3 _ rfl; (with_reducible repeat (first | refine blk_drewN ?_ _ | refine blk_drew ?_ | refine blk_alloc ?_ _)); refine blk_put (cs := #[.int .i64 a0_0, .int .i64 a0_1, .slice none 0 0, .int .i64 0, .int .i64 0, .slice none 0 0]) ?_ 2 _ rfl; (with_reducible repeat (first | refine blk_drewN ?_ _ | refine blk_drew ?_ | refine blk_alloc ?_ _)); refine blk_put (cs := #[.int .i64 a0_0, .int .i64 0, .slice none 0 0, .int .i64 0, .int .i64 0, .slice none 0 0]) ?_ 1 _ rfl; (with_reducible repeat (first | refine blk_drewN ?_ _ | refine blk_drew ?_ | refine blk_alloc ?_ _)); refine blk_put (cs := #[.int .i64 0, .int .i64 0, .slice none 0 0, .int .i64 0, .int .i64 0, .slice none 0 0]) ?_ 0 _ rfl; exact kb_ BK148.out) Try.underlying24 rfl (by kernel_rfl)) rfl ?_
   exact ⟨_, _, ng_, by exact kr_ (Kd.R_mono (Kd.R_far (p := ⟨gb148, 5, none⟩) (Kd.R_far (p := ⟨gb148, 4, none⟩) (Kd.R_far (p := ⟨gb148, 3, none⟩) (Kd.R_far (p := ⟨gb148, 2, none⟩) (Kd.R_far (p := ⟨gb148, 1, none⟩) (Kd.R_far (p := ⟨gb148, 0, none⟩) (Kd.R_types HO_147002.out BK148.out (by decide)) (fun _ hk => hk.2) (.int .i64 a0_0)) (fun _ hk => hk.2) (.int .i64 a0_1)) (fun _ hk => hk.2) (.slice Ao41 l0_2.length co41)) (fun _ hk => hk.2) (.int .i64 a0_3)) (fun _ hk => hk.2) (.int .i64 a0_4)) (fun _ hk => hk.2) (.slice Ao42 l0_5.length co42)) (fun _ hk => ⟨hk.1.1, hk.1.2⟩)), by exact kr_ (Kd.R_mono (Kd.R_far (p := ⟨gb148, 5, none⟩) (Kd.R_far (p := ⟨gb148, 4, none⟩) (Kd.R_far (p := ⟨gb148, 3, none⟩) (Kd.R_far (p := ⟨gb148, 2, none⟩) (Kd.R_far (p := ⟨gb148, 1, none⟩) (Kd.R_far (p := ⟨gb148, 0, none⟩) (Kd.R_types HO_147005.out BK148.out (by decide)) (fun _ hk => hk.2) (.int .i64 a0_0)) (fun _ hk => hk.2) (.int .i64 a0_1)) (fun _ hk => hk.2) (.slice Ao41 l0_2.length co41)) (fun _ hk => hk.2) (.int .i64 a0_3)) (fun _ hk => hk.2) (.int .i64 a0_4)) (fun _ hk => hk.2) (.slice Ao42 l0_5.length co42)) (fun _ hk => ⟨hk.1.1, hk.1.2⟩)), bl_, by repeat (first | (with_reducible first | exact HK.out | apply Kept.alloc | apply Kept.drewN | apply Kept.drew | refine Kept.setCell ?_ (.inr GW146.out) _ | refine Kept.setCell ?_ (.inr GW147.out) _ | refine Kept.setCell ?_ (.inr GW148.out) _) | exact HK.out)⟩
  replace c67 := Bool.eq_false_iff.mpr c67
  subst c67
  have H1 : (if a0_3 = a1_1 then (if a0_4 > (wrap64 (a0_1 + a1_2)) then ((spec_GoodLeases.f kj39 a0_0 a0_1 l0_2 a1_1 a0_4 l0_5).bind fun t153 => (some (a0_0, a0_1, l0_2, a1_1, a0_4, l0_5, t153))) else ((spec_GoodLeases.f kj39 a0_0 a0_1 l0_2 a1_1 (wrap64 (a0_1 + a1_2)) l0_5).bind fun t154 => (some (a0_0, a0_1, l0_2, a1_1, wrap64 (a0_1 + a1_2), l0_5, t154)))) else ((spec_GoodLeases.f kj39 a0_0 a0_1 l0_2 a1_1 (wrap64 (a0_1 + a1_2)) l0_5).bind fun t155 => (some (a0_0, a0_1, l0_2, a1_1, wrap64 (a0_1 + a1_2), l0_5, t155)))) = some (r1, r2, r3, r4, r5, r6, r7) := by rw [if_neg (show ¬ (false = true) by decide)] at H; exact H
  clear H
  have H := H1
  clear H1
  by_cases c73 : a0_3 = a1_1
  rotate_left
  ·rw [if_neg c73] at H
   have c73b0 : (a0_3 == a1_1) = false := beq_eq_false_iff_ne.mpr c73
   have c73b1 : (a0_3 != a1_1) = true := bne_iff_ne.mpr c73
   replace H := Option.bind_eq_some_iff.mp H
   obtain ⟨t155, A1050, H⟩ := H
   replace H : (some (a0_0, a0_1, l0_2, a1_1, wrap64 (a0_1 + a1_2), l0_5, t155)) = some (r1, r2, r3, r4, r5, r6, r7) := H
   have A105 := Aside0.mk A1050
   clear A1050
   simp only [Option.some.injEq, Prod.mk.injEq] at H
   obtain ⟨rfl, rfl, rfl, rfl, rfl, rfl, rfl⟩ := H
   have hnb106 := NB146_147.out
   have hnc106 := NB147_146.out
   have hnb107 := NB146_148.out
   have hnc107 := NB148_146.out
   have hcz108_0 : wc.cell? ⟨gb146, 0, none⟩ = some (.int .i64 a0_0) := bc_ BK146.out 0
   have hcz108_1 : wc.cell? ⟨gb146, 1, none⟩ = some (.int .i64 a0_1) := bc_ BK146.out 1
   have hcz108_2 : wc.cell? ⟨gb146, 2, none⟩ = some (.slice Ao41 l0_2.length co41) := bc_ BK146.out 2
   have hcz108_3 : wc.cell? ⟨gb146, 3, none⟩ = some (.int .i64 a0_3) := bc_ BK146.out 3
   have hcz108_4 : wc.cell? ⟨gb146, 4, none⟩ = some (.int .i64 a0_4) := bc_ BK146.out 4
   have hcz108_5 : wc.cell? ⟨gb146, 5, none⟩ = some (.slice Ao42 l0_5.length co42) := bc_ BK146.out 5
   have hfz108_0 := blk_frozen BK146.out 0
   have hfz108_1 := blk_frozen BK146.out 1
   have hfz108_2 := blk_frozen BK146.out 2
   have hfz108_3 := blk_frozen BK146.out 3
   have hfz108_4 := blk_frozen BK146.out 4
   have hfz108_5 := blk_frozen BK146.out 5
   have hnb109 := NB147_148.out
   have hnc109 := NB148_147.out
   have hcz110_0 : wc.cell? ⟨gb147, 0, none⟩ = some (.int .i64 a1_0) := bc_ BK147.out 0
   have hcz110_1 : wc.cell? ⟨gb147, 1, none⟩ = some (.int .i64 a1_1) := bc_ BK147.out 1
   have hcz110_2 : wc.cell? ⟨gb147, 2, none⟩ = some (.int .i64 a1_2) := bc_ BK147.out 2
   have hfz110_0 := blk_frozen BK147.out 0
   have hfz110_1 := blk_frozen BK147.out 1
   have hfz110_2 := blk_frozen BK147.out 2
   try go_wp2
   have n0_ : Aside0 (Kd.R (Kd.int .i64) 3 ((wc.setCell ⟨gb146, 3, none⟩ (.int .i64 a1_1)).setCell ⟨gb146, 4, none⟩ (.int .i64 (wrap64 (a0_1 + a1_2)))) w0.heap.size (fun k_ => ((P0_2_ k_ ∨ P0_5_ k_) ∨ w.heap.size ≤ k_) ∧ some k_ ≠ (.slice Ao42 l0_5.length co42 : Value).ownBlock) (.slice Ao41 l0_2.length co41) l0_2) := ⟨by exact kr_ (Kd.R_mono (Kd.R_far (p := ⟨gb146, 4, none⟩) (Kd.R_far (p := ⟨gb146, 3, none⟩) (Kd.R_types HO_147002.out BK146.out (by decide)) (fun _ hk => hk.2) (.int .i64 a1_1)) (fun _ hk => hk.2) (.int .i64 (wrap64 (a0_1 + a1_2)))) (fun _ hk => ⟨hk.1.1, hk.1.2⟩))⟩
   have n1_ : Aside0 (Kd.R (Kd.int .i64) 3 ((wc.setCell ⟨gb146, 3, none⟩ (.int .i64 a1_1)).setCell ⟨gb146, 4, none⟩ (.int .i64 (wrap64 (a0_1 + a1_2)))) w0.heap.size (fun k_ => ((P0_2_ k_ ∨ P0_5_ k_) ∨ w.heap.size ≤ k_) ∧ some k_ ≠ (.slice Ao41 l0_2.length co41 : Value).ownBlock) (.slice Ao42 l0_5.length co42) l0_5) := ⟨by exact kr_ (Kd.R_mono (Kd.R_far (p := ⟨gb146, 4, none⟩) (Kd.R_far (p := ⟨gb146, 3, none⟩) (Kd.R_types HO_147005.out BK146.out (by decide)) (fun _ hk => hk.2) (.int .i64 a1_1)) (fun _ hk => hk.2) (.int .i64 (wrap64 (a0_1 + a1_2)))) (fun _ hk => ⟨hk.1.1, hk.1.2⟩))⟩
   have n2_ : Aside0 (((wc.setCell ⟨gb146, 3, none⟩ (.int .i64 a1_1)).setCell ⟨gb146, 4, none⟩ (.int .i64 (wrap64 (a0_1 + a1_2)))).heap[gb146]? = some (.cells #[.int .i64 a0_0, .int .i64 a0_1, .slice Ao41 l0_2.length co41, .int .i64 a1_1, .int .i64 (wrap64 (a0_1 + a1_2)), .slice Ao42 l0_5.length co42] 24 (0, 0))) := ⟨by (with_reducible repeat (first | refine blk_drewN ?_ _ | refine blk_drew ?_ | refine blk_alloc ?_ _)); refine blk_put (cs := #[.int .i64 a0_0, .int .i64 a0_1, .slice Ao41 l0_2.length co41, .int .i64 a1_1, .int .i64 a0_4, .slice Ao42 l0_5.length co42]) ?_ 4 _ rfl; (with_reducible repeat (first | refine blk_drewN ?_ _ | refine blk_drew ?_ | refine blk_alloc ?_ _)); refine blk_put (cs := #[.int .i64 a0_0, .int .i64 a0_1, .slice Ao41 l0_2.length co41, .int .i64 a0_3, .int .i64 a0_4, .slice Ao42 l0_5.length co42]) ?_ 3 _ rfl; exact kb_ BK146.out⟩
   have n3_ : Aside0 (((wc.setCell ⟨gb146, 3, none⟩ (.int .i64 a1_1)).setCell ⟨gb146, 4, none⟩ (.int .i64 (wrap64 (a0_1 + a1_2)))).heap[gb147]? = some (.cells #[.int .i64 a1_0, .int .i64 a1_1, .int .i64 a1_2] 45 (0, 0))) := ⟨kz_⟩
   have n4_ : Aside0 (((wc.setCell ⟨gb146, 3, none⟩ (.int .i64 a1_1)).setCell ⟨gb146, 4, none⟩ (.int .i64 (wrap64 (a0_1 + a1_2)))).heap[gb148]? = some (.cells #[.int .i64 0, .int .i64 0, .slice none 0 0, .int .i64 0, .int .i64 0, .slice none 0 0] 24 (0, 0))) := ⟨kz_⟩
   have n5_ : Aside0 (Kept w ((wc.setCell ⟨gb146, 3, none⟩ (.int .i64 a1_1)).setCell ⟨gb146, 4, none⟩ (.int .i64 (wrap64 (a0_1 + a1_2)))) (fun k_ => P0_2_ k_ ∨ P0_5_ k_)) := ⟨by repeat (first | (with_reducible first | exact HK.out | apply Kept.alloc | apply Kept.drewN | apply Kept.drew | refine Kept.setCell ?_ (.inr GW146.out) _ | refine Kept.setCell ?_ (.inr GW147.out) _ | refine Kept.setCell ?_ (.inr GW148.out) _) | exact HK.out)⟩
   have n6_ : Aside0 (Below w0.heap.size w0 ((wc.setCell ⟨gb146, 3, none⟩ (.int .i64 a1_1)).setCell ⟨gb146, 4, none⟩ (.int .i64 (wrap64 (a0_1 + a1_2))))) := ⟨bl_⟩
   (try clear HO_147002)
   (try clear HO_147005)
   (try clear BK146)
   (try clear BK147)
   (try clear BK148)
   (try clear HK)
   (try clear HB)
   generalize ((wc.setCell ⟨gb146, 3, none⟩ (.int .i64 a1_1)).setCell ⟨gb146, 4, none⟩ (.int .i64 (wrap64 (a0_1 + a1_2)))) = w111 at n0_ n1_ n2_ n3_ n4_ n5_ n6_ ⊢
   have HO_147002 := n0_
   have HO_147005 := n1_
   have BK146 := n2_
   have BK147 := n3_
   have BK148 := n4_
   have HK := n5_
   have HB := n6_
   clear n0_ n1_ n2_ n3_ n4_ n5_ n6_
   replace HO_147002 := Aside0.mk (Kd.R_drew HO_147002.out)
   replace HO_147005 := Aside0.mk (Kd.R_drew HO_147005.out)
   replace BK146 := Aside0.mk (blk_drew BK146.out)
   replace BK147 := Aside0.mk (blk_drew BK147.out)
   replace BK148 := Aside0.mk (blk_drew BK148.out)
   replace HK := Aside0.mk (Kept.drew HK.out)
   replace HB := Aside0.mk (below_drew1 HB.out)
   refine start_ (n := 5) (S := fun w' => w'.cell? ⟨gb146, 0, none⟩ = some (.int .i64 a0_0) ∧ w'.cell? ⟨gb146, 1, none⟩ = some (.int .i64 a0_1) ∧ w'.cell? ⟨gb146, 2, none⟩ = some (.slice Ao41 l0_2.length co41) ∧ w'.cell? ⟨gb146, 3, none⟩ = some (.int .i64 a1_1) ∧ w'.cell? ⟨gb146, 4, none⟩ = some (.int .i64 (wrap64 (a0_1 + a1_2))) ∧ w'.cell? ⟨gb146, 5, none⟩ = some (.slice Ao42 l0_5.length co42)) (ds := []) #[false, false, false, false, false] (by kernel_rfl) rfl rfl ⟨bc_ BK146.out 0, bc_ BK146.out 1, bc_ BK146.out 2, bc_ BK146.out 3, bc_ BK146.out 4, bc_ BK146.out 5⟩ (fun hHeld => ?_)
   generalize w111.drew = w112 at HO_147002 HO_147005 BK146 BK147 BK148 HK HB hHeld ⊢
   refine tk6_ 0 (some 112) (h := ?_)
   refine tk6_ 1 (some 113) (h := ?_)
   refine on_ 2 (some 114) (h := fun K hK => ?_)
   refine goes_ Try.func18 (by kernel_rfl) rfl #[.agg #[.int .i64 a0_0, .int .i64 a0_1, .slice Ao41 l0_2.length co41, .int .i64 a1_1, .int .i64 (wrap64 (a0_1 + a1_2)), .slice Ao42 l0_5.length co42]] (by rfl) rfl rfl nc_ ?_
   with_reducible refine (spec_GoodLeases.calls kj39 a0_0 a0_1 _ _ l0_2 a1_1 (wrap64 (a0_1 + a1_2)) _ _ l0_5 t155 _ ?side1 ?side2 ?side3 ?side4 A105.out).mono ?_
   (case side1 => exact kc_ (Kd.R_reads' HO_147002.out).2.2)
   (case side2 => exact (Kd.R_reads' HO_147002.out).2.1)
   (case side3 => exact kc_ (Kd.R_reads' HO_147005.out).2.2)
   (case side4 => exact (Kd.R_reads' HO_147005.out).2.1)
   rintro e w113 ⟨rfl, hb⟩
   refine ⟨_, rfl, ?_⟩
   replace HO_147002 := rb_ HO_147002 hb
   replace HO_147005 := rb_ HO_147005 hb
   replace BK146 := bb_ BK146 hb
   replace BK147 := bb_ BK147 hb
   replace BK148 := bb_ BK148 hb
   replace HK := Aside0.mk (Kept.below (S := (fun k_ => P0_2_ k_ ∨ P0_5_ k_)) (by repeat (first | (with_reducible first | exact HK.out | apply Kept.alloc | apply Kept.drewN | apply Kept.drew | refine Kept.setCell ?_ (.inr GW146.out) _ | refine Kept.setCell ?_ (.inr GW147.out) _ | refine Kept.setCell ?_ (.inr GW148.out) _) | exact HK.out)) hb)
   replace HB := Aside0.mk (below_step bl_ hb)
   clear hb
   refine hK.out _ _ ⟨bc_ BK146.out 0, bc_ BK146.out 1, bc_ BK146.out 2, bc_ BK146.out 3, bc_ BK146.out 4, bc_ BK146.out 5⟩ (fun hHeld => ?_)
   clear hK K
   refine norm_ nn_ ?_
   refine on_ 3 none (h := fun K hK => ?_)
   have hs114 : w113.cell? ⟨gb148, 0, none⟩ = some (.int .i64 0) := bc_ BK148.out 0
   have hfs114 := blk_frozen BK148.out 0
   have hns114_0 := NB146_148.out
   have hns114_1 := NB147_148.out
   have hms114_0 := NB148_146.out
   have hms114_1 := NB148_147.out
   have hs115 : w113.cell? ⟨gb148, 1, none⟩ = some (.int .i64 0) := bc_ BK148.out 1
   have hfs115 := blk_frozen BK148.out 1
   have hns115_0 := NB146_148.out
   have hns115_1 := NB147_148.out
   have hms115_0 := NB148_146.out
   have hms115_1 := NB148_147.out
   have hs116 : w113.cell? ⟨gb148, 2, none⟩ = some (.slice none 0 0) := bc_ BK148.out 2
   have hfs116 := blk_frozen BK148.out 2
   have hns116_0 := NB146_148.out
   have hns116_1 := NB147_148.out
   have hms116_0 := NB148_146.out
   have hms116_1 := NB148_147.out
   have hs117 : w113.cell? ⟨gb148, 3, none⟩ = some (.int .i64 0) := bc_ BK148.out 3
   have hfs117 := blk_frozen BK148.out 3
   have hns117_0 := NB146_148.out
   have hns117_1 := NB147_148.out
   have hms117_0 := NB148_146.out
   have hms117_1 := NB148_147.out
   have hs118 : w113.cell? ⟨gb148, 4, none⟩ = some (.int .i64 0) := bc_ BK148.out 4
   have hfs118 := blk_frozen BK148.out 4
   have hns118_0 := NB146_148.out
   have hns118_1 := NB147_148.out
   have hms118_0 := NB148_146.out
   have hms118_1 := NB148_147.out
   have hs119 : w113.cell? ⟨gb148, 5, none⟩ = some (.slice none 0 0) := bc_ BK148.out 5
   have hfs119 := blk_frozen BK148.out 5
   have hns119_0 := NB146_148.out
   have hns119_1 := NB147_148.out
   have hms119_0 := NB148_146.out
   have hms119_1 := NB148_147.out
   refine skip_ (w1 := ?_) (by rfl) rfl ?_ ?_
   rotate_left
   ·go_simp
    rfl
   refine hK.out _ _ ⟨((cell_far (p := ⟨gb148, _, none⟩) NB146_148.out _).trans (((cell_far (p := ⟨gb148, _, none⟩) NB146_148.out _).trans (((cell_far (p := ⟨gb148, _, none⟩) NB146_148.out _).trans (((cell_far (p := ⟨gb148, _, none⟩) NB146_148.out _).trans (((cell_far (p := ⟨gb148, _, none⟩) NB146_148.out _).trans (((cell_far (p := ⟨gb148, _, none⟩) NB146_148.out _).trans (hHeld.1)))))))))))), ((cell_far (p := ⟨gb148, _, none⟩) NB146_148.out _).trans (((cell_far (p := ⟨gb148, _, none⟩) NB146_148.out _).trans (((cell_far (p := ⟨gb148, _, none⟩) NB146_148.out _).trans (((cell_far (p := ⟨gb148, _, none⟩) NB146_148.out _).trans (((cell_far (p := ⟨gb148, _, none⟩) NB146_148.out _).trans (((cell_far (p := ⟨gb148, _, none⟩) NB146_148.out _).trans (hHeld.2.1)))))))))))), ((cell_far (p := ⟨gb148, _, none⟩) NB146_148.out _).trans (((cell_far (p := ⟨gb148, _, none⟩) NB146_148.out _).trans (((cell_far (p := ⟨gb148, _, none⟩) NB146_148.out _).trans (((cell_far (p := ⟨gb148, _, none⟩) NB146_148.out _).trans (((cell_far (p := ⟨gb148, _, none⟩) NB146_148.out _).trans (((cell_far (p := ⟨gb148, _, none⟩) NB146_148.out _).trans (hHeld.2.2.1)))))))))))), ((cell_far (p := ⟨gb148, _, none⟩) NB146_148.out _).trans (((cell_far (p := ⟨gb148, _, none⟩) NB146_148.out _).trans (((cell_far (p := ⟨gb148, _, none⟩) NB146_148.out _).trans (((cell_far (p := ⟨gb148, _, none⟩) NB146_148.out _).trans (((cell_far (p := ⟨gb148, _, none⟩) NB146_148.out _).trans (((cell_far (p := ⟨gb148, _, none⟩) NB146_148.out _).trans (hHeld.2.2.2.1)))))))))))), ((cell_far (p := ⟨gb148, _, none⟩) NB146_148.out _).trans (((cell_far (p := ⟨gb148, _, none⟩) NB146_148.out _).trans (((cell_far (p := ⟨gb148, _, none⟩) NB146_148.out _).trans (((cell_far (p := ⟨gb148, _, none⟩) NB146_148.out _).trans (((cell_far (p := ⟨gb148, _, none⟩) NB146_148.out _).trans (((cell_far (p := ⟨gb148, _, none⟩) NB146_148.out _).trans (hHeld.2.2.2.2.1)))))))))))), ((cell_far (p := ⟨gb148, _, none⟩) NB146_148.out _).trans (((cell_far (p := ⟨gb148, _, none⟩) NB146_148.out _).trans (((cell_far (p := ⟨gb148, _, none⟩) NB146_148.out _).trans (((cell_far (p := ⟨gb148, _, none⟩) NB146_148.out _).trans (((cell_far (p := ⟨gb148, _, none⟩) NB146_148.out _).trans (((cell_far (p := ⟨gb148, _, none⟩) NB146_148.out _).trans (hHeld.2.2.2.2.2))))))))))))⟩ (fun hHeld => ?_)
   clear hK K
   refine pu_ 4 (some 5) (h := ?_)
   refine done_ (by kernel_rfl) ?_
   try go_wp2
   refine bodyPost_ret (results_ct rfl _ _ gb148 24 #[.int .i64 a0_0, .int .i64 a0_1, .slice Ao41 l0_2.length co41, .int .i64 a1_1, .int .i64 (wrap64 (a0_1 + a1_2)), .slice Ao42 l0_5.length co42] (0, 0) _ rfl (by (with_reducible repeat (first | refine blk_drewN ?_ _ | refine blk_drew ?_ | refine blk_alloc ?_ _)); refine blk_put (cs := #[.int .i64 a0_0, .int .i64 a0_1, .slice Ao41 l0_2.length co41, .int .i64 a1_1, .int .i64 (wrap64 (a0_1 + a1_2)), .slice none 0 0]) ?_ 5 _ rfl; (with_reducible repeat (first | refine blk_drewN ?_ _ | refine blk_drew ?_ | refine blk_alloc ?_ _)); refine blk_put (cs := #[.int .i64 a0_0, .int .i64 a0_1, .slice Ao41 l0_2.length co41, .int .i64 a1_1, .int .i64 0, .slice none 0 0]) ?_ 4 _ rfl; (with_reducible repeat (first | refine blk_drewN ?_ _ | refine blk_drew ?_ | refine blk_alloc ?_ _)); refine blk_put (cs := #[.int .i64 a0_0, .int .i64 a0_1, .slice Ao41 l0_2.length co41, .int .i64 0, .int .i64 0, .slice none 0 0]) ?_ 3 _ rfl; (with_reducible repeat (first | refine blk_drewN ?_ _ | refine blk_drew ?_ | refine blk_alloc ?_ _)); refine blk_put (cs := #[.int .i64 a0_0, .int .i64 a0_1, .slice none 0 0, .int .i64 0, .int .i64 0, .slice none 0 0]) ?_ 2 _ rfl; (with_reducible repeat (first | refine blk_drewN ?_ _ | refine blk_drew ?_ | refine blk_alloc ?_ _)); refine blk_put (cs := #[.int .i64 a0_0, .int .i64 0, .slice none 0 0, .int .i64 0, .int .i64 0, .slice none 0 0]) ?_ 1 _ rfl; (with_reducible repeat (first | refine blk_drewN ?_ _ | refine blk_drew ?_ | refine blk_alloc ?_ _)); refine blk_put (cs := #[.int .i64 0, .int .i64 0, .slice none 0 0, .int .i64 0, .int .i64 0, .slice none 0 0]) ?_ 0 _ rfl; exact kb_ BK148.out) Try.underlying24 rfl (by kernel_rfl)) rfl ?_
   exact ⟨_, _, ng_, by exact kr_ (Kd.R_mono (Kd.R_far (p := ⟨gb148, 5, none⟩) (Kd.R_far (p := ⟨gb148, 4, none⟩) (Kd.R_far (p := ⟨gb148, 3, none⟩) (Kd.R_far (p := ⟨gb148, 2, none⟩) (Kd.R_far (p := ⟨gb148, 1, none⟩) (Kd.R_far (p := ⟨gb148, 0, none⟩) (Kd.R_types HO_147002.out BK148.out (by decide)) (fun _ hk => hk.2) (.int .i64 a0_0)) (fun _ hk => hk.2) (.int .i64 a0_1)) (fun _ hk => hk.2) (.slice Ao41 l0_2.length co41)) (fun _ hk => hk.2) (.int .i64 a1_1)) (fun _ hk => hk.2) (.int .i64 (wrap64 (a0_1 + a1_2)))) (fun _ hk => hk.2) (.slice Ao42 l0_5.length co42)) (fun _ hk => ⟨hk.1.1, hk.1.2⟩)), by exact kr_ (Kd.R_mono (Kd.R_far (p := ⟨gb148, 5, none⟩) (Kd.R_far (p := ⟨gb148, 4, none⟩) (Kd.R_far (p := ⟨gb148, 3, none⟩) (Kd.R_far (p := ⟨gb148, 2, none⟩) (Kd.R_far (p := ⟨gb148, 1, none⟩) (Kd.R_far (p := ⟨gb148, 0, none⟩) (Kd.R_types HO_147005.out BK148.out (by decide)) (fun _ hk => hk.2) (.int .i64 a0_0)) (fun _ hk => hk.2) (.int .i64 a0_1)) (fun _ hk => hk.2) (.slice Ao41 l0_2.length co41)) (fun _ hk => hk.2) (.int .i64 a1_1)) (fun _ hk => hk.2) (.int .i64 (wrap64 (a0_1 + a1_2)))) (fun _ hk => hk.2) (.slice Ao42 l0_5.length co42)) (fun _ hk => ⟨hk.1.1, hk.1.2⟩)), bl_, by repeat (first | (with_reducible first | exact HK.out | apply Kept.alloc | apply Kept.drewN | apply Kept.drew | refine Kept.setCell ?_ (.inr GW146.out) _ | refine Kept.setCell ?_ (.inr GW147.out) _ | refine Kept.setCell ?_ (.inr GW148.out) _) | exact HK.out)⟩
  rw [if_pos c73] at H
  have c73b0 : (a0_3 == a1_1) = true := beq_iff_eq.mpr c73
  have c73b1 : (a0_3 != a1_1) = false := bne_eq_false_iff_eq.mpr c73
  clear c73
  by_cases c74 : a0_4 > (wrap64 (a0_1 + a1_2))
  ·rw [if_pos c74] at H
   have c74b0 : decide ((wrap64 (a0_1 + a1_2)) < a0_4) = true := decide_eq_true c74
   clear c74
   replace H := Option.bind_eq_some_iff.mp H
   obtain ⟨t153, A750, H⟩ := H
   replace H : (some (a0_0, a0_1, l0_2, a1_1, a0_4, l0_5, t153)) = some (r1, r2, r3, r4, r5, r6, r7) := H
   have A75 := Aside0.mk A750
   clear A750
   simp only [Option.some.injEq, Prod.mk.injEq] at H
   obtain ⟨rfl, rfl, rfl, rfl, rfl, rfl, rfl⟩ := H
   have hnb76 := NB146_147.out
   have hnc76 := NB147_146.out
   have hnb77 := NB146_148.out
   have hnc77 := NB148_146.out
   have hcz78_0 : wc.cell? ⟨gb146, 0, none⟩ = some (.int .i64 a0_0) := bc_ BK146.out 0
   have hcz78_1 : wc.cell? ⟨gb146, 1, none⟩ = some (.int .i64 a0_1) := bc_ BK146.out 1
   have hcz78_2 : wc.cell? ⟨gb146, 2, none⟩ = some (.slice Ao41 l0_2.length co41) := bc_ BK146.out 2
   have hcz78_3 : wc.cell? ⟨gb146, 3, none⟩ = some (.int .i64 a0_3) := bc_ BK146.out 3
   have hcz78_4 : wc.cell? ⟨gb146, 4, none⟩ = some (.int .i64 a0_4) := bc_ BK146.out 4
   have hcz78_5 : wc.cell? ⟨gb146, 5, none⟩ = some (.slice Ao42 l0_5.length co42) := bc_ BK146.out 5
   have hfz78_0 := blk_frozen BK146.out 0
   have hfz78_1 := blk_frozen BK146.out 1
   have hfz78_2 := blk_frozen BK146.out 2
   have hfz78_3 := blk_frozen BK146.out 3
   have hfz78_4 := blk_frozen BK146.out 4
   have hfz78_5 := blk_frozen BK146.out 5
   have hnb79 := NB147_148.out
   have hnc79 := NB148_147.out
   have hcz80_0 : wc.cell? ⟨gb147, 0, none⟩ = some (.int .i64 a1_0) := bc_ BK147.out 0
   have hcz80_1 : wc.cell? ⟨gb147, 1, none⟩ = some (.int .i64 a1_1) := bc_ BK147.out 1
   have hcz80_2 : wc.cell? ⟨gb147, 2, none⟩ = some (.int .i64 a1_2) := bc_ BK147.out 2
   have hfz80_0 := blk_frozen BK147.out 0
   have hfz80_1 := blk_frozen BK147.out 1
   have hfz80_2 := blk_frozen BK147.out 2
   try go_wp2
   have n0_ : Aside0 (Kd.R (Kd.int .i64) 3 ((wc.setCell ⟨gb146, 3, none⟩ (.int .i64 a1_1)).setCell ⟨gb146, 4, none⟩ (.int .i64 a0_4)) w0.heap.size (fun k_ => ((P0_2_ k_ ∨ P0_5_ k_) ∨ w.heap.size ≤ k_) ∧ some k_ ≠ (.slice Ao42 l0_5.length co42 : Value).ownBlock) (.slice Ao41 l0_2.length co41) l0_2) := ⟨by exact kr_ (Kd.R_mono (Kd.R_far (p := ⟨gb146, 4, none⟩) (Kd.R_far (p := ⟨gb146, 3, none⟩) (Kd.R_types HO_147002.out BK146.out (by decide)) (fun _ hk => hk.2) (.int .i64 a1_1)) (fun _ hk => hk.2) (.int .i64 a0_4)) (fun _ hk => ⟨hk.1.1, hk.1.2⟩))⟩
   have n1_ : Aside0 (Kd.R (Kd.int .i64) 3 ((wc.setCell ⟨gb146, 3, none⟩ (.int .i64 a1_1)).setCell ⟨gb146, 4, none⟩ (.int .i64 a0_4)) w0.heap.size (fun k_ => ((P0_2_ k_ ∨ P0_5_ k_) ∨ w.heap.size ≤ k_) ∧ some k_ ≠ (.slice Ao41 l0_2.length co41 : Value).ownBlock) (.slice Ao42 l0_5.length co42) l0_5) := ⟨by exact kr_ (Kd.R_mono (Kd.R_far (p := ⟨gb146, 4, none⟩) (Kd.R_far (p := ⟨gb146, 3, none⟩) (Kd.R_types HO_147005.out BK146.out (by decide)) (fun _ hk => hk.2) (.int .i64 a1_1)) (fun _ hk => hk.2) (.int .i64 a0_4)) (fun _ hk => ⟨hk.1.1, hk.1.2⟩))⟩
   have n2_ : Aside0 (((wc.setCell ⟨gb146, 3, none⟩ (.int .i64 a1_1)).setCell ⟨gb146, 4, none⟩ (.int .i64 a0_4)).heap[gb146]? = some (.cells #[.int .i64 a0_0, .int .i64 a0_1, .slice Ao41 l0_2.length co41, .int .i64 a1_1, .int .i64 a0_4, .slice Ao42 l0_5.length co42] 24 (0, 0))) := ⟨by (with_reducible repeat (first | refine blk_drewN ?_ _ | refine blk_drew ?_ | refine blk_alloc ?_ _)); refine blk_put (cs := #[.int .i64 a0_0, .int .i64 a0_1, .slice Ao41 l0_2.length co41, .int .i64 a1_1, .int .i64 a0_4, .slice Ao42 l0_5.length co42]) ?_ 4 _ rfl; (with_reducible repeat (first | refine blk_drewN ?_ _ | refine blk_drew ?_ | refine blk_alloc ?_ _)); refine blk_put (cs := #[.int .i64 a0_0, .int .i64 a0_1, .slice Ao41 l0_2.length co41, .int .i64 a0_3, .int .i64 a0_4, .slice Ao42 l0_5.length co42]) ?_ 3 _ rfl; exact kb_ BK146.out⟩
   have n3_ : Aside0 (((wc.setCell ⟨gb146, 3, none⟩ (.int .i64 a1_1)).setCell ⟨gb146, 4, none⟩ (.int .i64 a0_4)).heap[gb147]? = some (.cells #[.int .i64 a1_0, .int .i64 a1_1, .int .i64 a1_2] 45 (0, 0))) := ⟨kz_⟩
   have n4_ : Aside0 (((wc.setCell ⟨gb146, 3, none⟩ (.int .i64 a1_1)).setCell ⟨gb146, 4, none⟩ (.int .i64 a0_4)).heap[gb148]? = some (.cells #[.int .i64 0, .int .i64 0, .slice none 0 0, .int .i64 0, .int .i64 0, .slice none 0 0] 24 (0, 0))) := ⟨kz_⟩
   have n5_ : Aside0 (Kept w ((wc.setCell ⟨gb146, 3, none⟩ (.int .i64 a1_1)).setCell ⟨gb146, 4, none⟩ (.int .i64 a0_4)) (fun k_ => P0_2_ k_ ∨ P0_5_ k_)) := ⟨by repeat (first | (with_reducible first | exact HK.out | apply Kept.alloc | apply Kept.drewN | apply Kept.drew | refine Kept.setCell ?_ (.inr GW146.out) _ | refine Kept.setCell ?_ (.inr GW147.out) _ | refine Kept.setCell ?_ (.inr GW148.out) _) | exact HK.out)⟩
   have n6_ : Aside0 (Below w0.heap.size w0 ((wc.setCell ⟨gb146, 3, none⟩ (.int .i64 a1_1)).setCell ⟨gb146, 4, none⟩ (.int .i64 a0_4))) := ⟨bl_⟩
   (try clear HO_147002)
   (try clear HO_147005)
   (try clear BK146)
   (try clear BK147)
   (try clear BK148)
   (try clear HK)
   (try clear HB)
   generalize ((wc.setCell ⟨gb146, 3, none⟩ (.int .i64 a1_1)).setCell ⟨gb146, 4, none⟩ (.int .i64 a0_4)) = w81 at n0_ n1_ n2_ n3_ n4_ n5_ n6_ ⊢
   have HO_147002 := n0_
   have HO_147005 := n1_
   have BK146 := n2_
   have BK147 := n3_
   have BK148 := n4_
   have HK := n5_
   have HB := n6_
   clear n0_ n1_ n2_ n3_ n4_ n5_ n6_
   replace HO_147002 := Aside0.mk (Kd.R_drew HO_147002.out)
   replace HO_147005 := Aside0.mk (Kd.R_drew HO_147005.out)
   replace BK146 := Aside0.mk (blk_drew BK146.out)
   replace BK147 := Aside0.mk (blk_drew BK147.out)
   replace BK148 := Aside0.mk (blk_drew BK148.out)
   replace HK := Aside0.mk (Kept.drew HK.out)
   replace HB := Aside0.mk (below_drew1 HB.out)
   refine start_ (n := 5) (S := fun w' => w'.cell? ⟨gb146, 0, none⟩ = some (.int .i64 a0_0) ∧ w'.cell? ⟨gb146, 1, none⟩ = some (.int .i64 a0_1) ∧ w'.cell? ⟨gb146, 2, none⟩ = some (.slice Ao41 l0_2.length co41) ∧ w'.cell? ⟨gb146, 3, none⟩ = some (.int .i64 a1_1) ∧ w'.cell? ⟨gb146, 4, none⟩ = some (.int .i64 a0_4) ∧ w'.cell? ⟨gb146, 5, none⟩ = some (.slice Ao42 l0_5.length co42)) (ds := []) #[false, false, false, false, false] (by kernel_rfl) rfl rfl ⟨bc_ BK146.out 0, bc_ BK146.out 1, bc_ BK146.out 2, bc_ BK146.out 3, bc_ BK146.out 4, bc_ BK146.out 5⟩ (fun hHeld => ?_)
   generalize w81.drew = w82 at HO_147002 HO_147005 BK146 BK147 BK148 HK HB hHeld ⊢
   refine tk6_ 0 (some 112) (h := ?_)
   refine tk6_ 1 (some 113) (h := ?_)
   refine on_ 2 (some 114) (h := fun K hK => ?_)
   refine goes_ Try.func18 (by kernel_rfl) rfl #[.agg #[.int .i64 a0_0, .int .i64 a0_1, .slice Ao41 l0_2.length co41, .int .i64 a1_1, .int .i64 a0_4, .slice Ao42 l0_5.length co42]] (by rfl) rfl rfl nc_ ?_
   with_reducible refine (spec_GoodLeases.calls kj39 a0_0 a0_1 _ _ l0_2 a1_1 a0_4 _ _ l0_5 t153 _ ?side1 ?side2 ?side3 ?side4 A75.out).mono ?_
   (case side1 => exact kc_ (Kd.R_reads' HO_147002.out).2.2)
   (case side2 => exact (Kd.R_reads' HO_147002.out).2.1)
   (case side3 => exact kc_ (Kd.R_reads' HO_147005.out).2.2)
   (case side4 => exact (Kd.R_reads' HO_147005.out).2.1)
   rintro e w83 ⟨rfl, hb⟩
   refine ⟨_, rfl, ?_⟩
   replace HO_147002 := rb_ HO_147002 hb
   replace HO_147005 := rb_ HO_147005 hb
   replace BK146 := bb_ BK146 hb
   replace BK147 := bb_ BK147 hb
   replace BK148 := bb_ BK148 hb
   replace HK := Aside0.mk (Kept.below (S := (fun k_ => P0_2_ k_ ∨ P0_5_ k_)) (by repeat (first | (with_reducible first | exact HK.out | apply Kept.alloc | apply Kept.drewN | apply Kept.drew | refine Kept.setCell ?_ (.inr GW146.out) _ | refine Kept.setCell ?_ (.inr GW147.out) _ | refine Kept.setCell ?_ (.inr GW148.out) _) | exact HK.out)) hb)
   replace HB := Aside0.mk (below_step bl_ hb)
   clear hb
   refine hK.out _ _ ⟨bc_ BK146.out 0, bc_ BK146.out 1, bc_ BK146.out 2, bc_ BK146.out 3, bc_ BK146.out 4, bc_ BK146.out 5⟩ (fun hHeld => ?_)
   clear hK K
   refine norm_ nn_ ?_
   refine on_ 3 none (h := fun K hK => ?_)
   have hs84 : w83.cell? ⟨gb148, 0, none⟩ = some (.int .i64 0) := bc_ BK148.out 0
   have hfs84 := blk_frozen BK148.out 0
   have hns84_0 := NB146_148.out
   have hns84_1 := NB147_148.out
   have hms84_0 := NB148_146.out
   have hms84_1 := NB148_147.out
   have hs85 : w83.cell? ⟨gb148, 1, none⟩ = some (.int .i64 0) := bc_ BK148.out 1
   have hfs85 := blk_frozen BK148.out 1
   have hns85_0 := NB146_148.out
   have hns85_1 := NB147_148.out
   have hms85_0 := NB148_146.out
   have hms85_1 := NB148_147.out
   have hs86 : w83.cell? ⟨gb148, 2, none⟩ = some (.slice none 0 0) := bc_ BK148.out 2
   have hfs86 := blk_frozen BK148.out 2
   have hns86_0 := NB146_148.out
   have hns86_1 := NB147_148.out
   have hms86_0 := NB148_146.out
   have hms86_1 := NB148_147.out
   have hs87 : w83.cell? ⟨gb148, 3, none⟩ = some (.int .i64 0) := bc_ BK148.out 3
   have hfs87 := blk_frozen BK148.out 3
   have hns87_0 := NB146_148.out
   have hns87_1 := NB147_148.out
   have hms87_0 := NB148_146.out
   have hms87_1 := NB148_147.out
   have hs88 : w83.cell? ⟨gb148, 4, none⟩ = some (.int .i64 0) := bc_ BK148.out 4
   have hfs88 := blk_frozen BK148.out 4
   have hns88_0 := NB146_148.out
   have hns88_1 := NB147_148.out
   have hms88_0 := NB148_146.out
   have hms88_1 := NB148_147.out
   have hs89 : w83.cell? ⟨gb148, 5, none⟩ = some (.slice none 0 0) := bc_ BK148.out 5
   have hfs89 := blk_frozen BK148.out 5
   have hns89_0 := NB146_148.out
   have hns89_1 := NB147_148.out
   have hms89_0 := NB148_146.out
   have hms89_1 := NB148_147.out
   refine skip_ (w1 := ?_) (by rfl) rfl ?_ ?_
   rotate_left
   ·go_simp
    rfl
   refine hK.out _ _ ⟨((cell_far (p := ⟨gb148, _, none⟩) NB146_148.out _).trans (((cell_far (p := ⟨gb148, _, none⟩) NB146_148.out _).trans (((cell_far (p := ⟨gb148, _, none⟩) NB146_148.out _).trans (((cell_far (p := ⟨gb148, _, none⟩) NB146_148.out _).trans (((cell_far (p := ⟨gb148, _, none⟩) NB146_148.out _).trans (((cell_far (p := ⟨gb148, _, none⟩) NB146_148.out _).trans (hHeld.1)))))))))))), ((cell_far (p := ⟨gb148, _, none⟩) NB146_148.out _).trans (((cell_far (p := ⟨gb148, _, none⟩) NB146_148.out _).trans (((cell_far (p := ⟨gb148, _, none⟩) NB146_148.out _).trans (((cell_far (p := ⟨gb148, _, none⟩) NB146_148.out _).trans (((cell_far (p := ⟨gb148, _, none⟩) NB146_148.out _).trans (((cell_far (p := ⟨gb148, _, none⟩) NB146_148.out _).trans (hHeld.2.1)))))))))))), ((cell_far (p := ⟨gb148, _, none⟩) NB146_148.out _).trans (((cell_far (p := ⟨gb148, _, none⟩) NB146_148.out _).trans (((cell_far (p := ⟨gb148, _, none⟩) NB146_148.out _).trans (((cell_far (p := ⟨gb148, _, none⟩) NB146_148.out _).trans (((cell_far (p := ⟨gb148, _, none⟩) NB146_148.out _).trans (((cell_far (p := ⟨gb148, _, none⟩) NB146_148.out _).trans (hHeld.2.2.1)))))))))))), ((cell_far (p := ⟨gb148, _, none⟩) NB146_148.out _).trans (((cell_far (p := ⟨gb148, _, none⟩) NB146_148.out _).trans (((cell_far (p := ⟨gb148, _, none⟩) NB146_148.out _).trans (((cell_far (p := ⟨gb148, _, none⟩) NB146_148.out _).trans (((cell_far (p := ⟨gb148, _, none⟩) NB146_148.out _).trans (((cell_far (p := ⟨gb148, _, none⟩) NB146_148.out _).trans (hHeld.2.2.2.1)))))))))))), ((cell_far (p := ⟨gb148, _, none⟩) NB146_148.out _).trans (((cell_far (p := ⟨gb148, _, none⟩) NB146_148.out _).trans (((cell_far (p := ⟨gb148, _, none⟩) NB146_148.out _).trans (((cell_far (p := ⟨gb148, _, none⟩) NB146_148.out _).trans (((cell_far (p := ⟨gb148, _, none⟩) NB146_148.out _).trans (((cell_far (p := ⟨gb148, _, none⟩) NB146_148.out _).trans (hHeld.2.2.2.2.1)))))))))))), ((cell_far (p := ⟨gb148, _, none⟩) NB146_148.out _).trans (((cell_far (p := ⟨gb148, _, none⟩) NB146_148.out _).trans (((cell_far (p := ⟨gb148, _, none⟩) NB146_148.out _).trans (((cell_far (p := ⟨gb148, _, none⟩) NB146_148.out _).trans (((cell_far (p := ⟨gb148, _, none⟩) NB146_148.out _).trans (((cell_far (p := ⟨gb148, _, none⟩) NB146_148.out _).trans (hHeld.2.2.2.2.2))))))))))))⟩ (fun hHeld => ?_)
   clear hK K
   refine pu_ 4 (some 5) (h := ?_)
   refine done_ (by kernel_rfl) ?_
   try go_wp2
   refine bodyPost_ret (results_ct rfl _ _ gb148 24 #[.int .i64 a0_0, .int .i64 a0_1, .slice Ao41 l0_2.length co41, .int .i64 a1_1, .int .i64 a0_4, .slice Ao42 l0_5.length co42] (0, 0) _ rfl (by (with_reducible repeat (first | refine blk_drewN ?_ _ | refine blk_drew ?_ | refine blk_alloc ?_ _)); refine blk_put (cs := #[.int .i64 a0_0, .int .i64 a0_1, .slice Ao41 l0_2.length co41, .int .i64 a1_1, .int .i64 a0_4, .slice none 0 0]) ?_ 5 _ rfl; (with_reducible repeat (first | refine blk_drewN ?_ _ | refine blk_drew ?_ | refine blk_alloc ?_ _)); refine blk_put (cs := #[.int .i64 a0_0, .int .i64 a0_1, .slice Ao41 l0_2.length co41, .int .i64 a1_1, .int .i64 0, .slice none 0 0]) ?_ 4 _ rfl; (with_reducible repeat (first | refine blk_drewN ?_ _ | refine blk_drew ?_ | refine blk_alloc ?_ _)); refine blk_put (cs := #[.int .i64 a0_0, .int .i64 a0_1, .slice Ao41 l0_2.length co41, .int .i64 0, .int .i64 0, .slice none 0 0]) ?_ 3 _ rfl; (with_reducible repeat (first | refine blk_drewN ?_ _ | refine blk_drew ?_ | refine blk_alloc ?_ _)); refine blk_put (cs := #[.int .i64 a0_0, .int .i64 a0_1, .slice none 0 0, .int .i64 0, .int .i64 0, .slice none 0 0]) ?_ 2 _ rfl; (with_reducible repeat (first | refine blk_drewN ?_ _ | refine blk_drew ?_ | refine blk_alloc ?_ _)); refine blk_put (cs := #[.int .i64 a0_0, .int .i64 0, .slice none 0 0, .int .i64 0, .int .i64 0, .slice none 0 0]) ?_ 1 _ rfl; (with_reducible repeat (first | refine blk_drewN ?_ _ | refine blk_drew ?_ | refine blk_alloc ?_ _)); refine blk_put (cs := #[.int .i64 0, .int .i64 0, .slice none 0 0, .int .i64 0, .int .i64 0, .slice none 0 0]) ?_ 0 _ rfl; exact kb_ BK148.out) Try.underlying24 rfl (by kernel_rfl)) rfl ?_
   exact ⟨_, _, ng_, by exact kr_ (Kd.R_mono (Kd.R_far (p := ⟨gb148, 5, none⟩) (Kd.R_far (p := ⟨gb148, 4, none⟩) (Kd.R_far (p := ⟨gb148, 3, none⟩) (Kd.R_far (p := ⟨gb148, 2, none⟩) (Kd.R_far (p := ⟨gb148, 1, none⟩) (Kd.R_far (p := ⟨gb148, 0, none⟩) (Kd.R_types HO_147002.out BK148.out (by decide)) (fun _ hk => hk.2) (.int .i64 a0_0)) (fun _ hk => hk.2) (.int .i64 a0_1)) (fun _ hk => hk.2) (.slice Ao41 l0_2.length co41)) (fun _ hk => hk.2) (.int .i64 a1_1)) (fun _ hk => hk.2) (.int .i64 a0_4)) (fun _ hk => hk.2) (.slice Ao42 l0_5.length co42)) (fun _ hk => ⟨hk.1.1, hk.1.2⟩)), by exact kr_ (Kd.R_mono (Kd.R_far (p := ⟨gb148, 5, none⟩) (Kd.R_far (p := ⟨gb148, 4, none⟩) (Kd.R_far (p := ⟨gb148, 3, none⟩) (Kd.R_far (p := ⟨gb148, 2, none⟩) (Kd.R_far (p := ⟨gb148, 1, none⟩) (Kd.R_far (p := ⟨gb148, 0, none⟩) (Kd.R_types HO_147005.out BK148.out (by decide)) (fun _ hk => hk.2) (.int .i64 a0_0)) (fun _ hk => hk.2) (.int .i64 a0_1)) (fun _ hk => hk.2) (.slice Ao41 l0_2.length co41)) (fun _ hk => hk.2) (.int .i64 a1_1)) (fun _ hk => hk.2) (.int .i64 a0_4)) (fun _ hk => hk.2) (.slice Ao42 l0_5.length co42)) (fun _ hk => ⟨hk.1.1, hk.1.2⟩)), bl_, by repeat (first | (with_reducible first | exact HK.out | apply Kept.alloc | apply Kept.drewN | apply Kept.drew | refine Kept.setCell ?_ (.inr GW146.out) _ | refine Kept.setCell ?_ (.inr GW147.out) _ | refine Kept.setCell ?_ (.inr GW148.out) _) | exact HK.out)⟩
  rw [if_neg c74] at H
  have c74b0 : decide ((wrap64 (a0_1 + a1_2)) < a0_4) = false := decide_eq_false c74
  clear c74
  replace H := Option.bind_eq_some_iff.mp H
  obtain ⟨t154, A900, H⟩ := H
  replace H : (some (a0_0, a0_1, l0_2, a1_1, wrap64 (a0_1 + a1_2), l0_5, t154)) = some (r1, r2, r3, r4, r5, r6, r7) := H
  have A90 := Aside0.mk A900
  clear A900
  simp only [Option.some.injEq, Prod.mk.injEq] at H
  obtain ⟨rfl, rfl, rfl, rfl, rfl, rfl, rfl⟩ := H
  have hnb91 := NB146_147.out
  have hnc91 := NB147_146.out
  have hnb92 := NB146_148.out
  have hnc92 := NB148_146.out
  have hcz93_0 : wc.cell? ⟨gb146, 0, none⟩ = some (.int .i64 a0_0) := bc_ BK146.out 0
  have hcz93_1 : wc.cell? ⟨gb146, 1, none⟩ = some (.int .i64 a0_1) := bc_ BK146.out 1
  have hcz93_2 : wc.cell? ⟨gb146, 2, none⟩ = some (.slice Ao41 l0_2.length co41) := bc_ BK146.out 2
  have hcz93_3 : wc.cell? ⟨gb146, 3, none⟩ = some (.int .i64 a0_3) := bc_ BK146.out 3
  have hcz93_4 : wc.cell? ⟨gb146, 4, none⟩ = some (.int .i64 a0_4) := bc_ BK146.out 4
  have hcz93_5 : wc.cell? ⟨gb146, 5, none⟩ = some (.slice Ao42 l0_5.length co42) := bc_ BK146.out 5
  have hfz93_0 := blk_frozen BK146.out 0
  have hfz93_1 := blk_frozen BK146.out 1
  have hfz93_2 := blk_frozen BK146.out 2
  have hfz93_3 := blk_frozen BK146.out 3
  have hfz93_4 := blk_frozen BK146.out 4
  have hfz93_5 := blk_frozen BK146.out 5
  have hnb94 := NB147_148.out
  have hnc94 := NB148_147.out
  have hcz95_0 : wc.cell? ⟨gb147, 0, none⟩ = some (.int .i64 a1_0) := bc_ BK147.out 0
  have hcz95_1 : wc.cell? ⟨gb147, 1, none⟩ = some (.int .i64 a1_1) := bc_ BK147.out 1
  have hcz95_2 : wc.cell? ⟨gb147, 2, none⟩ = some (.int .i64 a1_2) := bc_ BK147.out 2
  have hfz95_0 := blk_frozen BK147.out 0
  have hfz95_1 := blk_frozen BK147.out 1
  have hfz95_2 := blk_frozen BK147.out 2
  try go_wp2
  have n0_ : Aside0 (Kd.R (Kd.int .i64) 3 ((wc.setCell ⟨gb146, 3, none⟩ (.int .i64 a1_1)).setCell ⟨gb146, 4, none⟩ (.int .i64 (wrap64 (a0_1 + a1_2)))) w0.heap.size (fun k_ => ((P0_2_ k_ ∨ P0_5_ k_) ∨ w.heap.size ≤ k_) ∧ some k_ ≠ (.slice Ao42 l0_5.length co42 : Value).ownBlock) (.slice Ao41 l0_2.length co41) l0_2) := ⟨by exact kr_ (Kd.R_mono (Kd.R_far (p := ⟨gb146, 4, none⟩) (Kd.R_far (p := ⟨gb146, 3, none⟩) (Kd.R_types HO_147002.out BK146.out (by decide)) (fun _ hk => hk.2) (.int .i64 a1_1)) (fun _ hk => hk.2) (.int .i64 (wrap64 (a0_1 + a1_2)))) (fun _ hk => ⟨hk.1.1, hk.1.2⟩))⟩
  have n1_ : Aside0 (Kd.R (Kd.int .i64) 3 ((wc.setCell ⟨gb146, 3, none⟩ (.int .i64 a1_1)).setCell ⟨gb146, 4, none⟩ (.int .i64 (wrap64 (a0_1 + a1_2)))) w0.heap.size (fun k_ => ((P0_2_ k_ ∨ P0_5_ k_) ∨ w.heap.size ≤ k_) ∧ some k_ ≠ (.slice Ao41 l0_2.length co41 : Value).ownBlock) (.slice Ao42 l0_5.length co42) l0_5) := ⟨by exact kr_ (Kd.R_mono (Kd.R_far (p := ⟨gb146, 4, none⟩) (Kd.R_far (p := ⟨gb146, 3, none⟩) (Kd.R_types HO_147005.out BK146.out (by decide)) (fun _ hk => hk.2) (.int .i64 a1_1)) (fun _ hk => hk.2) (.int .i64 (wrap64 (a0_1 + a1_2)))) (fun _ hk => ⟨hk.1.1, hk.1.2⟩))⟩
  have n2_ : Aside0 (((wc.setCell ⟨gb146, 3, none⟩ (.int .i64 a1_1)).setCell ⟨gb146, 4, none⟩ (.int .i64 (wrap64 (a0_1 + a1_2)))).heap[gb146]? = some (.cells #[.int .i64 a0_0, .int .i64 a0_1, .slice Ao41 l0_2.length co41, .int .i64 a1_1, .int .i64 (wrap64 (a0_1 + a1_2)), .slice Ao42 l0_5.length co42] 24 (0, 0))) := ⟨by (with_reducible repeat (first | refine blk_drewN ?_ _ | refine blk_drew ?_ | refine blk_alloc ?_ _)); refine blk_put (cs := #[.int .i64 a0_0, .int .i64 a0_1, .slice Ao41 l0_2.length co41, .int .i64 a1_1, .int .i64 a0_4, .slice Ao42 l0_5.length co42]) ?_ 4 _ rfl; (with_reducible repeat (first | refine blk_drewN ?_ _ | refine blk_drew ?_ | refine blk_alloc ?_ _)); refine blk_put (cs := #[.int .i64 a0_0, .int .i64 a0_1, .slice Ao41 l0_2.length co41, .int .i64 a0_3, .int .i64 a0_4, .slice Ao42 l0_5.length co42]) ?_ 3 _ rfl; exact kb_ BK146.out⟩
  have n3_ : Aside0 (((wc.setCell ⟨gb146, 3, none⟩ (.int .i64 a1_1)).setCell ⟨gb146, 4, none⟩ (.int .i64 (wrap64 (a0_1 + a1_2)))).heap[gb147]? = some (.cells #[.int .i64 a1_0, .int .i64 a1_1, .int .i64 a1_2] 45 (0, 0))) := ⟨kz_⟩
  have n4_ : Aside0 (((wc.setCell ⟨gb146, 3, none⟩ (.int .i64 a1_1)).setCell ⟨gb146, 4, none⟩ (.int .i64 (wrap64 (a0_1 + a1_2)))).heap[gb148]? = some (.cells #[.int .i64 0, .int .i64 0, .slice none 0 0, .int .i64 0, .int .i64 0, .slice none 0 0] 24 (0, 0))) := ⟨kz_⟩
  have n5_ : Aside0 (Kept w ((wc.setCell ⟨gb146, 3, none⟩ (.int .i64 a1_1)).setCell ⟨gb146, 4, none⟩ (.int .i64 (wrap64 (a0_1 + a1_2)))) (fun k_ => P0_2_ k_ ∨ P0_5_ k_)) := ⟨by repeat (first | (with_reducible first | exact HK.out | apply Kept.alloc | apply Kept.drewN | apply Kept.drew | refine Kept.setCell ?_ (.inr GW146.out) _ | refine Kept.setCell ?_ (.inr GW147.out) _ | refine Kept.setCell ?_ (.inr GW148.out) _) | exact HK.out)⟩
  have n6_ : Aside0 (Below w0.heap.size w0 ((wc.setCell ⟨gb146, 3, none⟩ (.int .i64 a1_1)).setCell ⟨gb146, 4, none⟩ (.int .i64 (wrap64 (a0_1 + a1_2))))) := ⟨bl_⟩
  (try clear HO_147002)
  (try clear HO_147005)
  (try clear BK146)
  (try clear BK147)
  (try clear BK148)
  (try clear HK)
  (try clear HB)
  generalize ((wc.setCell ⟨gb146, 3, none⟩ (.int .i64 a1_1)).setCell ⟨gb146, 4, none⟩ (.int .i64 (wrap64 (a0_1 + a1_2)))) = w96 at n0_ n1_ n2_ n3_ n4_ n5_ n6_ ⊢
  have HO_147002 := n0_
  have HO_147005 := n1_
  have BK146 := n2_
  have BK147 := n3_
  have BK148 := n4_
  have HK := n5_
  have HB := n6_
  clear n0_ n1_ n2_ n3_ n4_ n5_ n6_
  replace HO_147002 := Aside0.mk (Kd.R_drew HO_147002.out)
  replace HO_147005 := Aside0.mk (Kd.R_drew HO_147005.out)
  replace BK146 := Aside0.mk (blk_drew BK146.out)
  replace BK147 := Aside0.mk (blk_drew BK147.out)
  replace BK148 := Aside0.mk (blk_drew BK148.out)
  replace HK := Aside0.mk (Kept.drew HK.out)
  replace HB := Aside0.mk (below_drew1 HB.out)
  refine start_ (n := 5) (S := fun w' => w'.cell? ⟨gb146, 0, none⟩ = some (.int .i64 a0_0) ∧ w'.cell? ⟨gb146, 1, none⟩ = some (.int .i64 a0_1) ∧ w'.cell? ⟨gb146, 2, none⟩ = some (.slice Ao41 l0_2.length co41) ∧ w'.cell? ⟨gb146, 3, none⟩ = some (.int .i64 a1_1) ∧ w'.cell? ⟨gb146, 4, none⟩ = some (.int .i64 (wrap64 (a0_1 + a1_2))) ∧ w'.cell? ⟨gb146, 5, none⟩ = some (.slice Ao42 l0_5.length co42)) (ds := []) #[false, false, false, false, false] (by kernel_rfl) rfl rfl ⟨bc_ BK146.out 0, bc_ BK146.out 1, bc_ BK146.out 2, bc_ BK146.out 3, bc_ BK146.out 4, bc_ BK146.out 5⟩ (fun hHeld => ?_)
  generalize w96.drew = w97 at HO_147002 HO_147005 BK146 BK147 BK148 HK HB hHeld ⊢
  refine tk6_ 0 (some 112) (h := ?_)
  refine tk6_ 1 (some 113) (h := ?_)
  refine on_ 2 (some 114) (h := fun K hK => ?_)
  refine goes_ Try.func18 (by kernel_rfl) rfl #[.agg #[.int .i64 a0_0, .int .i64 a0_1, .slice Ao41 l0_2.length co41, .int .i64 a1_1, .int .i64 (wrap64 (a0_1 + a1_2)), .slice Ao42 l0_5.length co42]] (by rfl) rfl rfl nc_ ?_
  with_reducible refine (spec_GoodLeases.calls kj39 a0_0 a0_1 _ _ l0_2 a1_1 (wrap64 (a0_1 + a1_2)) _ _ l0_5 t154 _ ?side1 ?side2 ?side3 ?side4 A90.out).mono ?_
  (case side1 => exact kc_ (Kd.R_reads' HO_147002.out).2.2)
  (case side2 => exact (Kd.R_reads' HO_147002.out).2.1)
  (case side3 => exact kc_ (Kd.R_reads' HO_147005.out).2.2)
  (case side4 => exact (Kd.R_reads' HO_147005.out).2.1)
  rintro e w98 ⟨rfl, hb⟩
  refine ⟨_, rfl, ?_⟩
  replace HO_147002 := rb_ HO_147002 hb
  replace HO_147005 := rb_ HO_147005 hb
  replace BK146 := bb_ BK146 hb
  replace BK147 := bb_ BK147 hb
  replace BK148 := bb_ BK148 hb
  replace HK := Aside0.mk (Kept.below (S := (fun k_ => P0_2_ k_ ∨ P0_5_ k_)) (by repeat (first | (with_reducible first | exact HK.out | apply Kept.alloc | apply Kept.drewN | apply Kept.drew | refine Kept.setCell ?_ (.inr GW146.out) _ | refine Kept.setCell ?_ (.inr GW147.out) _ | refine Kept.setCell ?_ (.inr GW148.out) _) | exact HK.out)) hb)
  replace HB := Aside0.mk (below_step bl_ hb)
  clear hb
  refine hK.out _ _ ⟨bc_ BK146.out 0, bc_ BK146.out 1, bc_ BK146.out 2, bc_ BK146.out 3, bc_ BK146.out 4, bc_ BK146.out 5⟩ (fun hHeld => ?_)
  clear hK K
  refine norm_ nn_ ?_
  refine on_ 3 none (h := fun K hK => ?_)
  have hs99 : w98.cell? ⟨gb148, 0, none⟩ = some (.int .i64 0) := bc_ BK148.out 0
  have hfs99 := blk_frozen BK148.out 0
  have hns99_0 := NB146_148.out
  have hns99_1 := NB147_148.out
  have hms99_0 := NB148_146.out
  have hms99_1 := NB148_147.out
  have hs100 : w98.cell? ⟨gb148, 1, none⟩ = some (.int .i64 0) := bc_ BK148.out 1
  have hfs100 := blk_frozen BK148.out 1
  have hns100_0 := NB146_148.out
  have hns100_1 := NB147_148.out
  have hms100_0 := NB148_146.out
  have hms100_1 := NB148_147.out
  have hs101 : w98.cell? ⟨gb148, 2, none⟩ = some (.slice none 0 0) := bc_ BK148.out 2
  have hfs101 := blk_frozen BK148.out 2
  have hns101_0 := NB146_148.out
  have hns101_1 := NB147_148.out
  have hms101_0 := NB148_146.out
  have hms101_1 := NB148_147.out
  have hs102 : w98.cell? ⟨gb148, 3, none⟩ = some (.int .i64 0) := bc_ BK148.out 3
  have hfs102 := blk_frozen BK148.out 3
  have hns102_0 := NB146_148.out
  have hns102_1 := NB147_148.out
  have hms102_0 := NB148_146.out
  have hms102_1 := NB148_147.out
  have hs103 : w98.cell? ⟨gb148, 4, none⟩ = some (.int .i64 0) := bc_ BK148.out 4
  have hfs103 := blk_frozen BK148.out 4
  have hns103_0 := NB146_148.out
  have hns103_1 := NB147_148.out
  have hms103_0 := NB148_146.out
  have hms103_1 := NB148_147.out
  have hs104 : w98.cell? ⟨gb148, 5, none⟩ = some (.slice none 0 0) := bc_ BK148.out 5
  have hfs104 := blk_frozen BK148.out 5
  have hns104_0 := NB146_148.out
  have hns104_1 := NB147_148.out
  have hms104_0 := NB148_146.out
  have hms104_1 := NB148_147.out
  refine skip_ (w1 := ?_) (by rfl) rfl ?_ ?_
  rotate_left
  ·go_simp
   rfl
  refine hK.out _ _ ⟨((cell_far (p := ⟨gb148, _, none⟩) NB146_148.out _).trans (((cell_far (p := ⟨gb148, _, none⟩) NB146_148.out _).trans (((cell_far (p := ⟨gb148, _, none⟩) NB146_148.out _).trans (((cell_far (p := ⟨gb148, _, none⟩) NB146_148.out _).trans (((cell_far (p := ⟨gb148, _, none⟩) NB146_148.out _).trans (((cell_far (p := ⟨gb148, _, none⟩) NB146_148.out _).trans (hHeld.1)))))))))))), ((cell_far (p := ⟨gb148, _, none⟩) NB146_148.out _).trans (((cell_far (p := ⟨gb148, _, none⟩) NB146_148.out _).trans (((cell_far (p := ⟨gb148, _, none⟩) NB146_148.out _).trans (((cell_far (p := ⟨gb148, _, none⟩) NB146_148.out _).trans (((cell_far (p := ⟨gb148, _, none⟩) NB146_148.out _).trans (((cell_far (p := ⟨gb148, _, none⟩) NB146_148.out _).trans (hHeld.2.1)))))))))))), ((cell_far (p := ⟨gb148, _, none⟩) NB146_148.out _).trans (((cell_far (p := ⟨gb148, _, none⟩) NB146_148.out _).trans (((cell_far (p := ⟨gb148, _, none⟩) NB146_148.out _).trans (((cell_far (p := ⟨gb148, _, none⟩) NB146_148.out _).trans (((cell_far (p := ⟨gb148, _, none⟩) NB146_148.out _).trans (((cell_far (p := ⟨gb148, _, none⟩) NB146_148.out _).trans (hHeld.2.2.1)))))))))))), ((cell_far (p := ⟨gb148, _, none⟩) NB146_148.out _).trans (((cell_far (p := ⟨gb148, _, none⟩) NB146_148.out _).trans (((cell_far (p := ⟨gb148, _, none⟩) NB146_148.out _).trans (((cell_far (p := ⟨gb148, _, none⟩) NB146_148.out _).trans (((cell_far (p := ⟨gb148, _, none⟩) NB146_148.out _).trans (((cell_far (p := ⟨gb148, _, none⟩) NB146_148.out _).trans (hHeld.2.2.2.1)))))))))))), ((cell_far (p := ⟨gb148, _, none⟩) NB146_148.out _).trans (((cell_far (p := ⟨gb148, _, none⟩) NB146_148.out _).trans (((cell_far (p := ⟨gb148, _, none⟩) NB146_148.out _).trans (((cell_far (p := ⟨gb148, _, none⟩) NB146_148.out _).trans (((cell_far (p := ⟨gb148, _, none⟩) NB146_148.out _).trans (((cell_far (p := ⟨gb148, _, none⟩) NB146_148.out _).trans (hHeld.2.2.2.2.1)))))))))))), ((cell_far (p := ⟨gb148, _, none⟩) NB146_148.out _).trans (((cell_far (p := ⟨gb148, _, none⟩) NB146_148.out _).trans (((cell_far (p := ⟨gb148, _, none⟩) NB146_148.out _).trans (((cell_far (p := ⟨gb148, _, none⟩) NB146_148.out _).trans (((cell_far (p := ⟨gb148, _, none⟩) NB146_148.out _).trans (((cell_far (p := ⟨gb148, _, none⟩) NB146_148.out _).trans (hHeld.2.2.2.2.2))))))))))))⟩ (fun hHeld => ?_)
  clear hK K
  refine pu_ 4 (some 5) (h := ?_)
  refine done_ (by kernel_rfl) ?_
  try go_wp2
  refine bodyPost_ret (results_ct rfl _ _ gb148 24 #[.int .i64 a0_0, .int .i64 a0_1, .slice Ao41 l0_2.length co41, .int .i64 a1_1, .int .i64 (wrap64 (a0_1 + a1_2)), .slice Ao42 l0_5.length co42] (0, 0) _ rfl (by (with_reducible repeat (first | refine blk_drewN ?_ _ | refine blk_drew ?_ | refine blk_alloc ?_ _)); refine blk_put (cs := #[.int .i64 a0_0, .int .i64 a0_1, .slice Ao41 l0_2.length co41, .int .i64 a1_1, .int .i64 (wrap64 (a0_1 + a1_2)), .slice none 0 0]) ?_ 5 _ rfl; (with_reducible repeat (first | refine blk_drewN ?_ _ | refine blk_drew ?_ | refine blk_alloc ?_ _)); refine blk_put (cs := #[.int .i64 a0_0, .int .i64 a0_1, .slice Ao41 l0_2.length co41, .int .i64 a1_1, .int .i64 0, .slice none 0 0]) ?_ 4 _ rfl; (with_reducible repeat (first | refine blk_drewN ?_ _ | refine blk_drew ?_ | refine blk_alloc ?_ _)); refine blk_put (cs := #[.int .i64 a0_0, .int .i64 a0_1, .slice Ao41 l0_2.length co41, .int .i64 0, .int .i64 0, .slice none 0 0]) ?_ 3 _ rfl; (with_reducible repeat (first | refine blk_drewN ?_ _ | refine blk_drew ?_ | refine blk_alloc ?_ _)); refine blk_put (cs := #[.int .i64 a0_0, .int .i64 a0_1, .slice none 0 0, .int .i64 0, .int .i64 0, .slice none 0 0]) ?_ 2 _ rfl; (with_reducible repeat (first | refine blk_drewN ?_ _ | refine blk_drew ?_ | refine blk_alloc ?_ _)); refine blk_put (cs := #[.int .i64 a0_0, .int .i64 0, .slice none 0 0, .int .i64 0, .int .i64 0, .slice none 0 0]) ?_ 1 _ rfl; (with_reducible repeat (first | refine blk_drewN ?_ _ | refine blk_drew ?_ | refine blk_alloc ?_ _)); refine blk_put (cs := #[.int .i64 0, .int .i64 0, .slice none 0 0, .int .i64 0, .int .i64 0, .slice none 0 0]) ?_ 0 _ rfl; exact kb_ BK148.out) Try.underlying24 rfl (by kernel_rfl)) rfl ?_
  exact ⟨_, _, ng_, by exact kr_ (Kd.R_mono (Kd.R_far (p := ⟨gb148, 5, none⟩) (Kd.R_far (p := ⟨gb148, 4, none⟩) (Kd.R_far (p := ⟨gb148, 3, none⟩) (Kd.R_far (p := ⟨gb148, 2, none⟩) (Kd.R_far (p := ⟨gb148, 1, none⟩) (Kd.R_far (p := ⟨gb148, 0, none⟩) (Kd.R_types HO_147002.out BK148.out (by decide)) (fun _ hk => hk.2) (.int .i64 a0_0)) (fun _ hk => hk.2) (.int .i64 a0_1)) (fun _ hk => hk.2) (.slice Ao41 l0_2.length co41)) (fun _ hk => hk.2) (.int .i64 a1_1)) (fun _ hk => hk.2) (.int .i64 (wrap64 (a0_1 + a1_2)))) (fun _ hk => hk.2) (.slice Ao42 l0_5.length co42)) (fun _ hk => ⟨hk.1.1, hk.1.2⟩)), by exact kr_ (Kd.R_mono (Kd.R_far (p := ⟨gb148, 5, none⟩) (Kd.R_far (p := ⟨gb148, 4, none⟩) (Kd.R_far (p := ⟨gb148, 3, none⟩) (Kd.R_far (p := ⟨gb148, 2, none⟩) (Kd.R_far (p := ⟨gb148, 1, none⟩) (Kd.R_far (p := ⟨gb148, 0, none⟩) (Kd.R_types HO_147005.out BK148.out (by decide)) (fun _ hk => hk.2) (.int .i64 a0_0)) (fun _ hk => hk.2) (.int .i64 a0_1)) (fun _ hk => hk.2) (.slice Ao41 l0_2.length co41)) (fun _ hk => hk.2) (.int .i64 a1_1)) (fun _ hk => hk.2) (.int .i64 (wrap64 (a0_1 + a1_2)))) (fun _ hk => hk.2) (.slice Ao42 l0_5.length co42)) (fun _ hk => ⟨hk.1.1, hk.1.2⟩)), bl_, by repeat (first | (with_reducible first | exact HK.out | apply Kept.alloc | apply Kept.drewN | apply Kept.drew | refine Kept.setCell ?_ (.inr GW146.out) _ | refine Kept.setCell ?_ (.inr GW147.out) _ | refine Kept.setCell ?_ (.inr GW148.out) _) | exact HK.out)⟩
 rw [if_neg c39] at H
 have c39b0 : (a1_0 == 1) = false := beq_eq_false_iff_ne.mpr c39
 have c39b1 : (a1_0 != 1) = true := bne_iff_ne.mpr c39
 by_cases c120 : a1_0 = 2
 ·rw [if_pos c120] at H
  have c120b0 : (a1_0 == 2) = true := beq_iff_eq.mpr c120
  have c120b1 : (a1_0 != 2) = false := bne_eq_false_iff_eq.mpr c120
  clear c120
  by_cases c121 : a0_3 = a1_1
  rotate_left
  ·rw [if_neg c121] at H
   have c121b0 : (a0_3 == a1_1) = false := beq_eq_false_iff_ne.mpr c121
   have c121b1 : (a0_3 != a1_1) = true := bne_iff_ne.mpr c121
   simp only [Option.some.injEq, Prod.mk.injEq] at H
   obtain ⟨rfl, rfl, rfl, rfl, rfl, rfl, rfl⟩ := H
   obtain ⟨Ao146, co146, eo146⟩ := Kd.R_slice HO0_2.out
   subst eo146
   obtain ⟨Ao147, co147, eo147⟩ := Kd.R_slice HO0_5.out
   subst eo147
   go_enter Try.func53, Try.ntmps53
   go_wp2_with (first | ((with_reducible refine gate_dst (N := 2) rfl ?_); refine box_event rfl (N := 2) rfl (cs := #[.int .i64 a0_0, .int .i64 a0_1, .slice Ao146 l0_2.length co146, .int .i64 a0_3, .int .i64 a0_4, .slice Ao147 l0_5.length co147]) (t := 24) gs_ ?_; intro gb146 hg w148 hbox hb; replace HO0_2 := rb_ HO0_2 hb; replace HO0_5 := rb_ HO0_5 hb; have BK146 := Aside0.mk (hbox); have GW146 := Aside0.mk ((by rw [hg]; exact (by first | exact HK.out.1 | exact (show Kept w _ (fun k_ => P0_2_ k_ ∨ P0_5_ k_) from by repeat (first | (with_reducible first | exact HK.out | apply Kept.alloc | apply Kept.drewN | apply Kept.drew) | exact HK.out)).1) : w.heap.size ≤ gb146)); replace HK := Aside0.mk (Kept.below (S := (fun k_ => P0_2_ k_ ∨ P0_5_ k_)) (by repeat (first | (with_reducible first | exact HK.out | apply Kept.alloc | apply Kept.drewN | apply Kept.drew) | exact HK.out)) hb); have GE146 := Aside0.mk ((by rw [hg]; exact bz_ : w0.heap.size ≤ gb146)); replace HB := Aside0.mk (below_step bl_ hb); clear hb hbox hg) | ((with_reducible refine gate_dst (N := 3) rfl ?_); refine box_event rfl (N := 3) rfl (cs := #[.int .i64 a1_0, .int .i64 a1_1, .int .i64 a1_2]) (t := 45) gs_ ?_; intro gb147 hg w149 hbox hb; replace HO0_2 := rb_ HO0_2 hb; replace HO0_5 := rb_ HO0_5 hb; have BK147 := Aside0.mk (hbox); have GW147 := Aside0.mk ((by rw [hg]; exact (by first | exact HK.out.1 | exact (show Kept w _ (fun k_ => P0_2_ k_ ∨ P0_5_ k_) from by repeat (first | (with_reducible first | exact HK.out | apply Kept.alloc | apply Kept.drewN | apply Kept.drew | refine Kept.setCell ?_ (.inr GW146.out) _) | exact HK.out)).1) : w.heap.size ≤ gb147)); replace HK := Aside0.mk (Kept.below (S := (fun k_ => P0_2_ k_ ∨ P0_5_ k_)) (by repeat (first | (with_reducible first | exact HK.out | apply Kept.alloc | apply Kept.drewN | apply Kept.drew | refine Kept.setCell ?_ (.inr GW146.out) _) | exact HK.out)) hb); have GE147 := Aside0.mk ((by rw [hg]; exact bz_ : w0.heap.size ≤ gb147)); replace HB := Aside0.mk (below_step bl_ hb); have NB146_147 := nl_ hg BK146; have NB147_146 := nm_ hg BK146; replace BK146 := bb_ BK146 hb; clear hb hbox hg) | ((with_reducible refine gate_dst (N := 4) rfl ?_); refine box_event rfl (N := 4) rfl (cs := #[.int .i64 0, .int .i64 0, .slice none 0 0, .int .i64 0, .int .i64 0, .slice none 0 0]) (t := 24) gs_ ?_; intro gb148 hg w150 hbox hb; replace HO0_2 := rb_ HO0_2 hb; replace HO0_5 := rb_ HO0_5 hb; have BK148 := Aside0.mk (hbox); have GW148 := Aside0.mk ((by rw [hg]; exact (by first | exact HK.out.1 | exact (show Kept w _ (fun k_ => P0_2_ k_ ∨ P0_5_ k_) from by repeat (first | (with_reducible first | exact HK.out | apply Kept.alloc | apply Kept.drewN | apply Kept.drew | refine Kept.setCell ?_ (.inr GW146.out) _ | refine Kept.setCell ?_ (.inr GW147.out) _) | exact HK.out)).1) : w.heap.size ≤ gb148)); replace HK := Aside0.mk (Kept.below (S := (fun k_ => P0_2_ k_ ∨ P0_5_ k_)) (by repeat (first | (with_reducible first | exact HK.out | apply Kept.alloc | apply Kept.drewN | apply Kept.drew | refine Kept.setCell ?_ (.inr GW146.out) _ | refine Kept.setCell ?_ (.inr GW147.out) _) | exact HK.out)) hb); have GE148 := Aside0.mk ((by rw [hg]; exact bz_ : w0.heap.size ≤ gb148)); replace HB := Aside0.mk (below_step bl_ hb); have NB146_148 := nl_ hg BK146; have NB148_146 := nm_ hg BK146; replace BK146 := bb_ BK146 hb; have NB147_148 := nl_ hg BK147; have NB148_147 := nm_ hg BK147; replace BK147 := bb_ BK147 hb; clear hb hbox hg; have hnb151 := NB147_146.out; have hnc151 := NB146_147.out; have hnb152 := NB147_148.out; have hnc152 := NB148_147.out; have hcz153_0 : w150.cell? ⟨gb147, 0, none⟩ = some (.int .i64 a1_0) := bc_ BK147.out 0; have hcz153_1 : w150.cell? ⟨gb147, 1, none⟩ = some (.int .i64 a1_1) := bc_ BK147.out 1; have hcz153_2 : w150.cell? ⟨gb147, 2, none⟩ = some (.int .i64 a1_2) := bc_ BK147.out 2; have hfz153_0 := blk_frozen BK147.out 0; have hfz153_1 := blk_frozen BK147.out 1; have hfz153_2 := blk_frozen BK147.out 2; have hnb154 := NB146_148.out; have hnc154 := NB148_146.out; have hcz155_0 : w150.cell? ⟨gb146, 0, none⟩ = some (.int .i64 a0_0) := bc_ BK146.out 0; have hcz155_1 : w150.cell? ⟨gb146, 1, none⟩ = some (.int .i64 a0_1) := bc_ BK146.out 1; have hcz155_2 : w150.cell? ⟨gb146, 2, none⟩ = some (.slice Ao146 l0_2.length co146) := bc_ BK146.out 2; have hcz155_3 : w150.cell? ⟨gb146, 3, none⟩ = some (.int .i64 a0_3) := bc_ BK146.out 3; have hcz155_4 : w150.cell? ⟨gb146, 4, none⟩ = some (.int .i64 a0_4) := bc_ BK146.out 4; have hcz155_5 : w150.cell? ⟨gb146, 5, none⟩ = some (.slice Ao147 l0_5.length co147) := bc_ BK146.out 5; have hfz155_0 := blk_frozen BK146.out 0; have hfz155_1 := blk_frozen BK146.out 1; have hfz155_2 := blk_frozen BK146.out 2; have hfz155_3 := blk_frozen BK146.out 3; have hfz155_4 := blk_frozen BK146.out 4; have hfz155_5 := blk_frozen BK146.out 5) | ((with_reducible refine gate_callee (f := 45) rfl ?_); refine goesL_ (some 30) rfl rfl Try.func45 (by kernel_rfl) rfl #[.int .i64 a1_1, .int .i64 0, .int .i64 (wrap64 ((l0_2.length : Int) - 1))] rfl nc_ ?_; (with_reducible refine (spec_l1In.calls a1_1 0 (wrap64 ((l0_2.length : Int) - 1)) true _ A37.out).mono ?_); rintro e w' ⟨rfl, ⟨nd, rfl⟩⟩; refine ⟨_, rfl, ?_⟩; (try (rw [drewN_self w150]; generalize hq_ : World.drewN w150 _ = w150; have n0_ : Aside0 (Kd.R (Kd.int .i64) 3 w150 w0.heap.size (fun k_ => ((P0_2_ k_ ∨ P0_5_ k_) ∨ w.heap.size ≤ k_) ∧ some k_ ≠ (.slice Ao147 l0_5.length co147 : Value).ownBlock) (.slice Ao146 l0_2.length co146) l0_2) := ⟨by rw [← hq_]; exact (kr_ HO0_2.out)⟩; have n1_ : Aside0 (Kd.R (Kd.int .i64) 3 w150 w0.heap.size (fun k_ => ((P0_2_ k_ ∨ P0_5_ k_) ∨ w.heap.size ≤ k_) ∧ some k_ ≠ (.slice Ao146 l0_2.length co146 : Value).ownBlock) (.slice Ao147 l0_5.length co147) l0_5) := ⟨by rw [← hq_]; exact (kr_ HO0_5.out)⟩; have n2_ : Aside0 (w150.heap[gb146]? = some (.cells #[.int .i64 a0_0, .int .i64 a0_1, .slice Ao146 l0_2.length co146, .int .i64 a0_3, .int .i64 a0_4, .slice Ao147 l0_5.length co147] 24 (0, 0))) := ⟨by rw [← hq_]; exact (kb_ BK146.out)⟩; have n3_ : Aside0 (w150.heap[gb147]? = some (.cells #[.int .i64 a1_0, .int .i64 a1_1, .int .i64 a1_2] 45 (0, 0))) := ⟨by rw [← hq_]; exact (kb_ BK147.out)⟩; have n4_ : Aside0 (w150.heap[gb148]? = some (.cells #[.int .i64 0, .int .i64 0, .slice none 0 0, .int .i64 0, .int .i64 0, .slice none 0 0] 24 (0, 0))) := ⟨by rw [← hq_]; exact (kb_ BK148.out)⟩; have n5_ : Aside0 (Kept w w150 (fun k_ => P0_2_ k_ ∨ P0_5_ k_)) := ⟨by rw [← hq_]; exact (by repeat (first | (with_reducible first | exact HK.out | apply Kept.alloc | apply Kept.drewN | apply Kept.drew | refine Kept.setCell ?_ (.inr GW146.out) _ | refine Kept.setCell ?_ (.inr GW147.out) _ | refine Kept.setCell ?_ (.inr GW148.out) _) | exact HK.out))⟩; have n6_ : Aside0 (Below w0.heap.size w0 w150) := ⟨by rw [← hq_]; exact bl_⟩; clear HO0_2 HO0_5 BK146 BK147 BK148 HK HB hq_; have HO0_2 := n0_; have HO0_5 := n1_; have BK146 := n2_; have BK147 := n3_; have BK148 := n4_; have HK := n5_; have HB := n6_; clear n0_ n1_ n2_ n3_ n4_ n5_ n6_)); (try (have hcz153_0 : w150.cell? ⟨gb147, 0, none⟩ = some (.int .i64 a1_0) := bc_ BK147.out 0)); (try (have hcz153_1 : w150.cell? ⟨gb147, 1, none⟩ = some (.int .i64 a1_1) := bc_ BK147.out 1)); (try (have hcz153_2 : w150.cell? ⟨gb147, 2, none⟩ = some (.int .i64 a1_2) := bc_ BK147.out 2)); (try (have hfz153_0 := blk_frozen BK147.out 0)); (try (have hfz153_1 := blk_frozen BK147.out 1)); (try (have hfz153_2 := blk_frozen BK147.out 2)); (try (have hcz155_0 : w150.cell? ⟨gb146, 0, none⟩ = some (.int .i64 a0_0) := bc_ BK146.out 0)); (try (have hcz155_1 : w150.cell? ⟨gb146, 1, none⟩ = some (.int .i64 a0_1) := bc_ BK146.out 1)); (try (have hcz155_2 : w150.cell? ⟨gb146, 2, none⟩ = some (.slice Ao146 l0_2.length co146) := bc_ BK146.out 2)); (try (have hcz155_3 : w150.cell? ⟨gb146, 3, none⟩ = some (.int .i64 a0_3) := bc_ BK146.out 3)); (try (have hcz155_4 : w150.cell? ⟨gb146, 4, none⟩ = some (.int .i64 a0_4) := bc_ BK146.out 4)); (try (have hcz155_5 : w150.cell? ⟨gb146, 5, none⟩ = some (.slice Ao147 l0_5.length co147) := bc_ BK146.out 5)); (try (have hfz155_0 := blk_frozen BK146.out 0)); (try (have hfz155_1 := blk_frozen BK146.out 1)); (try (have hfz155_2 := blk_frozen BK146.out 2)); (try (have hfz155_3 := blk_frozen BK146.out 3)); (try (have hfz155_4 := blk_frozen BK146.out 4)); (try (have hfz155_5 := blk_frozen BK146.out 5)); have hcz156_0 : w150.cell? ⟨gb148, 0, none⟩ = some (.int .i64 0) := bc_ BK148.out 0; have hcz156_1 : w150.cell? ⟨gb148, 1, none⟩ = some (.int .i64 0) := bc_ BK148.out 1; have hcz156_2 : w150.cell? ⟨gb148, 2, none⟩ = some (.slice none 0 0) := bc_ BK148.out 2; have hcz156_3 : w150.cell? ⟨gb148, 3, none⟩ = some (.int .i64 0) := bc_ BK148.out 3; have hcz156_4 : w150.cell? ⟨gb148, 4, none⟩ = some (.int .i64 0) := bc_ BK148.out 4; have hcz156_5 : w150.cell? ⟨gb148, 5, none⟩ = some (.slice none 0 0) := bc_ BK148.out 5; have hfz156_0 := blk_frozen BK148.out 0; have hfz156_1 := blk_frozen BK148.out 1; have hfz156_2 := blk_frozen BK148.out 2; have hfz156_3 := blk_frozen BK148.out 3; have hfz156_4 := blk_frozen BK148.out 4; have hfz156_5 := blk_frozen BK148.out 5))
   refine bodyPost_ret (results_ct rfl _ _ gb148 24 #[.int .i64 a0_0, .int .i64 a0_1, .slice Ao146 l0_2.length co146, .int .i64 a0_3, .int .i64 a0_4, .slice Ao147 l0_5.length co147] (0, 0) _ rfl (by (with_reducible repeat (first | refine blk_drewN ?_ _ | refine blk_drew ?_ | refine blk_alloc ?_ _)); refine blk_put (cs := #[.int .i64 a0_0, .int .i64 a0_1, .slice Ao146 l0_2.length co146, .int .i64 a0_3, .int .i64 a0_4, .slice none 0 0]) ?_ 5 _ rfl; (with_reducible repeat (first | refine blk_drewN ?_ _ | refine blk_drew ?_ | refine blk_alloc ?_ _)); refine blk_put (cs := #[.int .i64 a0_0, .int .i64 a0_1, .slice Ao146 l0_2.length co146, .int .i64 a0_3, .int .i64 0, .slice none 0 0]) ?_ 4 _ rfl; (with_reducible repeat (first | refine blk_drewN ?_ _ | refine blk_drew ?_ | refine blk_alloc ?_ _)); refine blk_put (cs := #[.int .i64 a0_0, .int .i64 a0_1, .slice Ao146 l0_2.length co146, .int .i64 0, .int .i64 0, .slice none 0 0]) ?_ 3 _ rfl; (with_reducible repeat (first | refine blk_drewN ?_ _ | refine blk_drew ?_ | refine blk_alloc ?_ _)); refine blk_put (cs := #[.int .i64 a0_0, .int .i64 a0_1, .slice none 0 0, .int .i64 0, .int .i64 0, .slice none 0 0]) ?_ 2 _ rfl; (with_reducible repeat (first | refine blk_drewN ?_ _ | refine blk_drew ?_ | refine blk_alloc ?_ _)); refine blk_put (cs := #[.int .i64 a0_0, .int .i64 0, .slice none 0 0, .int .i64 0, .int .i64 0, .slice none 0 0]) ?_ 1 _ rfl; (with_reducible repeat (first | refine blk_drewN ?_ _ | refine blk_drew ?_ | refine blk_alloc ?_ _)); refine blk_put (cs := #[.int .i64 0, .int .i64 0, .slice none 0 0, .int .i64 0, .int .i64 0, .slice none 0 0]) ?_ 0 _ rfl; exact kb_ BK148.out) Try.underlying24 rfl (by kernel_rfl)) rfl ?_
   exact ⟨_, _, ng_, by exact kr_ (Kd.R_mono (Kd.R_far (p := ⟨gb148, 5, none⟩) (Kd.R_far (p := ⟨gb148, 4, none⟩) (Kd.R_far (p := ⟨gb148, 3, none⟩) (Kd.R_far (p := ⟨gb148, 2, none⟩) (Kd.R_far (p := ⟨gb148, 1, none⟩) (Kd.R_far (p := ⟨gb148, 0, none⟩) (Kd.R_types HO0_2.out BK148.out (by decide)) (fun _ hk => hk.2) (.int .i64 a0_0)) (fun _ hk => hk.2) (.int .i64 a0_1)) (fun _ hk => hk.2) (.slice Ao146 l0_2.length co146)) (fun _ hk => hk.2) (.int .i64 a0_3)) (fun _ hk => hk.2) (.int .i64 a0_4)) (fun _ hk => hk.2) (.slice Ao147 l0_5.length co147)) (fun _ hk => ⟨hk.1.1, hk.1.2⟩)), by exact kr_ (Kd.R_mono (Kd.R_far (p := ⟨gb148, 5, none⟩) (Kd.R_far (p := ⟨gb148, 4, none⟩) (Kd.R_far (p := ⟨gb148, 3, none⟩) (Kd.R_far (p := ⟨gb148, 2, none⟩) (Kd.R_far (p := ⟨gb148, 1, none⟩) (Kd.R_far (p := ⟨gb148, 0, none⟩) (Kd.R_types HO0_5.out BK148.out (by decide)) (fun _ hk => hk.2) (.int .i64 a0_0)) (fun _ hk => hk.2) (.int .i64 a0_1)) (fun _ hk => hk.2) (.slice Ao146 l0_2.length co146)) (fun _ hk => hk.2) (.int .i64 a0_3)) (fun _ hk => hk.2) (.int .i64 a0_4)) (fun _ hk => hk.2) (.slice Ao147 l0_5.length co147)) (fun _ hk => ⟨hk.1.1, hk.1.2⟩)), bl_, by repeat (first | (with_reducible first | exact HK.out | apply Kept.alloc | apply Kept.drewN | apply Kept.drew | refine Kept.setCell ?_ (.inr GW146.out) _ | refine Kept.setCell ?_ (.inr GW147.out) _ | refine Kept.setCell ?_ (.inr GW148.out) _) | exact HK.out)⟩
  rw [if_pos c121] at H
  have c121b0 : (a0_3 == a1_1) = true := beq_iff_eq.mpr c121
  have c121b1 : (a0_3 != a1_1) = false := bne_eq_false_iff_eq.mpr c121
  clear c121
  by_cases c122 : 0 ≤ a1_1
  rotate_left
  ·rw [if_neg c122] at H
   exact absurd H (by simp)
  rw [if_pos c122] at H
  have c122b0 : decide (0 ≤ a1_1) = true := decide_eq_true c122
  clear c122
  by_cases c123 : a1_1 < (l0_5.length : Int)
  rotate_left
  ·rw [if_neg c123] at H
   exact absurd H (by simp)
  rw [if_pos c123] at H
  have c123b0 : decide (a1_1 < (l0_5.length : Int)) = true := decide_eq_true c123
  clear c123
  obtain ⟨y156, hy156⟩ : ∃ y_ : List Int, y_ = (l0_5.set (a1_1 : Int).toNat a0_4) := ⟨_, rfl⟩
  replace H : ((spec_GoodLeases.f k a0_0 a0_1 l0_2 a0_3 a0_4 y156).bind fun t157 => (some (a0_0, a0_1, l0_2, a0_3, a0_4, y156, t157))) = some (r1, r2, r3, r4, r5, r6, r7) := by first | (rw [hy156]; with_reducible exact H) | (have H2_ := (Option.bind_some _ _).symm.trans H; rw [hy156]; with_reducible exact H2_) | (have H2_ := (Option.bind_some _ _).symm.trans H; with_reducible exact H2_) | with_reducible exact H | (rw [hy156]; exact H) | exact H
  have Ny156 := Aside0.mk hy156
  clear hy156
  replace H := Option.bind_eq_some_iff.mp H
  obtain ⟨t157, A1250, H⟩ := H
  replace H : (some (a0_0, a0_1, l0_2, a0_3, a0_4, y156, t157)) = some (r1, r2, r3, r4, r5, r6, r7) := H
  have A125 := Aside0.mk A1250
  clear A1250
  simp only [Option.some.injEq, Prod.mk.injEq] at H
  obtain ⟨rfl, rfl, rfl, rfl, rfl, rfl, rfl⟩ := H
  obtain ⟨Ao126, co126, eo126⟩ := Kd.R_slice HO0_2.out
  subst eo126
  obtain ⟨Ao127, co127, eo127⟩ := Kd.R_slice HO0_5.out
  subst eo127
  go_enter Try.func53, Try.ntmps53
  try go_wp2_with (first | ((with_reducible refine gate_dst (N := 2) rfl ?_); refine box_event rfl (N := 2) rfl (cs := #[.int .i64 a0_0, .int .i64 a0_1, .slice Ao126 l0_2.length co126, .int .i64 a0_3, .int .i64 a0_4, .slice Ao127 l0_5.length co127]) (t := 24) gs_ ?_; intro gb146 hg w128 hbox hb; replace HO0_2 := rb_ HO0_2 hb; replace HO0_5 := rb_ HO0_5 hb; have BK146 := Aside0.mk (hbox); have GW146 := Aside0.mk ((by rw [hg]; exact (by first | exact HK.out.1 | exact (show Kept w _ (fun k_ => P0_2_ k_ ∨ P0_5_ k_) from by repeat (first | (with_reducible first | exact HK.out | apply Kept.alloc | apply Kept.drewN | apply Kept.drew) | exact HK.out)).1) : w.heap.size ≤ gb146)); replace HK := Aside0.mk (Kept.below (S := (fun k_ => P0_2_ k_ ∨ P0_5_ k_)) (by repeat (first | (with_reducible first | exact HK.out | apply Kept.alloc | apply Kept.drewN | apply Kept.drew) | exact HK.out)) hb); have GE146 := Aside0.mk ((by rw [hg]; exact bz_ : w0.heap.size ≤ gb146)); replace HB := Aside0.mk (below_step bl_ hb); clear hb hbox hg) | ((with_reducible refine gate_dst (N := 3) rfl ?_); refine box_event rfl (N := 3) rfl (cs := #[.int .i64 a1_0, .int .i64 a1_1, .int .i64 a1_2]) (t := 45) gs_ ?_; intro gb147 hg w129 hbox hb; replace HO0_2 := rb_ HO0_2 hb; replace HO0_5 := rb_ HO0_5 hb; have BK147 := Aside0.mk (hbox); have GW147 := Aside0.mk ((by rw [hg]; exact (by first | exact HK.out.1 | exact (show Kept w _ (fun k_ => P0_2_ k_ ∨ P0_5_ k_) from by repeat (first | (with_reducible first | exact HK.out | apply Kept.alloc | apply Kept.drewN | apply Kept.drew | refine Kept.setCell ?_ (.inr GW146.out) _) | exact HK.out)).1) : w.heap.size ≤ gb147)); replace HK := Aside0.mk (Kept.below (S := (fun k_ => P0_2_ k_ ∨ P0_5_ k_)) (by repeat (first | (with_reducible first | exact HK.out | apply Kept.alloc | apply Kept.drewN | apply Kept.drew | refine Kept.setCell ?_ (.inr GW146.out) _) | exact HK.out)) hb); have GE147 := Aside0.mk ((by rw [hg]; exact bz_ : w0.heap.size ≤ gb147)); replace HB := Aside0.mk (below_step bl_ hb); have NB146_147 := nl_ hg BK146; have NB147_146 := nm_ hg BK146; replace BK146 := bb_ BK146 hb; clear hb hbox hg) | ((with_reducible refine gate_dst (N := 4) rfl ?_); refine box_event rfl (N := 4) rfl (cs := #[.int .i64 0, .int .i64 0, .slice none 0 0, .int .i64 0, .int .i64 0, .slice none 0 0]) (t := 24) gs_ ?_; intro gb148 hg w130 hbox hb; replace HO0_2 := rb_ HO0_2 hb; replace HO0_5 := rb_ HO0_5 hb; have BK148 := Aside0.mk (hbox); have GW148 := Aside0.mk ((by rw [hg]; exact (by first | exact HK.out.1 | exact (show Kept w _ (fun k_ => P0_2_ k_ ∨ P0_5_ k_) from by repeat (first | (with_reducible first | exact HK.out | apply Kept.alloc | apply Kept.drewN | apply Kept.drew | refine Kept.setCell ?_ (.inr GW146.out) _ | refine Kept.setCell ?_ (.inr GW147.out) _) | exact HK.out)).1) : w.heap.size ≤ gb148)); replace HK := Aside0.mk (Kept.below (S := (fun k_ => P0_2_ k_ ∨ P0_5_ k_)) (by repeat (first | (with_reducible first | exact HK.out | apply Kept.alloc | apply Kept.drewN | apply Kept.drew | refine Kept.setCell ?_ (.inr GW146.out) _ | refine Kept.setCell ?_ (.inr GW147.out) _) | exact HK.out)) hb); have GE148 := Aside0.mk ((by rw [hg]; exact bz_ : w0.heap.size ≤ gb148)); replace HB := Aside0.mk (below_step bl_ hb); have NB146_148 := nl_ hg BK146; have NB148_146 := nm_ hg BK146; replace BK146 := bb_ BK146 hb; have NB147_148 := nl_ hg BK147; have NB148_147 := nm_ hg BK147; replace BK147 := bb_ BK147 hb; clear hb hbox hg; have hnb131 := NB147_146.out; have hnc131 := NB146_147.out; have hnb132 := NB147_148.out; have hnc132 := NB148_147.out; have hcz133_0 : w130.cell? ⟨gb147, 0, none⟩ = some (.int .i64 a1_0) := bc_ BK147.out 0; have hcz133_1 : w130.cell? ⟨gb147, 1, none⟩ = some (.int .i64 a1_1) := bc_ BK147.out 1; have hcz133_2 : w130.cell? ⟨gb147, 2, none⟩ = some (.int .i64 a1_2) := bc_ BK147.out 2; have hfz133_0 := blk_frozen BK147.out 0; have hfz133_1 := blk_frozen BK147.out 1; have hfz133_2 := blk_frozen BK147.out 2; have hnb134 := NB146_148.out; have hnc134 := NB148_146.out; have hcz135_0 : w130.cell? ⟨gb146, 0, none⟩ = some (.int .i64 a0_0) := bc_ BK146.out 0; have hcz135_1 : w130.cell? ⟨gb146, 1, none⟩ = some (.int .i64 a0_1) := bc_ BK146.out 1; have hcz135_2 : w130.cell? ⟨gb146, 2, none⟩ = some (.slice Ao126 l0_2.length co126) := bc_ BK146.out 2; have hcz135_3 : w130.cell? ⟨gb146, 3, none⟩ = some (.int .i64 a0_3) := bc_ BK146.out 3; have hcz135_4 : w130.cell? ⟨gb146, 4, none⟩ = some (.int .i64 a0_4) := bc_ BK146.out 4; have hcz135_5 : w130.cell? ⟨gb146, 5, none⟩ = some (.slice Ao127 l0_5.length co127) := bc_ BK146.out 5; have hfz135_0 := blk_frozen BK146.out 0; have hfz135_1 := blk_frozen BK146.out 1; have hfz135_2 := blk_frozen BK146.out 2; have hfz135_3 := blk_frozen BK146.out 3; have hfz135_4 := blk_frozen BK146.out 4; have hfz135_5 := blk_frozen BK146.out 5) | ((with_reducible refine gate_callee (f := 45) rfl ?_); refine goesL_ (some 30) rfl rfl Try.func45 (by kernel_rfl) rfl #[.int .i64 a1_1, .int .i64 0, .int .i64 (wrap64 ((l0_2.length : Int) - 1))] rfl nc_ ?_; (with_reducible refine (spec_l1In.calls a1_1 0 (wrap64 ((l0_2.length : Int) - 1)) true _ A37.out).mono ?_); rintro e w' ⟨rfl, ⟨nd, rfl⟩⟩; refine ⟨_, rfl, ?_⟩; (try (rw [drewN_self w130]; generalize hq_ : World.drewN w130 _ = w130; have n0_ : Aside0 (Kd.R (Kd.int .i64) 3 w130 w0.heap.size (fun k_ => ((P0_2_ k_ ∨ P0_5_ k_) ∨ w.heap.size ≤ k_) ∧ some k_ ≠ (.slice Ao127 l0_5.length co127 : Value).ownBlock) (.slice Ao126 l0_2.length co126) l0_2) := ⟨by rw [← hq_]; exact (kr_ HO0_2.out)⟩; have n1_ : Aside0 (Kd.R (Kd.int .i64) 3 w130 w0.heap.size (fun k_ => ((P0_2_ k_ ∨ P0_5_ k_) ∨ w.heap.size ≤ k_) ∧ some k_ ≠ (.slice Ao126 l0_2.length co126 : Value).ownBlock) (.slice Ao127 l0_5.length co127) l0_5) := ⟨by rw [← hq_]; exact (kr_ HO0_5.out)⟩; have n2_ : Aside0 (w130.heap[gb146]? = some (.cells #[.int .i64 a0_0, .int .i64 a0_1, .slice Ao126 l0_2.length co126, .int .i64 a0_3, .int .i64 a0_4, .slice Ao127 l0_5.length co127] 24 (0, 0))) := ⟨by rw [← hq_]; exact (kb_ BK146.out)⟩; have n3_ : Aside0 (w130.heap[gb147]? = some (.cells #[.int .i64 a1_0, .int .i64 a1_1, .int .i64 a1_2] 45 (0, 0))) := ⟨by rw [← hq_]; exact (kb_ BK147.out)⟩; have n4_ : Aside0 (w130.heap[gb148]? = some (.cells #[.int .i64 0, .int .i64 0, .slice none 0 0, .int .i64 0, .int .i64 0, .slice none 0 0] 24 (0, 0))) := ⟨by rw [← hq_]; exact (kb_ BK148.out)⟩; have n5_ : Aside0 (Kept w w130 (fun k_ => P0_2_ k_ ∨ P0_5_ k_)) := ⟨by rw [← hq_]; exact (by repeat (first | (with_reducible first | exact HK.out | apply Kept.alloc | apply Kept.drewN | apply Kept.drew | refine Kept.setCell ?_ (.inr GW146.out) _ | refine Kept.setCell ?_ (.inr GW147.out) _ | refine Kept.setCell ?_ (.inr GW148.out) _) | exact HK.out))⟩; have n6_ : Aside0 (Below w0.heap.size w0 w130) := ⟨by rw [← hq_]; exact bl_⟩; clear HO0_2 HO0_5 BK146 BK147 BK148 HK HB hq_; have HO0_2 := n0_; have HO0_5 := n1_; have BK146 := n2_; have BK147 := n3_; have BK148 := n4_; have HK := n5_; have HB := n6_; clear n0_ n1_ n2_ n3_ n4_ n5_ n6_)); (try (have hcz133_0 : w130.cell? ⟨gb147, 0, none⟩ = some (.int .i64 a1_0) := bc_ BK147.out 0)); (try (have hcz133_1 : w130.cell? ⟨gb147, 1, none⟩ = some (.int .i64 a1_1) := bc_ BK147.out 1)); (try (have hcz133_2 : w130.cell? ⟨gb147, 2, none⟩ = some (.int .i64 a1_2) := bc_ BK147.out 2)); (try (have hfz133_0 := blk_frozen BK147.out 0)); (try (have hfz133_1 := blk_frozen BK147.out 1)); (try (have hfz133_2 := blk_frozen BK147.out 2)); (try (have hcz135_0 : w130.cell? ⟨gb146, 0, none⟩ = some (.int .i64 a0_0) := bc_ BK146.out 0)); (try (have hcz135_1 : w130.cell? ⟨gb146, 1, none⟩ = some (.int .i64 a0_1) := bc_ BK146.out 1)); (try (have hcz135_2 : w130.cell? ⟨gb146, 2, none⟩ = some (.slice Ao126 l0_2.length co126) := bc_ BK146.out 2)); (try (have hcz135_3 : w130.cell? ⟨gb146, 3, none⟩ = some (.int .i64 a0_3) := bc_ BK146.out 3)); (try (have hcz135_4 : w130.cell? ⟨gb146, 4, none⟩ = some (.int .i64 a0_4) := bc_ BK146.out 4)); (try (have hcz135_5 : w130.cell? ⟨gb146, 5, none⟩ = some (.slice Ao127 l0_5.length co127) := bc_ BK146.out 5)); (try (have hfz135_0 := blk_frozen BK146.out 0)); (try (have hfz135_1 := blk_frozen BK146.out 1)); (try (have hfz135_2 := blk_frozen BK146.out 2)); (try (have hfz135_3 := blk_frozen BK146.out 3)); (try (have hfz135_4 := blk_frozen BK146.out 4)); (try (have hfz135_5 := blk_frozen BK146.out 5)); have p124 : 0 ≤ (a1_1 : Int) := of_decide_eq_true (by first | (with_reducible assumption) | assumption); have q124 : (a1_1 : Int) < ((l0_5.length : Int) : Int) := of_decide_eq_true (by first | (with_reducible assumption) | assumption); obtain ⟨go124, co124, eo124, gb124, gl124, cl124, HG124⟩ := Kd.R_form HO0_5.out (by omega); (first | cases eo124 | (injection eo124 with ea_ en_ ec_; (first | subst ea_ | (injection ea_ with ea_; subst ea_)); subst ec_; clear en_)); have GB124 := Aside0.mk gb124; have GG124 := Aside0.mk HG124; clear gb124 gl124 HG124; have HMgo124 := Aside0.mk (show ((P0_2_ go124 ∨ P0_5_ go124) ∨ w.heap.size ≤ go124) from (HO0_5.out.1 _ rfl).1); obtain ⟨hx124_0, hf124_0⟩ := Kd.R_celln 0 HO0_5.out (a1_1 : Int) p124 q124; replace p124 := eq_true p124; replace q124 := eq_true q124; obtain ⟨hy136_, hz136_⟩ := Kd.R_celln 0 HO0_5.out (a1_1 : Int) (of_decide_eq_true (by first | (with_reducible assumption) | assumption)) (of_decide_eq_true (by first | (with_reducible assumption) | assumption)); have HP136 := Kd.R_putg HO0_5.out (a1_1 : Int) a0_4) | ((with_reducible refine gate_store (t := 3) (p := 94) rfl ?_); refine store_event (t := 3) (p := 94) (v := ?vo_w137) (w1 := (w130.setCell ⟨go124, (a1_1 : Int).toNat, none⟩ (.int .i64 a0_4))) ?hg ?ho ?hn ?hr ?_; (case ho => rfl); (case hg => rfl); (case hn => rfl); (case hr => first | (go_simp; done) | (go_simp; rfl)); intro w137 hw; have hg : w130.grownBy w137 (some go124) := (by rw [hw]; exact HP136.2); have hp_ : Kd.R (Kd.int .i64) 3 w137 w0.heap.size (fun k_ => ((P0_2_ k_ ∨ P0_5_ k_) ∨ w.heap.size ≤ k_) ∧ some k_ ≠ (.slice Ao126 l0_2.length co126 : Value).ownBlock) (.slice (some ⟨go124, 0, none⟩) l0_5.length co127) y156 := (by rw [hw, Ny156.out]; exact HP136.1); clear HP136; replace HO0_2 := Aside0.mk (Kd.R_after (v := (.slice (some ⟨go124, 0, none⟩) l0_5.length co127)) (v1 := (.slice (some ⟨go124, 0, none⟩) l0_5.length co127)) (ok := (fun k_ => ((P0_2_ k_ ∨ P0_5_ k_) ∨ w.heap.size ≤ k_))) (kr_ HO0_2.out) hg (.inl rfl)); replace BK146 := bgr_ BK146 hg HO0_5 BK146; replace BK147 := bgr_ BK147 hg HO0_5 BK147; replace BK148 := bgr_ BK148 hg HO0_5 BK148; replace HB := Aside0.mk ((by rw [hw]; exact below_set (HB.out) GB124.out : Below w0.heap.size w0 w137)); replace HK := Aside0.mk (Kept.of_grown (S := (fun k_ => P0_2_ k_ ∨ P0_5_ k_)) hg (by repeat (first | (with_reducible first | exact HK.out | apply Kept.alloc | apply Kept.drewN | apply Kept.drew | refine Kept.setCell ?_ (.inr GW146.out) _ | refine Kept.setCell ?_ (.inr GW147.out) _ | refine Kept.setCell ?_ (.inr GW148.out) _) | exact HK.out)) (fun k_ e_ => (HO0_5.out.1 k_ e_).1)); replace HO0_5 := Aside0.mk (hp_); clear hg hw hp_))
  replace HO0_2 := Aside0.mk (Kd.R_drew HO0_2.out)
  replace HO0_5 := Aside0.mk (Kd.R_drew HO0_5.out)
  replace BK146 := Aside0.mk (blk_drew BK146.out)
  replace BK147 := Aside0.mk (blk_drew BK147.out)
  replace BK148 := Aside0.mk (blk_drew BK148.out)
  replace HK := Aside0.mk (Kept.drew HK.out)
  replace HB := Aside0.mk (below_drew1 HB.out)
  refine start_ (n := 5) (S := fun w' => w'.cell? ⟨gb146, 0, none⟩ = some (.int .i64 a0_0) ∧ w'.cell? ⟨gb146, 1, none⟩ = some (.int .i64 a0_1) ∧ w'.cell? ⟨gb146, 2, none⟩ = some (.slice Ao126 l0_2.length co126) ∧ w'.cell? ⟨gb146, 3, none⟩ = some (.int .i64 a0_3) ∧ w'.cell? ⟨gb146, 4, none⟩ = some (.int .i64 a0_4) ∧ w'.cell? ⟨gb146, 5, none⟩ = some (.slice (some ⟨go124, 0, none⟩) l0_5.length co127)) (ds := []) #[false, false, false, false, false] (by kernel_rfl) rfl rfl ⟨bc_ BK146.out 0, bc_ BK146.out 1, bc_ BK146.out 2, bc_ BK146.out 3, bc_ BK146.out 4, bc_ BK146.out 5⟩ (fun hHeld => ?_)
  generalize w137.drew = w138 at HO0_2 HO0_5 BK146 BK147 BK148 HK HB hHeld ⊢
  refine tk6_ 0 (some 112) (h := ?_)
  refine tk6_ 1 (some 113) (h := ?_)
  refine on_ 2 (some 114) (h := fun K hK => ?_)
  refine goes_ Try.func18 (by kernel_rfl) rfl #[.agg #[.int .i64 a0_0, .int .i64 a0_1, .slice Ao126 l0_2.length co126, .int .i64 a0_3, .int .i64 a0_4, .slice (some ⟨go124, 0, none⟩) y156.length co127]] (by rfl) rfl rfl (by (try simp only [List.map_toArray, List.map_cons, List.map_nil]); first | done | (rw [show y156.length = l0_5.length from (Kd.R_reads' HO0_5.out).1.symm] <;> rfl) | rfl | (simp only [List.length_drop, List.length_take]; rfl)) ?_
  with_reducible refine (spec_GoodLeases.calls k a0_0 a0_1 _ _ l0_2 a0_3 a0_4 _ _ y156 t157 _ ?side1 ?side2 ?side3 ?side4 A125.out).mono ?_
  (case side1 => exact kc_ (Kd.R_reads' HO0_2.out).2.2)
  (case side2 => exact (Kd.R_reads' HO0_2.out).2.1)
  (case side3 => exact kc_ (Kd.R_reads' HO0_5.out).2.2)
  (case side4 => rw [show y156.length = l0_5.length from (Kd.R_reads' HO0_5.out).1.symm]; exact (Kd.R_reads' HO0_5.out).2.1)
  rintro e w139 ⟨rfl, hb⟩
  refine ⟨_, rfl, ?_⟩
  replace HO0_2 := rb_ HO0_2 hb
  replace HO0_5 := rb_ HO0_5 hb
  replace BK146 := bb_ BK146 hb
  replace BK147 := bb_ BK147 hb
  replace BK148 := bb_ BK148 hb
  replace HK := Aside0.mk (Kept.below (S := (fun k_ => P0_2_ k_ ∨ P0_5_ k_)) (by repeat (first | (with_reducible first | exact HK.out | apply Kept.alloc | apply Kept.drewN | apply Kept.drew | refine Kept.setCell ?_ (.inr GW146.out) _ | refine Kept.setCell ?_ (.inr GW147.out) _ | refine Kept.setCell ?_ (.inr GW148.out) _) | exact HK.out)) hb)
  replace HB := Aside0.mk (below_step bl_ hb)
  clear hb
  refine hK.out _ _ ⟨bc_ BK146.out 0, bc_ BK146.out 1, bc_ BK146.out 2, bc_ BK146.out 3, bc_ BK146.out 4, bc_ BK146.out 5⟩ (fun hHeld => ?_)
  clear hK K
  refine norm_ nn_ ?_
  refine on_ 3 none (h := fun K hK => ?_)
  have hs140 : w139.cell? ⟨gb148, 0, none⟩ = some (.int .i64 0) := bc_ BK148.out 0
  have hfs140 := blk_frozen BK148.out 0
  have hns140_0 := NB146_148.out
  have hns140_1 := NB147_148.out
  have hms140_0 := NB148_146.out
  have hms140_1 := NB148_147.out
  have hs141 : w139.cell? ⟨gb148, 1, none⟩ = some (.int .i64 0) := bc_ BK148.out 1
  have hfs141 := blk_frozen BK148.out 1
  have hns141_0 := NB146_148.out
  have hns141_1 := NB147_148.out
  have hms141_0 := NB148_146.out
  have hms141_1 := NB148_147.out
  have hs142 : w139.cell? ⟨gb148, 2, none⟩ = some (.slice none 0 0) := bc_ BK148.out 2
  have hfs142 := blk_frozen BK148.out 2
  have hns142_0 := NB146_148.out
  have hns142_1 := NB147_148.out
  have hms142_0 := NB148_146.out
  have hms142_1 := NB148_147.out
  have hs143 : w139.cell? ⟨gb148, 3, none⟩ = some (.int .i64 0) := bc_ BK148.out 3
  have hfs143 := blk_frozen BK148.out 3
  have hns143_0 := NB146_148.out
  have hns143_1 := NB147_148.out
  have hms143_0 := NB148_146.out
  have hms143_1 := NB148_147.out
  have hs144 : w139.cell? ⟨gb148, 4, none⟩ = some (.int .i64 0) := bc_ BK148.out 4
  have hfs144 := blk_frozen BK148.out 4
  have hns144_0 := NB146_148.out
  have hns144_1 := NB147_148.out
  have hms144_0 := NB148_146.out
  have hms144_1 := NB148_147.out
  have hs145 : w139.cell? ⟨gb148, 5, none⟩ = some (.slice none 0 0) := bc_ BK148.out 5
  have hfs145 := blk_frozen BK148.out 5
  have hns145_0 := NB146_148.out
  have hns145_1 := NB147_148.out
  have hms145_0 := NB148_146.out
  have hms145_1 := NB148_147.out
  refine skip_ (w1 := ?_) (by rfl) rfl ?_ ?_
  rotate_left
  ·go_simp
   rfl
  refine hK.out _ _ ⟨((cell_far (p := ⟨gb148, _, none⟩) NB146_148.out _).trans (((cell_far (p := ⟨gb148, _, none⟩) NB146_148.out _).trans (((cell_far (p := ⟨gb148, _, none⟩) NB146_148.out _).trans (((cell_far (p := ⟨gb148, _, none⟩) NB146_148.out _).trans (((cell_far (p := ⟨gb148, _, none⟩) NB146_148.out _).trans (((cell_far (p := ⟨gb148, _, none⟩) NB146_148.out _).trans (hHeld.1)))))))))))), ((cell_far (p := ⟨gb148, _, none⟩) NB146_148.out _).trans (((cell_far (p := ⟨gb148, _, none⟩) NB146_148.out _).trans (((cell_far (p := ⟨gb148, _, none⟩) NB146_148.out _).trans (((cell_far (p := ⟨gb148, _, none⟩) NB146_148.out _).trans (((cell_far (p := ⟨gb148, _, none⟩) NB146_148.out _).trans (((cell_far (p := ⟨gb148, _, none⟩) NB146_148.out _).trans (hHeld.2.1)))))))))))), ((cell_far (p := ⟨gb148, _, none⟩) NB146_148.out _).trans (((cell_far (p := ⟨gb148, _, none⟩) NB146_148.out _).trans (((cell_far (p := ⟨gb148, _, none⟩) NB146_148.out _).trans (((cell_far (p := ⟨gb148, _, none⟩) NB146_148.out _).trans (((cell_far (p := ⟨gb148, _, none⟩) NB146_148.out _).trans (((cell_far (p := ⟨gb148, _, none⟩) NB146_148.out _).trans (hHeld.2.2.1)))))))))))), ((cell_far (p := ⟨gb148, _, none⟩) NB146_148.out _).trans (((cell_far (p := ⟨gb148, _, none⟩) NB146_148.out _).trans (((cell_far (p := ⟨gb148, _, none⟩) NB146_148.out _).trans (((cell_far (p := ⟨gb148, _, none⟩) NB146_148.out _).trans (((cell_far (p := ⟨gb148, _, none⟩) NB146_148.out _).trans (((cell_far (p := ⟨gb148, _, none⟩) NB146_148.out _).trans (hHeld.2.2.2.1)))))))))))), ((cell_far (p := ⟨gb148, _, none⟩) NB146_148.out _).trans (((cell_far (p := ⟨gb148, _, none⟩) NB146_148.out _).trans (((cell_far (p := ⟨gb148, _, none⟩) NB146_148.out _).trans (((cell_far (p := ⟨gb148, _, none⟩) NB146_148.out _).trans (((cell_far (p := ⟨gb148, _, none⟩) NB146_148.out _).trans (((cell_far (p := ⟨gb148, _, none⟩) NB146_148.out _).trans (hHeld.2.2.2.2.1)))))))))))), ((cell_far (p := ⟨gb148, _, none⟩) NB146_148.out _).trans (((cell_far (p := ⟨gb148, _, none⟩) NB146_148.out _).trans (((cell_far (p := ⟨gb148, _, none⟩) NB146_148.out _).trans (((cell_far (p := ⟨gb148, _, none⟩) NB146_148.out _).trans (((cell_far (p := ⟨gb148, _, none⟩) NB146_148.out _).trans (((cell_far (p := ⟨gb148, _, none⟩) NB146_148.out _).trans (hHeld.2.2.2.2.2))))))))))))⟩ (fun hHeld => ?_)
  clear hK K
  refine pu_ 4 (some 5) (h := ?_)
  refine done_ (by kernel_rfl) ?_
  try go_wp2
  refine bodyPost_ret (results_ct rfl _ _ gb148 24 #[.int .i64 a0_0, .int .i64 a0_1, .slice Ao126 l0_2.length co126, .int .i64 a0_3, .int .i64 a0_4, .slice (some ⟨go124, 0, none⟩) l0_5.length co127] (0, 0) _ rfl (by (with_reducible repeat (first | refine blk_drewN ?_ _ | refine blk_drew ?_ | refine blk_alloc ?_ _)); refine blk_put (cs := #[.int .i64 a0_0, .int .i64 a0_1, .slice Ao126 l0_2.length co126, .int .i64 a0_3, .int .i64 a0_4, .slice none 0 0]) ?_ 5 _ rfl; (with_reducible repeat (first | refine blk_drewN ?_ _ | refine blk_drew ?_ | refine blk_alloc ?_ _)); refine blk_put (cs := #[.int .i64 a0_0, .int .i64 a0_1, .slice Ao126 l0_2.length co126, .int .i64 a0_3, .int .i64 0, .slice none 0 0]) ?_ 4 _ rfl; (with_reducible repeat (first | refine blk_drewN ?_ _ | refine blk_drew ?_ | refine blk_alloc ?_ _)); refine blk_put (cs := #[.int .i64 a0_0, .int .i64 a0_1, .slice Ao126 l0_2.length co126, .int .i64 0, .int .i64 0, .slice none 0 0]) ?_ 3 _ rfl; (with_reducible repeat (first | refine blk_drewN ?_ _ | refine blk_drew ?_ | refine blk_alloc ?_ _)); refine blk_put (cs := #[.int .i64 a0_0, .int .i64 a0_1, .slice none 0 0, .int .i64 0, .int .i64 0, .slice none 0 0]) ?_ 2 _ rfl; (with_reducible repeat (first | refine blk_drewN ?_ _ | refine blk_drew ?_ | refine blk_alloc ?_ _)); refine blk_put (cs := #[.int .i64 a0_0, .int .i64 0, .slice none 0 0, .int .i64 0, .int .i64 0, .slice none 0 0]) ?_ 1 _ rfl; (with_reducible repeat (first | refine blk_drewN ?_ _ | refine blk_drew ?_ | refine blk_alloc ?_ _)); refine blk_put (cs := #[.int .i64 0, .int .i64 0, .slice none 0 0, .int .i64 0, .int .i64 0, .slice none 0 0]) ?_ 0 _ rfl; exact kb_ BK148.out) Try.underlying24 rfl (by kernel_rfl)) rfl ?_
  exact ⟨_, _, ng_, by exact kr_ (Kd.R_mono (Kd.R_far (p := ⟨gb148, 5, none⟩) (Kd.R_far (p := ⟨gb148, 4, none⟩) (Kd.R_far (p := ⟨gb148, 3, none⟩) (Kd.R_far (p := ⟨gb148, 2, none⟩) (Kd.R_far (p := ⟨gb148, 1, none⟩) (Kd.R_far (p := ⟨gb148, 0, none⟩) (Kd.R_types HO0_2.out BK148.out (by decide)) (fun _ hk => hk.2) (.int .i64 a0_0)) (fun _ hk => hk.2) (.int .i64 a0_1)) (fun _ hk => hk.2) (.slice Ao126 l0_2.length co126)) (fun _ hk => hk.2) (.int .i64 a0_3)) (fun _ hk => hk.2) (.int .i64 a0_4)) (fun _ hk => hk.2) (.slice (some ⟨go124, 0, none⟩) l0_5.length co127)) (fun _ hk => ⟨hk.1.1, hk.1.2⟩)), by exact kr_ (Kd.R_mono (Kd.R_far (p := ⟨gb148, 5, none⟩) (Kd.R_far (p := ⟨gb148, 4, none⟩) (Kd.R_far (p := ⟨gb148, 3, none⟩) (Kd.R_far (p := ⟨gb148, 2, none⟩) (Kd.R_far (p := ⟨gb148, 1, none⟩) (Kd.R_far (p := ⟨gb148, 0, none⟩) (Kd.R_types HO0_5.out BK148.out (by decide)) (fun _ hk => hk.2) (.int .i64 a0_0)) (fun _ hk => hk.2) (.int .i64 a0_1)) (fun _ hk => hk.2) (.slice Ao126 l0_2.length co126)) (fun _ hk => hk.2) (.int .i64 a0_3)) (fun _ hk => hk.2) (.int .i64 a0_4)) (fun _ hk => hk.2) (.slice (some ⟨go124, 0, none⟩) l0_5.length co127)) (fun _ hk => ⟨hk.1.1, hk.1.2⟩)), bl_, by repeat (first | (with_reducible first | exact HK.out | apply Kept.alloc | apply Kept.drewN | apply Kept.drew | refine Kept.setCell ?_ (.inr GW146.out) _ | refine Kept.setCell ?_ (.inr GW147.out) _ | refine Kept.setCell ?_ (.inr GW148.out) _) | exact HK.out)⟩
 rw [if_neg c120] at H
 have c120b0 : (a1_0 == 2) = false := beq_eq_false_iff_ne.mpr c120
 have c120b1 : (a1_0 != 2) = true := bne_iff_ne.mpr c120
 by_cases c157 : a1_0 = 4
 rotate_left
 ·rw [if_neg c157] at H
  have c157b0 : (a1_0 == 4) = false := beq_eq_false_iff_ne.mpr c157
  have c157b1 : (a1_0 != 4) = true := bne_iff_ne.mpr c157
  simp only [Option.some.injEq, Prod.mk.injEq] at H
  obtain ⟨rfl, rfl, rfl, rfl, rfl, rfl, rfl⟩ := H
  obtain ⟨Ao196, co196, eo196⟩ := Kd.R_slice HO0_2.out
  subst eo196
  obtain ⟨Ao197, co197, eo197⟩ := Kd.R_slice HO0_5.out
  subst eo197
  go_enter Try.func53, Try.ntmps53
  go_wp2_with (first | ((with_reducible refine gate_dst (N := 2) rfl ?_); refine box_event rfl (N := 2) rfl (cs := #[.int .i64 a0_0, .int .i64 a0_1, .slice Ao196 l0_2.length co196, .int .i64 a0_3, .int .i64 a0_4, .slice Ao197 l0_5.length co197]) (t := 24) gs_ ?_; intro gb146 hg w198 hbox hb; replace HO0_2 := rb_ HO0_2 hb; replace HO0_5 := rb_ HO0_5 hb; have BK146 := Aside0.mk (hbox); have GW146 := Aside0.mk ((by rw [hg]; exact (by first | exact HK.out.1 | exact (show Kept w _ (fun k_ => P0_2_ k_ ∨ P0_5_ k_) from by repeat (first | (with_reducible first | exact HK.out | apply Kept.alloc | apply Kept.drewN | apply Kept.drew) | exact HK.out)).1) : w.heap.size ≤ gb146)); replace HK := Aside0.mk (Kept.below (S := (fun k_ => P0_2_ k_ ∨ P0_5_ k_)) (by repeat (first | (with_reducible first | exact HK.out | apply Kept.alloc | apply Kept.drewN | apply Kept.drew) | exact HK.out)) hb); have GE146 := Aside0.mk ((by rw [hg]; exact bz_ : w0.heap.size ≤ gb146)); replace HB := Aside0.mk (below_step bl_ hb); clear hb hbox hg) | ((with_reducible refine gate_dst (N := 3) rfl ?_); refine box_event rfl (N := 3) rfl (cs := #[.int .i64 a1_0, .int .i64 a1_1, .int .i64 a1_2]) (t := 45) gs_ ?_; intro gb147 hg w199 hbox hb; replace HO0_2 := rb_ HO0_2 hb; replace HO0_5 := rb_ HO0_5 hb; have BK147 := Aside0.mk (hbox); have GW147 := Aside0.mk ((by rw [hg]; exact (by first | exact HK.out.1 | exact (show Kept w _ (fun k_ => P0_2_ k_ ∨ P0_5_ k_) from by repeat (first | (with_reducible first | exact HK.out | apply Kept.alloc | apply Kept.drewN | apply Kept.drew | refine Kept.setCell ?_ (.inr GW146.out) _) | exact HK.out)).1) : w.heap.size ≤ gb147)); replace HK := Aside0.mk (Kept.below (S := (fun k_ => P0_2_ k_ ∨ P0_5_ k_)) (by repeat (first | (with_reducible first | exact HK.out | apply Kept.alloc | apply Kept.drewN | apply Kept.drew | refine Kept.setCell ?_ (.inr GW146.out) _) | exact HK.out)) hb); have GE147 := Aside0.mk ((by rw [hg]; exact bz_ : w0.heap.size ≤ gb147)); replace HB := Aside0.mk (below_step bl_ hb); have NB146_147 := nl_ hg BK146; have NB147_146 := nm_ hg BK146; replace BK146 := bb_ BK146 hb; clear hb hbox hg) | ((with_reducible refine gate_dst (N := 4) rfl ?_); refine box_event rfl (N := 4) rfl (cs := #[.int .i64 0, .int .i64 0, .slice none 0 0, .int .i64 0, .int .i64 0, .slice none 0 0]) (t := 24) gs_ ?_; intro gb148 hg w200 hbox hb; replace HO0_2 := rb_ HO0_2 hb; replace HO0_5 := rb_ HO0_5 hb; have BK148 := Aside0.mk (hbox); have GW148 := Aside0.mk ((by rw [hg]; exact (by first | exact HK.out.1 | exact (show Kept w _ (fun k_ => P0_2_ k_ ∨ P0_5_ k_) from by repeat (first | (with_reducible first | exact HK.out | apply Kept.alloc | apply Kept.drewN | apply Kept.drew | refine Kept.setCell ?_ (.inr GW146.out) _ | refine Kept.setCell ?_ (.inr GW147.out) _) | exact HK.out)).1) : w.heap.size ≤ gb148)); replace HK := Aside0.mk (Kept.below (S := (fun k_ => P0_2_ k_ ∨ P0_5_ k_)) (by repeat (first | (with_reducible first | exact HK.out | apply Kept.alloc | apply Kept.drewN | apply Kept.drew | refine Kept.setCell ?_ (.inr GW146.out) _ | refine Kept.setCell ?_ (.inr GW147.out) _) | exact HK.out)) hb); have GE148 := Aside0.mk ((by rw [hg]; exact bz_ : w0.heap.size ≤ gb148)); replace HB := Aside0.mk (below_step bl_ hb); have NB146_148 := nl_ hg BK146; have NB148_146 := nm_ hg BK146; replace BK146 := bb_ BK146 hb; have NB147_148 := nl_ hg BK147; have NB148_147 := nm_ hg BK147; replace BK147 := bb_ BK147 hb; clear hb hbox hg; have hnb201 := NB147_146.out; have hnc201 := NB146_147.out; have hnb202 := NB147_148.out; have hnc202 := NB148_147.out; have hcz203_0 : w200.cell? ⟨gb147, 0, none⟩ = some (.int .i64 a1_0) := bc_ BK147.out 0; have hcz203_1 : w200.cell? ⟨gb147, 1, none⟩ = some (.int .i64 a1_1) := bc_ BK147.out 1; have hcz203_2 : w200.cell? ⟨gb147, 2, none⟩ = some (.int .i64 a1_2) := bc_ BK147.out 2; have hfz203_0 := blk_frozen BK147.out 0; have hfz203_1 := blk_frozen BK147.out 1; have hfz203_2 := blk_frozen BK147.out 2; have hnb204 := NB146_148.out; have hnc204 := NB148_146.out; have hcz205_0 : w200.cell? ⟨gb146, 0, none⟩ = some (.int .i64 a0_0) := bc_ BK146.out 0; have hcz205_1 : w200.cell? ⟨gb146, 1, none⟩ = some (.int .i64 a0_1) := bc_ BK146.out 1; have hcz205_2 : w200.cell? ⟨gb146, 2, none⟩ = some (.slice Ao196 l0_2.length co196) := bc_ BK146.out 2; have hcz205_3 : w200.cell? ⟨gb146, 3, none⟩ = some (.int .i64 a0_3) := bc_ BK146.out 3; have hcz205_4 : w200.cell? ⟨gb146, 4, none⟩ = some (.int .i64 a0_4) := bc_ BK146.out 4; have hcz205_5 : w200.cell? ⟨gb146, 5, none⟩ = some (.slice Ao197 l0_5.length co197) := bc_ BK146.out 5; have hfz205_0 := blk_frozen BK146.out 0; have hfz205_1 := blk_frozen BK146.out 1; have hfz205_2 := blk_frozen BK146.out 2; have hfz205_3 := blk_frozen BK146.out 3; have hfz205_4 := blk_frozen BK146.out 4; have hfz205_5 := blk_frozen BK146.out 5) | ((with_reducible refine gate_callee (f := 45) rfl ?_); refine goesL_ (some 30) rfl rfl Try.func45 (by kernel_rfl) rfl #[.int .i64 a1_1, .int .i64 0, .int .i64 (wrap64 ((l0_2.length : Int) - 1))] rfl nc_ ?_; (with_reducible refine (spec_l1In.calls a1_1 0 (wrap64 ((l0_2.length : Int) - 1)) true _ A37.out).mono ?_); rintro e w' ⟨rfl, ⟨nd, rfl⟩⟩; refine ⟨_, rfl, ?_⟩; (try (rw [drewN_self w200]; generalize hq_ : World.drewN w200 _ = w200; have n0_ : Aside0 (Kd.R (Kd.int .i64) 3 w200 w0.heap.size (fun k_ => ((P0_2_ k_ ∨ P0_5_ k_) ∨ w.heap.size ≤ k_) ∧ some k_ ≠ (.slice Ao197 l0_5.length co197 : Value).ownBlock) (.slice Ao196 l0_2.length co196) l0_2) := ⟨by rw [← hq_]; exact (kr_ HO0_2.out)⟩; have n1_ : Aside0 (Kd.R (Kd.int .i64) 3 w200 w0.heap.size (fun k_ => ((P0_2_ k_ ∨ P0_5_ k_) ∨ w.heap.size ≤ k_) ∧ some k_ ≠ (.slice Ao196 l0_2.length co196 : Value).ownBlock) (.slice Ao197 l0_5.length co197) l0_5) := ⟨by rw [← hq_]; exact (kr_ HO0_5.out)⟩; have n2_ : Aside0 (w200.heap[gb146]? = some (.cells #[.int .i64 a0_0, .int .i64 a0_1, .slice Ao196 l0_2.length co196, .int .i64 a0_3, .int .i64 a0_4, .slice Ao197 l0_5.length co197] 24 (0, 0))) := ⟨by rw [← hq_]; exact (kb_ BK146.out)⟩; have n3_ : Aside0 (w200.heap[gb147]? = some (.cells #[.int .i64 a1_0, .int .i64 a1_1, .int .i64 a1_2] 45 (0, 0))) := ⟨by rw [← hq_]; exact (kb_ BK147.out)⟩; have n4_ : Aside0 (w200.heap[gb148]? = some (.cells #[.int .i64 0, .int .i64 0, .slice none 0 0, .int .i64 0, .int .i64 0, .slice none 0 0] 24 (0, 0))) := ⟨by rw [← hq_]; exact (kb_ BK148.out)⟩; have n5_ : Aside0 (Kept w w200 (fun k_ => P0_2_ k_ ∨ P0_5_ k_)) := ⟨by rw [← hq_]; exact (by repeat (first | (with_reducible first | exact HK.out | apply Kept.alloc | apply Kept.drewN | apply Kept.drew | refine Kept.setCell ?_ (.inr GW146.out) _ | refine Kept.setCell ?_ (.inr GW147.out) _ | refine Kept.setCell ?_ (.inr GW148.out) _) | exact HK.out))⟩; have n6_ : Aside0 (Below w0.heap.size w0 w200) := ⟨by rw [← hq_]; exact bl_⟩; clear HO0_2 HO0_5 BK146 BK147 BK148 HK HB hq_; have HO0_2 := n0_; have HO0_5 := n1_; have BK146 := n2_; have BK147 := n3_; have BK148 := n4_; have HK := n5_; have HB := n6_; clear n0_ n1_ n2_ n3_ n4_ n5_ n6_)); (try (have hcz203_0 : w200.cell? ⟨gb147, 0, none⟩ = some (.int .i64 a1_0) := bc_ BK147.out 0)); (try (have hcz203_1 : w200.cell? ⟨gb147, 1, none⟩ = some (.int .i64 a1_1) := bc_ BK147.out 1)); (try (have hcz203_2 : w200.cell? ⟨gb147, 2, none⟩ = some (.int .i64 a1_2) := bc_ BK147.out 2)); (try (have hfz203_0 := blk_frozen BK147.out 0)); (try (have hfz203_1 := blk_frozen BK147.out 1)); (try (have hfz203_2 := blk_frozen BK147.out 2)); (try (have hcz205_0 : w200.cell? ⟨gb146, 0, none⟩ = some (.int .i64 a0_0) := bc_ BK146.out 0)); (try (have hcz205_1 : w200.cell? ⟨gb146, 1, none⟩ = some (.int .i64 a0_1) := bc_ BK146.out 1)); (try (have hcz205_2 : w200.cell? ⟨gb146, 2, none⟩ = some (.slice Ao196 l0_2.length co196) := bc_ BK146.out 2)); (try (have hcz205_3 : w200.cell? ⟨gb146, 3, none⟩ = some (.int .i64 a0_3) := bc_ BK146.out 3)); (try (have hcz205_4 : w200.cell? ⟨gb146, 4, none⟩ = some (.int .i64 a0_4) := bc_ BK146.out 4)); (try (have hcz205_5 : w200.cell? ⟨gb146, 5, none⟩ = some (.slice Ao197 l0_5.length co197) := bc_ BK146.out 5)); (try (have hfz205_0 := blk_frozen BK146.out 0)); (try (have hfz205_1 := blk_frozen BK146.out 1)); (try (have hfz205_2 := blk_frozen BK146.out 2)); (try (have hfz205_3 := blk_frozen BK146.out 3)); (try (have hfz205_4 := blk_frozen BK146.out 4)); (try (have hfz205_5 := blk_frozen BK146.out 5)); have hcz206_0 : w200.cell? ⟨gb148, 0, none⟩ = some (.int .i64 0) := bc_ BK148.out 0; have hcz206_1 : w200.cell? ⟨gb148, 1, none⟩ = some (.int .i64 0) := bc_ BK148.out 1; have hcz206_2 : w200.cell? ⟨gb148, 2, none⟩ = some (.slice none 0 0) := bc_ BK148.out 2; have hcz206_3 : w200.cell? ⟨gb148, 3, none⟩ = some (.int .i64 0) := bc_ BK148.out 3; have hcz206_4 : w200.cell? ⟨gb148, 4, none⟩ = some (.int .i64 0) := bc_ BK148.out 4; have hcz206_5 : w200.cell? ⟨gb148, 5, none⟩ = some (.slice none 0 0) := bc_ BK148.out 5; have hfz206_0 := blk_frozen BK148.out 0; have hfz206_1 := blk_frozen BK148.out 1; have hfz206_2 := blk_frozen BK148.out 2; have hfz206_3 := blk_frozen BK148.out 3; have hfz206_4 := blk_frozen BK148.out 4; have hfz206_5 := blk_frozen BK148.out 5))
  refine bodyPost_ret (results_ct rfl _ _ gb148 24 #[.int .i64 a0_0, .int .i64 a0_1, .slice Ao196 l0_2.length co196, .int .i64 a0_3, .int .i64 a0_4, .slice Ao197 l0_5.length co197] (0, 0) _ rfl (by (with_reducible repeat (first | refine blk_drewN ?_ _ | refine blk_drew ?_ | refine blk_alloc ?_ _)); refine blk_put (cs := #[.int .i64 a0_0, .int .i64 a0_1, .slice Ao196 l0_2.length co196, .int .i64 a0_3, .int .i64 a0_4, .slice none 0 0]) ?_ 5 _ rfl; (with_reducible repeat (first | refine blk_drewN ?_ _ | refine blk_drew ?_ | refine blk_alloc ?_ _)); refine blk_put (cs := #[.int .i64 a0_0, .int .i64 a0_1, .slice Ao196 l0_2.length co196, .int .i64 a0_3, .int .i64 0, .slice none 0 0]) ?_ 4 _ rfl; (with_reducible repeat (first | refine blk_drewN ?_ _ | refine blk_drew ?_ | refine blk_alloc ?_ _)); refine blk_put (cs := #[.int .i64 a0_0, .int .i64 a0_1, .slice Ao196 l0_2.length co196, .int .i64 0, .int .i64 0, .slice none 0 0]) ?_ 3 _ rfl; (with_reducible repeat (first | refine blk_drewN ?_ _ | refine blk_drew ?_ | refine blk_alloc ?_ _)); refine blk_put (cs := #[.int .i64 a0_0, .int .i64 a0_1, .slice none 0 0, .int .i64 0, .int .i64 0, .slice none 0 0]) ?_ 2 _ rfl; (with_reducible repeat (first | refine blk_drewN ?_ _ | refine blk_drew ?_ | refine blk_alloc ?_ _)); refine blk_put (cs := #[.int .i64 a0_0, .int .i64 0, .slice none 0 0, .int .i64 0, .int .i64 0, .slice none 0 0]) ?_ 1 _ rfl; (with_reducible repeat (first | refine blk_drewN ?_ _ | refine blk_drew ?_ | refine blk_alloc ?_ _)); refine blk_put (cs := #[.int .i64 0, .int .i64 0, .slice none 0 0, .int .i64 0, .int .i64 0, .slice none 0 0]) ?_ 0 _ rfl; exact kb_ BK148.out) Try.underlying24 rfl (by kernel_rfl)) rfl ?_
  exact ⟨_, _, ng_, by exact kr_ (Kd.R_mono (Kd.R_far (p := ⟨gb148, 5, none⟩) (Kd.R_far (p := ⟨gb148, 4, none⟩) (Kd.R_far (p := ⟨gb148, 3, none⟩) (Kd.R_far (p := ⟨gb148, 2, none⟩) (Kd.R_far (p := ⟨gb148, 1, none⟩) (Kd.R_far (p := ⟨gb148, 0, none⟩) (Kd.R_types HO0_2.out BK148.out (by decide)) (fun _ hk => hk.2) (.int .i64 a0_0)) (fun _ hk => hk.2) (.int .i64 a0_1)) (fun _ hk => hk.2) (.slice Ao196 l0_2.length co196)) (fun _ hk => hk.2) (.int .i64 a0_3)) (fun _ hk => hk.2) (.int .i64 a0_4)) (fun _ hk => hk.2) (.slice Ao197 l0_5.length co197)) (fun _ hk => ⟨hk.1.1, hk.1.2⟩)), by exact kr_ (Kd.R_mono (Kd.R_far (p := ⟨gb148, 5, none⟩) (Kd.R_far (p := ⟨gb148, 4, none⟩) (Kd.R_far (p := ⟨gb148, 3, none⟩) (Kd.R_far (p := ⟨gb148, 2, none⟩) (Kd.R_far (p := ⟨gb148, 1, none⟩) (Kd.R_far (p := ⟨gb148, 0, none⟩) (Kd.R_types HO0_5.out BK148.out (by decide)) (fun _ hk => hk.2) (.int .i64 a0_0)) (fun _ hk => hk.2) (.int .i64 a0_1)) (fun _ hk => hk.2) (.slice Ao196 l0_2.length co196)) (fun _ hk => hk.2) (.int .i64 a0_3)) (fun _ hk => hk.2) (.int .i64 a0_4)) (fun _ hk => hk.2) (.slice Ao197 l0_5.length co197)) (fun _ hk => ⟨hk.1.1, hk.1.2⟩)), bl_, by repeat (first | (with_reducible first | exact HK.out | apply Kept.alloc | apply Kept.drewN | apply Kept.drew | refine Kept.setCell ?_ (.inr GW146.out) _ | refine Kept.setCell ?_ (.inr GW147.out) _ | refine Kept.setCell ?_ (.inr GW148.out) _) | exact HK.out)⟩
 rw [if_pos c157] at H
 have c157b0 : (a1_0 == 4) = true := beq_iff_eq.mpr c157
 have c157b1 : (a1_0 != 4) = false := bne_eq_false_iff_eq.mpr c157
 clear c157
 replace H := Option.bind_eq_some_iff.mp H
 obtain ⟨t158, A1580, H⟩ := H
 replace H : (if t158 = true then (if 0 ≤ a1_1 then (if a1_1 < (l0_2.length : Int) then ((some (l0_2.set (a1_1 : Int).toNat (wrap64 ((rd l0_2 a1_1) + a1_2)) : List Int)).bind fun y160 => ((spec_GoodLeases.f k a0_0 a0_1 y160 a0_3 a0_4 l0_5).bind fun t161 => (some (a0_0, a0_1, y160, a0_3, a0_4, l0_5, t161)))) else (none)) else (none)) else (some (a0_0, a0_1, l0_2, a0_3, a0_4, l0_5, false))) = some (r1, r2, r3, r4, r5, r6, r7) := H
 have A158 := Aside0.mk A1580
 clear A1580
 by_cases c159 : t158 = true
 rotate_left
 ·replace c159 := Bool.eq_false_iff.mpr c159
  subst c159
  have H1 : (some (a0_0, a0_1, l0_2, a0_3, a0_4, l0_5, false)) = some (r1, r2, r3, r4, r5, r6, r7) := by rw [if_neg (show ¬ (false = true) by decide)] at H; exact H
  clear H
  have H := H1
  clear H1
  simp only [Option.some.injEq, Prod.mk.injEq] at H
  obtain ⟨rfl, rfl, rfl, rfl, rfl, rfl, rfl⟩ := H
  obtain ⟨Ao185, co185, eo185⟩ := Kd.R_slice HO0_2.out
  subst eo185
  obtain ⟨Ao186, co186, eo186⟩ := Kd.R_slice HO0_5.out
  subst eo186
  go_enter Try.func53, Try.ntmps53
  go_wp2_with (first | ((with_reducible refine gate_dst (N := 2) rfl ?_); refine box_event rfl (N := 2) rfl (cs := #[.int .i64 a0_0, .int .i64 a0_1, .slice Ao185 l0_2.length co185, .int .i64 a0_3, .int .i64 a0_4, .slice Ao186 l0_5.length co186]) (t := 24) gs_ ?_; intro gb146 hg w187 hbox hb; replace HO0_2 := rb_ HO0_2 hb; replace HO0_5 := rb_ HO0_5 hb; have BK146 := Aside0.mk (hbox); have GW146 := Aside0.mk ((by rw [hg]; exact (by first | exact HK.out.1 | exact (show Kept w _ (fun k_ => P0_2_ k_ ∨ P0_5_ k_) from by repeat (first | (with_reducible first | exact HK.out | apply Kept.alloc | apply Kept.drewN | apply Kept.drew) | exact HK.out)).1) : w.heap.size ≤ gb146)); replace HK := Aside0.mk (Kept.below (S := (fun k_ => P0_2_ k_ ∨ P0_5_ k_)) (by repeat (first | (with_reducible first | exact HK.out | apply Kept.alloc | apply Kept.drewN | apply Kept.drew) | exact HK.out)) hb); have GE146 := Aside0.mk ((by rw [hg]; exact bz_ : w0.heap.size ≤ gb146)); replace HB := Aside0.mk (below_step bl_ hb); clear hb hbox hg) | ((with_reducible refine gate_dst (N := 3) rfl ?_); refine box_event rfl (N := 3) rfl (cs := #[.int .i64 a1_0, .int .i64 a1_1, .int .i64 a1_2]) (t := 45) gs_ ?_; intro gb147 hg w188 hbox hb; replace HO0_2 := rb_ HO0_2 hb; replace HO0_5 := rb_ HO0_5 hb; have BK147 := Aside0.mk (hbox); have GW147 := Aside0.mk ((by rw [hg]; exact (by first | exact HK.out.1 | exact (show Kept w _ (fun k_ => P0_2_ k_ ∨ P0_5_ k_) from by repeat (first | (with_reducible first | exact HK.out | apply Kept.alloc | apply Kept.drewN | apply Kept.drew | refine Kept.setCell ?_ (.inr GW146.out) _) | exact HK.out)).1) : w.heap.size ≤ gb147)); replace HK := Aside0.mk (Kept.below (S := (fun k_ => P0_2_ k_ ∨ P0_5_ k_)) (by repeat (first | (with_reducible first | exact HK.out | apply Kept.alloc | apply Kept.drewN | apply Kept.drew | refine Kept.setCell ?_ (.inr GW146.out) _) | exact HK.out)) hb); have GE147 := Aside0.mk ((by rw [hg]; exact bz_ : w0.heap.size ≤ gb147)); replace HB := Aside0.mk (below_step bl_ hb); have NB146_147 := nl_ hg BK146; have NB147_146 := nm_ hg BK146; replace BK146 := bb_ BK146 hb; clear hb hbox hg) | ((with_reducible refine gate_dst (N := 4) rfl ?_); refine box_event rfl (N := 4) rfl (cs := #[.int .i64 0, .int .i64 0, .slice none 0 0, .int .i64 0, .int .i64 0, .slice none 0 0]) (t := 24) gs_ ?_; intro gb148 hg w189 hbox hb; replace HO0_2 := rb_ HO0_2 hb; replace HO0_5 := rb_ HO0_5 hb; have BK148 := Aside0.mk (hbox); have GW148 := Aside0.mk ((by rw [hg]; exact (by first | exact HK.out.1 | exact (show Kept w _ (fun k_ => P0_2_ k_ ∨ P0_5_ k_) from by repeat (first | (with_reducible first | exact HK.out | apply Kept.alloc | apply Kept.drewN | apply Kept.drew | refine Kept.setCell ?_ (.inr GW146.out) _ | refine Kept.setCell ?_ (.inr GW147.out) _) | exact HK.out)).1) : w.heap.size ≤ gb148)); replace HK := Aside0.mk (Kept.below (S := (fun k_ => P0_2_ k_ ∨ P0_5_ k_)) (by repeat (first | (with_reducible first | exact HK.out | apply Kept.alloc | apply Kept.drewN | apply Kept.drew | refine Kept.setCell ?_ (.inr GW146.out) _ | refine Kept.setCell ?_ (.inr GW147.out) _) | exact HK.out)) hb); have GE148 := Aside0.mk ((by rw [hg]; exact bz_ : w0.heap.size ≤ gb148)); replace HB := Aside0.mk (below_step bl_ hb); have NB146_148 := nl_ hg BK146; have NB148_146 := nm_ hg BK146; replace BK146 := bb_ BK146 hb; have NB147_148 := nl_ hg BK147; have NB148_147 := nm_ hg BK147; replace BK147 := bb_ BK147 hb; clear hb hbox hg; have hnb190 := NB147_146.out; have hnc190 := NB146_147.out; have hnb191 := NB147_148.out; have hnc191 := NB148_147.out; have hcz192_0 : w189.cell? ⟨gb147, 0, none⟩ = some (.int .i64 a1_0) := bc_ BK147.out 0; have hcz192_1 : w189.cell? ⟨gb147, 1, none⟩ = some (.int .i64 a1_1) := bc_ BK147.out 1; have hcz192_2 : w189.cell? ⟨gb147, 2, none⟩ = some (.int .i64 a1_2) := bc_ BK147.out 2; have hfz192_0 := blk_frozen BK147.out 0; have hfz192_1 := blk_frozen BK147.out 1; have hfz192_2 := blk_frozen BK147.out 2; have hnb193 := NB146_148.out; have hnc193 := NB148_146.out; have hcz194_0 : w189.cell? ⟨gb146, 0, none⟩ = some (.int .i64 a0_0) := bc_ BK146.out 0; have hcz194_1 : w189.cell? ⟨gb146, 1, none⟩ = some (.int .i64 a0_1) := bc_ BK146.out 1; have hcz194_2 : w189.cell? ⟨gb146, 2, none⟩ = some (.slice Ao185 l0_2.length co185) := bc_ BK146.out 2; have hcz194_3 : w189.cell? ⟨gb146, 3, none⟩ = some (.int .i64 a0_3) := bc_ BK146.out 3; have hcz194_4 : w189.cell? ⟨gb146, 4, none⟩ = some (.int .i64 a0_4) := bc_ BK146.out 4; have hcz194_5 : w189.cell? ⟨gb146, 5, none⟩ = some (.slice Ao186 l0_5.length co186) := bc_ BK146.out 5; have hfz194_0 := blk_frozen BK146.out 0; have hfz194_1 := blk_frozen BK146.out 1; have hfz194_2 := blk_frozen BK146.out 2; have hfz194_3 := blk_frozen BK146.out 3; have hfz194_4 := blk_frozen BK146.out 4; have hfz194_5 := blk_frozen BK146.out 5) | ((with_reducible refine gate_callee (f := 45) rfl ?_); refine goesL_ (some 30) rfl rfl Try.func45 (by kernel_rfl) rfl #[.int .i64 a1_1, .int .i64 0, .int .i64 (wrap64 ((l0_2.length : Int) - 1))] rfl nc_ ?_; (with_reducible refine (spec_l1In.calls a1_1 0 (wrap64 ((l0_2.length : Int) - 1)) true _ A37.out).mono ?_); rintro e w' ⟨rfl, ⟨nd, rfl⟩⟩; refine ⟨_, rfl, ?_⟩; (try (rw [drewN_self w189]; generalize hq_ : World.drewN w189 _ = w189; have n0_ : Aside0 (Kd.R (Kd.int .i64) 3 w189 w0.heap.size (fun k_ => ((P0_2_ k_ ∨ P0_5_ k_) ∨ w.heap.size ≤ k_) ∧ some k_ ≠ (.slice Ao186 l0_5.length co186 : Value).ownBlock) (.slice Ao185 l0_2.length co185) l0_2) := ⟨by rw [← hq_]; exact (kr_ HO0_2.out)⟩; have n1_ : Aside0 (Kd.R (Kd.int .i64) 3 w189 w0.heap.size (fun k_ => ((P0_2_ k_ ∨ P0_5_ k_) ∨ w.heap.size ≤ k_) ∧ some k_ ≠ (.slice Ao185 l0_2.length co185 : Value).ownBlock) (.slice Ao186 l0_5.length co186) l0_5) := ⟨by rw [← hq_]; exact (kr_ HO0_5.out)⟩; have n2_ : Aside0 (w189.heap[gb146]? = some (.cells #[.int .i64 a0_0, .int .i64 a0_1, .slice Ao185 l0_2.length co185, .int .i64 a0_3, .int .i64 a0_4, .slice Ao186 l0_5.length co186] 24 (0, 0))) := ⟨by rw [← hq_]; exact (kb_ BK146.out)⟩; have n3_ : Aside0 (w189.heap[gb147]? = some (.cells #[.int .i64 a1_0, .int .i64 a1_1, .int .i64 a1_2] 45 (0, 0))) := ⟨by rw [← hq_]; exact (kb_ BK147.out)⟩; have n4_ : Aside0 (w189.heap[gb148]? = some (.cells #[.int .i64 0, .int .i64 0, .slice none 0 0, .int .i64 0, .int .i64 0, .slice none 0 0] 24 (0, 0))) := ⟨by rw [← hq_]; exact (kb_ BK148.out)⟩; have n5_ : Aside0 (Kept w w189 (fun k_ => P0_2_ k_ ∨ P0_5_ k_)) := ⟨by rw [← hq_]; exact (by repeat (first | (with_reducible first | exact HK.out | apply Kept.alloc | apply Kept.drewN | apply Kept.drew | refine Kept.setCell ?_ (.inr GW146.out) _ | refine Kept.setCell ?_ (.inr GW147.out) _ | refine Kept.setCell ?_ (.inr GW148.out) _) | exact HK.out))⟩; have n6_ : Aside0 (Below w0.heap.size w0 w189) := ⟨by rw [← hq_]; exact bl_⟩; clear HO0_2 HO0_5 BK146 BK147 BK148 HK HB hq_; have HO0_2 := n0_; have HO0_5 := n1_; have BK146 := n2_; have BK147 := n3_; have BK148 := n4_; have HK := n5_; have HB := n6_; clear n0_ n1_ n2_ n3_ n4_ n5_ n6_)); (try (have hcz192_0 : w189.cell? ⟨gb147, 0, none⟩ = some (.int .i64 a1_0) := bc_ BK147.out 0)); (try (have hcz192_1 : w189.cell? ⟨gb147, 1, none⟩ = some (.int .i64 a1_1) := bc_ BK147.out 1)); (try (have hcz192_2 : w189.cell? ⟨gb147, 2, none⟩ = some (.int .i64 a1_2) := bc_ BK147.out 2)); (try (have hfz192_0 := blk_frozen BK147.out 0)); (try (have hfz192_1 := blk_frozen BK147.out 1)); (try (have hfz192_2 := blk_frozen BK147.out 2)); (try (have hcz194_0 : w189.cell? ⟨gb146, 0, none⟩ = some (.int .i64 a0_0) := bc_ BK146.out 0)); (try (have hcz194_1 : w189.cell? ⟨gb146, 1, none⟩ = some (.int .i64 a0_1) := bc_ BK146.out 1)); (try (have hcz194_2 : w189.cell? ⟨gb146, 2, none⟩ = some (.slice Ao185 l0_2.length co185) := bc_ BK146.out 2)); (try (have hcz194_3 : w189.cell? ⟨gb146, 3, none⟩ = some (.int .i64 a0_3) := bc_ BK146.out 3)); (try (have hcz194_4 : w189.cell? ⟨gb146, 4, none⟩ = some (.int .i64 a0_4) := bc_ BK146.out 4)); (try (have hcz194_5 : w189.cell? ⟨gb146, 5, none⟩ = some (.slice Ao186 l0_5.length co186) := bc_ BK146.out 5)); (try (have hfz194_0 := blk_frozen BK146.out 0)); (try (have hfz194_1 := blk_frozen BK146.out 1)); (try (have hfz194_2 := blk_frozen BK146.out 2)); (try (have hfz194_3 := blk_frozen BK146.out 3)); (try (have hfz194_4 := blk_frozen BK146.out 4)); (try (have hfz194_5 := blk_frozen BK146.out 5))) | ((with_reducible refine gate_callee (f := 45) rfl ?_); refine goesL_ (some 99) rfl rfl Try.func45 (by kernel_rfl) rfl #[.int .i64 a1_2, .int .i64 (-1000), .int .i64 1000000] rfl nc_ ?_; (with_reducible refine (spec_l1In.calls a1_2 (-1000) 1000000 false _ A158.out).mono ?_); rintro e w' ⟨rfl, ⟨nd, rfl⟩⟩; refine ⟨_, rfl, ?_⟩; (try (rw [drewN_self w189]; generalize hq_ : World.drewN w189 _ = w189; have n0_ : Aside0 (Kd.R (Kd.int .i64) 3 w189 w0.heap.size (fun k_ => ((P0_2_ k_ ∨ P0_5_ k_) ∨ w.heap.size ≤ k_) ∧ some k_ ≠ (.slice Ao186 l0_5.length co186 : Value).ownBlock) (.slice Ao185 l0_2.length co185) l0_2) := ⟨by rw [← hq_]; exact (kr_ HO0_2.out)⟩; have n1_ : Aside0 (Kd.R (Kd.int .i64) 3 w189 w0.heap.size (fun k_ => ((P0_2_ k_ ∨ P0_5_ k_) ∨ w.heap.size ≤ k_) ∧ some k_ ≠ (.slice Ao185 l0_2.length co185 : Value).ownBlock) (.slice Ao186 l0_5.length co186) l0_5) := ⟨by rw [← hq_]; exact (kr_ HO0_5.out)⟩; have n2_ : Aside0 (w189.heap[gb146]? = some (.cells #[.int .i64 a0_0, .int .i64 a0_1, .slice Ao185 l0_2.length co185, .int .i64 a0_3, .int .i64 a0_4, .slice Ao186 l0_5.length co186] 24 (0, 0))) := ⟨by rw [← hq_]; exact (kb_ BK146.out)⟩; have n3_ : Aside0 (w189.heap[gb147]? = some (.cells #[.int .i64 a1_0, .int .i64 a1_1, .int .i64 a1_2] 45 (0, 0))) := ⟨by rw [← hq_]; exact (kb_ BK147.out)⟩; have n4_ : Aside0 (w189.heap[gb148]? = some (.cells #[.int .i64 0, .int .i64 0, .slice none 0 0, .int .i64 0, .int .i64 0, .slice none 0 0] 24 (0, 0))) := ⟨by rw [← hq_]; exact (kb_ BK148.out)⟩; have n5_ : Aside0 (Kept w w189 (fun k_ => P0_2_ k_ ∨ P0_5_ k_)) := ⟨by rw [← hq_]; exact (by repeat (first | (with_reducible first | exact HK.out | apply Kept.alloc | apply Kept.drewN | apply Kept.drew | refine Kept.setCell ?_ (.inr GW146.out) _ | refine Kept.setCell ?_ (.inr GW147.out) _ | refine Kept.setCell ?_ (.inr GW148.out) _) | exact HK.out))⟩; have n6_ : Aside0 (Below w0.heap.size w0 w189) := ⟨by rw [← hq_]; exact bl_⟩; clear HO0_2 HO0_5 BK146 BK147 BK148 HK HB hq_; have HO0_2 := n0_; have HO0_5 := n1_; have BK146 := n2_; have BK147 := n3_; have BK148 := n4_; have HK := n5_; have HB := n6_; clear n0_ n1_ n2_ n3_ n4_ n5_ n6_)); (try (have hcz192_0 : w189.cell? ⟨gb147, 0, none⟩ = some (.int .i64 a1_0) := bc_ BK147.out 0)); (try (have hcz192_1 : w189.cell? ⟨gb147, 1, none⟩ = some (.int .i64 a1_1) := bc_ BK147.out 1)); (try (have hcz192_2 : w189.cell? ⟨gb147, 2, none⟩ = some (.int .i64 a1_2) := bc_ BK147.out 2)); (try (have hfz192_0 := blk_frozen BK147.out 0)); (try (have hfz192_1 := blk_frozen BK147.out 1)); (try (have hfz192_2 := blk_frozen BK147.out 2)); (try (have hcz194_0 : w189.cell? ⟨gb146, 0, none⟩ = some (.int .i64 a0_0) := bc_ BK146.out 0)); (try (have hcz194_1 : w189.cell? ⟨gb146, 1, none⟩ = some (.int .i64 a0_1) := bc_ BK146.out 1)); (try (have hcz194_2 : w189.cell? ⟨gb146, 2, none⟩ = some (.slice Ao185 l0_2.length co185) := bc_ BK146.out 2)); (try (have hcz194_3 : w189.cell? ⟨gb146, 3, none⟩ = some (.int .i64 a0_3) := bc_ BK146.out 3)); (try (have hcz194_4 : w189.cell? ⟨gb146, 4, none⟩ = some (.int .i64 a0_4) := bc_ BK146.out 4)); (try (have hcz194_5 : w189.cell? ⟨gb146, 5, none⟩ = some (.slice Ao186 l0_5.length co186) := bc_ BK146.out 5)); (try (have hfz194_0 := blk_frozen BK146.out 0)); (try (have hfz194_1 := blk_frozen BK146.out 1)); (try (have hfz194_2 := blk_frozen BK146.out 2)); (try (have hfz194_3 := blk_frozen BK146.out 3)); (try (have hfz194_4 := blk_frozen BK146.out 4)); (try (have hfz194_5 := blk_frozen BK146.out 5)); have hcz195_0 : w189.cell? ⟨gb148, 0, none⟩ = some (.int .i64 0) := bc_ BK148.out 0; have hcz195_1 : w189.cell? ⟨gb148, 1, none⟩ = some (.int .i64 0) := bc_ BK148.out 1; have hcz195_2 : w189.cell? ⟨gb148, 2, none⟩ = some (.slice none 0 0) := bc_ BK148.out 2; have hcz195_3 : w189.cell? ⟨gb148, 3, none⟩ = some (.int .i64 0) := bc_ BK148.out 3; have hcz195_4 : w189.cell? ⟨gb148, 4, none⟩ = some (.int .i64 0) := bc_ BK148.out 4; have hcz195_5 : w189.cell? ⟨gb148, 5, none⟩ = some (.slice none 0 0) := bc_ BK148.out 5; have hfz195_0 := blk_frozen BK148.out 0; have hfz195_1 := blk_frozen BK148.out 1; have hfz195_2 := blk_frozen BK148.out 2; have hfz195_3 := blk_frozen BK148.out 3; have hfz195_4 := blk_frozen BK148.out 4; have hfz195_5 := blk_frozen BK148.out 5))
  refine bodyPost_ret (results_ct rfl _ _ gb148 24 #[.int .i64 a0_0, .int .i64 a0_1, .slice Ao185 l0_2.length co185, .int .i64 a0_3, .int .i64 a0_4, .slice Ao186 l0_5.length co186] (0, 0) _ rfl (by (with_reducible repeat (first | refine blk_drewN ?_ _ | refine blk_drew ?_ | refine blk_alloc ?_ _)); refine blk_put (cs := #[.int .i64 a0_0, .int .i64 a0_1, .slice Ao185 l0_2.length co185, .int .i64 a0_3, .int .i64 a0_4, .slice none 0 0]) ?_ 5 _ rfl; (with_reducible repeat (first | refine blk_drewN ?_ _ | refine blk_drew ?_ | refine blk_alloc ?_ _)); refine blk_put (cs := #[.int .i64 a0_0, .int .i64 a0_1, .slice Ao185 l0_2.length co185, .int .i64 a0_3, .int .i64 0, .slice none 0 0]) ?_ 4 _ rfl; (with_reducible repeat (first | refine blk_drewN ?_ _ | refine blk_drew ?_ | refine blk_alloc ?_ _)); refine blk_put (cs := #[.int .i64 a0_0, .int .i64 a0_1, .slice Ao185 l0_2.length co185, .int .i64 0, .int .i64 0, .slice none 0 0]) ?_ 3 _ rfl; (with_reducible repeat (first | refine blk_drewN ?_ _ | refine blk_drew ?_ | refine blk_alloc ?_ _)); refine blk_put (cs := #[.int .i64 a0_0, .int .i64 a0_1, .slice none 0 0, .int .i64 0, .int .i64 0, .slice none 0 0]) ?_ 2 _ rfl; (with_reducible repeat (first | refine blk_drewN ?_ _ | refine blk_drew ?_ | refine blk_alloc ?_ _)); refine blk_put (cs := #[.int .i64 a0_0, .int .i64 0, .slice none 0 0, .int .i64 0, .int .i64 0, .slice none 0 0]) ?_ 1 _ rfl; (with_reducible repeat (first | refine blk_drewN ?_ _ | refine blk_drew ?_ | refine blk_alloc ?_ _)); refine blk_put (cs := #[.int .i64 0, .int .i64 0, .slice none 0 0, .int .i64 0, .int .i64 0, .slice none 0 0]) ?_ 0 _ rfl; exact kb_ BK148.out) Try.underlying24 rfl (by kernel_rfl)) rfl ?_
  exact ⟨_, _, ng_, by exact kr_ (Kd.R_mono (Kd.R_far (p := ⟨gb148, 5, none⟩) (Kd.R_far (p := ⟨gb148, 4, none⟩) (Kd.R_far (p := ⟨gb148, 3, none⟩) (Kd.R_far (p := ⟨gb148, 2, none⟩) (Kd.R_far (p := ⟨gb148, 1, none⟩) (Kd.R_far (p := ⟨gb148, 0, none⟩) (Kd.R_types HO0_2.out BK148.out (by decide)) (fun _ hk => hk.2) (.int .i64 a0_0)) (fun _ hk => hk.2) (.int .i64 a0_1)) (fun _ hk => hk.2) (.slice Ao185 l0_2.length co185)) (fun _ hk => hk.2) (.int .i64 a0_3)) (fun _ hk => hk.2) (.int .i64 a0_4)) (fun _ hk => hk.2) (.slice Ao186 l0_5.length co186)) (fun _ hk => ⟨hk.1.1, hk.1.2⟩)), by exact kr_ (Kd.R_mono (Kd.R_far (p := ⟨gb148, 5, none⟩) (Kd.R_far (p := ⟨gb148, 4, none⟩) (Kd.R_far (p := ⟨gb148, 3, none⟩) (Kd.R_far (p := ⟨gb148, 2, none⟩) (Kd.R_far (p := ⟨gb148, 1, none⟩) (Kd.R_far (p := ⟨gb148, 0, none⟩) (Kd.R_types HO0_5.out BK148.out (by decide)) (fun _ hk => hk.2) (.int .i64 a0_0)) (fun _ hk => hk.2) (.int .i64 a0_1)) (fun _ hk => hk.2) (.slice Ao185 l0_2.length co185)) (fun _ hk => hk.2) (.int .i64 a0_3)) (fun _ hk => hk.2) (.int .i64 a0_4)) (fun _ hk => hk.2) (.slice Ao186 l0_5.length co186)) (fun _ hk => ⟨hk.1.1, hk.1.2⟩)), bl_, by repeat (first | (with_reducible first | exact HK.out | apply Kept.alloc | apply Kept.drewN | apply Kept.drew | refine Kept.setCell ?_ (.inr GW146.out) _ | refine Kept.setCell ?_ (.inr GW147.out) _ | refine Kept.setCell ?_ (.inr GW148.out) _) | exact HK.out)⟩
 subst c159
 have H1 : (if 0 ≤ a1_1 then (if a1_1 < (l0_2.length : Int) then ((some (l0_2.set (a1_1 : Int).toNat (wrap64 ((rd l0_2 a1_1) + a1_2)) : List Int)).bind fun y160 => ((spec_GoodLeases.f k a0_0 a0_1 y160 a0_3 a0_4 l0_5).bind fun t161 => (some (a0_0, a0_1, y160, a0_3, a0_4, l0_5, t161)))) else (none)) else (none)) = some (r1, r2, r3, r4, r5, r6, r7) := by rw [if_pos rfl] at H; exact H
 clear H
 have H := H1
 clear H1
 by_cases c160 : 0 ≤ a1_1
 rotate_left
 ·rw [if_neg c160] at H
  exact absurd H (by simp)
 rw [if_pos c160] at H
 have c160b0 : decide (0 ≤ a1_1) = true := decide_eq_true c160
 clear c160
 by_cases c161 : a1_1 < (l0_2.length : Int)
 rotate_left
 ·rw [if_neg c161] at H
  exact absurd H (by simp)
 rw [if_pos c161] at H
 have c161b0 : decide (a1_1 < (l0_2.length : Int)) = true := decide_eq_true c161
 clear c161
 obtain ⟨y160, hy160⟩ : ∃ y_ : List Int, y_ = (l0_2.set (a1_1 : Int).toNat (wrap64 ((rd l0_2 a1_1) + a1_2))) := ⟨_, rfl⟩
 replace H : ((spec_GoodLeases.f k a0_0 a0_1 y160 a0_3 a0_4 l0_5).bind fun t161 => (some (a0_0, a0_1, y160, a0_3, a0_4, l0_5, t161))) = some (r1, r2, r3, r4, r5, r6, r7) := by first | (rw [hy160]; with_reducible exact H) | (have H2_ := (Option.bind_some _ _).symm.trans H; rw [hy160]; with_reducible exact H2_) | (have H2_ := (Option.bind_some _ _).symm.trans H; with_reducible exact H2_) | with_reducible exact H | (rw [hy160]; exact H) | exact H
 have Ny160 := Aside0.mk hy160
 clear hy160
 replace H := Option.bind_eq_some_iff.mp H
 obtain ⟨t161, A1630, H⟩ := H
 replace H : (some (a0_0, a0_1, y160, a0_3, a0_4, l0_5, t161)) = some (r1, r2, r3, r4, r5, r6, r7) := H
 have A163 := Aside0.mk A1630
 clear A1630
 simp only [Option.some.injEq, Prod.mk.injEq] at H
 obtain ⟨rfl, rfl, rfl, rfl, rfl, rfl, rfl⟩ := H
 obtain ⟨Ao164, co164, eo164⟩ := Kd.R_slice HO0_2.out
 subst eo164
 obtain ⟨Ao165, co165, eo165⟩ := Kd.R_slice HO0_5.out
 subst eo165
 go_enter Try.func53, Try.ntmps53
 try go_wp2_with (first | ((with_reducible refine gate_dst (N := 2) rfl ?_); refine box_event rfl (N := 2) rfl (cs := #[.int .i64 a0_0, .int .i64 a0_1, .slice Ao164 l0_2.length co164, .int .i64 a0_3, .int .i64 a0_4, .slice Ao165 l0_5.length co165]) (t := 24) gs_ ?_; intro gb146 hg w166 hbox hb; replace HO0_2 := rb_ HO0_2 hb; replace HO0_5 := rb_ HO0_5 hb; have BK146 := Aside0.mk (hbox); have GW146 := Aside0.mk ((by rw [hg]; exact (by first | exact HK.out.1 | exact (show Kept w _ (fun k_ => P0_2_ k_ ∨ P0_5_ k_) from by repeat (first | (with_reducible first | exact HK.out | apply Kept.alloc | apply Kept.drewN | apply Kept.drew) | exact HK.out)).1) : w.heap.size ≤ gb146)); replace HK := Aside0.mk (Kept.below (S := (fun k_ => P0_2_ k_ ∨ P0_5_ k_)) (by repeat (first | (with_reducible first | exact HK.out | apply Kept.alloc | apply Kept.drewN | apply Kept.drew) | exact HK.out)) hb); have GE146 := Aside0.mk ((by rw [hg]; exact bz_ : w0.heap.size ≤ gb146)); replace HB := Aside0.mk (below_step bl_ hb); clear hb hbox hg) | ((with_reducible refine gate_dst (N := 3) rfl ?_); refine box_event rfl (N := 3) rfl (cs := #[.int .i64 a1_0, .int .i64 a1_1, .int .i64 a1_2]) (t := 45) gs_ ?_; intro gb147 hg w167 hbox hb; replace HO0_2 := rb_ HO0_2 hb; replace HO0_5 := rb_ HO0_5 hb; have BK147 := Aside0.mk (hbox); have GW147 := Aside0.mk ((by rw [hg]; exact (by first | exact HK.out.1 | exact (show Kept w _ (fun k_ => P0_2_ k_ ∨ P0_5_ k_) from by repeat (first | (with_reducible first | exact HK.out | apply Kept.alloc | apply Kept.drewN | apply Kept.drew | refine Kept.setCell ?_ (.inr GW146.out) _) | exact HK.out)).1) : w.heap.size ≤ gb147)); replace HK := Aside0.mk (Kept.below (S := (fun k_ => P0_2_ k_ ∨ P0_5_ k_)) (by repeat (first | (with_reducible first | exact HK.out | apply Kept.alloc | apply Kept.drewN | apply Kept.drew | refine Kept.setCell ?_ (.inr GW146.out) _) | exact HK.out)) hb); have GE147 := Aside0.mk ((by rw [hg]; exact bz_ : w0.heap.size ≤ gb147)); replace HB := Aside0.mk (below_step bl_ hb); have NB146_147 := nl_ hg BK146; have NB147_146 := nm_ hg BK146; replace BK146 := bb_ BK146 hb; clear hb hbox hg) | ((with_reducible refine gate_dst (N := 4) rfl ?_); refine box_event rfl (N := 4) rfl (cs := #[.int .i64 0, .int .i64 0, .slice none 0 0, .int .i64 0, .int .i64 0, .slice none 0 0]) (t := 24) gs_ ?_; intro gb148 hg w168 hbox hb; replace HO0_2 := rb_ HO0_2 hb; replace HO0_5 := rb_ HO0_5 hb; have BK148 := Aside0.mk (hbox); have GW148 := Aside0.mk ((by rw [hg]; exact (by first | exact HK.out.1 | exact (show Kept w _ (fun k_ => P0_2_ k_ ∨ P0_5_ k_) from by repeat (first | (with_reducible first | exact HK.out | apply Kept.alloc | apply Kept.drewN | apply Kept.drew | refine Kept.setCell ?_ (.inr GW146.out) _ | refine Kept.setCell ?_ (.inr GW147.out) _) | exact HK.out)).1) : w.heap.size ≤ gb148)); replace HK := Aside0.mk (Kept.below (S := (fun k_ => P0_2_ k_ ∨ P0_5_ k_)) (by repeat (first | (with_reducible first | exact HK.out | apply Kept.alloc | apply Kept.drewN | apply Kept.drew | refine Kept.setCell ?_ (.inr GW146.out) _ | refine Kept.setCell ?_ (.inr GW147.out) _) | exact HK.out)) hb); have GE148 := Aside0.mk ((by rw [hg]; exact bz_ : w0.heap.size ≤ gb148)); replace HB := Aside0.mk (below_step bl_ hb); have NB146_148 := nl_ hg BK146; have NB148_146 := nm_ hg BK146; replace BK146 := bb_ BK146 hb; have NB147_148 := nl_ hg BK147; have NB148_147 := nm_ hg BK147; replace BK147 := bb_ BK147 hb; clear hb hbox hg; have hnb169 := NB147_146.out; have hnc169 := NB146_147.out; have hnb170 := NB147_148.out; have hnc170 := NB148_147.out; have hcz171_0 : w168.cell? ⟨gb147, 0, none⟩ = some (.int .i64 a1_0) := bc_ BK147.out 0; have hcz171_1 : w168.cell? ⟨gb147, 1, none⟩ = some (.int .i64 a1_1) := bc_ BK147.out 1; have hcz171_2 : w168.cell? ⟨gb147, 2, none⟩ = some (.int .i64 a1_2) := bc_ BK147.out 2; have hfz171_0 := blk_frozen BK147.out 0; have hfz171_1 := blk_frozen BK147.out 1; have hfz171_2 := blk_frozen BK147.out 2; have hnb172 := NB146_148.out; have hnc172 := NB148_146.out; have hcz173_0 : w168.cell? ⟨gb146, 0, none⟩ = some (.int .i64 a0_0) := bc_ BK146.out 0; have hcz173_1 : w168.cell? ⟨gb146, 1, none⟩ = some (.int .i64 a0_1) := bc_ BK146.out 1; have hcz173_2 : w168.cell? ⟨gb146, 2, none⟩ = some (.slice Ao164 l0_2.length co164) := bc_ BK146.out 2; have hcz173_3 : w168.cell? ⟨gb146, 3, none⟩ = some (.int .i64 a0_3) := bc_ BK146.out 3; have hcz173_4 : w168.cell? ⟨gb146, 4, none⟩ = some (.int .i64 a0_4) := bc_ BK146.out 4; have hcz173_5 : w168.cell? ⟨gb146, 5, none⟩ = some (.slice Ao165 l0_5.length co165) := bc_ BK146.out 5; have hfz173_0 := blk_frozen BK146.out 0; have hfz173_1 := blk_frozen BK146.out 1; have hfz173_2 := blk_frozen BK146.out 2; have hfz173_3 := blk_frozen BK146.out 3; have hfz173_4 := blk_frozen BK146.out 4; have hfz173_5 := blk_frozen BK146.out 5) | ((with_reducible refine gate_callee (f := 45) rfl ?_); refine goesL_ (some 30) rfl rfl Try.func45 (by kernel_rfl) rfl #[.int .i64 a1_1, .int .i64 0, .int .i64 (wrap64 ((l0_2.length : Int) - 1))] rfl nc_ ?_; (with_reducible refine (spec_l1In.calls a1_1 0 (wrap64 ((l0_2.length : Int) - 1)) true _ A37.out).mono ?_); rintro e w' ⟨rfl, ⟨nd, rfl⟩⟩; refine ⟨_, rfl, ?_⟩; (try (rw [drewN_self w168]; generalize hq_ : World.drewN w168 _ = w168; have n0_ : Aside0 (Kd.R (Kd.int .i64) 3 w168 w0.heap.size (fun k_ => ((P0_2_ k_ ∨ P0_5_ k_) ∨ w.heap.size ≤ k_) ∧ some k_ ≠ (.slice Ao165 l0_5.length co165 : Value).ownBlock) (.slice Ao164 l0_2.length co164) l0_2) := ⟨by rw [← hq_]; exact (kr_ HO0_2.out)⟩; have n1_ : Aside0 (Kd.R (Kd.int .i64) 3 w168 w0.heap.size (fun k_ => ((P0_2_ k_ ∨ P0_5_ k_) ∨ w.heap.size ≤ k_) ∧ some k_ ≠ (.slice Ao164 l0_2.length co164 : Value).ownBlock) (.slice Ao165 l0_5.length co165) l0_5) := ⟨by rw [← hq_]; exact (kr_ HO0_5.out)⟩; have n2_ : Aside0 (w168.heap[gb146]? = some (.cells #[.int .i64 a0_0, .int .i64 a0_1, .slice Ao164 l0_2.length co164, .int .i64 a0_3, .int .i64 a0_4, .slice Ao165 l0_5.length co165] 24 (0, 0))) := ⟨by rw [← hq_]; exact (kb_ BK146.out)⟩; have n3_ : Aside0 (w168.heap[gb147]? = some (.cells #[.int .i64 a1_0, .int .i64 a1_1, .int .i64 a1_2] 45 (0, 0))) := ⟨by rw [← hq_]; exact (kb_ BK147.out)⟩; have n4_ : Aside0 (w168.heap[gb148]? = some (.cells #[.int .i64 0, .int .i64 0, .slice none 0 0, .int .i64 0, .int .i64 0, .slice none 0 0] 24 (0, 0))) := ⟨by rw [← hq_]; exact (kb_ BK148.out)⟩; have n5_ : Aside0 (Kept w w168 (fun k_ => P0_2_ k_ ∨ P0_5_ k_)) := ⟨by rw [← hq_]; exact (by repeat (first | (with_reducible first | exact HK.out | apply Kept.alloc | apply Kept.drewN | apply Kept.drew | refine Kept.setCell ?_ (.inr GW146.out) _ | refine Kept.setCell ?_ (.inr GW147.out) _ | refine Kept.setCell ?_ (.inr GW148.out) _) | exact HK.out))⟩; have n6_ : Aside0 (Below w0.heap.size w0 w168) := ⟨by rw [← hq_]; exact bl_⟩; clear HO0_2 HO0_5 BK146 BK147 BK148 HK HB hq_; have HO0_2 := n0_; have HO0_5 := n1_; have BK146 := n2_; have BK147 := n3_; have BK148 := n4_; have HK := n5_; have HB := n6_; clear n0_ n1_ n2_ n3_ n4_ n5_ n6_)); (try (have hcz171_0 : w168.cell? ⟨gb147, 0, none⟩ = some (.int .i64 a1_0) := bc_ BK147.out 0)); (try (have hcz171_1 : w168.cell? ⟨gb147, 1, none⟩ = some (.int .i64 a1_1) := bc_ BK147.out 1)); (try (have hcz171_2 : w168.cell? ⟨gb147, 2, none⟩ = some (.int .i64 a1_2) := bc_ BK147.out 2)); (try (have hfz171_0 := blk_frozen BK147.out 0)); (try (have hfz171_1 := blk_frozen BK147.out 1)); (try (have hfz171_2 := blk_frozen BK147.out 2)); (try (have hcz173_0 : w168.cell? ⟨gb146, 0, none⟩ = some (.int .i64 a0_0) := bc_ BK146.out 0)); (try (have hcz173_1 : w168.cell? ⟨gb146, 1, none⟩ = some (.int .i64 a0_1) := bc_ BK146.out 1)); (try (have hcz173_2 : w168.cell? ⟨gb146, 2, none⟩ = some (.slice Ao164 l0_2.length co164) := bc_ BK146.out 2)); (try (have hcz173_3 : w168.cell? ⟨gb146, 3, none⟩ = some (.int .i64 a0_3) := bc_ BK146.out 3)); (try (have hcz173_4 : w168.cell? ⟨gb146, 4, none⟩ = some (.int .i64 a0_4) := bc_ BK146.out 4)); (try (have hcz173_5 : w168.cell? ⟨gb146, 5, none⟩ = some (.slice Ao165 l0_5.length co165) := bc_ BK146.out 5)); (try (have hfz173_0 := blk_frozen BK146.out 0)); (try (have hfz173_1 := blk_frozen BK146.out 1)); (try (have hfz173_2 := blk_frozen BK146.out 2)); (try (have hfz173_3 := blk_frozen BK146.out 3)); (try (have hfz173_4 := blk_frozen BK146.out 4)); (try (have hfz173_5 := blk_frozen BK146.out 5))) | ((with_reducible refine gate_callee (f := 45) rfl ?_); refine goesL_ (some 99) rfl rfl Try.func45 (by kernel_rfl) rfl #[.int .i64 a1_2, .int .i64 (-1000), .int .i64 1000000] rfl nc_ ?_; (with_reducible refine (spec_l1In.calls a1_2 (-1000) 1000000 true _ A158.out).mono ?_); rintro e w' ⟨rfl, ⟨nd, rfl⟩⟩; refine ⟨_, rfl, ?_⟩; (try (rw [drewN_self w168]; generalize hq_ : World.drewN w168 _ = w168; have n0_ : Aside0 (Kd.R (Kd.int .i64) 3 w168 w0.heap.size (fun k_ => ((P0_2_ k_ ∨ P0_5_ k_) ∨ w.heap.size ≤ k_) ∧ some k_ ≠ (.slice Ao165 l0_5.length co165 : Value).ownBlock) (.slice Ao164 l0_2.length co164) l0_2) := ⟨by rw [← hq_]; exact (kr_ HO0_2.out)⟩; have n1_ : Aside0 (Kd.R (Kd.int .i64) 3 w168 w0.heap.size (fun k_ => ((P0_2_ k_ ∨ P0_5_ k_) ∨ w.heap.size ≤ k_) ∧ some k_ ≠ (.slice Ao164 l0_2.length co164 : Value).ownBlock) (.slice Ao165 l0_5.length co165) l0_5) := ⟨by rw [← hq_]; exact (kr_ HO0_5.out)⟩; have n2_ : Aside0 (w168.heap[gb146]? = some (.cells #[.int .i64 a0_0, .int .i64 a0_1, .slice Ao164 l0_2.length co164, .int .i64 a0_3, .int .i64 a0_4, .slice Ao165 l0_5.length co165] 24 (0, 0))) := ⟨by rw [← hq_]; exact (kb_ BK146.out)⟩; have n3_ : Aside0 (w168.heap[gb147]? = some (.cells #[.int .i64 a1_0, .int .i64 a1_1, .int .i64 a1_2] 45 (0, 0))) := ⟨by rw [← hq_]; exact (kb_ BK147.out)⟩; have n4_ : Aside0 (w168.heap[gb148]? = some (.cells #[.int .i64 0, .int .i64 0, .slice none 0 0, .int .i64 0, .int .i64 0, .slice none 0 0] 24 (0, 0))) := ⟨by rw [← hq_]; exact (kb_ BK148.out)⟩; have n5_ : Aside0 (Kept w w168 (fun k_ => P0_2_ k_ ∨ P0_5_ k_)) := ⟨by rw [← hq_]; exact (by repeat (first | (with_reducible first | exact HK.out | apply Kept.alloc | apply Kept.drewN | apply Kept.drew | refine Kept.setCell ?_ (.inr GW146.out) _ | refine Kept.setCell ?_ (.inr GW147.out) _ | refine Kept.setCell ?_ (.inr GW148.out) _) | exact HK.out))⟩; have n6_ : Aside0 (Below w0.heap.size w0 w168) := ⟨by rw [← hq_]; exact bl_⟩; clear HO0_2 HO0_5 BK146 BK147 BK148 HK HB hq_; have HO0_2 := n0_; have HO0_5 := n1_; have BK146 := n2_; have BK147 := n3_; have BK148 := n4_; have HK := n5_; have HB := n6_; clear n0_ n1_ n2_ n3_ n4_ n5_ n6_)); (try (have hcz171_0 : w168.cell? ⟨gb147, 0, none⟩ = some (.int .i64 a1_0) := bc_ BK147.out 0)); (try (have hcz171_1 : w168.cell? ⟨gb147, 1, none⟩ = some (.int .i64 a1_1) := bc_ BK147.out 1)); (try (have hcz171_2 : w168.cell? ⟨gb147, 2, none⟩ = some (.int .i64 a1_2) := bc_ BK147.out 2)); (try (have hfz171_0 := blk_frozen BK147.out 0)); (try (have hfz171_1 := blk_frozen BK147.out 1)); (try (have hfz171_2 := blk_frozen BK147.out 2)); (try (have hcz173_0 : w168.cell? ⟨gb146, 0, none⟩ = some (.int .i64 a0_0) := bc_ BK146.out 0)); (try (have hcz173_1 : w168.cell? ⟨gb146, 1, none⟩ = some (.int .i64 a0_1) := bc_ BK146.out 1)); (try (have hcz173_2 : w168.cell? ⟨gb146, 2, none⟩ = some (.slice Ao164 l0_2.length co164) := bc_ BK146.out 2)); (try (have hcz173_3 : w168.cell? ⟨gb146, 3, none⟩ = some (.int .i64 a0_3) := bc_ BK146.out 3)); (try (have hcz173_4 : w168.cell? ⟨gb146, 4, none⟩ = some (.int .i64 a0_4) := bc_ BK146.out 4)); (try (have hcz173_5 : w168.cell? ⟨gb146, 5, none⟩ = some (.slice Ao165 l0_5.length co165) := bc_ BK146.out 5)); (try (have hfz173_0 := blk_frozen BK146.out 0)); (try (have hfz173_1 := blk_frozen BK146.out 1)); (try (have hfz173_2 := blk_frozen BK146.out 2)); (try (have hfz173_3 := blk_frozen BK146.out 3)); (try (have hfz173_4 := blk_frozen BK146.out 4)); (try (have hfz173_5 := blk_frozen BK146.out 5))))
 replace HO0_2 := Aside0.mk (Kd.R_drew HO0_2.out)
 replace HO0_5 := Aside0.mk (Kd.R_drew HO0_5.out)
 replace BK146 := Aside0.mk (blk_drew BK146.out)
 replace BK147 := Aside0.mk (blk_drew BK147.out)
 replace BK148 := Aside0.mk (blk_drew BK148.out)
 replace HK := Aside0.mk (Kept.drew HK.out)
 replace HB := Aside0.mk (below_drew1 HB.out)
 have p159 : 0 ≤ (a1_1 : Int) := of_decide_eq_true (by first | (with_reducible assumption) | assumption)
 have q159 : a1_1 < (l0_2.length : Int) := of_decide_eq_true (by first | (with_reducible assumption) | assumption)
 obtain ⟨ad159, e159, hx159_0⟩ := Kd.at_int (Kd.R_reads' HO0_2.out).2.2 a1_1 p159 q159
 cases e159
 replace p159 := eq_true p159
 replace q159 := eq_true q159
 have p162 : 0 ≤ (a1_1 : Int) := of_decide_eq_true (by first | (with_reducible assumption) | assumption)
 have q162 : (a1_1 : Int) < ((l0_2.length : Int) : Int) := of_decide_eq_true (by first | (with_reducible assumption) | assumption)
 obtain ⟨go162, co162, eo162, gb162, gl162, cl162, HG162⟩ := Kd.R_form HO0_2.out (by omega)
 (first | cases eo162 | (injection eo162 with ea_ en_ ec_; (first | subst ea_ | (injection ea_ with ea_; subst ea_)); subst ec_; clear en_))
 have GB162 := Aside0.mk gb162
 have GG162 := Aside0.mk HG162
 clear gb162 gl162 HG162
 have HMgo162 := Aside0.mk (show ((P0_2_ go162 ∨ P0_5_ go162) ∨ w.heap.size ≤ go162) from (HO0_2.out.1 _ rfl).1)
 (first | simp only [add_plain] at hx159_0 | skip)
 obtain ⟨hx162_0, hf162_0⟩ := Kd.R_celln 0 HO0_2.out (a1_1 : Int) p162 q162
 replace p162 := eq_true p162
 replace q162 := eq_true q162
 have HP175 := Kd.R_putn HO0_2.out (a1_1 : Int) (wrap64 ((rd l0_2 a1_1) + a1_2))
 rw [← Ny160.out] at HP175
 have HQ175 := Aside0.mk HP175
 clear HP175
 refine start_ (n := 11) (S := fun w' => w'.cell? ⟨gb146, 0, none⟩ = some (.int .i64 a0_0) ∧ w'.cell? ⟨gb146, 1, none⟩ = some (.int .i64 a0_1) ∧ w'.cell? ⟨gb146, 2, none⟩ = some (.slice (some ⟨go162, 0, none⟩) l0_2.length co164) ∧ w'.cell? ⟨gb146, 3, none⟩ = some (.int .i64 a0_3) ∧ w'.cell? ⟨gb146, 4, none⟩ = some (.int .i64 a0_4) ∧ w'.cell? ⟨gb146, 5, none⟩ = some (.slice Ao165 l0_5.length co165) ∧ w'.cell? ⟨gb147, 0, none⟩ = some (.int .i64 a1_0) ∧ w'.cell? ⟨gb147, 1, none⟩ = some (.int .i64 a1_1) ∧ w'.cell? ⟨gb147, 2, none⟩ = some (.int .i64 a1_2) ∧ w'.cell? ⟨go162, (a1_1).toNat, none⟩ = some (.int .i64 (rd l0_2 a1_1))) (ds := [10]) #[false, false, false, false, false, false, false, false, false, false, false] (by kernel_rfl) rfl rfl ⟨bc_ BK146.out 0, bc_ BK146.out 1, bc_ BK146.out 2, bc_ BK146.out 3, bc_ BK146.out 4, bc_ BK146.out 5, bc_ BK147.out 0, bc_ BK147.out 1, bc_ BK147.out 2, hx159_0⟩ (fun hHeld => ?_); refine with_tabW spec_l11Step.tab25 spec_l11Step.bits25 (fun HT_ HW_ => ?_)
 generalize w168.drew = w174 at HO0_2 HO0_5 BK146 BK147 BK148 HK HB GG162 HQ175 hf162_0 hx159_0 hx162_0 hHeld ⊢
 refine pu_ 0 (some 102) (h := ?_)
 refine pu_ 2 (some 104) (h := ?_)
 refine pu_ 6 (some 108) (h := ?_)
 refine tk10_ 1 (some 103) (h := ?_)
 refine tk10_ 3 (some 105) (h := ?_)
 refine pu_ 4 (some 106) (h := ?_)
 refine tk10_ 5 (some 107) (h := ?_)
 refine tk10_ 7 (some 109) (h := ?_)
 refine pu_ 8 (some 110) (h := ?_)
 refine pu_ 9 (some 111) (h := ?_)
 refine last_ (i := 10) (N := none) #[true, true, true, true, true, true, true, true, true, true, true] rfl rfl (one_of HT_.out (by kernel_rfl)) (by decide) (fun K hK => ?_)
 refine skip_ (w1 := ?_) (by rfl) rfl ?_ ?_
 rotate_left
 ·go_simp
  rfl
 refine hK.out _ _ ?_
 clear hK K
 refine done_ (done_of HT_.out (by kernel_rfl)) ?_
 have n0_ : Aside0 (Kd.R (Kd.int .i64) 3 (w174.setCell ⟨go162, (a1_1 : Int).toNat, none⟩ (.int .i64 (wrap64 ((rd l0_2 a1_1) + a1_2)))) w0.heap.size (fun k_ => ((P0_2_ k_ ∨ P0_5_ k_) ∨ w.heap.size ≤ k_) ∧ some k_ ≠ (.slice Ao165 l0_5.length co165 : Value).ownBlock) (.slice (some ⟨go162, 0, none⟩) l0_2.length co164) y160) := ⟨by exact kr_ HQ175.out⟩
 have n1_ : Aside0 (Kd.R (Kd.int .i64) 3 (w174.setCell ⟨go162, (a1_1 : Int).toNat, none⟩ (.int .i64 (wrap64 ((rd l0_2 a1_1) + a1_2)))) w0.heap.size (fun k_ => ((P0_2_ k_ ∨ P0_5_ k_) ∨ w.heap.size ≤ k_) ∧ some k_ ≠ (.slice (some ⟨go162, 0, none⟩) l0_2.length co164 : Value).ownBlock) (.slice Ao165 l0_5.length co165) l0_5) := ⟨by exact kr_ (Kd.R_mono (Kd.R_far (p := ⟨go162, (a1_1 : Int).toNat, none⟩) (Kd.R_mono HO0_5.out (fun k_ hk => (⟨hk, fun e_ => hk.2 (by rw [e_]; rfl)⟩ : _ ∧ k_ ≠ go162))) (fun _ hk => hk.2) (.int .i64 (wrap64 ((rd l0_2 a1_1) + a1_2)))) (fun _ hk => ⟨hk.1.1, hk.1.2⟩))⟩
 have n2_ : Aside0 ((w174.setCell ⟨go162, (a1_1 : Int).toNat, none⟩ (.int .i64 (wrap64 ((rd l0_2 a1_1) + a1_2)))).heap[gb146]? = some (.cells #[.int .i64 a0_0, .int .i64 a0_1, .slice (some ⟨go162, 0, none⟩) l0_2.length co164, .int .i64 a0_3, .int .i64 a0_4, .slice Ao165 l0_5.length co165] 24 (0, 0))) := ⟨by (with_reducible repeat (first | refine blk_drewN ?_ _ | refine blk_drew ?_ | refine blk_alloc ?_ _)); refine blk_far ?_ (by have h_ := Kd.R_ne HO0_2.out BK146.out (by decide); intro e_; exact h_ (by rw [e_]; rfl)) _; exact kb_ BK146.out⟩
 have n3_ : Aside0 ((w174.setCell ⟨go162, (a1_1 : Int).toNat, none⟩ (.int .i64 (wrap64 ((rd l0_2 a1_1) + a1_2)))).heap[gb147]? = some (.cells #[.int .i64 a1_0, .int .i64 a1_1, .int .i64 a1_2] 45 (0, 0))) := ⟨by (with_reducible repeat (first | refine blk_drewN ?_ _ | refine blk_drew ?_ | refine blk_alloc ?_ _)); refine blk_far ?_ (by have h_ := Kd.R_ne HO0_2.out BK147.out (by decide); intro e_; exact h_ (by rw [e_]; rfl)) _; exact kb_ BK147.out⟩
 have n4_ : Aside0 ((w174.setCell ⟨go162, (a1_1 : Int).toNat, none⟩ (.int .i64 (wrap64 ((rd l0_2 a1_1) + a1_2)))).heap[gb148]? = some (.cells #[.int .i64 0, .int .i64 0, .slice none 0 0, .int .i64 0, .int .i64 0, .slice none 0 0] 24 (0, 0))) := ⟨by (with_reducible repeat (first | refine blk_drewN ?_ _ | refine blk_drew ?_ | refine blk_alloc ?_ _)); refine blk_far ?_ (by have h_ := Kd.R_ne HO0_2.out BK148.out (by decide); intro e_; exact h_ (by rw [e_]; rfl)) _; exact kb_ BK148.out⟩
 have n5_ : Aside0 (Kept w (w174.setCell ⟨go162, (a1_1 : Int).toNat, none⟩ (.int .i64 (wrap64 ((rd l0_2 a1_1) + a1_2)))) (fun k_ => P0_2_ k_ ∨ P0_5_ k_)) := ⟨by repeat (first | (with_reducible first | exact HK.out | apply Kept.alloc | apply Kept.drewN | apply Kept.drew | refine Kept.setCell ?_ HMgo162.out _ | refine Kept.setCell ?_ (.inr GW146.out) _ | refine Kept.setCell ?_ (.inr GW147.out) _ | refine Kept.setCell ?_ (.inr GW148.out) _) | exact HK.out)⟩
 have n6_ : Aside0 (Below w0.heap.size w0 (w174.setCell ⟨go162, (a1_1 : Int).toNat, none⟩ (.int .i64 (wrap64 ((rd l0_2 a1_1) + a1_2))))) := ⟨by repeat (first | (with_reducible first | exact HB.out | apply below_alloc | apply pw_below_drewN | apply below_drew1 | refine below_set ?_ GB162.out | refine below_set ?_ GE146.out | refine below_set ?_ GE147.out | refine below_set ?_ GE148.out) | exact HB.out)⟩
 (try clear HO0_2)
 (try clear HO0_5)
 (try clear BK146)
 (try clear BK147)
 (try clear BK148)
 (try clear HK)
 (try clear HB)
 generalize (w174.setCell ⟨go162, (a1_1 : Int).toNat, none⟩ (.int .i64 (wrap64 ((rd l0_2 a1_1) + a1_2)))) = w176 at n0_ n1_ n2_ n3_ n4_ n5_ n6_ ⊢
 have HO0_2 := n0_
 have HO0_5 := n1_
 have BK146 := n2_
 have BK147 := n3_
 have BK148 := n4_
 have HK := n5_
 have HB := n6_
 clear n0_ n1_ n2_ n3_ n4_ n5_ n6_
 try go_wp2
 replace HO0_2 := Aside0.mk (Kd.R_drew HO0_2.out)
 replace HO0_5 := Aside0.mk (Kd.R_drew HO0_5.out)
 replace BK146 := Aside0.mk (blk_drew BK146.out)
 replace BK147 := Aside0.mk (blk_drew BK147.out)
 replace BK148 := Aside0.mk (blk_drew BK148.out)
 replace HK := Aside0.mk (Kept.drew HK.out)
 replace HB := Aside0.mk (below_drew1 HB.out)
 refine start_ (n := 5) (S := fun w' => w'.cell? ⟨gb146, 0, none⟩ = some (.int .i64 a0_0) ∧ w'.cell? ⟨gb146, 1, none⟩ = some (.int .i64 a0_1) ∧ w'.cell? ⟨gb146, 2, none⟩ = some (.slice (some ⟨go162, 0, none⟩) l0_2.length co164) ∧ w'.cell? ⟨gb146, 3, none⟩ = some (.int .i64 a0_3) ∧ w'.cell? ⟨gb146, 4, none⟩ = some (.int .i64 a0_4) ∧ w'.cell? ⟨gb146, 5, none⟩ = some (.slice Ao165 l0_5.length co165)) (ds := []) #[false, false, false, false, false] (by kernel_rfl) rfl rfl ⟨bc_ BK146.out 0, bc_ BK146.out 1, bc_ BK146.out 2, bc_ BK146.out 3, bc_ BK146.out 4, bc_ BK146.out 5⟩ (fun hHeld => ?_)
 generalize w176.drew = w177 at HO0_2 HO0_5 BK146 BK147 BK148 HK HB hHeld ⊢
 refine tk6_ 0 (some 112) (h := ?_)
 refine tk6_ 1 (some 113) (h := ?_)
 refine on_ 2 (some 114) (h := fun K hK => ?_)
 refine goes_ Try.func18 (by kernel_rfl) rfl #[.agg #[.int .i64 a0_0, .int .i64 a0_1, .slice (some ⟨go162, 0, none⟩) y160.length co164, .int .i64 a0_3, .int .i64 a0_4, .slice Ao165 l0_5.length co165]] (by rfl) rfl rfl (by (try simp only [List.map_toArray, List.map_cons, List.map_nil]); first | done | (rw [show y160.length = l0_2.length from (Kd.R_reads' HO0_2.out).1.symm] <;> rfl) | rfl | (simp only [List.length_drop, List.length_take]; rfl)) ?_
 with_reducible refine (spec_GoodLeases.calls k a0_0 a0_1 _ _ y160 a0_3 a0_4 _ _ l0_5 t161 _ ?side1 ?side2 ?side3 ?side4 A163.out).mono ?_
 (case side1 => exact kc_ (Kd.R_reads' HO0_2.out).2.2)
 (case side2 => rw [show y160.length = l0_2.length from (Kd.R_reads' HO0_2.out).1.symm]; exact (Kd.R_reads' HO0_2.out).2.1)
 (case side3 => exact kc_ (Kd.R_reads' HO0_5.out).2.2)
 (case side4 => exact (Kd.R_reads' HO0_5.out).2.1)
 rintro e w178 ⟨rfl, hb⟩
 refine ⟨_, rfl, ?_⟩
 replace HO0_2 := rb_ HO0_2 hb
 replace HO0_5 := rb_ HO0_5 hb
 replace BK146 := bb_ BK146 hb
 replace BK147 := bb_ BK147 hb
 replace BK148 := bb_ BK148 hb
 replace HK := Aside0.mk (Kept.below (S := (fun k_ => P0_2_ k_ ∨ P0_5_ k_)) (by repeat (first | (with_reducible first | exact HK.out | apply Kept.alloc | apply Kept.drewN | apply Kept.drew | refine Kept.setCell ?_ (.inr GW146.out) _ | refine Kept.setCell ?_ (.inr GW147.out) _ | refine Kept.setCell ?_ (.inr GW148.out) _) | exact HK.out)) hb)
 replace HB := Aside0.mk (below_step bl_ hb)
 clear hb
 refine hK.out _ _ ⟨bc_ BK146.out 0, bc_ BK146.out 1, bc_ BK146.out 2, bc_ BK146.out 3, bc_ BK146.out 4, bc_ BK146.out 5⟩ (fun hHeld => ?_)
 clear hK K
 refine norm_ nn_ ?_
 refine on_ 3 none (h := fun K hK => ?_)
 have hs179 : w178.cell? ⟨gb148, 0, none⟩ = some (.int .i64 0) := bc_ BK148.out 0
 have hfs179 := blk_frozen BK148.out 0
 have hns179_0 := NB146_148.out
 have hns179_1 := NB147_148.out
 have hms179_0 := NB148_146.out
 have hms179_1 := NB148_147.out
 have hs180 : w178.cell? ⟨gb148, 1, none⟩ = some (.int .i64 0) := bc_ BK148.out 1
 have hfs180 := blk_frozen BK148.out 1
 have hns180_0 := NB146_148.out
 have hns180_1 := NB147_148.out
 have hms180_0 := NB148_146.out
 have hms180_1 := NB148_147.out
 have hs181 : w178.cell? ⟨gb148, 2, none⟩ = some (.slice none 0 0) := bc_ BK148.out 2
 have hfs181 := blk_frozen BK148.out 2
 have hns181_0 := NB146_148.out
 have hns181_1 := NB147_148.out
 have hms181_0 := NB148_146.out
 have hms181_1 := NB148_147.out
 have hs182 : w178.cell? ⟨gb148, 3, none⟩ = some (.int .i64 0) := bc_ BK148.out 3
 have hfs182 := blk_frozen BK148.out 3
 have hns182_0 := NB146_148.out
 have hns182_1 := NB147_148.out
 have hms182_0 := NB148_146.out
 have hms182_1 := NB148_147.out
 have hs183 : w178.cell? ⟨gb148, 4, none⟩ = some (.int .i64 0) := bc_ BK148.out 4
 have hfs183 := blk_frozen BK148.out 4
 have hns183_0 := NB146_148.out
 have hns183_1 := NB147_148.out
 have hms183_0 := NB148_146.out
 have hms183_1 := NB148_147.out
 have hs184 : w178.cell? ⟨gb148, 5, none⟩ = some (.slice none 0 0) := bc_ BK148.out 5
 have hfs184 := blk_frozen BK148.out 5
 have hns184_0 := NB146_148.out
 have hns184_1 := NB147_148.out
 have hms184_0 := NB148_146.out
 have hms184_1 := NB148_147.out
 refine skip_ (w1 := ?_) (by rfl) rfl ?_ ?_
 rotate_left
 ·go_simp
  rfl
 refine hK.out _ _ ⟨((cell_far (p := ⟨gb148, _, none⟩) NB146_148.out _).trans (((cell_far (p := ⟨gb148, _, none⟩) NB146_148.out _).trans (((cell_far (p := ⟨gb148, _, none⟩) NB146_148.out _).trans (((cell_far (p := ⟨gb148, _, none⟩) NB146_148.out _).trans (((cell_far (p := ⟨gb148, _, none⟩) NB146_148.out _).trans (((cell_far (p := ⟨gb148, _, none⟩) NB146_148.out _).trans (hHeld.1)))))))))))), ((cell_far (p := ⟨gb148, _, none⟩) NB146_148.out _).trans (((cell_far (p := ⟨gb148, _, none⟩) NB146_148.out _).trans (((cell_far (p := ⟨gb148, _, none⟩) NB146_148.out _).trans (((cell_far (p := ⟨gb148, _, none⟩) NB146_148.out _).trans (((cell_far (p := ⟨gb148, _, none⟩) NB146_148.out _).trans (((cell_far (p := ⟨gb148, _, none⟩) NB146_148.out _).trans (hHeld.2.1)))))))))))), ((cell_far (p := ⟨gb148, _, none⟩) NB146_148.out _).trans (((cell_far (p := ⟨gb148, _, none⟩) NB146_148.out _).trans (((cell_far (p := ⟨gb148, _, none⟩) NB146_148.out _).trans (((cell_far (p := ⟨gb148, _, none⟩) NB146_148.out _).trans (((cell_far (p := ⟨gb148, _, none⟩) NB146_148.out _).trans (((cell_far (p := ⟨gb148, _, none⟩) NB146_148.out _).trans (hHeld.2.2.1)))))))))))), ((cell_far (p := ⟨gb148, _, none⟩) NB146_148.out _).trans (((cell_far (p := ⟨gb148, _, none⟩) NB146_148.out _).trans (((cell_far (p := ⟨gb148, _, none⟩) NB146_148.out _).trans (((cell_far (p := ⟨gb148, _, none⟩) NB146_148.out _).trans (((cell_far (p := ⟨gb148, _, none⟩) NB146_148.out _).trans (((cell_far (p := ⟨gb148, _, none⟩) NB146_148.out _).trans (hHeld.2.2.2.1)))))))))))), ((cell_far (p := ⟨gb148, _, none⟩) NB146_148.out _).trans (((cell_far (p := ⟨gb148, _, none⟩) NB146_148.out _).trans (((cell_far (p := ⟨gb148, _, none⟩) NB146_148.out _).trans (((cell_far (p := ⟨gb148, _, none⟩) NB146_148.out _).trans (((cell_far (p := ⟨gb148, _, none⟩) NB146_148.out _).trans (((cell_far (p := ⟨gb148, _, none⟩) NB146_148.out _).trans (hHeld.2.2.2.2.1)))))))))))), ((cell_far (p := ⟨gb148, _, none⟩) NB146_148.out _).trans (((cell_far (p := ⟨gb148, _, none⟩) NB146_148.out _).trans (((cell_far (p := ⟨gb148, _, none⟩) NB146_148.out _).trans (((cell_far (p := ⟨gb148, _, none⟩) NB146_148.out _).trans (((cell_far (p := ⟨gb148, _, none⟩) NB146_148.out _).trans (((cell_far (p := ⟨gb148, _, none⟩) NB146_148.out _).trans (hHeld.2.2.2.2.2))))))))))))⟩ (fun hHeld => ?_)
 clear hK K
 refine pu_ 4 (some 5) (h := ?_)
 refine done_ (by kernel_rfl) ?_
 try go_wp2
 refine bodyPost_ret (results_ct rfl _ _ gb148 24 #[.int .i64 a0_0, .int .i64 a0_1, .slice (some ⟨go162, 0, none⟩) l0_2.length co164, .int .i64 a0_3, .int .i64 a0_4, .slice Ao165 l0_5.length co165] (0, 0) _ rfl (by (with_reducible repeat (first | refine blk_drewN ?_ _ | refine blk_drew ?_ | refine blk_alloc ?_ _)); refine blk_put (cs := #[.int .i64 a0_0, .int .i64 a0_1, .slice (some ⟨go162, 0, none⟩) l0_2.length co164, .int .i64 a0_3, .int .i64 a0_4, .slice none 0 0]) ?_ 5 _ rfl; (with_reducible repeat (first | refine blk_drewN ?_ _ | refine blk_drew ?_ | refine blk_alloc ?_ _)); refine blk_put (cs := #[.int .i64 a0_0, .int .i64 a0_1, .slice (some ⟨go162, 0, none⟩) l0_2.length co164, .int .i64 a0_3, .int .i64 0, .slice none 0 0]) ?_ 4 _ rfl; (with_reducible repeat (first | refine blk_drewN ?_ _ | refine blk_drew ?_ | refine blk_alloc ?_ _)); refine blk_put (cs := #[.int .i64 a0_0, .int .i64 a0_1, .slice (some ⟨go162, 0, none⟩) l0_2.length co164, .int .i64 0, .int .i64 0, .slice none 0 0]) ?_ 3 _ rfl; (with_reducible repeat (first | refine blk_drewN ?_ _ | refine blk_drew ?_ | refine blk_alloc ?_ _)); refine blk_put (cs := #[.int .i64 a0_0, .int .i64 a0_1, .slice none 0 0, .int .i64 0, .int .i64 0, .slice none 0 0]) ?_ 2 _ rfl; (with_reducible repeat (first | refine blk_drewN ?_ _ | refine blk_drew ?_ | refine blk_alloc ?_ _)); refine blk_put (cs := #[.int .i64 a0_0, .int .i64 0, .slice none 0 0, .int .i64 0, .int .i64 0, .slice none 0 0]) ?_ 1 _ rfl; (with_reducible repeat (first | refine blk_drewN ?_ _ | refine blk_drew ?_ | refine blk_alloc ?_ _)); refine blk_put (cs := #[.int .i64 0, .int .i64 0, .slice none 0 0, .int .i64 0, .int .i64 0, .slice none 0 0]) ?_ 0 _ rfl; exact kb_ BK148.out) Try.underlying24 rfl (by kernel_rfl)) rfl ?_
 exact ⟨_, _, ng_, by exact kr_ (Kd.R_mono (Kd.R_far (p := ⟨gb148, 5, none⟩) (Kd.R_far (p := ⟨gb148, 4, none⟩) (Kd.R_far (p := ⟨gb148, 3, none⟩) (Kd.R_far (p := ⟨gb148, 2, none⟩) (Kd.R_far (p := ⟨gb148, 1, none⟩) (Kd.R_far (p := ⟨gb148, 0, none⟩) (Kd.R_types HO0_2.out BK148.out (by decide)) (fun _ hk => hk.2) (.int .i64 a0_0)) (fun _ hk => hk.2) (.int .i64 a0_1)) (fun _ hk => hk.2) (.slice (some ⟨go162, 0, none⟩) l0_2.length co164)) (fun _ hk => hk.2) (.int .i64 a0_3)) (fun _ hk => hk.2) (.int .i64 a0_4)) (fun _ hk => hk.2) (.slice Ao165 l0_5.length co165)) (fun _ hk => ⟨hk.1.1, hk.1.2⟩)), by exact kr_ (Kd.R_mono (Kd.R_far (p := ⟨gb148, 5, none⟩) (Kd.R_far (p := ⟨gb148, 4, none⟩) (Kd.R_far (p := ⟨gb148, 3, none⟩) (Kd.R_far (p := ⟨gb148, 2, none⟩) (Kd.R_far (p := ⟨gb148, 1, none⟩) (Kd.R_far (p := ⟨gb148, 0, none⟩) (Kd.R_types HO0_5.out BK148.out (by decide)) (fun _ hk => hk.2) (.int .i64 a0_0)) (fun _ hk => hk.2) (.int .i64 a0_1)) (fun _ hk => hk.2) (.slice (some ⟨go162, 0, none⟩) l0_2.length co164)) (fun _ hk => hk.2) (.int .i64 a0_3)) (fun _ hk => hk.2) (.int .i64 a0_4)) (fun _ hk => hk.2) (.slice Ao165 l0_5.length co165)) (fun _ hk => ⟨hk.1.1, hk.1.2⟩)), bl_, by repeat (first | (with_reducible first | exact HK.out | apply Kept.alloc | apply Kept.drewN | apply Kept.drew | refine Kept.setCell ?_ (.inr GW146.out) _ | refine Kept.setCell ?_ (.inr GW147.out) _ | refine Kept.setCell ?_ (.inr GW148.out) _) | exact HK.out)⟩

end Go.Proofs.Ytbnadnfggpnbgaa.PSL
