/- What this text proves: the machine calls of these functions return what the plain functions say. Conditions: as each theorem says. Printed by a program of this session out of the translation. -/
import Derived.Test.YtbnadnfggpnbgaaPSLx0
import Derived.Test.YtbnadnfggpnbgaaPSLx7
import Derived.Test.YtbnadnfggpnbgaaPSLx8
namespace Go.Proofs.Ytbnadnfggpnbgaa.PSL
open Go.RowKit Go.Proofs.YtbnadnfggpnbgaaW.PrintWords Go.Proofs.YtbnadnfggpnbgaaW.PrintLast Go.Proofs.YtbnadnfggpnbgaaW.PrintMore
attribute [local go_sem] max2_int min2_int max_two min_two max_three min_three max_four min_four   -- for this text's walks alone
set_option linter.unusedVariables false
set_option linter.unusedSimpArgs false

/-! ### impl_Leases_step: function 55 -/
mutual
def impl_Leases_step.j0 : Nat → Bool → Int → Int → List Int → Int → Int → List Int → Int → Int → Int → Option (Int × Int × List Int × Int × Int × List Int × Bool)
 | 0, _, _, _, _, _, _, _, _, _, _ => none
 | k + 1, x7, x217000, x217001, x217002, x217003, x217004, x217005, x218000, x218001, x218002 => if x7 = true then (if x218001 = x217003 then ((impl_areLeases.f k x217000 x217001 x217002 x218001 (mx (wrap64 (x217001 + x218002)) x217004) x217005).bind fun t233 => (if t233 = true then (some (x217000, x217001, x217002, x218001, mx (wrap64 (x217001 + x218002)) x217004, x217005, true)) else (some (0, 0, ([] : List Int), 0, 0, ([] : List Int), false)))) else ((impl_areLeases.f k x217000 x217001 x217002 x218001 (wrap64 (x217001 + x218002)) x217005).bind fun t234 => (if t234 = true then (some (x217000, x217001, x217002, x218001, wrap64 (x217001 + x218002), x217005, true)) else (some (0, 0, ([] : List Int), 0, 0, ([] : List Int), false))))) else (some (0, 0, ([] : List Int), 0, 0, ([] : List Int), false))
def impl_Leases_step.j1 : Nat → Bool → Int → Int → List Int → Int → Int → List Int → Int → Int → Int → Option (Int × Int × List Int × Int × Int × List Int × Bool)
 | 0, _, _, _, _, _, _, _, _, _, _ => none
 | k + 1, x7, x217000, x217001, x217002, x217003, x217004, x217005, x218000, x218001, x218002 => if x7 = true then (if 0 ≤ x218001 then (if x218001 < (x217005.length : Int) then ((some (x217005.set (x218001 : Int).toNat x217004 : List Int)).bind fun y235 => ((impl_areLeases.f k x217000 x217001 x217002 x217003 x217004 y235).bind fun t236 => (if t236 = true then (some (x217000, x217001, x217002, x217003, x217004, y235, true)) else (some (0, 0, ([] : List Int), 0, 0, ([] : List Int), false))))) else (none)) else (none)) else (some (0, 0, ([] : List Int), 0, 0, ([] : List Int), false))
def impl_Leases_step.j2 : Nat → Bool → Int → Int → List Int → Int → Int → List Int → Int → Int → Int → Option (Int × Int × List Int × Int × Int × List Int × Bool)
 | 0, _, _, _, _, _, _, _, _, _, _ => none
 | k + 1, x7, x217000, x217001, x217002, x217003, x217004, x217005, x218000, x218001, x218002 => if x7 = true then (if 0 ≤ x218001 then (if x218001 < (x217002.length : Int) then ((some (x217002.set (x218001 : Int).toNat (wrap64 ((rd x217002 x218001) + x218002)) : List Int)).bind fun y241 => ((impl_areLeases.f k x217000 x217001 y241 x217003 x217004 x217005).bind fun t242 => (if t242 = true then (some (x217000, x217001, y241, x217003, x217004, x217005, true)) else (some (0, 0, ([] : List Int), 0, 0, ([] : List Int), false))))) else (none)) else (none)) else (some (0, 0, ([] : List Int), 0, 0, ([] : List Int), false))
end
def impl_Leases_step.f (k : Nat) (a0_0 : Int) (a0_1 : Int) (l0_2 : List Int) (a0_3 : Int) (a0_4 : Int) (l0_5 : List Int) (a1_0 : Int) (a1_1 : Int) (a1_2 : Int) : Option (Int × Int × List Int × Int × Int × List Int × Bool) := (some (([] : List Int) : List Int)).bind fun y219 => (if y219.length + l0_2.length < 17592186044416 then ((some (y219 ++ l0_2 : List Int)).bind fun y222 => ((some (([] : List Int) : List Int)).bind fun y225 => (if y225.length + l0_5.length < 17592186044416 then ((some (y225 ++ l0_5 : List Int)).bind fun y228 => ((impl_in.f a1_1 0 (wrap64 ((y222.length : Int) - 1))).bind fun t231 => (if a1_0 = 1 then (if t231 = true then ((impl_in.f a1_2 1 1000000).bind fun t232 => (if t232 = true then (if a1_1 = a0_3 then (impl_Leases_step.j0 k true a0_0 a0_1 y222 a0_3 a0_4 y228 a1_0 a1_1 a1_2) else (impl_Leases_step.j0 k (decide (a0_1 ≥ a0_4)) a0_0 a0_1 y222 a0_3 a0_4 y228 a1_0 a1_1 a1_2)) else (impl_Leases_step.j0 k false a0_0 a0_1 y222 a0_3 a0_4 y228 a1_0 a1_1 a1_2))) else (impl_Leases_step.j0 k false a0_0 a0_1 y222 a0_3 a0_4 y228 a1_0 a1_1 a1_2)) else (if a1_0 = 2 then (if t231 = true then (impl_Leases_step.j1 k (a1_1 == a0_3) a0_0 a0_1 y222 a0_3 a0_4 y228 a1_0 a1_1 a1_2) else (impl_Leases_step.j1 k false a0_0 a0_1 y222 a0_3 a0_4 y228 a1_0 a1_1 a1_2)) else (if a1_0 = 3 then ((impl_in.f a1_2 1 1000000).bind fun t237 => (if t237 = true then ((impl_areLeases.f k a0_0 (wrap64 (a0_1 + a1_2)) y222 a0_3 a0_4 y228).bind fun t238 => (if t238 = true then (some (a0_0, wrap64 (a0_1 + a1_2), y222, a0_3, a0_4, y228, true)) else (some (0, 0, ([] : List Int), 0, 0, ([] : List Int), false)))) else (some (0, 0, ([] : List Int), 0, 0, ([] : List Int), false)))) else (if a1_0 = 4 then (if t231 = true then ((impl_in.f a1_2 (-1000) 1000000).bind fun t239 => (impl_Leases_step.j2 k t239 a0_0 a0_1 y222 a0_3 a0_4 y228 a1_0 a1_1 a1_2)) else (impl_Leases_step.j2 k false a0_0 a0_1 y222 a0_3 a0_4 y228 a1_0 a1_1 a1_2)) else (some (0, 0, ([] : List Int), 0, 0, ([] : List Int), false)))))))) else (none)))) else (none))
theorem impl_Leases_step.mono_l : ∀ k, (∀ y0 y1 y2 y3 y4 y5 y6 y7 y8 y9, LeO (impl_Leases_step.j0 k y0 y1 y2 y3 y4 y5 y6 y7 y8 y9) (impl_Leases_step.j0 (k + 1) y0 y1 y2 y3 y4 y5 y6 y7 y8 y9)) ∧ (∀ y0 y1 y2 y3 y4 y5 y6 y7 y8 y9, LeO (impl_Leases_step.j1 k y0 y1 y2 y3 y4 y5 y6 y7 y8 y9) (impl_Leases_step.j1 (k + 1) y0 y1 y2 y3 y4 y5 y6 y7 y8 y9)) ∧ (∀ y0 y1 y2 y3 y4 y5 y6 y7 y8 y9, LeO (impl_Leases_step.j2 k y0 y1 y2 y3 y4 y5 y6 y7 y8 y9) (impl_Leases_step.j2 (k + 1) y0 y1 y2 y3 y4 y5 y6 y7 y8 y9))
 | 0 => ⟨fun _ _ _ _ _ _ _ _ _ _ r h => by simp [impl_Leases_step.j0] at h, fun _ _ _ _ _ _ _ _ _ _ r h => by simp [impl_Leases_step.j1] at h, fun _ _ _ _ _ _ _ _ _ _ r h => by simp [impl_Leases_step.j2] at h⟩
 | k + 1 => by
  obtain ⟨ih0, ih1, ih2⟩ := impl_Leases_step.mono_l k
  refine ⟨?_, ?_, ?_⟩
  ·intro y0 y1 y2 y3 y4 y5 y6 y7 y8 y9
   unfold impl_Leases_step.j0
   repeat' first
   | (with_reducible exact ih0 _ _ _ _ _ _ _ _ _ _)
   | (with_reducible exact ih1 _ _ _ _ _ _ _ _ _ _)
   | (with_reducible exact ih2 _ _ _ _ _ _ _ _ _ _)
   | (with_reducible exact impl_areLeases.mono _ _ _ _ _ _ _)
   | (with_reducible exact LeO.refl _)
   | (with_reducible exact LeO.none _)
   | (with_reducible refine LeO.ite ?_ ?_)
   | (with_reducible refine LeO.bind ?_ (fun _ => ?_))
   | exact ih0 _ _ _ _ _ _ _ _ _ _
   | exact ih1 _ _ _ _ _ _ _ _ _ _
   | exact ih2 _ _ _ _ _ _ _ _ _ _
   | exact impl_areLeases.mono _ _ _ _ _ _ _
   | exact LeO.none _
   | refine LeO.ite ?_ ?_
   | refine LeO.bind ?_ (fun _ => ?_)
  ·intro y0 y1 y2 y3 y4 y5 y6 y7 y8 y9
   unfold impl_Leases_step.j1
   repeat' first
   | (with_reducible exact ih0 _ _ _ _ _ _ _ _ _ _)
   | (with_reducible exact ih1 _ _ _ _ _ _ _ _ _ _)
   | (with_reducible exact ih2 _ _ _ _ _ _ _ _ _ _)
   | (with_reducible exact impl_areLeases.mono _ _ _ _ _ _ _)
   | (with_reducible exact LeO.refl _)
   | (with_reducible exact LeO.none _)
   | (with_reducible refine LeO.ite ?_ ?_)
   | (with_reducible refine LeO.bind ?_ (fun _ => ?_))
   | exact ih0 _ _ _ _ _ _ _ _ _ _
   | exact ih1 _ _ _ _ _ _ _ _ _ _
   | exact ih2 _ _ _ _ _ _ _ _ _ _
   | exact impl_areLeases.mono _ _ _ _ _ _ _
   | exact LeO.none _
   | refine LeO.ite ?_ ?_
   | refine LeO.bind ?_ (fun _ => ?_)
  ·intro y0 y1 y2 y3 y4 y5 y6 y7 y8 y9
   unfold impl_Leases_step.j2
   repeat' first
   | (with_reducible exact ih0 _ _ _ _ _ _ _ _ _ _)
   | (with_reducible exact ih1 _ _ _ _ _ _ _ _ _ _)
   | (with_reducible exact ih2 _ _ _ _ _ _ _ _ _ _)
   | (with_reducible exact impl_areLeases.mono _ _ _ _ _ _ _)
   | (with_reducible exact LeO.refl _)
   | (with_reducible exact LeO.none _)
   | (with_reducible refine LeO.ite ?_ ?_)
   | (with_reducible refine LeO.bind ?_ (fun _ => ?_))
   | exact ih0 _ _ _ _ _ _ _ _ _ _
   | exact ih1 _ _ _ _ _ _ _ _ _ _
   | exact ih2 _ _ _ _ _ _ _ _ _ _
   | exact impl_areLeases.mono _ _ _ _ _ _ _
   | exact LeO.none _
   | refine LeO.ite ?_ ?_
   | refine LeO.bind ?_ (fun _ => ?_)
theorem impl_Leases_step.mono : ∀ a0 a1 a2 a3 a4 a5 a6 a7 a8 k, LeO (impl_Leases_step.f k a0 a1 a2 a3 a4 a5 a6 a7 a8) (impl_Leases_step.f (k + 1) a0 a1 a2 a3 a4 a5 a6 a7 a8) := by
 intro a0 a1 a2 a3 a4 a5 a6 a7 a8 k
 obtain ⟨ih0, ih1, ih2⟩ := impl_Leases_step.mono_l k
 unfold impl_Leases_step.f
 repeat' first
   | (with_reducible exact ih0 _ _ _ _ _ _ _ _ _ _)
   | (with_reducible exact ih1 _ _ _ _ _ _ _ _ _ _)
   | (with_reducible exact ih2 _ _ _ _ _ _ _ _ _ _)
   | (with_reducible exact impl_areLeases.mono _ _ _ _ _ _ _)
   | (with_reducible exact LeO.refl _)
   | (with_reducible exact LeO.none _)
   | (with_reducible refine LeO.ite ?_ ?_)
   | (with_reducible refine LeO.bind ?_ (fun _ => ?_))
   | exact ih0 _ _ _ _ _ _ _ _ _ _
   | exact ih1 _ _ _ _ _ _ _ _ _ _
   | exact ih2 _ _ _ _ _ _ _ _ _ _
   | exact impl_areLeases.mono _ _ _ _ _ _ _
   | exact LeO.none _
   | refine LeO.ite ?_ ?_
   | refine LeO.bind ?_ (fun _ => ?_)
def impl_Leases_step.T25 : Bool × List (List Nat × List Nat) := (true, [([], []), ([0], [0]), ([], []), ([2], [2]), ([1, 3], [1, 3]), ([4], [4]), ([], []), ([6], [6]), ([5, 7], [5, 7]), ([1, 3, 0, 1, 2, 3, 4, 5, 6, 7, 8], [1, 3]), ([9, 8, 0, 1, 2, 3, 4, 5, 6, 7, 8], [8, 9])])
def impl_Leases_step.B25 : List Nat := [0, 1, 0, 4, 15, 31, 0, 64, 255, 511, 1023]
theorem impl_Leases_step.tab25 : rtab .any (opsOf Try.f55 25) = impl_Leases_step.T25 := by kernel_rfl
theorem impl_Leases_step.bits25 : waitsOk impl_Leases_step.T25.2 impl_Leases_step.B25 = true := by kernel_rfl
set_option maxHeartbeats 8000000 in
set_option maxRecDepth 100000 in
theorem impl_Leases_step.calls (k : Nat) (a0_0 : Int) (a0_1 : Int) (A0_2 : Option Addr) (c0_2 : Nat) (l0_2 : List Int) (a0_3 : Int) (a0_4 : Int) (A0_5 : Option Addr) (c0_5 : Nat) (l0_5 : List Int) (a1_0 : Int) (a1_1 : Int) (a1_2 : Int) (r1 : Int) (r2 : Int) (r3 : List Int) (r4 : Int) (r5 : Int) (r6 : List Int) (r7 : Bool) (w : World) (hr0_2 : Kd.C (Kd.int .i64) w A0_2 l0_2.length l0_2) (hc0_2 : l0_2.length ≤ c0_2) (hr0_5 : Kd.C (Kd.int .i64) w A0_5 l0_5.length l0_5) (hc0_5 : l0_5.length ≤ c0_5) (h : impl_Leases_step.f k a0_0 a0_1 l0_2 a0_3 a0_4 l0_5 a1_0 a1_1 a1_2 = some (r1, r2, r3, r4, r5, r6, r7)) :
  Calls Try.prog 55 #[.agg #[.int .i64 a0_0, .int .i64 a0_1, .slice A0_2 l0_2.length c0_2, .int .i64 a0_3, .int .i64 a0_4, .slice A0_5 l0_5.length c0_5], .agg #[.int .i64 a1_0, .int .i64 a1_1, .int .i64 a1_2]] w fun e w' => ∃ v2_ v5_ : Value, e = .returned (.tuple #[.agg #[.int .i64 r1, .int .i64 r2, v2_, .int .i64 r4, .int .i64 r5, v5_], .bool r7]) ∧ Kd.R (Kd.int .i64) 3 w' w.heap.size (fun k_ => some k_ ≠ (v5_ : Value).ownBlock) v2_ r3 ∧ Kd.R (Kd.int .i64) 3 w' w.heap.size (fun k_ => some k_ ≠ (v2_ : Value).ownBlock) v5_ r6 ∧ Below w.heap.size w w' := by
 have hu24 := Try.underlying24
 have hu45 := Try.underlying45
 have HR0_2 := Aside0.mk hr0_2
 have HC0_2 := Aside0.mk hc0_2
 clear hr0_2 hc0_2
 have HR0_5 := Aside0.mk hr0_5
 have HC0_5 := Aside0.mk hc0_5
 clear hr0_5 hc0_5
 have HB := Aside0.mk (Below.refl w.heap.size w)
 have H : ((some (([] : List Int) : List Int)).bind fun y219 => (if y219.length + l0_2.length < 17592186044416 then ((some (y219 ++ l0_2 : List Int)).bind fun y222 => ((some (([] : List Int) : List Int)).bind fun y225 => (if y225.length + l0_5.length < 17592186044416 then ((some (y225 ++ l0_5 : List Int)).bind fun y228 => ((impl_in.f a1_1 0 (wrap64 ((y222.length : Int) - 1))).bind fun t231 => (if a1_0 = 1 then (if t231 = true then ((impl_in.f a1_2 1 1000000).bind fun t232 => (if t232 = true then (if a1_1 = a0_3 then (impl_Leases_step.j0 k true a0_0 a0_1 y222 a0_3 a0_4 y228 a1_0 a1_1 a1_2) else (impl_Leases_step.j0 k (decide (a0_1 ≥ a0_4)) a0_0 a0_1 y222 a0_3 a0_4 y228 a1_0 a1_1 a1_2)) else (impl_Leases_step.j0 k false a0_0 a0_1 y222 a0_3 a0_4 y228 a1_0 a1_1 a1_2))) else (impl_Leases_step.j0 k false a0_0 a0_1 y222 a0_3 a0_4 y228 a1_0 a1_1 a1_2)) else (if a1_0 = 2 then (if t231 = true then (impl_Leases_step.j1 k (a1_1 == a0_3) a0_0 a0_1 y222 a0_3 a0_4 y228 a1_0 a1_1 a1_2) else (impl_Leases_step.j1 k false a0_0 a0_1 y222 a0_3 a0_4 y228 a1_0 a1_1 a1_2)) else (if a1_0 = 3 then ((impl_in.f a1_2 1 1000000).bind fun t237 => (if t237 = true then ((impl_areLeases.f k a0_0 (wrap64 (a0_1 + a1_2)) y222 a0_3 a0_4 y228).bind fun t238 => (if t238 = true then (some (a0_0, wrap64 (a0_1 + a1_2), y222, a0_3, a0_4, y228, true)) else (some (0, 0, ([] : List Int), 0, 0, ([] : List Int), false)))) else (some (0, 0, ([] : List Int), 0, 0, ([] : List Int), false)))) else (if a1_0 = 4 then (if t231 = true then ((impl_in.f a1_2 (-1000) 1000000).bind fun t239 => (impl_Leases_step.j2 k t239 a0_0 a0_1 y222 a0_3 a0_4 y228 a1_0 a1_1 a1_2)) else (impl_Leases_step.j2 k false a0_0 a0_1 y222 a0_3 a0_4 y228 a1_0 a1_1 a1_2)) else (some (0, 0, ([] : List Int), 0, 0, ([] : List Int), false)))))))) else (none)))) else (none))) = some (r1, r2, r3, r4, r5, r6, r7) := h
 clear h
 obtain ⟨y219, hy219⟩ : ∃ y_ : List Int, y_ = (([] : List Int)) := ⟨_, rfl⟩
 replace H : (if y219.length + l0_2.length < 17592186044416 then ((some (y219 ++ l0_2 : List Int)).bind fun y222 => ((some (([] : List Int) : List Int)).bind fun y225 => (if y225.length + l0_5.length < 17592186044416 then ((some (y225 ++ l0_5 : List Int)).bind fun y228 => ((impl_in.f a1_1 0 (wrap64 ((y222.length : Int) - 1))).bind fun t231 => (if a1_0 = 1 then (if t231 = true then ((impl_in.f a1_2 1 1000000).bind fun t232 => (if t232 = true then (if a1_1 = a0_3 then (impl_Leases_step.j0 k true a0_0 a0_1 y222 a0_3 a0_4 y228 a1_0 a1_1 a1_2) else (impl_Leases_step.j0 k (decide (a0_1 ≥ a0_4)) a0_0 a0_1 y222 a0_3 a0_4 y228 a1_0 a1_1 a1_2)) else (impl_Leases_step.j0 k false a0_0 a0_1 y222 a0_3 a0_4 y228 a1_0 a1_1 a1_2))) else (impl_Leases_step.j0 k false a0_0 a0_1 y222 a0_3 a0_4 y228 a1_0 a1_1 a1_2)) else (if a1_0 = 2 then (if t231 = true then (impl_Leases_step.j1 k (a1_1 == a0_3) a0_0 a0_1 y222 a0_3 a0_4 y228 a1_0 a1_1 a1_2) else (impl_Leases_step.j1 k false a0_0 a0_1 y222 a0_3 a0_4 y228 a1_0 a1_1 a1_2)) else (if a1_0 = 3 then ((impl_in.f a1_2 1 1000000).bind fun t237 => (if t237 = true then ((impl_areLeases.f k a0_0 (wrap64 (a0_1 + a1_2)) y222 a0_3 a0_4 y228).bind fun t238 => (if t238 = true then (some (a0_0, wrap64 (a0_1 + a1_2), y222, a0_3, a0_4, y228, true)) else (some (0, 0, ([] : List Int), 0, 0, ([] : List Int), false)))) else (some (0, 0, ([] : List Int), 0, 0, ([] : List Int), false)))) else (if a1_0 = 4 then (if t231 = true then ((impl_in.f a1_2 (-1000) 1000000).bind fun t239 => (impl_Leases_step.j2 k t239 a0_0 a0_1 y222 a0_3 a0_4 y228 a1_0 a1_1 a1_2)) else (impl_Leases_step.j2 k false a0_0 a0_1 y222 a0_3 a0_4 y228 a1_0 a1_1 a1_2)) else (some (0, 0, ([] : List Int), 0, 0, ([] : List Int), false)))))))) else (none)))) else (none)) = some (r1, r2, r3, r4, r5, r6, r7) := by first | (rw [hy219]; with_reducible exact H) | (have H2_ := (Option.bind_some _ _).symm.trans H; rw [hy219]; with_reducible exact H2_) | (have H2_ := (Option.bind_some _ _).symm.trans H; with_reducible exact H2_) | with_reducible exact H | (rw [hy219]; exact H) | exact H
 have Ny219 := Aside0.mk hy219
 clear hy219
 by_cases c3 : y219.length + l0_2.length < 17592186044416
 rotate_left
 ·rw [if_neg c3] at H
  exact absurd H (by simp)
 rw [if_pos c3] at H
 have LMc3 := Aside0.mk c3
 clear c3
 obtain ⟨y222, hy222⟩ : ∃ y_ : List Int, y_ = (y219 ++ l0_2) := ⟨_, rfl⟩
 replace H : ((some (([] : List Int) : List Int)).bind fun y225 => (if y225.length + l0_5.length < 17592186044416 then ((some (y225 ++ l0_5 : List Int)).bind fun y228 => ((impl_in.f a1_1 0 (wrap64 ((y222.length : Int) - 1))).bind fun t231 => (if a1_0 = 1 then (if t231 = true then ((impl_in.f a1_2 1 1000000).bind fun t232 => (if t232 = true then (if a1_1 = a0_3 then (impl_Leases_step.j0 k true a0_0 a0_1 y222 a0_3 a0_4 y228 a1_0 a1_1 a1_2) else (impl_Leases_step.j0 k (decide (a0_1 ≥ a0_4)) a0_0 a0_1 y222 a0_3 a0_4 y228 a1_0 a1_1 a1_2)) else (impl_Leases_step.j0 k false a0_0 a0_1 y222 a0_3 a0_4 y228 a1_0 a1_1 a1_2))) else (impl_Leases_step.j0 k false a0_0 a0_1 y222 a0_3 a0_4 y228 a1_0 a1_1 a1_2)) else (if a1_0 = 2 then (if t231 = true then (impl_Leases_step.j1 k (a1_1 == a0_3) a0_0 a0_1 y222 a0_3 a0_4 y228 a1_0 a1_1 a1_2) else (impl_Leases_step.j1 k false a0_0 a0_1 y222 a0_3 a0_4 y228 a1_0 a1_1 a1_2)) else (if a1_0 = 3 then ((impl_in.f a1_2 1 1000000).bind fun t237 => (if t237 = true then ((impl_areLeases.f k a0_0 (wrap64 (a0_1 + a1_2)) y222 a0_3 a0_4 y228).bind fun t238 => (if t238 = true then (some (a0_0, wrap64 (a0_1 + a1_2), y222, a0_3, a0_4, y228, true)) else (some (0, 0, ([] : List Int), 0, 0, ([] : List Int), false)))) else (some (0, 0, ([] : List Int), 0, 0, ([] : List Int), false)))) else (if a1_0 = 4 then (if t231 = true then ((impl_in.f a1_2 (-1000) 1000000).bind fun t239 => (impl_Leases_step.j2 k t239 a0_0 a0_1 y222 a0_3 a0_4 y228 a1_0 a1_1 a1_2)) else (impl_Leases_step.j2 k false a0_0 a0_1 y222 a0_3 a0_4 y228 a1_0 a1_1 a1_2)) else (some (0, 0, ([] : List Int), 0, 0, ([] : List Int), false)))))))) else (none))) = some (r1, r2, r3, r4, r5, r6, r7) := by first | (rw [hy222]; with_reducible exact H) | (have H2_ := (Option.bind_some _ _).symm.trans H; rw [hy222]; with_reducible exact H2_) | (have H2_ := (Option.bind_some _ _).symm.trans H; with_reducible exact H2_) | with_reducible exact H | (rw [hy222]; exact H) | exact H
 have Ny222 := Aside0.mk hy222
 clear hy222
 obtain ⟨y225, hy225⟩ : ∃ y_ : List Int, y_ = (([] : List Int)) := ⟨_, rfl⟩
 replace H : (if y225.length + l0_5.length < 17592186044416 then ((some (y225 ++ l0_5 : List Int)).bind fun y228 => ((impl_in.f a1_1 0 (wrap64 ((y222.length : Int) - 1))).bind fun t231 => (if a1_0 = 1 then (if t231 = true then ((impl_in.f a1_2 1 1000000).bind fun t232 => (if t232 = true then (if a1_1 = a0_3 then (impl_Leases_step.j0 k true a0_0 a0_1 y222 a0_3 a0_4 y228 a1_0 a1_1 a1_2) else (impl_Leases_step.j0 k (decide (a0_1 ≥ a0_4)) a0_0 a0_1 y222 a0_3 a0_4 y228 a1_0 a1_1 a1_2)) else (impl_Leases_step.j0 k false a0_0 a0_1 y222 a0_3 a0_4 y228 a1_0 a1_1 a1_2))) else (impl_Leases_step.j0 k false a0_0 a0_1 y222 a0_3 a0_4 y228 a1_0 a1_1 a1_2)) else (if a1_0 = 2 then (if t231 = true then (impl_Leases_step.j1 k (a1_1 == a0_3) a0_0 a0_1 y222 a0_3 a0_4 y228 a1_0 a1_1 a1_2) else (impl_Leases_step.j1 k false a0_0 a0_1 y222 a0_3 a0_4 y228 a1_0 a1_1 a1_2)) else (if a1_0 = 3 then ((impl_in.f a1_2 1 1000000).bind fun t237 => (if t237 = true then ((impl_areLeases.f k a0_0 (wrap64 (a0_1 + a1_2)) y222 a0_3 a0_4 y228).bind fun t238 => (if t238 = true then (some (a0_0, wrap64 (a0_1 + a1_2), y222, a0_3, a0_4, y228, true)) else (some (0, 0, ([] : List Int), 0, 0, ([] : List Int), false)))) else (some (0, 0, ([] : List Int), 0, 0, ([] : List Int), false)))) else (if a1_0 = 4 then (if t231 = true then ((impl_in.f a1_2 (-1000) 1000000).bind fun t239 => (impl_Leases_step.j2 k t239 a0_0 a0_1 y222 a0_3 a0_4 y228 a1_0 a1_1 a1_2)) else (impl_Leases_step.j2 k false a0_0 a0_1 y222 a0_3 a0_4 y228 a1_0 a1_1 a1_2)) else (some (0, 0, ([] : List Int), 0, 0, ([] : List Int), false)))))))) else (none)) = some (r1, r2, r3, r4, r5, r6, r7) := by first | (rw [hy225]; with_reducible exact H) | (have H2_ := (Option.bind_some _ _).symm.trans H; rw [hy225]; with_reducible exact H2_) | (have H2_ := (Option.bind_some _ _).symm.trans H; with_reducible exact H2_) | with_reducible exact H | (rw [hy225]; exact H) | exact H
 have Ny225 := Aside0.mk hy225
 clear hy225
 by_cases c4 : y225.length + l0_5.length < 17592186044416
 rotate_left
 ·rw [if_neg c4] at H
  exact absurd H (by simp)
 rw [if_pos c4] at H
 have LMc4 := Aside0.mk c4
 clear c4
 obtain ⟨y228, hy228⟩ : ∃ y_ : List Int, y_ = (y225 ++ l0_5) := ⟨_, rfl⟩
 replace H : ((impl_in.f a1_1 0 (wrap64 ((y222.length : Int) - 1))).bind fun t231 => (if a1_0 = 1 then (if t231 = true then ((impl_in.f a1_2 1 1000000).bind fun t232 => (if t232 = true then (if a1_1 = a0_3 then (impl_Leases_step.j0 k true a0_0 a0_1 y222 a0_3 a0_4 y228 a1_0 a1_1 a1_2) else (impl_Leases_step.j0 k (decide (a0_1 ≥ a0_4)) a0_0 a0_1 y222 a0_3 a0_4 y228 a1_0 a1_1 a1_2)) else (impl_Leases_step.j0 k false a0_0 a0_1 y222 a0_3 a0_4 y228 a1_0 a1_1 a1_2))) else (impl_Leases_step.j0 k false a0_0 a0_1 y222 a0_3 a0_4 y228 a1_0 a1_1 a1_2)) else (if a1_0 = 2 then (if t231 = true then (impl_Leases_step.j1 k (a1_1 == a0_3) a0_0 a0_1 y222 a0_3 a0_4 y228 a1_0 a1_1 a1_2) else (impl_Leases_step.j1 k false a0_0 a0_1 y222 a0_3 a0_4 y228 a1_0 a1_1 a1_2)) else (if a1_0 = 3 then ((impl_in.f a1_2 1 1000000).bind fun t237 => (if t237 = true then ((impl_areLeases.f k a0_0 (wrap64 (a0_1 + a1_2)) y222 a0_3 a0_4 y228).bind fun t238 => (if t238 = true then (some (a0_0, wrap64 (a0_1 + a1_2), y222, a0_3, a0_4, y228, true)) else (some (0, 0, ([] : List Int), 0, 0, ([] : List Int), false)))) else (some (0, 0, ([] : List Int), 0, 0, ([] : List Int), false)))) else (if a1_0 = 4 then (if t231 = true then ((impl_in.f a1_2 (-1000) 1000000).bind fun t239 => (impl_Leases_step.j2 k t239 a0_0 a0_1 y222 a0_3 a0_4 y228 a1_0 a1_1 a1_2)) else (impl_Leases_step.j2 k false a0_0 a0_1 y222 a0_3 a0_4 y228 a1_0 a1_1 a1_2)) else (some (0, 0, ([] : List Int), 0, 0, ([] : List Int), false))))))) = some (r1, r2, r3, r4, r5, r6, r7) := by first | (rw [hy228]; with_reducible exact H) | (have H2_ := (Option.bind_some _ _).symm.trans H; rw [hy228]; with_reducible exact H2_) | (have H2_ := (Option.bind_some _ _).symm.trans H; with_reducible exact H2_) | with_reducible exact H | (rw [hy228]; exact H) | exact H
 have Ny228 := Aside0.mk hy228
 clear hy228
 replace H := Option.bind_eq_some_iff.mp H
 obtain ⟨t231, A50, H⟩ := H
 replace H : (if a1_0 = 1 then (if t231 = true then ((impl_in.f a1_2 1 1000000).bind fun t232 => (if t232 = true then (if a1_1 = a0_3 then (impl_Leases_step.j0 k true a0_0 a0_1 y222 a0_3 a0_4 y228 a1_0 a1_1 a1_2) else (impl_Leases_step.j0 k (decide (a0_1 ≥ a0_4)) a0_0 a0_1 y222 a0_3 a0_4 y228 a1_0 a1_1 a1_2)) else (impl_Leases_step.j0 k false a0_0 a0_1 y222 a0_3 a0_4 y228 a1_0 a1_1 a1_2))) else (impl_Leases_step.j0 k false a0_0 a0_1 y222 a0_3 a0_4 y228 a1_0 a1_1 a1_2)) else (if a1_0 = 2 then (if t231 = true then (impl_Leases_step.j1 k (a1_1 == a0_3) a0_0 a0_1 y222 a0_3 a0_4 y228 a1_0 a1_1 a1_2) else (impl_Leases_step.j1 k false a0_0 a0_1 y222 a0_3 a0_4 y228 a1_0 a1_1 a1_2)) else (if a1_0 = 3 then ((impl_in.f a1_2 1 1000000).bind fun t237 => (if t237 = true then ((impl_areLeases.f k a0_0 (wrap64 (a0_1 + a1_2)) y222 a0_3 a0_4 y228).bind fun t238 => (if t238 = true then (some (a0_0, wrap64 (a0_1 + a1_2), y222, a0_3, a0_4, y228, true)) else (some (0, 0, ([] : List Int), 0, 0, ([] : List Int), false)))) else (some (0, 0, ([] : List Int), 0, 0, ([] : List Int), false)))) else (if a1_0 = 4 then (if t231 = true then ((impl_in.f a1_2 (-1000) 1000000).bind fun t239 => (impl_Leases_step.j2 k t239 a0_0 a0_1 y222 a0_3 a0_4 y228 a1_0 a1_1 a1_2)) else (impl_Leases_step.j2 k false a0_0 a0_1 y222 a0_3 a0_4 y228 a1_0 a1_1 a1_2)) else (some (0, 0, ([] : List Int), 0, 0, ([] : List Int), false)))))) = some (r1, r2, r3, r4, r5, r6, r7) := H
 have A5 := Aside0.mk A50
 clear A50
 by_cases c6 : a1_0 = 1
 ·rw [if_pos c6] at H
  have c6b0 : (a1_0 == 1) = true := beq_iff_eq.mpr c6
  have c6b1 : (a1_0 != 1) = false := bne_eq_false_iff_eq.mpr c6
  clear c6
  have HC7 := Aside0.mk H
  clear H
  go_enter Try.func55, Try.ntmps55
  go_upto_region 7 with (first | ((with_reducible refine gate_dst (N := 2) rfl ?_); refine box_event rfl (N := 2) rfl (cs := #[.int .i64 a0_0, .int .i64 a0_1, .slice A0_2 l0_2.length c0_2, .int .i64 a0_3, .int .i64 a0_4, .slice A0_5 l0_5.length c0_5]) (t := 24) gs_ ?_; intro gb216 hg w8 hbox hb; have BK216 := Aside0.mk (hbox); have GW216 := Aside0.mk ((by rw [hg]; exact bz_ : w.heap.size ≤ gb216)); have GE216 := GW216; replace HB := Aside0.mk (below_step bl_ hb); clear hb hbox hg) | ((with_reducible refine gate_dst (N := 3) rfl ?_); refine box_event rfl (N := 3) rfl (cs := #[.int .i64 a1_0, .int .i64 a1_1, .int .i64 a1_2]) (t := 45) gs_ ?_; intro gb217 hg w9 hbox hb; have BK217 := Aside0.mk (hbox); have GW217 := Aside0.mk ((by rw [hg]; exact bz_ : w.heap.size ≤ gb217)); have GE217 := GW217; replace HB := Aside0.mk (below_step bl_ hb); have NB216_217 := nl_ hg BK216; have NB217_216 := nm_ hg BK216; replace BK216 := bb_ BK216 hb; clear hb hbox hg) | ((with_reducible refine gate_dst (N := 4) rfl ?_); refine box_event rfl (N := 4) rfl (cs := #[.int .i64 0, .int .i64 0, .slice none 0 0, .int .i64 0, .int .i64 0, .slice none 0 0]) (t := 24) gs_ ?_; intro gb218 hg w10 hbox hb; have BK218 := Aside0.mk (hbox); have GW218 := Aside0.mk ((by rw [hg]; exact bz_ : w.heap.size ≤ gb218)); have GE218 := GW218; replace HB := Aside0.mk (below_step bl_ hb); have NB216_218 := nl_ hg BK216; have NB218_216 := nm_ hg BK216; replace BK216 := bb_ BK216 hb; have NB217_218 := nl_ hg BK217; have NB218_217 := nm_ hg BK217; replace BK217 := bb_ BK217 hb; clear hb hbox hg) | ((with_reducible refine gate_dst (N := 9) rfl ?_); refine Kd.R_lit (Kd.int .i64) _ 3 rfl (N := 9) rfl (xs := ([] : List Int)) (inner := []) (ok := fun _ => True) (okp := fun _ => True) gs_ ?hp (fun _ hk => hk) trivial (Below.refl _ _) (Nat.le_refl _) (by simp) ?_; (case hp => exact (Reps.none _ _)); intro v220 w11 ho12 hb hg_ hnew_; clear hg_ hnew_; (first | rw [← Ny219.out] at ho12 | (simp only [Int.reduceToNat] at ho12; rw [← Ny219.out] at ho12)); have HO221 := Aside0.mk (Kd.R_lower ho12 bz_); replace BK216 := bb_ BK216 hb; replace BK217 := bb_ BK217 hb; replace BK218 := bb_ BK218 hb; replace HB := Aside0.mk (below_step bl_ hb); clear hb ho12; have hnb13 := NB216_217.out; have hnc13 := NB217_216.out; have hnb14 := NB216_218.out; have hnc14 := NB218_216.out; have hcz15_0 : w11.cell? ⟨gb216, 0, none⟩ = some (.int .i64 a0_0) := bc_ BK216.out 0; have hcz15_1 : w11.cell? ⟨gb216, 1, none⟩ = some (.int .i64 a0_1) := bc_ BK216.out 1; have hcz15_2 : w11.cell? ⟨gb216, 2, none⟩ = some (.slice A0_2 l0_2.length c0_2) := bc_ BK216.out 2; have hcz15_3 : w11.cell? ⟨gb216, 3, none⟩ = some (.int .i64 a0_3) := bc_ BK216.out 3; have hcz15_4 : w11.cell? ⟨gb216, 4, none⟩ = some (.int .i64 a0_4) := bc_ BK216.out 4; have hcz15_5 : w11.cell? ⟨gb216, 5, none⟩ = some (.slice A0_5 l0_5.length c0_5) := bc_ BK216.out 5; have hfz15_0 := blk_frozen BK216.out 0; have hfz15_1 := blk_frozen BK216.out 1; have hfz15_2 := blk_frozen BK216.out 2; have hfz15_3 := blk_frozen BK216.out 3; have hfz15_4 := blk_frozen BK216.out 4; have hfz15_5 := blk_frozen BK216.out 5) | ((with_reducible refine gate_builtin (b := .append) (xs := #[.tmp 9, .tmp 11]) rfl ?_); at_builtin; refine Kd.R_append_rows (Kd.int .i64) (w0 := w) w.heap.size rfl (.tmp 9) (.tmp 11) 22 3 (.int .i64 0) 8 rfl Try.underlying22 info3 rfl (by decide) (by omega) v220 y219 l0_2 _ _ _ (fun _ => True) (fun _ => False) rfl rfl ?aO ?aR (fun _ _ h => h) (fun _ h => h.elim) ?aF ?aB ?aS ?aL ?_; (case aR => exact kc_ (Kd.C_below HR0_2.out HB.out)); (case aB => exact bl_); (case aF => exact (fun _ _ => trivial)); (case aO => exact (kr_ HO221.out)); (case aS => exact bz_); (case aL => have := LMc3.out; omega); intro v223 w16 ho hb hg hat; rw [← Ny222.out] at ho; replace BK216 := bgr_ BK216 hg HO221 BK216; replace BK217 := bgr_ BK217 hg HO221 BK217; replace BK218 := bgr_ BK218 hg HO221 BK218; replace HB := Aside0.mk (hb); have HO224 := Aside0.mk (ho); clear HO221 ho hb hg hat; obtain ⟨Ao17, co17, eo17⟩ := Kd.R_slice HO224.out; subst eo17; have hcz18_0 : w16.cell? ⟨gb216, 0, none⟩ = some (.int .i64 a0_0) := bc_ BK216.out 0; have hcz18_1 : w16.cell? ⟨gb216, 1, none⟩ = some (.int .i64 a0_1) := bc_ BK216.out 1; have hcz18_2 : w16.cell? ⟨gb216, 2, none⟩ = some (.slice A0_2 l0_2.length c0_2) := bc_ BK216.out 2; have hcz18_3 : w16.cell? ⟨gb216, 3, none⟩ = some (.int .i64 a0_3) := bc_ BK216.out 3; have hcz18_4 : w16.cell? ⟨gb216, 4, none⟩ = some (.int .i64 a0_4) := bc_ BK216.out 4; have hcz18_5 : w16.cell? ⟨gb216, 5, none⟩ = some (.slice A0_5 l0_5.length c0_5) := bc_ BK216.out 5; have hfz18_0 := blk_frozen BK216.out 0; have hfz18_1 := blk_frozen BK216.out 1; have hfz18_2 := blk_frozen BK216.out 2; have hfz18_3 := blk_frozen BK216.out 3; have hfz18_4 := blk_frozen BK216.out 4; have hfz18_5 := blk_frozen BK216.out 5) | ((with_reducible refine gate_dst (N := 14) rfl ?_); refine Kd.R_lit (Kd.int .i64) _ 3 rfl (N := 14) rfl (xs := ([] : List Int)) (inner := []) (ok := fun _ => True) (okp := fun _ => True) gs_ ?hp (fun _ hk => hk) trivial (Below.refl _ _) (Nat.le_refl _) (by simp) ?_; (case hp => exact (Reps.none _ _)); intro v226 w19 ho20 hb hg_ hnew_; clear hg_ hnew_; (first | rw [← Ny225.out] at ho20 | (simp only [Int.reduceToNat] at ho20; rw [← Ny225.out] at ho20)); have HO227 := Aside0.mk (Kd.R_lower (Kd.R_new' ho20 (Kd.R_lt (by exact kr_ ((Kd.R_mono (Kd.R_far (p := ⟨gb216, 2, none⟩) (Kd.R_types HO224.out BK216.out (by decide)) (fun _ hk => hk.2) (.slice Ao17 y222.length co17)) (fun _ h_ => h_.1)))))) bz_); replace HO224 := Aside0.mk (Kd.R_elder' (by exact kr_ ((Kd.R_mono (Kd.R_far (p := ⟨gb216, 2, none⟩) (Kd.R_types HO224.out BK216.out (by decide)) (fun _ hk => hk.2) (.slice Ao17 y222.length co17)) (fun _ h_ => h_.1)))) (Kd.R_base ho20) hb); replace BK216 := Aside0.mk (blk_below (g := gb216) (o := .cells #[.int .i64 a0_0, .int .i64 a0_1, .slice Ao17 y222.length co17, .int .i64 a0_3, .int .i64 a0_4, .slice A0_5 l0_5.length c0_5] 24 (0, 0)) (by (with_reducible repeat (first | refine blk_drewN ?_ _ | refine blk_drew ?_ | refine blk_alloc ?_ _)); refine blk_put (cs := #[.int .i64 a0_0, .int .i64 a0_1, .slice A0_2 l0_2.length c0_2, .int .i64 a0_3, .int .i64 a0_4, .slice A0_5 l0_5.length c0_5]) ?_ 2 _ rfl; exact kb_ BK216.out) hb); replace BK217 := Aside0.mk (blk_below (g := gb217) (o := .cells #[.int .i64 a1_0, .int .i64 a1_1, .int .i64 a1_2] 45 (0, 0)) kz_ hb); replace BK218 := Aside0.mk (blk_below (g := gb218) (o := .cells #[.int .i64 0, .int .i64 0, .slice none 0 0, .int .i64 0, .int .i64 0, .slice none 0 0] 24 (0, 0)) kz_ hb); replace HB := Aside0.mk (below_step bl_ hb); clear hb ho20; have hcz21_0 : w19.cell? ⟨gb216, 0, none⟩ = some (.int .i64 a0_0) := bc_ BK216.out 0; have hcz21_1 : w19.cell? ⟨gb216, 1, none⟩ = some (.int .i64 a0_1) := bc_ BK216.out 1; have hcz21_2 : w19.cell? ⟨gb216, 2, none⟩ = some (.slice Ao17 y222.length co17) := bc_ BK216.out 2; have hcz21_3 : w19.cell? ⟨gb216, 3, none⟩ = some (.int .i64 a0_3) := bc_ BK216.out 3; have hcz21_4 : w19.cell? ⟨gb216, 4, none⟩ = some (.int .i64 a0_4) := bc_ BK216.out 4; have hcz21_5 : w19.cell? ⟨gb216, 5, none⟩ = some (.slice A0_5 l0_5.length c0_5) := bc_ BK216.out 5; have hfz21_0 := blk_frozen BK216.out 0; have hfz21_1 := blk_frozen BK216.out 1; have hfz21_2 := blk_frozen BK216.out 2; have hfz21_3 := blk_frozen BK216.out 3; have hfz21_4 := blk_frozen BK216.out 4; have hfz21_5 := blk_frozen BK216.out 5) | ((with_reducible refine gate_builtin (b := .append) (xs := #[.tmp 14, .tmp 16]) rfl ?_); at_builtin; refine Kd.R_append_rows (Kd.int .i64) (w0 := w) w.heap.size rfl (.tmp 14) (.tmp 16) 22 3 (.int .i64 0) 8 rfl Try.underlying22 info3 rfl (by decide) (by omega) v226 y225 l0_5 _ _ _ (fun k_ => some k_ ≠ (.slice Ao17 y222.length co17 : Value).ownBlock) (fun _ => False) rfl rfl ?aO ?aR (fun _ _ h => h) (fun _ h => h.elim) ?aF ?aB ?aS ?aL ?_; (case aR => exact kc_ (Kd.C_below HR0_5.out HB.out)); (case aB => exact bl_); (case aF => exact (fun k_ hk => Kd.fresh' (Kd.R_lt (kr_ HO224.out)) k_ hk)); (case aO => exact (kp_ HO227.out)); (case aS => exact bz_); (case aL => have := LMc4.out; omega); intro v229 w22 ho hb hg hat; rw [← Ny228.out] at ho; replace BK216 := bgr_ BK216 hg HO227 BK216; replace BK217 := bgr_ BK217 hg HO227 BK217; replace BK218 := bgr_ BK218 hg HO227 BK218; replace HO224 := Aside0.mk (Kd.R_after (ok := (fun _ => True)) (kr_ HO224.out) hg hat); replace HB := Aside0.mk (hb); have HO230 := Aside0.mk (ho); clear HO227 ho hb hg hat; obtain ⟨Ao23, co23, eo23⟩ := Kd.R_slice HO230.out; subst eo23; have hcz24_0 : w22.cell? ⟨gb216, 0, none⟩ = some (.int .i64 a0_0) := bc_ BK216.out 0; have hcz24_1 : w22.cell? ⟨gb216, 1, none⟩ = some (.int .i64 a0_1) := bc_ BK216.out 1; have hcz24_2 : w22.cell? ⟨gb216, 2, none⟩ = some (.slice Ao17 y222.length co17) := bc_ BK216.out 2; have hcz24_3 : w22.cell? ⟨gb216, 3, none⟩ = some (.int .i64 a0_3) := bc_ BK216.out 3; have hcz24_4 : w22.cell? ⟨gb216, 4, none⟩ = some (.int .i64 a0_4) := bc_ BK216.out 4; have hcz24_5 : w22.cell? ⟨gb216, 5, none⟩ = some (.slice A0_5 l0_5.length c0_5) := bc_ BK216.out 5; have hfz24_0 := blk_frozen BK216.out 0; have hfz24_1 := blk_frozen BK216.out 1; have hfz24_2 := blk_frozen BK216.out 2; have hfz24_3 := blk_frozen BK216.out 3; have hfz24_4 := blk_frozen BK216.out 4; have hfz24_5 := blk_frozen BK216.out 5; have hnb25 := NB217_218.out; have hnc25 := NB218_217.out; have hcz26_0 : w22.cell? ⟨gb217, 0, none⟩ = some (.int .i64 a1_0) := bc_ BK217.out 0; have hcz26_1 : w22.cell? ⟨gb217, 1, none⟩ = some (.int .i64 a1_1) := bc_ BK217.out 1; have hcz26_2 : w22.cell? ⟨gb217, 2, none⟩ = some (.int .i64 a1_2) := bc_ BK217.out 2; have hfz26_0 := blk_frozen BK217.out 0; have hfz26_1 := blk_frozen BK217.out 1; have hfz26_2 := blk_frozen BK217.out 2) | ((with_reducible refine gate_callee (f := 50) rfl ?_); refine goesL_ (some 25) rfl rfl Try.func50 (by kernel_rfl) rfl #[.int .i64 a1_1, .int .i64 0, .int .i64 (wrap64 ((y222.length : Int) - 1))] rfl nc_ ?_; (with_reducible refine (impl_in.calls a1_1 0 (wrap64 ((y222.length : Int) - 1)) t231 _ A5.out).mono ?_); rintro e w' ⟨rfl, ⟨nd, rfl⟩⟩; refine ⟨_, rfl, ?_⟩))
  (try simp only [Act.put, List.setIfInBounds_toArray, List.set_cons_zero, List.set_cons_succ])
  go_cut [7] (fun v7 wc => ∃ (kq : Nat) (x7_6 : Bool), v7 = .bool x7_6 ∧ Aside0 (impl_Leases_step.j0 kq x7_6 a0_0 a0_1 y222 a0_3 a0_4 y228 a1_0 a1_1 a1_2 = some (r1, r2, r3, r4, r5, r6, r7)) ∧ Aside0 (kq ≤ k) ∧ Aside0 (Kd.R (Kd.int .i64) 3 wc w.heap.size (fun k_ => some k_ ≠ ((.slice Ao23 y228.length co23) : Value).ownBlock) (.slice Ao17 y222.length co17) y222) ∧ Aside0 (Kd.R (Kd.int .i64) 3 wc w.heap.size (fun k_ => some k_ ≠ ((.slice Ao17 y222.length co17) : Value).ownBlock) (.slice Ao23 y228.length co23) y228) ∧ Aside0 (wc.heap[gb216]? = some (.cells #[.int .i64 a0_0, .int .i64 a0_1, (.slice Ao17 y222.length co17), .int .i64 a0_3, .int .i64 a0_4, (.slice Ao23 y228.length co23)] 24 (0, 0))) ∧ Aside0 (wc.heap[gb217]? = some (.cells #[.int .i64 a1_0, .int .i64 a1_1, .int .i64 a1_2] 45 (0, 0))) ∧ Aside0 (wc.heap[gb218]? = some (.cells #[.int .i64 0, .int .i64 0, (.slice none 0 0), .int .i64 0, .int .i64 0, (.slice none 0 0)] 24 (0, 0))) ∧ Aside0 (Below w.heap.size w wc))
  case first =>
   have H := HC7.out
   clear HC7
   by_cases c27 : t231 = true
   rotate_left
   ·replace c27 := Bool.eq_false_iff.mpr c27
    subst c27
    have H1 : (impl_Leases_step.j0 k false a0_0 a0_1 y222 a0_3 a0_4 y228 a1_0 a1_1 a1_2) = some (r1, r2, r3, r4, r5, r6, r7) := by rw [if_neg (show ¬ (false = true) by decide)] at H; exact H
    clear H
    have H := H1
    clear H1
    have H' := Aside0.mk H
    clear H
    go_wp2
    go_meet
    case rel => exact ⟨_, (false), (by first | rfl | (simp; done) | (simp [*]; done)), H', ⟨by first | omega | exact Nat.le_refl _⟩, ⟨by exact kr_ (Kd.R_mono (Kd.R_far (p := ⟨gb216, 5, none⟩) (Kd.R_types HO224.out BK216.out (by decide)) (fun _ hk => hk.2) (.slice Ao23 y228.length co23)) (fun _ hk => hk.1.2))⟩, ⟨by exact kr_ (Kd.R_mono (Kd.R_far (p := ⟨gb216, 5, none⟩) (Kd.R_types HO230.out BK216.out (by decide)) (fun _ hk => hk.2) (.slice Ao23 y228.length co23)) (fun _ hk => hk.1))⟩, ⟨by (with_reducible repeat (first | refine blk_drewN ?_ _ | refine blk_drew ?_ | refine blk_alloc ?_ _)); refine blk_put (cs := #[.int .i64 a0_0, .int .i64 a0_1, .slice Ao17 y222.length co17, .int .i64 a0_3, .int .i64 a0_4, .slice A0_5 l0_5.length c0_5]) ?_ 5 _ rfl; exact kb_ BK216.out⟩, ⟨kz_⟩, ⟨kz_⟩, ⟨bl_⟩⟩
   subst c27
   have H1 : ((impl_in.f a1_2 1 1000000).bind fun t232 => (if t232 = true then (if a1_1 = a0_3 then (impl_Leases_step.j0 k true a0_0 a0_1 y222 a0_3 a0_4 y228 a1_0 a1_1 a1_2) else (impl_Leases_step.j0 k (decide (a0_1 ≥ a0_4)) a0_0 a0_1 y222 a0_3 a0_4 y228 a1_0 a1_1 a1_2)) else (impl_Leases_step.j0 k false a0_0 a0_1 y222 a0_3 a0_4 y228 a1_0 a1_1 a1_2))) = some (r1, r2, r3, r4, r5, r6, r7) := by rw [if_pos rfl] at H; exact H
   clear H
   have H := H1
   clear H1
   replace H := Option.bind_eq_some_iff.mp H
   obtain ⟨t232, A280, H⟩ := H
   replace H : (if t232 = true then (if a1_1 = a0_3 then (impl_Leases_step.j0 k true a0_0 a0_1 y222 a0_3 a0_4 y228 a1_0 a1_1 a1_2) else (impl_Leases_step.j0 k (decide (a0_1 ≥ a0_4)) a0_0 a0_1 y222 a0_3 a0_4 y228 a1_0 a1_1 a1_2)) else (impl_Leases_step.j0 k false a0_0 a0_1 y222 a0_3 a0_4 y228 a1_0 a1_1 a1_2)) = some (r1, r2, r3, r4, r5, r6, r7) := H
   have A28 := Aside0.mk A280
   clear A280
   by_cases c29 : t232 = true
   rotate_left
   ·replace c29 := Bool.eq_false_iff.mpr c29
    subst c29
    have H1 : (impl_Leases_step.j0 k false a0_0 a0_1 y222 a0_3 a0_4 y228 a1_0 a1_1 a1_2) = some (r1, r2, r3, r4, r5, r6, r7) := by rw [if_neg (show ¬ (false = true) by decide)] at H; exact H
    clear H
    have H := H1
    clear H1
    have H' := Aside0.mk H
    clear H
    have hnb41 := NB217_216.out
    have hnc41 := NB216_217.out
    have hnb42 := NB217_218.out
    have hnc42 := NB218_217.out
    have hcz43_0 : w22.cell? ⟨gb217, 0, none⟩ = some (.int .i64 a1_0) := bc_ BK217.out 0
    have hcz43_1 : w22.cell? ⟨gb217, 1, none⟩ = some (.int .i64 a1_1) := bc_ BK217.out 1
    have hcz43_2 : w22.cell? ⟨gb217, 2, none⟩ = some (.int .i64 a1_2) := bc_ BK217.out 2
    have hfz43_0 := blk_frozen BK217.out 0
    have hfz43_1 := blk_frozen BK217.out 1
    have hfz43_2 := blk_frozen BK217.out 2
    go_wp2_with (first | (go_at_call 50; (with_reducible refine (impl_in.calls a1_2 1 1000000 false _ A28.out).mono ?_); rintro e w' ⟨rfl, ⟨nd, rfl⟩⟩))
    go_meet
    case rel => exact ⟨_, (false), (by first | rfl | (simp; done) | (simp [*]; done)), H', ⟨by first | omega | exact Nat.le_refl _⟩, ⟨by exact kr_ (Kd.R_mono (Kd.R_far (p := ⟨gb216, 5, none⟩) (Kd.R_types HO224.out BK216.out (by decide)) (fun _ hk => hk.2) (.slice Ao23 y228.length co23)) (fun _ hk => hk.1.2))⟩, ⟨by exact kr_ (Kd.R_mono (Kd.R_far (p := ⟨gb216, 5, none⟩) (Kd.R_types HO230.out BK216.out (by decide)) (fun _ hk => hk.2) (.slice Ao23 y228.length co23)) (fun _ hk => hk.1))⟩, ⟨by (with_reducible repeat (first | refine blk_drewN ?_ _ | refine blk_drew ?_ | refine blk_alloc ?_ _)); refine blk_put (cs := #[.int .i64 a0_0, .int .i64 a0_1, .slice Ao17 y222.length co17, .int .i64 a0_3, .int .i64 a0_4, .slice A0_5 l0_5.length c0_5]) ?_ 5 _ rfl; exact kb_ BK216.out⟩, ⟨kz_⟩, ⟨kz_⟩, ⟨bl_⟩⟩
   subst c29
   have H1 : (if a1_1 = a0_3 then (impl_Leases_step.j0 k true a0_0 a0_1 y222 a0_3 a0_4 y228 a1_0 a1_1 a1_2) else (impl_Leases_step.j0 k (decide (a0_1 ≥ a0_4)) a0_0 a0_1 y222 a0_3 a0_4 y228 a1_0 a1_1 a1_2)) = some (r1, r2, r3, r4, r5, r6, r7) := by rw [if_pos rfl] at H; exact H
   clear H
   have H := H1
   clear H1
   by_cases c30 : a1_1 = a0_3
   ·rw [if_pos c30] at H
    have c30b0 : (a1_1 == a0_3) = true := beq_iff_eq.mpr c30
    have c30b1 : (a1_1 != a0_3) = false := bne_eq_false_iff_eq.mpr c30
    clear c30
    (first | rw [c30b0] | (simp only [i64_w, i32_w]; rw [c30b0]) | skip)
    have H' := Aside0.mk H
    clear H
    have hnb31 := NB217_216.out
    have hnc31 := NB216_217.out
    have hnb32 := NB217_218.out
    have hnc32 := NB218_217.out
    have hcz33_0 : w22.cell? ⟨gb217, 0, none⟩ = some (.int .i64 a1_0) := bc_ BK217.out 0
    have hcz33_1 : w22.cell? ⟨gb217, 1, none⟩ = some (.int .i64 a1_1) := bc_ BK217.out 1
    have hcz33_2 : w22.cell? ⟨gb217, 2, none⟩ = some (.int .i64 a1_2) := bc_ BK217.out 2
    have hfz33_0 := blk_frozen BK217.out 0
    have hfz33_1 := blk_frozen BK217.out 1
    have hfz33_2 := blk_frozen BK217.out 2
    go_wp2_with (first | (go_at_call 50; (with_reducible refine (impl_in.calls a1_2 1 1000000 true _ A28.out).mono ?_); rintro e w' ⟨rfl, ⟨nd, rfl⟩⟩; have hnb34 := NB216_218.out; have hnc34 := NB218_216.out; have hcz35_0 : w22.cell? ⟨gb216, 0, none⟩ = some (.int .i64 a0_0) := bc_ BK216.out 0; have hcz35_1 : w22.cell? ⟨gb216, 1, none⟩ = some (.int .i64 a0_1) := bc_ BK216.out 1; have hcz35_2 : w22.cell? ⟨gb216, 2, none⟩ = some (.slice Ao17 y222.length co17) := bc_ BK216.out 2; have hcz35_3 : w22.cell? ⟨gb216, 3, none⟩ = some (.int .i64 a0_3) := bc_ BK216.out 3; have hcz35_4 : w22.cell? ⟨gb216, 4, none⟩ = some (.int .i64 a0_4) := bc_ BK216.out 4; have hcz35_5 : w22.cell? ⟨gb216, 5, none⟩ = some (.slice A0_5 l0_5.length c0_5) := bc_ BK216.out 5; have hfz35_0 := blk_frozen BK216.out 0; have hfz35_1 := blk_frozen BK216.out 1; have hfz35_2 := blk_frozen BK216.out 2; have hfz35_3 := blk_frozen BK216.out 3; have hfz35_4 := blk_frozen BK216.out 4; have hfz35_5 := blk_frozen BK216.out 5))
    go_meet
    case rel => exact ⟨_, (true), (by first | rfl | (simp; done) | (simp [*]; done)), H', ⟨by first | omega | exact Nat.le_refl _⟩, ⟨by exact kr_ (Kd.R_mono (Kd.R_far (p := ⟨gb216, 5, none⟩) (Kd.R_types HO224.out BK216.out (by decide)) (fun _ hk => hk.2) (.slice Ao23 y228.length co23)) (fun _ hk => hk.1.2))⟩, ⟨by exact kr_ (Kd.R_mono (Kd.R_far (p := ⟨gb216, 5, none⟩) (Kd.R_types HO230.out BK216.out (by decide)) (fun _ hk => hk.2) (.slice Ao23 y228.length co23)) (fun _ hk => hk.1))⟩, ⟨by (with_reducible repeat (first | refine blk_drewN ?_ _ | refine blk_drew ?_ | refine blk_alloc ?_ _)); refine blk_put (cs := #[.int .i64 a0_0, .int .i64 a0_1, .slice Ao17 y222.length co17, .int .i64 a0_3, .int .i64 a0_4, .slice A0_5 l0_5.length c0_5]) ?_ 5 _ rfl; exact kb_ BK216.out⟩, ⟨kz_⟩, ⟨kz_⟩, ⟨bl_⟩⟩
   rw [if_neg c30] at H
   have c30b0 : (a1_1 == a0_3) = false := beq_eq_false_iff_ne.mpr c30
   have c30b1 : (a1_1 != a0_3) = true := bne_iff_ne.mpr c30
   (first | rw [c30b0] | (simp only [i64_w, i32_w]; rw [c30b0]) | skip)
   have H' := Aside0.mk H
   clear H
   have hnb36 := NB217_216.out
   have hnc36 := NB216_217.out
   have hnb37 := NB217_218.out
   have hnc37 := NB218_217.out
   have hcz38_0 : w22.cell? ⟨gb217, 0, none⟩ = some (.int .i64 a1_0) := bc_ BK217.out 0
   have hcz38_1 : w22.cell? ⟨gb217, 1, none⟩ = some (.int .i64 a1_1) := bc_ BK217.out 1
   have hcz38_2 : w22.cell? ⟨gb217, 2, none⟩ = some (.int .i64 a1_2) := bc_ BK217.out 2
   have hfz38_0 := blk_frozen BK217.out 0
   have hfz38_1 := blk_frozen BK217.out 1
   have hfz38_2 := blk_frozen BK217.out 2
   go_wp2_with (first | (go_at_call 50; (with_reducible refine (impl_in.calls a1_2 1 1000000 true _ A28.out).mono ?_); rintro e w' ⟨rfl, ⟨nd, rfl⟩⟩; have hnb39 := NB216_218.out; have hnc39 := NB218_216.out; have hcz40_0 : w22.cell? ⟨gb216, 0, none⟩ = some (.int .i64 a0_0) := bc_ BK216.out 0; have hcz40_1 : w22.cell? ⟨gb216, 1, none⟩ = some (.int .i64 a0_1) := bc_ BK216.out 1; have hcz40_2 : w22.cell? ⟨gb216, 2, none⟩ = some (.slice Ao17 y222.length co17) := bc_ BK216.out 2; have hcz40_3 : w22.cell? ⟨gb216, 3, none⟩ = some (.int .i64 a0_3) := bc_ BK216.out 3; have hcz40_4 : w22.cell? ⟨gb216, 4, none⟩ = some (.int .i64 a0_4) := bc_ BK216.out 4; have hcz40_5 : w22.cell? ⟨gb216, 5, none⟩ = some (.slice A0_5 l0_5.length c0_5) := bc_ BK216.out 5; have hfz40_0 := blk_frozen BK216.out 0; have hfz40_1 := blk_frozen BK216.out 1; have hfz40_2 := blk_frozen BK216.out 2; have hfz40_3 := blk_frozen BK216.out 3; have hfz40_4 := blk_frozen BK216.out 4; have hfz40_5 := blk_frozen BK216.out 5))
   go_meet
   case rel => exact ⟨_, (decide (a0_1 ≥ a0_4)), (by first | rfl | (simp; done) | (simp [*]; done)), H', ⟨by first | omega | exact Nat.le_refl _⟩, ⟨by exact kr_ (Kd.R_mono (Kd.R_far (p := ⟨gb216, 5, none⟩) (Kd.R_types HO224.out BK216.out (by decide)) (fun _ hk => hk.2) (.slice Ao23 y228.length co23)) (fun _ hk => hk.1.2))⟩, ⟨by exact kr_ (Kd.R_mono (Kd.R_far (p := ⟨gb216, 5, none⟩) (Kd.R_types HO230.out BK216.out (by decide)) (fun _ hk => hk.2) (.slice Ao23 y228.length co23)) (fun _ hk => hk.1))⟩, ⟨by (with_reducible repeat (first | refine blk_drewN ?_ _ | refine blk_drew ?_ | refine blk_alloc ?_ _)); refine blk_put (cs := #[.int .i64 a0_0, .int .i64 a0_1, .slice Ao17 y222.length co17, .int .i64 a0_3, .int .i64 a0_4, .slice A0_5 l0_5.length c0_5]) ?_ 5 _ rfl; exact kb_ BK216.out⟩, ⟨kz_⟩, ⟨kz_⟩, ⟨bl_⟩⟩
  clear HC7
  try clear c1
  try clear c2
  try clear p2
  try clear c3
  try clear c4
  try clear c5
  try clear c6
  try clear c6b0
  try clear c6b1
  try clear p6
  try clear c13
  try clear c14
  try clear c25
  try clear c27
  try clear c29
  try clear c30
  try clear c30b0
  try clear c30b1
  try clear c31
  try clear c32
  try clear c34
  try clear c36
  try clear c37
  try clear c39
  try clear c41
  try clear c42
  try clear hcz15_0
  try clear hcz15_1
  try clear hcz15_2
  try clear hcz15_3
  try clear hcz15_4
  try clear hcz15_5
  try clear hcz18_0
  try clear hcz18_1
  try clear hcz18_2
  try clear hcz18_3
  try clear hcz18_4
  try clear hcz18_5
  try clear hcz21_0
  try clear hcz21_1
  try clear hcz21_2
  try clear hcz21_3
  try clear hcz21_4
  try clear hcz21_5
  try clear hcz24_0
  try clear hcz24_1
  try clear hcz24_2
  try clear hcz24_3
  try clear hcz24_4
  try clear hcz24_5
  try clear hcz26_0
  try clear hcz26_1
  try clear hcz26_2
  try clear hcz33_0
  try clear hcz33_1
  try clear hcz33_2
  try clear hcz35_0
  try clear hcz35_1
  try clear hcz35_2
  try clear hcz35_3
  try clear hcz35_4
  try clear hcz35_5
  try clear hcz38_0
  try clear hcz38_1
  try clear hcz38_2
  try clear hcz40_0
  try clear hcz40_1
  try clear hcz40_2
  try clear hcz40_3
  try clear hcz40_4
  try clear hcz40_5
  try clear hcz43_0
  try clear hcz43_1
  try clear hcz43_2
  try clear hfz15_0
  try clear hfz15_1
  try clear hfz15_2
  try clear hfz15_3
  try clear hfz15_4
  try clear hfz15_5
  try clear hfz18_0
  try clear hfz18_1
  try clear hfz18_2
  try clear hfz18_3
  try clear hfz18_4
  try clear hfz18_5
  try clear hfz21_0
  try clear hfz21_1
  try clear hfz21_2
  try clear hfz21_3
  try clear hfz21_4
  try clear hfz21_5
  try clear hfz24_0
  try clear hfz24_1
  try clear hfz24_2
  try clear hfz24_3
  try clear hfz24_4
  try clear hfz24_5
  try clear hfz26_0
  try clear hfz26_1
  try clear hfz26_2
  try clear hfz33_0
  try clear hfz33_1
  try clear hfz33_2
  try clear hfz35_0
  try clear hfz35_1
  try clear hfz35_2
  try clear hfz35_3
  try clear hfz35_4
  try clear hfz35_5
  try clear hfz38_0
  try clear hfz38_1
  try clear hfz38_2
  try clear hfz40_0
  try clear hfz40_1
  try clear hfz40_2
  try clear hfz40_3
  try clear hfz40_4
  try clear hfz40_5
  try clear hfz43_0
  try clear hfz43_1
  try clear hfz43_2
  obtain ⟨kq, x7_6, rfl, HA, HJ6, HO_217002, HO_217005, BK216, BK217, BK218, HB⟩ := hcut
  cases kq with
  | zero => exact absurd HA.out (by simp [impl_Leases_step.j0])
  | succ kj6 => ?_
  have H := HA.out
  clear HA
  simp only [impl_Leases_step.j0] at H
  by_cases c44 : x7_6 = true
  rotate_left
  ·replace c44 := Bool.eq_false_iff.mpr c44
   subst c44
   have H1 : (some (0, 0, ([] : List Int), 0, 0, ([] : List Int), false)) = some (r1, r2, r3, r4, r5, r6, r7) := by rw [if_neg (show ¬ (false = true) by decide)] at H; exact H
   clear H
   have H := H1
   clear H1
   simp only [Option.some.injEq, Prod.mk.injEq] at H
   obtain ⟨rfl, rfl, rfl, rfl, rfl, rfl, rfl⟩ := H
   have hnb81 := NB218_216.out
   have hnc81 := NB216_218.out
   have hnb82 := NB218_217.out
   have hnc82 := NB217_218.out
   have hcz83_0 : wc.cell? ⟨gb218, 0, none⟩ = some (.int .i64 0) := bc_ BK218.out 0
   have hcz83_1 : wc.cell? ⟨gb218, 1, none⟩ = some (.int .i64 0) := bc_ BK218.out 1
   have hcz83_2 : wc.cell? ⟨gb218, 2, none⟩ = some (.slice none 0 0) := bc_ BK218.out 2
   have hcz83_3 : wc.cell? ⟨gb218, 3, none⟩ = some (.int .i64 0) := bc_ BK218.out 3
   have hcz83_4 : wc.cell? ⟨gb218, 4, none⟩ = some (.int .i64 0) := bc_ BK218.out 4
   have hcz83_5 : wc.cell? ⟨gb218, 5, none⟩ = some (.slice none 0 0) := bc_ BK218.out 5
   have hfz83_0 := blk_frozen BK218.out 0
   have hfz83_1 := blk_frozen BK218.out 1
   have hfz83_2 := blk_frozen BK218.out 2
   have hfz83_3 := blk_frozen BK218.out 3
   have hfz83_4 := blk_frozen BK218.out 4
   have hfz83_5 := blk_frozen BK218.out 5
   go_wp2
   refine bodyPost_ret (results_ct rfl _ _ gb218 24 #[.int .i64 0, .int .i64 0, .slice none 0 0, .int .i64 0, .int .i64 0, .slice none 0 0] (0, 0) _ rfl (by (with_reducible repeat (first | refine blk_drewN ?_ _ | refine blk_drew ?_ | refine blk_alloc ?_ _)); refine blk_put (cs := #[.int .i64 0, .int .i64 0, .slice none 0 0, .int .i64 0, .int .i64 0, .slice none 0 0]) ?_ 5 _ rfl; (with_reducible repeat (first | refine blk_drewN ?_ _ | refine blk_drew ?_ | refine blk_alloc ?_ _)); refine blk_put (cs := #[.int .i64 0, .int .i64 0, .slice none 0 0, .int .i64 0, .int .i64 0, .slice none 0 0]) ?_ 4 _ rfl; (with_reducible repeat (first | refine blk_drewN ?_ _ | refine blk_drew ?_ | refine blk_alloc ?_ _)); refine blk_put (cs := #[.int .i64 0, .int .i64 0, .slice none 0 0, .int .i64 0, .int .i64 0, .slice none 0 0]) ?_ 3 _ rfl; (with_reducible repeat (first | refine blk_drewN ?_ _ | refine blk_drew ?_ | refine blk_alloc ?_ _)); refine blk_put (cs := #[.int .i64 0, .int .i64 0, .slice none 0 0, .int .i64 0, .int .i64 0, .slice none 0 0]) ?_ 2 _ rfl; (with_reducible repeat (first | refine blk_drewN ?_ _ | refine blk_drew ?_ | refine blk_alloc ?_ _)); refine blk_put (cs := #[.int .i64 0, .int .i64 0, .slice none 0 0, .int .i64 0, .int .i64 0, .slice none 0 0]) ?_ 1 _ rfl; (with_reducible repeat (first | refine blk_drewN ?_ _ | refine blk_drew ?_ | refine blk_alloc ?_ _)); refine blk_put (cs := #[.int .i64 0, .int .i64 0, .slice none 0 0, .int .i64 0, .int .i64 0, .slice none 0 0]) ?_ 0 _ rfl; exact kb_ BK218.out) Try.underlying24 rfl (by kernel_rfl)) rfl ?_
   exact ⟨_, _, ng_, by first | exact Kd.R_nil _ _ _ _ _ | exact Kd.N_nil _ _ _ _ _ | exact Kd.V_nil _ _ _ _ _ | exact Kd.Q_nil _ _ _ _ _ | exact Kd.S_nil _ _ _ _ _, by first | exact Kd.R_nil _ _ _ _ _ | exact Kd.N_nil _ _ _ _ _ | exact Kd.V_nil _ _ _ _ _ | exact Kd.Q_nil _ _ _ _ _ | exact Kd.S_nil _ _ _ _ _, bl_⟩
  subst c44
  have H1 : (if a1_1 = a0_3 then ((impl_areLeases.f kj6 a0_0 a0_1 y222 a1_1 (mx (wrap64 (a0_1 + a1_2)) a0_4) y228).bind fun t233 => (if t233 = true then (some (a0_0, a0_1, y222, a1_1, mx (wrap64 (a0_1 + a1_2)) a0_4, y228, true)) else (some (0, 0, ([] : List Int), 0, 0, ([] : List Int), false)))) else ((impl_areLeases.f kj6 a0_0 a0_1 y222 a1_1 (wrap64 (a0_1 + a1_2)) y228).bind fun t234 => (if t234 = true then (some (a0_0, a0_1, y222, a1_1, wrap64 (a0_1 + a1_2), y228, true)) else (some (0, 0, ([] : List Int), 0, 0, ([] : List Int), false))))) = some (r1, r2, r3, r4, r5, r6, r7) := by rw [if_pos rfl] at H; exact H
  clear H
  have H := H1
  clear H1
  by_cases c45 : a1_1 = a0_3
  rotate_left
  ·rw [if_neg c45] at H
   have c45b0 : (a1_1 == a0_3) = false := beq_eq_false_iff_ne.mpr c45
   have c45b1 : (a1_1 != a0_3) = true := bne_iff_ne.mpr c45
   replace H := Option.bind_eq_some_iff.mp H
   obtain ⟨t234, A640, H⟩ := H
   replace H : (if t234 = true then (some (a0_0, a0_1, y222, a1_1, wrap64 (a0_1 + a1_2), y228, true)) else (some (0, 0, ([] : List Int), 0, 0, ([] : List Int), false))) = some (r1, r2, r3, r4, r5, r6, r7) := H
   have A64 := Aside0.mk A640
   clear A640
   by_cases c65 : t234 = true
   rotate_left
   ·replace c65 := Bool.eq_false_iff.mpr c65
    subst c65
    have H1 : (some (0, 0, ([] : List Int), 0, 0, ([] : List Int), false)) = some (r1, r2, r3, r4, r5, r6, r7) := by rw [if_neg (show ¬ (false = true) by decide)] at H; exact H
    clear H
    have H := H1
    clear H1
    simp only [Option.some.injEq, Prod.mk.injEq] at H
    obtain ⟨rfl, rfl, rfl, rfl, rfl, rfl, rfl⟩ := H
    have hnb74 := NB216_217.out
    have hnc74 := NB217_216.out
    have hnb75 := NB216_218.out
    have hnc75 := NB218_216.out
    have hcz76_0 : wc.cell? ⟨gb216, 0, none⟩ = some (.int .i64 a0_0) := bc_ BK216.out 0
    have hcz76_1 : wc.cell? ⟨gb216, 1, none⟩ = some (.int .i64 a0_1) := bc_ BK216.out 1
    have hcz76_2 : wc.cell? ⟨gb216, 2, none⟩ = some (.slice Ao17 y222.length co17) := bc_ BK216.out 2
    have hcz76_3 : wc.cell? ⟨gb216, 3, none⟩ = some (.int .i64 a0_3) := bc_ BK216.out 3
    have hcz76_4 : wc.cell? ⟨gb216, 4, none⟩ = some (.int .i64 a0_4) := bc_ BK216.out 4
    have hcz76_5 : wc.cell? ⟨gb216, 5, none⟩ = some (.slice Ao23 y228.length co23) := bc_ BK216.out 5
    have hfz76_0 := blk_frozen BK216.out 0
    have hfz76_1 := blk_frozen BK216.out 1
    have hfz76_2 := blk_frozen BK216.out 2
    have hfz76_3 := blk_frozen BK216.out 3
    have hfz76_4 := blk_frozen BK216.out 4
    have hfz76_5 := blk_frozen BK216.out 5
    have hnb77 := NB217_218.out
    have hnc77 := NB218_217.out
    have hcz78_0 : wc.cell? ⟨gb217, 0, none⟩ = some (.int .i64 a1_0) := bc_ BK217.out 0
    have hcz78_1 : wc.cell? ⟨gb217, 1, none⟩ = some (.int .i64 a1_1) := bc_ BK217.out 1
    have hcz78_2 : wc.cell? ⟨gb217, 2, none⟩ = some (.int .i64 a1_2) := bc_ BK217.out 2
    have hfz78_0 := blk_frozen BK217.out 0
    have hfz78_1 := blk_frozen BK217.out 1
    have hfz78_2 := blk_frozen BK217.out 2
    go_wp2_with (first | (go_at_call 49; (with_reducible refine (impl_areLeases.calls kj6 a0_0 a0_1 _ _ y222 a1_1 (wrap64 (a0_1 + a1_2)) _ _ y228 false _ ?side1 ?side2 ?side3 ?side4 A64.out).mono ?_); (case side1 => refine (Kd.R_reads' (e := 3) (base := w.heap.size) (ok := fun k_ => some k_ ≠ (.slice Ao23 y228.length co23 : Value).ownBlock) (n := y222.length) (c := co17) ?_).2.2; exact (by exact kr_ ((Kd.R_mono (Kd.R_far (p := ⟨gb216, 4, none⟩) (Kd.R_far (p := ⟨gb216, 3, none⟩) (Kd.R_types HO_217002.out BK216.out (by decide)) (fun _ hk => hk.2) (.int .i64 a1_1)) (fun _ hk => hk.2) (.int .i64 (wrap64 (a0_1 + a1_2)))) (fun _ h_ => h_.1))))); (case side2 => exact (Kd.R_reads' HO_217002.out).2.1); (case side3 => refine (Kd.R_reads' (e := 3) (base := w.heap.size) (ok := fun k_ => some k_ ≠ (.slice Ao17 y222.length co17 : Value).ownBlock) (n := y228.length) (c := co23) ?_).2.2; exact (by exact kr_ ((Kd.R_mono (Kd.R_far (p := ⟨gb216, 4, none⟩) (Kd.R_far (p := ⟨gb216, 3, none⟩) (Kd.R_types HO_217005.out BK216.out (by decide)) (fun _ hk => hk.2) (.int .i64 a1_1)) (fun _ hk => hk.2) (.int .i64 (wrap64 (a0_1 + a1_2)))) (fun _ h_ => h_.1))))); (case side4 => exact (Kd.R_reads' HO_217005.out).2.1); rintro e w79 ⟨rfl, hb⟩; replace HO_217002 := Aside0.mk (Kd.R_below (by exact kr_ ((Kd.R_mono (Kd.R_far (p := ⟨gb216, 4, none⟩) (Kd.R_far (p := ⟨gb216, 3, none⟩) (Kd.R_types HO_217002.out BK216.out (by decide)) (fun _ hk => hk.2) (.int .i64 a1_1)) (fun _ hk => hk.2) (.int .i64 (wrap64 (a0_1 + a1_2)))) (fun _ h_ => h_.1)))) hb); replace HO_217005 := Aside0.mk (Kd.R_below (by exact kr_ ((Kd.R_mono (Kd.R_far (p := ⟨gb216, 4, none⟩) (Kd.R_far (p := ⟨gb216, 3, none⟩) (Kd.R_types HO_217005.out BK216.out (by decide)) (fun _ hk => hk.2) (.int .i64 a1_1)) (fun _ hk => hk.2) (.int .i64 (wrap64 (a0_1 + a1_2)))) (fun _ h_ => h_.1)))) hb); replace BK216 := Aside0.mk (blk_below (g := gb216) (o := .cells #[.int .i64 a0_0, .int .i64 a0_1, .slice Ao17 y222.length co17, .int .i64 a1_1, .int .i64 (wrap64 (a0_1 + a1_2)), .slice Ao23 y228.length co23] 24 (0, 0)) (by (with_reducible repeat (first | refine blk_drewN ?_ _ | refine blk_drew ?_ | refine blk_alloc ?_ _)); refine blk_put (cs := #[.int .i64 a0_0, .int .i64 a0_1, .slice Ao17 y222.length co17, .int .i64 a1_1, .int .i64 a0_4, .slice Ao23 y228.length co23]) ?_ 4 _ rfl; (with_reducible repeat (first | refine blk_drewN ?_ _ | refine blk_drew ?_ | refine blk_alloc ?_ _)); refine blk_put (cs := #[.int .i64 a0_0, .int .i64 a0_1, .slice Ao17 y222.length co17, .int .i64 a0_3, .int .i64 a0_4, .slice Ao23 y228.length co23]) ?_ 3 _ rfl; exact kb_ BK216.out) hb); replace BK217 := Aside0.mk (blk_below (g := gb217) (o := .cells #[.int .i64 a1_0, .int .i64 a1_1, .int .i64 a1_2] 45 (0, 0)) kz_ hb); replace BK218 := Aside0.mk (blk_below (g := gb218) (o := .cells #[.int .i64 0, .int .i64 0, .slice none 0 0, .int .i64 0, .int .i64 0, .slice none 0 0] 24 (0, 0)) kz_ hb); replace HB := Aside0.mk (below_step bl_ hb); clear hb; have hcz80_0 : w79.cell? ⟨gb218, 0, none⟩ = some (.int .i64 0) := bc_ BK218.out 0; have hcz80_1 : w79.cell? ⟨gb218, 1, none⟩ = some (.int .i64 0) := bc_ BK218.out 1; have hcz80_2 : w79.cell? ⟨gb218, 2, none⟩ = some (.slice none 0 0) := bc_ BK218.out 2; have hcz80_3 : w79.cell? ⟨gb218, 3, none⟩ = some (.int .i64 0) := bc_ BK218.out 3; have hcz80_4 : w79.cell? ⟨gb218, 4, none⟩ = some (.int .i64 0) := bc_ BK218.out 4; have hcz80_5 : w79.cell? ⟨gb218, 5, none⟩ = some (.slice none 0 0) := bc_ BK218.out 5; have hfz80_0 := blk_frozen BK218.out 0; have hfz80_1 := blk_frozen BK218.out 1; have hfz80_2 := blk_frozen BK218.out 2; have hfz80_3 := blk_frozen BK218.out 3; have hfz80_4 := blk_frozen BK218.out 4; have hfz80_5 := blk_frozen BK218.out 5))
    refine bodyPost_ret (results_ct rfl _ _ gb218 24 #[.int .i64 0, .int .i64 0, .slice none 0 0, .int .i64 0, .int .i64 0, .slice none 0 0] (0, 0) _ rfl (by (with_reducible repeat (first | refine blk_drewN ?_ _ | refine blk_drew ?_ | refine blk_alloc ?_ _)); refine blk_put (cs := #[.int .i64 0, .int .i64 0, .slice none 0 0, .int .i64 0, .int .i64 0, .slice none 0 0]) ?_ 5 _ rfl; (with_reducible repeat (first | refine blk_drewN ?_ _ | refine blk_drew ?_ | refine blk_alloc ?_ _)); refine blk_put (cs := #[.int .i64 0, .int .i64 0, .slice none 0 0, .int .i64 0, .int .i64 0, .slice none 0 0]) ?_ 4 _ rfl; (with_reducible repeat (first | refine blk_drewN ?_ _ | refine blk_drew ?_ | refine blk_alloc ?_ _)); refine blk_put (cs := #[.int .i64 0, .int .i64 0, .slice none 0 0, .int .i64 0, .int .i64 0, .slice none 0 0]) ?_ 3 _ rfl; (with_reducible repeat (first | refine blk_drewN ?_ _ | refine blk_drew ?_ | refine blk_alloc ?_ _)); refine blk_put (cs := #[.int .i64 0, .int .i64 0, .slice none 0 0, .int .i64 0, .int .i64 0, .slice none 0 0]) ?_ 2 _ rfl; (with_reducible repeat (first | refine blk_drewN ?_ _ | refine blk_drew ?_ | refine blk_alloc ?_ _)); refine blk_put (cs := #[.int .i64 0, .int .i64 0, .slice none 0 0, .int .i64 0, .int .i64 0, .slice none 0 0]) ?_ 1 _ rfl; (with_reducible repeat (first | refine blk_drewN ?_ _ | refine blk_drew ?_ | refine blk_alloc ?_ _)); refine blk_put (cs := #[.int .i64 0, .int .i64 0, .slice none 0 0, .int .i64 0, .int .i64 0, .slice none 0 0]) ?_ 0 _ rfl; exact kb_ BK218.out) Try.underlying24 rfl (by kernel_rfl)) rfl ?_
    exact ⟨_, _, ng_, by first | exact Kd.R_nil _ _ _ _ _ | exact Kd.N_nil _ _ _ _ _ | exact Kd.V_nil _ _ _ _ _ | exact Kd.Q_nil _ _ _ _ _ | exact Kd.S_nil _ _ _ _ _, by first | exact Kd.R_nil _ _ _ _ _ | exact Kd.N_nil _ _ _ _ _ | exact Kd.V_nil _ _ _ _ _ | exact Kd.Q_nil _ _ _ _ _ | exact Kd.S_nil _ _ _ _ _, bl_⟩
   subst c65
   have H1 : (some (a0_0, a0_1, y222, a1_1, wrap64 (a0_1 + a1_2), y228, true)) = some (r1, r2, r3, r4, r5, r6, r7) := by rw [if_pos rfl] at H; exact H
   clear H
   have H := H1
   clear H1
   simp only [Option.some.injEq, Prod.mk.injEq] at H
   obtain ⟨rfl, rfl, rfl, rfl, rfl, rfl, rfl⟩ := H
   have hnb66 := NB216_217.out
   have hnc66 := NB217_216.out
   have hnb67 := NB216_218.out
   have hnc67 := NB218_216.out
   have hcz68_0 : wc.cell? ⟨gb216, 0, none⟩ = some (.int .i64 a0_0) := bc_ BK216.out 0
   have hcz68_1 : wc.cell? ⟨gb216, 1, none⟩ = some (.int .i64 a0_1) := bc_ BK216.out 1
   have hcz68_2 : wc.cell? ⟨gb216, 2, none⟩ = some (.slice Ao17 y222.length co17) := bc_ BK216.out 2
   have hcz68_3 : wc.cell? ⟨gb216, 3, none⟩ = some (.int .i64 a0_3) := bc_ BK216.out 3
   have hcz68_4 : wc.cell? ⟨gb216, 4, none⟩ = some (.int .i64 a0_4) := bc_ BK216.out 4
   have hcz68_5 : wc.cell? ⟨gb216, 5, none⟩ = some (.slice Ao23 y228.length co23) := bc_ BK216.out 5
   have hfz68_0 := blk_frozen BK216.out 0
   have hfz68_1 := blk_frozen BK216.out 1
   have hfz68_2 := blk_frozen BK216.out 2
   have hfz68_3 := blk_frozen BK216.out 3
   have hfz68_4 := blk_frozen BK216.out 4
   have hfz68_5 := blk_frozen BK216.out 5
   have hnb69 := NB217_218.out
   have hnc69 := NB218_217.out
   have hcz70_0 : wc.cell? ⟨gb217, 0, none⟩ = some (.int .i64 a1_0) := bc_ BK217.out 0
   have hcz70_1 : wc.cell? ⟨gb217, 1, none⟩ = some (.int .i64 a1_1) := bc_ BK217.out 1
   have hcz70_2 : wc.cell? ⟨gb217, 2, none⟩ = some (.int .i64 a1_2) := bc_ BK217.out 2
   have hfz70_0 := blk_frozen BK217.out 0
   have hfz70_1 := blk_frozen BK217.out 1
   have hfz70_2 := blk_frozen BK217.out 2
   go_wp2_with (first | (go_at_call 49; (with_reducible refine (impl_areLeases.calls kj6 a0_0 a0_1 _ _ y222 a1_1 (wrap64 (a0_1 + a1_2)) _ _ y228 true _ ?side1 ?side2 ?side3 ?side4 A64.out).mono ?_); (case side1 => refine (Kd.R_reads' (e := 3) (base := w.heap.size) (ok := fun k_ => some k_ ≠ (.slice Ao23 y228.length co23 : Value).ownBlock) (n := y222.length) (c := co17) ?_).2.2; exact (by exact kr_ ((Kd.R_mono (Kd.R_far (p := ⟨gb216, 4, none⟩) (Kd.R_far (p := ⟨gb216, 3, none⟩) (Kd.R_types HO_217002.out BK216.out (by decide)) (fun _ hk => hk.2) (.int .i64 a1_1)) (fun _ hk => hk.2) (.int .i64 (wrap64 (a0_1 + a1_2)))) (fun _ h_ => h_.1))))); (case side2 => exact (Kd.R_reads' HO_217002.out).2.1); (case side3 => refine (Kd.R_reads' (e := 3) (base := w.heap.size) (ok := fun k_ => some k_ ≠ (.slice Ao17 y222.length co17 : Value).ownBlock) (n := y228.length) (c := co23) ?_).2.2; exact (by exact kr_ ((Kd.R_mono (Kd.R_far (p := ⟨gb216, 4, none⟩) (Kd.R_far (p := ⟨gb216, 3, none⟩) (Kd.R_types HO_217005.out BK216.out (by decide)) (fun _ hk => hk.2) (.int .i64 a1_1)) (fun _ hk => hk.2) (.int .i64 (wrap64 (a0_1 + a1_2)))) (fun _ h_ => h_.1))))); (case side4 => exact (Kd.R_reads' HO_217005.out).2.1); rintro e w71 ⟨rfl, hb⟩; replace HO_217002 := Aside0.mk (Kd.R_below (by exact kr_ ((Kd.R_mono (Kd.R_far (p := ⟨gb216, 4, none⟩) (Kd.R_far (p := ⟨gb216, 3, none⟩) (Kd.R_types HO_217002.out BK216.out (by decide)) (fun _ hk => hk.2) (.int .i64 a1_1)) (fun _ hk => hk.2) (.int .i64 (wrap64 (a0_1 + a1_2)))) (fun _ h_ => h_.1)))) hb); replace HO_217005 := Aside0.mk (Kd.R_below (by exact kr_ ((Kd.R_mono (Kd.R_far (p := ⟨gb216, 4, none⟩) (Kd.R_far (p := ⟨gb216, 3, none⟩) (Kd.R_types HO_217005.out BK216.out (by decide)) (fun _ hk => hk.2) (.int .i64 a1_1)) (fun _ hk => hk.2) (.int .i64 (wrap64 (a0_1 + a1_2)))) (fun _ h_ => h_.1)))) hb); replace BK216 := Aside0.mk (blk_below (g := gb216) (o := .cells #[.int .i64 a0_0, .int .i64 a0_1, .slice Ao17 y222.length co17, .int .i64 a1_1, .int .i64 (wrap64 (a0_1 + a1_2)), .slice Ao23 y228.length co23] 24 (0, 0)) (by (with_reducible repeat (first | refine blk_drewN ?_ _ | refine blk_drew ?_ | refine blk_alloc ?_ _)); refine blk_put (cs := #[.int .i64 a0_0, .int .i64 a0_1, .slice Ao17 y222.length co17, .int .i64 a1_1, .int .i64 a0_4, .slice Ao23 y228.length co23]) ?_ 4 _ rfl; (with_reducible repeat (first | refine blk_drewN ?_ _ | refine blk_drew ?_ | refine blk_alloc ?_ _)); refine blk_put (cs := #[.int .i64 a0_0, .int .i64 a0_1, .slice Ao17 y222.length co17, .int .i64 a0_3, .int .i64 a0_4, .slice Ao23 y228.length co23]) ?_ 3 _ rfl; exact kb_ BK216.out) hb); replace BK217 := Aside0.mk (blk_below (g := gb217) (o := .cells #[.int .i64 a1_0, .int .i64 a1_1, .int .i64 a1_2] 45 (0, 0)) kz_ hb); replace BK218 := Aside0.mk (blk_below (g := gb218) (o := .cells #[.int .i64 0, .int .i64 0, .slice none 0 0, .int .i64 0, .int .i64 0, .slice none 0 0] 24 (0, 0)) kz_ hb); replace HB := Aside0.mk (below_step bl_ hb); clear hb; have hcz72_0 : w71.cell? ⟨gb216, 0, none⟩ = some (.int .i64 a0_0) := bc_ BK216.out 0; have hcz72_1 : w71.cell? ⟨gb216, 1, none⟩ = some (.int .i64 a0_1) := bc_ BK216.out 1; have hcz72_2 : w71.cell? ⟨gb216, 2, none⟩ = some (.slice Ao17 y222.length co17) := bc_ BK216.out 2; have hcz72_3 : w71.cell? ⟨gb216, 3, none⟩ = some (.int .i64 a1_1) := bc_ BK216.out 3; have hcz72_4 : w71.cell? ⟨gb216, 4, none⟩ = some (.int .i64 (wrap64 (a0_1 + a1_2))) := bc_ BK216.out 4; have hcz72_5 : w71.cell? ⟨gb216, 5, none⟩ = some (.slice Ao23 y228.length co23) := bc_ BK216.out 5; have hfz72_0 := blk_frozen BK216.out 0; have hfz72_1 := blk_frozen BK216.out 1; have hfz72_2 := blk_frozen BK216.out 2; have hfz72_3 := blk_frozen BK216.out 3; have hfz72_4 := blk_frozen BK216.out 4; have hfz72_5 := blk_frozen BK216.out 5; have hcz73_0 : w71.cell? ⟨gb218, 0, none⟩ = some (.int .i64 0) := bc_ BK218.out 0; have hcz73_1 : w71.cell? ⟨gb218, 1, none⟩ = some (.int .i64 0) := bc_ BK218.out 1; have hcz73_2 : w71.cell? ⟨gb218, 2, none⟩ = some (.slice none 0 0) := bc_ BK218.out 2; have hcz73_3 : w71.cell? ⟨gb218, 3, none⟩ = some (.int .i64 0) := bc_ BK218.out 3; have hcz73_4 : w71.cell? ⟨gb218, 4, none⟩ = some (.int .i64 0) := bc_ BK218.out 4; have hcz73_5 : w71.cell? ⟨gb218, 5, none⟩ = some (.slice none 0 0) := bc_ BK218.out 5; have hfz73_0 := blk_frozen BK218.out 0; have hfz73_1 := blk_frozen BK218.out 1; have hfz73_2 := blk_frozen BK218.out 2; have hfz73_3 := blk_frozen BK218.out 3; have hfz73_4 := blk_frozen BK218.out 4; have hfz73_5 := blk_frozen BK218.out 5))
   refine bodyPost_ret (results_ct rfl _ _ gb218 24 #[.int .i64 a0_0, .int .i64 a0_1, .slice Ao17 y222.length co17, .int .i64 a1_1, .int .i64 (wrap64 (a0_1 + a1_2)), .slice Ao23 y228.length co23] (0, 0) _ rfl (by (with_reducible repeat (first | refine blk_drewN ?_ _ | refine blk_drew ?_ | refine blk_alloc ?_ _)); refine blk_put (cs := #[.int .i64 a0_0, .int .i64 a0_1, .slice Ao17 y222.length co17, .int .i64 a1_1, .int .i64 (wrap64 (a0_1 + a1_2)), .slice none 0 0]) ?_ 5 _ rfl; (with_reducible repeat (first | refine blk_drewN ?_ _ | refine blk_drew ?_ | refine blk_alloc ?_ _)); refine blk_put (cs := #[.int .i64 a0_0, .int .i64 a0_1, .slice Ao17 y222.length co17, .int .i64 a1_1, .int .i64 0, .slice none 0 0]) ?_ 4 _ rfl; (with_reducible repeat (first | refine blk_drewN ?_ _ | refine blk_drew ?_ | refine blk_alloc ?_ _)); refine blk_put (cs := #[.int .i64 a0_0, .int .i64 a0_1, .slice Ao17 y222.length co17, .int .i64 0, .int .i64 0, .slice none 0 0]) ?_ 3 _ rfl; (with_reducible repeat (first | refine blk_drewN ?_ _ | refine blk_drew ?_ | refine blk_alloc ?_ _)); refine blk_put (cs := #[.int .i64 a0_0, .int .i64 a0_1, .slice none 0 0, .int .i64 0, .int .i64 0, .slice none 0 0]) ?_ 2 _ rfl; (with_reducible repeat (first | refine blk_drewN ?_ _ | refine blk_drew ?_ | refine blk_alloc ?_ _)); refine blk_put (cs := #[.int .i64 a0_0, .int .i64 0, .slice none 0 0, .int .i64 0, .int .i64 0, .slice none 0 0]) ?_ 1 _ rfl; (with_reducible repeat (first | refine blk_drewN ?_ _ | refine blk_drew ?_ | refine blk_alloc ?_ _)); refine blk_put (cs := #[.int .i64 0, .int .i64 0, .slice none 0 0, .int .i64 0, .int .i64 0, .slice none 0 0]) ?_ 0 _ rfl; exact kb_ BK218.out) Try.underlying24 rfl (by kernel_rfl)) rfl ?_
   exact ⟨_, _, ng_, by exact kr_ (Kd.R_mono (Kd.R_far (p := ⟨gb218, 5, none⟩) (Kd.R_far (p := ⟨gb218, 4, none⟩) (Kd.R_far (p := ⟨gb218, 3, none⟩) (Kd.R_far (p := ⟨gb218, 2, none⟩) (Kd.R_far (p := ⟨gb218, 1, none⟩) (Kd.R_far (p := ⟨gb218, 0, none⟩) (Kd.R_types HO_217002.out BK218.out (by decide)) (fun _ hk => hk.2) (.int .i64 a0_0)) (fun _ hk => hk.2) (.int .i64 a0_1)) (fun _ hk => hk.2) (.slice Ao17 y222.length co17)) (fun _ hk => hk.2) (.int .i64 a1_1)) (fun _ hk => hk.2) (.int .i64 (wrap64 (a0_1 + a1_2)))) (fun _ hk => hk.2) (.slice Ao23 y228.length co23)) (fun _ hk => hk.1)), by exact kr_ (Kd.R_mono (Kd.R_far (p := ⟨gb218, 5, none⟩) (Kd.R_far (p := ⟨gb218, 4, none⟩) (Kd.R_far (p := ⟨gb218, 3, none⟩) (Kd.R_far (p := ⟨gb218, 2, none⟩) (Kd.R_far (p := ⟨gb218, 1, none⟩) (Kd.R_far (p := ⟨gb218, 0, none⟩) (Kd.R_types HO_217005.out BK218.out (by decide)) (fun _ hk => hk.2) (.int .i64 a0_0)) (fun _ hk => hk.2) (.int .i64 a0_1)) (fun _ hk => hk.2) (.slice Ao17 y222.length co17)) (fun _ hk => hk.2) (.int .i64 a1_1)) (fun _ hk => hk.2) (.int .i64 (wrap64 (a0_1 + a1_2)))) (fun _ hk => hk.2) (.slice Ao23 y228.length co23)) (fun _ hk => hk.1)), bl_⟩
  rw [if_pos c45] at H
  have c45b0 : (a1_1 == a0_3) = true := beq_iff_eq.mpr c45
  have c45b1 : (a1_1 != a0_3) = false := bne_eq_false_iff_eq.mpr c45
  clear c45
  obtain ⟨ji46, hji46⟩ : ∃ j_ : Int, (mx (wrap64 (a0_1 + a1_2)) a0_4) = j_ := ⟨_, rfl⟩
  replace H : ((impl_areLeases.f kj6 a0_0 a0_1 y222 a1_1 (ji46) y228).bind fun t233 => (if t233 = true then (some (a0_0, a0_1, y222, a1_1, ji46, y228, true)) else (some (0, 0, ([] : List Int), 0, 0, ([] : List Int), false)))) = some (r1, r2, r3, r4, r5, r6, r7) := by first | (rw [hji46] at H; exact H) | (simp only [hji46] at H ⊢; exact H)
  have hji46_ : (if (wrap64 (a0_1 + a1_2)) < a0_4 then a0_4 else (wrap64 (a0_1 + a1_2))) = ji46 := hji46
  replace H := Option.bind_eq_some_iff.mp H
  obtain ⟨t233, A470, H⟩ := H
  replace H : (if t233 = true then (some (a0_0, a0_1, y222, a1_1, ji46, y228, true)) else (some (0, 0, ([] : List Int), 0, 0, ([] : List Int), false))) = some (r1, r2, r3, r4, r5, r6, r7) := H
  have A47 := Aside0.mk A470
  clear A470
  by_cases c48 : t233 = true
  rotate_left
  ·replace c48 := Bool.eq_false_iff.mpr c48
   subst c48
   have H1 : (some (0, 0, ([] : List Int), 0, 0, ([] : List Int), false)) = some (r1, r2, r3, r4, r5, r6, r7) := by rw [if_neg (show ¬ (false = true) by decide)] at H; exact H
   clear H
   have H := H1
   clear H1
   simp only [Option.some.injEq, Prod.mk.injEq] at H
   obtain ⟨rfl, rfl, rfl, rfl, rfl, rfl, rfl⟩ := H
   have hnb57 := NB216_217.out
   have hnc57 := NB217_216.out
   have hnb58 := NB216_218.out
   have hnc58 := NB218_216.out
   have hcz59_0 : wc.cell? ⟨gb216, 0, none⟩ = some (.int .i64 a0_0) := bc_ BK216.out 0
   have hcz59_1 : wc.cell? ⟨gb216, 1, none⟩ = some (.int .i64 a0_1) := bc_ BK216.out 1
   have hcz59_2 : wc.cell? ⟨gb216, 2, none⟩ = some (.slice Ao17 y222.length co17) := bc_ BK216.out 2
   have hcz59_3 : wc.cell? ⟨gb216, 3, none⟩ = some (.int .i64 a0_3) := bc_ BK216.out 3
   have hcz59_4 : wc.cell? ⟨gb216, 4, none⟩ = some (.int .i64 a0_4) := bc_ BK216.out 4
   have hcz59_5 : wc.cell? ⟨gb216, 5, none⟩ = some (.slice Ao23 y228.length co23) := bc_ BK216.out 5
   have hfz59_0 := blk_frozen BK216.out 0
   have hfz59_1 := blk_frozen BK216.out 1
   have hfz59_2 := blk_frozen BK216.out 2
   have hfz59_3 := blk_frozen BK216.out 3
   have hfz59_4 := blk_frozen BK216.out 4
   have hfz59_5 := blk_frozen BK216.out 5
   have hnb60 := NB217_218.out
   have hnc60 := NB218_217.out
   have hcz61_0 : wc.cell? ⟨gb217, 0, none⟩ = some (.int .i64 a1_0) := bc_ BK217.out 0
   have hcz61_1 : wc.cell? ⟨gb217, 1, none⟩ = some (.int .i64 a1_1) := bc_ BK217.out 1
   have hcz61_2 : wc.cell? ⟨gb217, 2, none⟩ = some (.int .i64 a1_2) := bc_ BK217.out 2
   have hfz61_0 := blk_frozen BK217.out 0
   have hfz61_1 := blk_frozen BK217.out 1
   have hfz61_2 := blk_frozen BK217.out 2
   go_wp2_with (first | (go_at_call 49; (with_reducible refine (impl_areLeases.calls kj6 a0_0 a0_1 _ _ y222 a1_1 ji46 _ _ y228 false _ ?side1 ?side2 ?side3 ?side4 A47.out).mono ?_); (case side1 => refine (Kd.R_reads' (e := 3) (base := w.heap.size) (ok := fun k_ => some k_ ≠ (.slice Ao23 y228.length co23 : Value).ownBlock) (n := y222.length) (c := co17) ?_).2.2; exact (by exact kr_ ((Kd.R_mono (Kd.R_far (p := ⟨gb216, 4, none⟩) (Kd.R_far (p := ⟨gb216, 3, none⟩) (Kd.R_types HO_217002.out BK216.out (by decide)) (fun _ hk => hk.2) (.int .i64 a1_1)) (fun _ hk => hk.2) (.int .i64 ji46)) (fun _ h_ => h_.1))))); (case side2 => exact (Kd.R_reads' HO_217002.out).2.1); (case side3 => refine (Kd.R_reads' (e := 3) (base := w.heap.size) (ok := fun k_ => some k_ ≠ (.slice Ao17 y222.length co17 : Value).ownBlock) (n := y228.length) (c := co23) ?_).2.2; exact (by exact kr_ ((Kd.R_mono (Kd.R_far (p := ⟨gb216, 4, none⟩) (Kd.R_far (p := ⟨gb216, 3, none⟩) (Kd.R_types HO_217005.out BK216.out (by decide)) (fun _ hk => hk.2) (.int .i64 a1_1)) (fun _ hk => hk.2) (.int .i64 ji46)) (fun _ h_ => h_.1))))); (case side4 => exact (Kd.R_reads' HO_217005.out).2.1); rintro e w62 ⟨rfl, hb⟩; replace HO_217002 := Aside0.mk (Kd.R_below (by exact kr_ ((Kd.R_mono (Kd.R_far (p := ⟨gb216, 4, none⟩) (Kd.R_far (p := ⟨gb216, 3, none⟩) (Kd.R_types HO_217002.out BK216.out (by decide)) (fun _ hk => hk.2) (.int .i64 a1_1)) (fun _ hk => hk.2) (.int .i64 ji46)) (fun _ h_ => h_.1)))) hb); replace HO_217005 := Aside0.mk (Kd.R_below (by exact kr_ ((Kd.R_mono (Kd.R_far (p := ⟨gb216, 4, none⟩) (Kd.R_far (p := ⟨gb216, 3, none⟩) (Kd.R_types HO_217005.out BK216.out (by decide)) (fun _ hk => hk.2) (.int .i64 a1_1)) (fun _ hk => hk.2) (.int .i64 ji46)) (fun _ h_ => h_.1)))) hb); replace BK216 := Aside0.mk (blk_below (g := gb216) (o := .cells #[.int .i64 a0_0, .int .i64 a0_1, .slice Ao17 y222.length co17, .int .i64 a1_1, .int .i64 ji46, .slice Ao23 y228.length co23] 24 (0, 0)) (by (with_reducible repeat (first | refine blk_drewN ?_ _ | refine blk_drew ?_ | refine blk_alloc ?_ _)); refine blk_put (cs := #[.int .i64 a0_0, .int .i64 a0_1, .slice Ao17 y222.length co17, .int .i64 a1_1, .int .i64 a0_4, .slice Ao23 y228.length co23]) ?_ 4 _ rfl; (with_reducible repeat (first | refine blk_drewN ?_ _ | refine blk_drew ?_ | refine blk_alloc ?_ _)); refine blk_put (cs := #[.int .i64 a0_0, .int .i64 a0_1, .slice Ao17 y222.length co17, .int .i64 a0_3, .int .i64 a0_4, .slice Ao23 y228.length co23]) ?_ 3 _ rfl; exact kb_ BK216.out) hb); replace BK217 := Aside0.mk (blk_below (g := gb217) (o := .cells #[.int .i64 a1_0, .int .i64 a1_1, .int .i64 a1_2] 45 (0, 0)) kz_ hb); replace BK218 := Aside0.mk (blk_below (g := gb218) (o := .cells #[.int .i64 0, .int .i64 0, .slice none 0 0, .int .i64 0, .int .i64 0, .slice none 0 0] 24 (0, 0)) kz_ hb); replace HB := Aside0.mk (below_step bl_ hb); clear hb; have hcz63_0 : w62.cell? ⟨gb218, 0, none⟩ = some (.int .i64 0) := bc_ BK218.out 0; have hcz63_1 : w62.cell? ⟨gb218, 1, none⟩ = some (.int .i64 0) := bc_ BK218.out 1; have hcz63_2 : w62.cell? ⟨gb218, 2, none⟩ = some (.slice none 0 0) := bc_ BK218.out 2; have hcz63_3 : w62.cell? ⟨gb218, 3, none⟩ = some (.int .i64 0) := bc_ BK218.out 3; have hcz63_4 : w62.cell? ⟨gb218, 4, none⟩ = some (.int .i64 0) := bc_ BK218.out 4; have hcz63_5 : w62.cell? ⟨gb218, 5, none⟩ = some (.slice none 0 0) := bc_ BK218.out 5; have hfz63_0 := blk_frozen BK218.out 0; have hfz63_1 := blk_frozen BK218.out 1; have hfz63_2 := blk_frozen BK218.out 2; have hfz63_3 := blk_frozen BK218.out 3; have hfz63_4 := blk_frozen BK218.out 4; have hfz63_5 := blk_frozen BK218.out 5))
   refine bodyPost_ret (results_ct rfl _ _ gb218 24 #[.int .i64 0, .int .i64 0, .slice none 0 0, .int .i64 0, .int .i64 0, .slice none 0 0] (0, 0) _ rfl (by (with_reducible repeat (first | refine blk_drewN ?_ _ | refine blk_drew ?_ | refine blk_alloc ?_ _)); refine blk_put (cs := #[.int .i64 0, .int .i64 0, .slice none 0 0, .int .i64 0, .int .i64 0, .slice none 0 0]) ?_ 5 _ rfl; (with_reducible repeat (first | refine blk_drewN ?_ _ | refine blk_drew ?_ | refine blk_alloc ?_ _)); refine blk_put (cs := #[.int .i64 0, .int .i64 0, .slice none 0 0, .int .i64 0, .int .i64 0, .slice none 0 0]) ?_ 4 _ rfl; (with_reducible repeat (first | refine blk_drewN ?_ _ | refine blk_drew ?_ | refine blk_alloc ?_ _)); refine blk_put (cs := #[.int .i64 0, .int .i64 0, .slice none 0 0, .int .i64 0, .int .i64 0, .slice none 0 0]) ?_ 3 _ rfl; (with_reducible repeat (first | refine blk_drewN ?_ _ | refine blk_drew ?_ | refine blk_alloc ?_ _)); refine blk_put (cs := #[.int .i64 0, .int .i64 0, .slice none 0 0, .int .i64 0, .int .i64 0, .slice none 0 0]) ?_ 2 _ rfl; (with_reducible repeat (first | refine blk_drewN ?_ _ | refine blk_drew ?_ | refine blk_alloc ?_ _)); refine blk_put (cs := #[.int .i64 0, .int .i64 0, .slice none 0 0, .int .i64 0, .int .i64 0, .slice none 0 0]) ?_ 1 _ rfl; (with_reducible repeat (first | refine blk_drewN ?_ _ | refine blk_drew ?_ | refine blk_alloc ?_ _)); refine blk_put (cs := #[.int .i64 0, .int .i64 0, .slice none 0 0, .int .i64 0, .int .i64 0, .slice none 0 0]) ?_ 0 _ rfl; exact kb_ BK218.out) Try.underlying24 rfl (by kernel_rfl)) rfl ?_
   exact ⟨_, _, by first | rfl | (simp [errW_none, errW_some] <;> rfl) | (simp only [← hji46]; first | rfl | (simp [errW_none, errW_some] <;> rfl)) | (simp [*, errW_none, errW_some] <;> rfl), by first | exact Kd.R_nil _ _ _ _ _ | exact Kd.N_nil _ _ _ _ _ | exact Kd.V_nil _ _ _ _ _ | exact Kd.Q_nil _ _ _ _ _ | exact Kd.S_nil _ _ _ _ _, by first | exact Kd.R_nil _ _ _ _ _ | exact Kd.N_nil _ _ _ _ _ | exact Kd.V_nil _ _ _ _ _ | exact Kd.Q_nil _ _ _ _ _ | exact Kd.S_nil _ _ _ _ _, bl_⟩
  subst c48
  have H1 : (some (a0_0, a0_1, y222, a1_1, ji46, y228, true)) = some (r1, r2, r3, r4, r5, r6, r7) := by rw [if_pos rfl] at H; exact H
  clear H
  have H := H1
  clear H1
  simp only [Option.some.injEq, Prod.mk.injEq] at H
  obtain ⟨rfl, rfl, rfl, rfl, rfl, rfl, rfl⟩ := H
  have hnb49 := NB216_217.out
  have hnc49 := NB217_216.out
  have hnb50 := NB216_218.out
  have hnc50 := NB218_216.out
  have hcz51_0 : wc.cell? ⟨gb216, 0, none⟩ = some (.int .i64 a0_0) := bc_ BK216.out 0
  have hcz51_1 : wc.cell? ⟨gb216, 1, none⟩ = some (.int .i64 a0_1) := bc_ BK216.out 1
  have hcz51_2 : wc.cell? ⟨gb216, 2, none⟩ = some (.slice Ao17 y222.length co17) := bc_ BK216.out 2
  have hcz51_3 : wc.cell? ⟨gb216, 3, none⟩ = some (.int .i64 a0_3) := bc_ BK216.out 3
  have hcz51_4 : wc.cell? ⟨gb216, 4, none⟩ = some (.int .i64 a0_4) := bc_ BK216.out 4
  have hcz51_5 : wc.cell? ⟨gb216, 5, none⟩ = some (.slice Ao23 y228.length co23) := bc_ BK216.out 5
  have hfz51_0 := blk_frozen BK216.out 0
  have hfz51_1 := blk_frozen BK216.out 1
  have hfz51_2 := blk_frozen BK216.out 2
  have hfz51_3 := blk_frozen BK216.out 3
  have hfz51_4 := blk_frozen BK216.out 4
  have hfz51_5 := blk_frozen BK216.out 5
  have hnb52 := NB217_218.out
  have hnc52 := NB218_217.out
  have hcz53_0 : wc.cell? ⟨gb217, 0, none⟩ = some (.int .i64 a1_0) := bc_ BK217.out 0
  have hcz53_1 : wc.cell? ⟨gb217, 1, none⟩ = some (.int .i64 a1_1) := bc_ BK217.out 1
  have hcz53_2 : wc.cell? ⟨gb217, 2, none⟩ = some (.int .i64 a1_2) := bc_ BK217.out 2
  have hfz53_0 := blk_frozen BK217.out 0
  have hfz53_1 := blk_frozen BK217.out 1
  have hfz53_2 := blk_frozen BK217.out 2
  go_wp2_with (first | (go_at_call 49; (with_reducible refine (impl_areLeases.calls kj6 a0_0 a0_1 _ _ y222 a1_1 ji46 _ _ y228 true _ ?side1 ?side2 ?side3 ?side4 A47.out).mono ?_); (case side1 => refine (Kd.R_reads' (e := 3) (base := w.heap.size) (ok := fun k_ => some k_ ≠ (.slice Ao23 y228.length co23 : Value).ownBlock) (n := y222.length) (c := co17) ?_).2.2; exact (by exact kr_ ((Kd.R_mono (Kd.R_far (p := ⟨gb216, 4, none⟩) (Kd.R_far (p := ⟨gb216, 3, none⟩) (Kd.R_types HO_217002.out BK216.out (by decide)) (fun _ hk => hk.2) (.int .i64 a1_1)) (fun _ hk => hk.2) (.int .i64 ji46)) (fun _ h_ => h_.1))))); (case side2 => exact (Kd.R_reads' HO_217002.out).2.1); (case side3 => refine (Kd.R_reads' (e := 3) (base := w.heap.size) (ok := fun k_ => some k_ ≠ (.slice Ao17 y222.length co17 : Value).ownBlock) (n := y228.length) (c := co23) ?_).2.2; exact (by exact kr_ ((Kd.R_mono (Kd.R_far (p := ⟨gb216, 4, none⟩) (Kd.R_far (p := ⟨gb216, 3, none⟩) (Kd.R_types HO_217005.out BK216.out (by decide)) (fun _ hk => hk.2) (.int .i64 a1_1)) (fun _ hk => hk.2) (.int .i64 ji46)) (fun _ h_ => h_.1))))); (case side4 => exact (Kd.R_reads' HO_217005.out).2.1); rintro e w54 ⟨rfl, hb⟩; replace HO_217002 := Aside0.mk (Kd.R_below (by exact kr_ ((Kd.R_mono (Kd.R_far (p := ⟨gb216, 4, none⟩) (Kd.R_far (p := ⟨gb216, 3, none⟩) (Kd.R_types HO_217002.out BK216.out (by decide)) (fun _ hk => hk.2) (.int .i64 a1_1)) (fun _ hk => hk.2) (.int .i64 ji46)) (fun _ h_ => h_.1)))) hb); replace HO_217005 := Aside0.mk (Kd.R_below (by exact kr_ ((Kd.R_mono (Kd.R_far (p := ⟨gb216, 4, none⟩) (Kd.R_far (p := ⟨gb216, 3, none⟩) (Kd.R_types HO_217005.out BK216.out (by decide)) (fun _ hk => hk.2) (.int .i64 a1_1)) (fun _ hk => hk.2) (.int .i64 ji46)) (fun _ h_ => h_.1)))) hb); replace BK216 := Aside0.mk (blk_below (g := gb216) (o := .cells #[.int .i64 a0_0, .int .i64 a0_1, .slice Ao17 y222.length co17, .int .i64 a1_1, .int .i64 ji46, .slice Ao23 y228.length co23] 24 (0, 0)) (by (with_reducible repeat (first | refine blk_drewN ?_ _ | refine blk_drew ?_ | refine blk_alloc ?_ _)); refine blk_put (cs := #[.int .i64 a0_0, .int .i64 a0_1, .slice Ao17 y222.length co17, .int .i64 a1_1, .int .i64 a0_4, .slice Ao23 y228.length co23]) ?_ 4 _ rfl; (with_reducible repeat (first | refine blk_drewN ?_ _ | refine blk_drew ?_ | refine blk_alloc ?_ _)); refine blk_put (cs := #[.int .i64 a0_0, .int .i64 a0_1, .slice Ao17 y222.length co17, .int .i64 a0_3, .int .i64 a0_4, .slice Ao23 y228.length co23]) ?_ 3 _ rfl; exact kb_ BK216.out) hb); replace BK217 := Aside0.mk (blk_below (g := gb217) (o := .cells #[.int .i64 a1_0, .int .i64 a1_1, .int .i64 a1_2] 45 (0, 0)) kz_ hb); replace BK218 := Aside0.mk (blk_below (g := gb218) (o := .cells #[.int .i64 0, .int .i64 0, .slice none 0 0, .int .i64 0, .int .i64 0, .slice none 0 0] 24 (0, 0)) kz_ hb); replace HB := Aside0.mk (below_step bl_ hb); clear hb; have hcz55_0 : w54.cell? ⟨gb216, 0, none⟩ = some (.int .i64 a0_0) := bc_ BK216.out 0; have hcz55_1 : w54.cell? ⟨gb216, 1, none⟩ = some (.int .i64 a0_1) := bc_ BK216.out 1; have hcz55_2 : w54.cell? ⟨gb216, 2, none⟩ = some (.slice Ao17 y222.length co17) := bc_ BK216.out 2; have hcz55_3 : w54.cell? ⟨gb216, 3, none⟩ = some (.int .i64 a1_1) := bc_ BK216.out 3; have hcz55_4 : w54.cell? ⟨gb216, 4, none⟩ = some (.int .i64 ji46) := bc_ BK216.out 4; have hcz55_5 : w54.cell? ⟨gb216, 5, none⟩ = some (.slice Ao23 y228.length co23) := bc_ BK216.out 5; have hfz55_0 := blk_frozen BK216.out 0; have hfz55_1 := blk_frozen BK216.out 1; have hfz55_2 := blk_frozen BK216.out 2; have hfz55_3 := blk_frozen BK216.out 3; have hfz55_4 := blk_frozen BK216.out 4; have hfz55_5 := blk_frozen BK216.out 5; have hcz56_0 : w54.cell? ⟨gb218, 0, none⟩ = some (.int .i64 0) := bc_ BK218.out 0; have hcz56_1 : w54.cell? ⟨gb218, 1, none⟩ = some (.int .i64 0) := bc_ BK218.out 1; have hcz56_2 : w54.cell? ⟨gb218, 2, none⟩ = some (.slice none 0 0) := bc_ BK218.out 2; have hcz56_3 : w54.cell? ⟨gb218, 3, none⟩ = some (.int .i64 0) := bc_ BK218.out 3; have hcz56_4 : w54.cell? ⟨gb218, 4, none⟩ = some (.int .i64 0) := bc_ BK218.out 4; have hcz56_5 : w54.cell? ⟨gb218, 5, none⟩ = some (.slice none 0 0) := bc_ BK218.out 5; have hfz56_0 := blk_frozen BK218.out 0; have hfz56_1 := blk_frozen BK218.out 1; have hfz56_2 := blk_frozen BK218.out 2; have hfz56_3 := blk_frozen BK218.out 3; have hfz56_4 := blk_frozen BK218.out 4; have hfz56_5 := blk_frozen BK218.out 5))
  refine bodyPost_ret (results_ct rfl _ _ gb218 24 #[.int .i64 a0_0, .int .i64 a0_1, .slice Ao17 y222.length co17, .int .i64 a1_1, .int .i64 ji46, .slice Ao23 y228.length co23] (0, 0) _ rfl (by (with_reducible repeat (first | refine blk_drewN ?_ _ | refine blk_drew ?_ | refine blk_alloc ?_ _)); refine blk_put (cs := #[.int .i64 a0_0, .int .i64 a0_1, .slice Ao17 y222.length co17, .int .i64 a1_1, .int .i64 ji46, .slice none 0 0]) ?_ 5 _ rfl; (with_reducible repeat (first | refine blk_drewN ?_ _ | refine blk_drew ?_ | refine blk_alloc ?_ _)); refine blk_put (cs := #[.int .i64 a0_0, .int .i64 a0_1, .slice Ao17 y222.length co17, .int .i64 a1_1, .int .i64 0, .slice none 0 0]) ?_ 4 _ rfl; (with_reducible repeat (first | refine blk_drewN ?_ _ | refine blk_drew ?_ | refine blk_alloc ?_ _)); refine blk_put (cs := #[.int .i64 a0_0, .int .i64 a0_1, .slice Ao17 y222.length co17, .int .i64 0, .int .i64 0, .slice none 0 0]) ?_ 3 _ rfl; (with_reducible repeat (first | refine blk_drewN ?_ _ | refine blk_drew ?_ | refine blk_alloc ?_ _)); refine blk_put (cs := #[.int .i64 a0_0, .int .i64 a0_1, .slice none 0 0, .int .i64 0, .int .i64 0, .slice none 0 0]) ?_ 2 _ rfl; (with_reducible repeat (first | refine blk_drewN ?_ _ | refine blk_drew ?_ | refine blk_alloc ?_ _)); refine blk_put (cs := #[.int .i64 a0_0, .int .i64 0, .slice none 0 0, .int .i64 0, .int .i64 0, .slice none 0 0]) ?_ 1 _ rfl; (with_reducible repeat (first | refine blk_drewN ?_ _ | refine blk_drew ?_ | refine blk_alloc ?_ _)); refine blk_put (cs := #[.int .i64 0, .int .i64 0, .slice none 0 0, .int .i64 0, .int .i64 0, .slice none 0 0]) ?_ 0 _ rfl; exact kb_ BK218.out) Try.underlying24 rfl (by kernel_rfl)) rfl ?_
  exact ⟨_, _, by first | rfl | (simp [errW_none, errW_some] <;> rfl) | (simp only [← hji46]; first | rfl | (simp [errW_none, errW_some] <;> rfl)) | (simp [*, errW_none, errW_some] <;> rfl), by exact kr_ (Kd.R_mono (Kd.R_far (p := ⟨gb218, 5, none⟩) (Kd.R_far (p := ⟨gb218, 4, none⟩) (Kd.R_far (p := ⟨gb218, 3, none⟩) (Kd.R_far (p := ⟨gb218, 2, none⟩) (Kd.R_far (p := ⟨gb218, 1, none⟩) (Kd.R_far (p := ⟨gb218, 0, none⟩) (Kd.R_types HO_217002.out BK218.out (by decide)) (fun _ hk => hk.2) (.int .i64 a0_0)) (fun _ hk => hk.2) (.int .i64 a0_1)) (fun _ hk => hk.2) (.slice Ao17 y222.length co17)) (fun _ hk => hk.2) (.int .i64 a1_1)) (fun _ hk => hk.2) (.int .i64 ji46)) (fun _ hk => hk.2) (.slice Ao23 y228.length co23)) (fun _ hk => hk.1)), by exact kr_ (Kd.R_mono (Kd.R_far (p := ⟨gb218, 5, none⟩) (Kd.R_far (p := ⟨gb218, 4, none⟩) (Kd.R_far (p := ⟨gb218, 3, none⟩) (Kd.R_far (p := ⟨gb218, 2, none⟩) (Kd.R_far (p := ⟨gb218, 1, none⟩) (Kd.R_far (p := ⟨gb218, 0, none⟩) (Kd.R_types HO_217005.out BK218.out (by decide)) (fun _ hk => hk.2) (.int .i64 a0_0)) (fun _ hk => hk.2) (.int .i64 a0_1)) (fun _ hk => hk.2) (.slice Ao17 y222.length co17)) (fun _ hk => hk.2) (.int .i64 a1_1)) (fun _ hk => hk.2) (.int .i64 ji46)) (fun _ hk => hk.2) (.slice Ao23 y228.length co23)) (fun _ hk => hk.1)), bl_⟩
 rw [if_neg c6] at H
 have c6b0 : (a1_0 == 1) = false := beq_eq_false_iff_ne.mpr c6
 have c6b1 : (a1_0 != 1) = true := bne_iff_ne.mpr c6
 by_cases c84 : a1_0 = 2
 ·rw [if_pos c84] at H
  have c84b0 : (a1_0 == 2) = true := beq_iff_eq.mpr c84
  have c84b1 : (a1_0 != 2) = false := bne_eq_false_iff_eq.mpr c84
  clear c84
  have HC85 := Aside0.mk H
  clear H
  go_enter Try.func55, Try.ntmps55
  go_upto_region 15 with (first | ((with_reducible refine gate_dst (N := 2) rfl ?_); refine box_event rfl (N := 2) rfl (cs := #[.int .i64 a0_0, .int .i64 a0_1, .slice A0_2 l0_2.length c0_2, .int .i64 a0_3, .int .i64 a0_4, .slice A0_5 l0_5.length c0_5]) (t := 24) gs_ ?_; intro gb216 hg w86 hbox hb; have BK216 := Aside0.mk (hbox); have GW216 := Aside0.mk ((by rw [hg]; exact bz_ : w.heap.size ≤ gb216)); have GE216 := GW216; replace HB := Aside0.mk (below_step bl_ hb); clear hb hbox hg) | ((with_reducible refine gate_dst (N := 3) rfl ?_); refine box_event rfl (N := 3) rfl (cs := #[.int .i64 a1_0, .int .i64 a1_1, .int .i64 a1_2]) (t := 45) gs_ ?_; intro gb217 hg w87 hbox hb; have BK217 := Aside0.mk (hbox); have GW217 := Aside0.mk ((by rw [hg]; exact bz_ : w.heap.size ≤ gb217)); have GE217 := GW217; replace HB := Aside0.mk (below_step bl_ hb); have NB216_217 := nl_ hg BK216; have NB217_216 := nm_ hg BK216; replace BK216 := bb_ BK216 hb; clear hb hbox hg) | ((with_reducible refine gate_dst (N := 4) rfl ?_); refine box_event rfl (N := 4) rfl (cs := #[.int .i64 0, .int .i64 0, .slice none 0 0, .int .i64 0, .int .i64 0, .slice none 0 0]) (t := 24) gs_ ?_; intro gb218 hg w88 hbox hb; have BK218 := Aside0.mk (hbox); have GW218 := Aside0.mk ((by rw [hg]; exact bz_ : w.heap.size ≤ gb218)); have GE218 := GW218; replace HB := Aside0.mk (below_step bl_ hb); have NB216_218 := nl_ hg BK216; have NB218_216 := nm_ hg BK216; replace BK216 := bb_ BK216 hb; have NB217_218 := nl_ hg BK217; have NB218_217 := nm_ hg BK217; replace BK217 := bb_ BK217 hb; clear hb hbox hg) | ((with_reducible refine gate_dst (N := 9) rfl ?_); refine Kd.R_lit (Kd.int .i64) _ 3 rfl (N := 9) rfl (xs := ([] : List Int)) (inner := []) (ok := fun _ => True) (okp := fun _ => True) gs_ ?hp (fun _ hk => hk) trivial (Below.refl _ _) (Nat.le_refl _) (by simp) ?_; (case hp => exact (Reps.none _ _)); intro v220 w89 ho90 hb hg_ hnew_; clear hg_ hnew_; (first | rw [← Ny219.out] at ho90 | (simp only [Int.reduceToNat] at ho90; rw [← Ny219.out] at ho90)); have HO221 := Aside0.mk (Kd.R_lower ho90 bz_); replace BK216 := bb_ BK216 hb; replace BK217 := bb_ BK217 hb; replace BK218 := bb_ BK218 hb; replace HB := Aside0.mk (below_step bl_ hb); clear hb ho90; have hnb91 := NB216_217.out; have hnc91 := NB217_216.out; have hnb92 := NB216_218.out; have hnc92 := NB218_216.out; have hcz93_0 : w89.cell? ⟨gb216, 0, none⟩ = some (.int .i64 a0_0) := bc_ BK216.out 0; have hcz93_1 : w89.cell? ⟨gb216, 1, none⟩ = some (.int .i64 a0_1) := bc_ BK216.out 1; have hcz93_2 : w89.cell? ⟨gb216, 2, none⟩ = some (.slice A0_2 l0_2.length c0_2) := bc_ BK216.out 2; have hcz93_3 : w89.cell? ⟨gb216, 3, none⟩ = some (.int .i64 a0_3) := bc_ BK216.out 3; have hcz93_4 : w89.cell? ⟨gb216, 4, none⟩ = some (.int .i64 a0_4) := bc_ BK216.out 4; have hcz93_5 : w89.cell? ⟨gb216, 5, none⟩ = some (.slice A0_5 l0_5.length c0_5) := bc_ BK216.out 5; have hfz93_0 := blk_frozen BK216.out 0; have hfz93_1 := blk_frozen BK216.out 1; have hfz93_2 := blk_frozen BK216.out 2; have hfz93_3 := blk_frozen BK216.out 3; have hfz93_4 := blk_frozen BK216.out 4; have hfz93_5 := blk_frozen BK216.out 5) | ((with_reducible refine gate_builtin (b := .append) (xs := #[.tmp 9, .tmp 11]) rfl ?_); at_builtin; refine Kd.R_append_rows (Kd.int .i64) (w0 := w) w.heap.size rfl (.tmp 9) (.tmp 11) 22 3 (.int .i64 0) 8 rfl Try.underlying22 info3 rfl (by decide) (by omega) v220 y219 l0_2 _ _ _ (fun _ => True) (fun _ => False) rfl rfl ?aO ?aR (fun _ _ h => h) (fun _ h => h.elim) ?aF ?aB ?aS ?aL ?_; (case aR => exact kc_ (Kd.C_below HR0_2.out HB.out)); (case aB => exact bl_); (case aF => exact (fun _ _ => trivial)); (case aO => exact (kr_ HO221.out)); (case aS => exact bz_); (case aL => have := LMc3.out; omega); intro v223 w94 ho hb hg hat; rw [← Ny222.out] at ho; replace BK216 := bgr_ BK216 hg HO221 BK216; replace BK217 := bgr_ BK217 hg HO221 BK217; replace BK218 := bgr_ BK218 hg HO221 BK218; replace HB := Aside0.mk (hb); have HO224 := Aside0.mk (ho); clear HO221 ho hb hg hat; obtain ⟨Ao95, co95, eo95⟩ := Kd.R_slice HO224.out; subst eo95; have hcz96_0 : w94.cell? ⟨gb216, 0, none⟩ = some (.int .i64 a0_0) := bc_ BK216.out 0; have hcz96_1 : w94.cell? ⟨gb216, 1, none⟩ = some (.int .i64 a0_1) := bc_ BK216.out 1; have hcz96_2 : w94.cell? ⟨gb216, 2, none⟩ = some (.slice A0_2 l0_2.length c0_2) := bc_ BK216.out 2; have hcz96_3 : w94.cell? ⟨gb216, 3, none⟩ = some (.int .i64 a0_3) := bc_ BK216.out 3; have hcz96_4 : w94.cell? ⟨gb216, 4, none⟩ = some (.int .i64 a0_4) := bc_ BK216.out 4; have hcz96_5 : w94.cell? ⟨gb216, 5, none⟩ = some (.slice A0_5 l0_5.length c0_5) := bc_ BK216.out 5; have hfz96_0 := blk_frozen BK216.out 0; have hfz96_1 := blk_frozen BK216.out 1; have hfz96_2 := blk_frozen BK216.out 2; have hfz96_3 := blk_frozen BK216.out 3; have hfz96_4 := blk_frozen BK216.out 4; have hfz96_5 := blk_frozen BK216.out 5) | ((with_reducible refine gate_dst (N := 14) rfl ?_); refine Kd.R_lit (Kd.int .i64) _ 3 rfl (N := 14) rfl (xs := ([] : List Int)) (inner := []) (ok := fun _ => True) (okp := fun _ => True) gs_ ?hp (fun _ hk => hk) trivial (Below.refl _ _) (Nat.le_refl _) (by simp) ?_; (case hp => exact (Reps.none _ _)); intro v226 w97 ho98 hb hg_ hnew_; clear hg_ hnew_; (first | rw [← Ny225.out] at ho98 | (simp only [Int.reduceToNat] at ho98; rw [← Ny225.out] at ho98)); have HO227 := Aside0.mk (Kd.R_lower (Kd.R_new' ho98 (Kd.R_lt (by exact kr_ ((Kd.R_mono (Kd.R_far (p := ⟨gb216, 2, none⟩) (Kd.R_types HO224.out BK216.out (by decide)) (fun _ hk => hk.2) (.slice Ao95 y222.length co95)) (fun _ h_ => h_.1)))))) bz_); replace HO224 := Aside0.mk (Kd.R_elder' (by exact kr_ ((Kd.R_mono (Kd.R_far (p := ⟨gb216, 2, none⟩) (Kd.R_types HO224.out BK216.out (by decide)) (fun _ hk => hk.2) (.slice Ao95 y222.length co95)) (fun _ h_ => h_.1)))) (Kd.R_base ho98) hb); replace BK216 := Aside0.mk (blk_below (g := gb216) (o := .cells #[.int .i64 a0_0, .int .i64 a0_1, .slice Ao95 y222.length co95, .int .i64 a0_3, .int .i64 a0_4, .slice A0_5 l0_5.length c0_5] 24 (0, 0)) (by (with_reducible repeat (first | refine blk_drewN ?_ _ | refine blk_drew ?_ | refine blk_alloc ?_ _)); refine blk_put (cs := #[.int .i64 a0_0, .int .i64 a0_1, .slice A0_2 l0_2.length c0_2, .int .i64 a0_3, .int .i64 a0_4, .slice A0_5 l0_5.length c0_5]) ?_ 2 _ rfl; exact kb_ BK216.out) hb); replace BK217 := Aside0.mk (blk_below (g := gb217) (o := .cells #[.int .i64 a1_0, .int .i64 a1_1, .int .i64 a1_2] 45 (0, 0)) kz_ hb); replace BK218 := Aside0.mk (blk_below (g := gb218) (o := .cells #[.int .i64 0, .int .i64 0, .slice none 0 0, .int .i64 0, .int .i64 0, .slice none 0 0] 24 (0, 0)) kz_ hb); replace HB := Aside0.mk (below_step bl_ hb); clear hb ho98; have hcz99_0 : w97.cell? ⟨gb216, 0, none⟩ = some (.int .i64 a0_0) := bc_ BK216.out 0; have hcz99_1 : w97.cell? ⟨gb216, 1, none⟩ = some (.int .i64 a0_1) := bc_ BK216.out 1; have hcz99_2 : w97.cell? ⟨gb216, 2, none⟩ = some (.slice Ao95 y222.length co95) := bc_ BK216.out 2; have hcz99_3 : w97.cell? ⟨gb216, 3, none⟩ = some (.int .i64 a0_3) := bc_ BK216.out 3; have hcz99_4 : w97.cell? ⟨gb216, 4, none⟩ = some (.int .i64 a0_4) := bc_ BK216.out 4; have hcz99_5 : w97.cell? ⟨gb216, 5, none⟩ = some (.slice A0_5 l0_5.length c0_5) := bc_ BK216.out 5; have hfz99_0 := blk_frozen BK216.out 0; have hfz99_1 := blk_frozen BK216.out 1; have hfz99_2 := blk_frozen BK216.out 2; have hfz99_3 := blk_frozen BK216.out 3; have hfz99_4 := blk_frozen BK216.out 4; have hfz99_5 := blk_frozen BK216.out 5) | ((with_reducible refine gate_builtin (b := .append) (xs := #[.tmp 14, .tmp 16]) rfl ?_); at_builtin; refine Kd.R_append_rows (Kd.int .i64) (w0 := w) w.heap.size rfl (.tmp 14) (.tmp 16) 22 3 (.int .i64 0) 8 rfl Try.underlying22 info3 rfl (by decide) (by omega) v226 y225 l0_5 _ _ _ (fun k_ => some k_ ≠ (.slice Ao95 y222.length co95 : Value).ownBlock) (fun _ => False) rfl rfl ?aO ?aR (fun _ _ h => h) (fun _ h => h.elim) ?aF ?aB ?aS ?aL ?_; (case aR => exact kc_ (Kd.C_below HR0_5.out HB.out)); (case aB => exact bl_); (case aF => exact (fun k_ hk => Kd.fresh' (Kd.R_lt (kr_ HO224.out)) k_ hk)); (case aO => exact (kp_ HO227.out)); (case aS => exact bz_); (case aL => have := LMc4.out; omega); intro v229 w100 ho hb hg hat; rw [← Ny228.out] at ho; replace BK216 := bgr_ BK216 hg HO227 BK216; replace BK217 := bgr_ BK217 hg HO227 BK217; replace BK218 := bgr_ BK218 hg HO227 BK218; replace HO224 := Aside0.mk (Kd.R_after (ok := (fun _ => True)) (kr_ HO224.out) hg hat); replace HB := Aside0.mk (hb); have HO230 := Aside0.mk (ho); clear HO227 ho hb hg hat; obtain ⟨Ao101, co101, eo101⟩ := Kd.R_slice HO230.out; subst eo101; have hcz102_0 : w100.cell? ⟨gb216, 0, none⟩ = some (.int .i64 a0_0) := bc_ BK216.out 0; have hcz102_1 : w100.cell? ⟨gb216, 1, none⟩ = some (.int .i64 a0_1) := bc_ BK216.out 1; have hcz102_2 : w100.cell? ⟨gb216, 2, none⟩ = some (.slice Ao95 y222.length co95) := bc_ BK216.out 2; have hcz102_3 : w100.cell? ⟨gb216, 3, none⟩ = some (.int .i64 a0_3) := bc_ BK216.out 3; have hcz102_4 : w100.cell? ⟨gb216, 4, none⟩ = some (.int .i64 a0_4) := bc_ BK216.out 4; have hcz102_5 : w100.cell? ⟨gb216, 5, none⟩ = some (.slice A0_5 l0_5.length c0_5) := bc_ BK216.out 5; have hfz102_0 := blk_frozen BK216.out 0; have hfz102_1 := blk_frozen BK216.out 1; have hfz102_2 := blk_frozen BK216.out 2; have hfz102_3 := blk_frozen BK216.out 3; have hfz102_4 := blk_frozen BK216.out 4; have hfz102_5 := blk_frozen BK216.out 5; have hnb103 := NB217_218.out; have hnc103 := NB218_217.out; have hcz104_0 : w100.cell? ⟨gb217, 0, none⟩ = some (.int .i64 a1_0) := bc_ BK217.out 0; have hcz104_1 : w100.cell? ⟨gb217, 1, none⟩ = some (.int .i64 a1_1) := bc_ BK217.out 1; have hcz104_2 : w100.cell? ⟨gb217, 2, none⟩ = some (.int .i64 a1_2) := bc_ BK217.out 2; have hfz104_0 := blk_frozen BK217.out 0; have hfz104_1 := blk_frozen BK217.out 1; have hfz104_2 := blk_frozen BK217.out 2) | ((with_reducible refine gate_callee (f := 50) rfl ?_); refine goesL_ (some 25) rfl rfl Try.func50 (by kernel_rfl) rfl #[.int .i64 a1_1, .int .i64 0, .int .i64 (wrap64 ((y222.length : Int) - 1))] rfl nc_ ?_; (with_reducible refine (impl_in.calls a1_1 0 (wrap64 ((y222.length : Int) - 1)) t231 _ A5.out).mono ?_); rintro e w' ⟨rfl, ⟨nd, rfl⟩⟩; refine ⟨_, rfl, ?_⟩))
  (try simp only [Act.put, List.setIfInBounds_toArray, List.set_cons_zero, List.set_cons_succ])
  go_cut [7] (fun v7 wc => ∃ (kq : Nat) (x7_84 : Bool), v7 = .bool x7_84 ∧ Aside0 (impl_Leases_step.j1 kq x7_84 a0_0 a0_1 y222 a0_3 a0_4 y228 a1_0 a1_1 a1_2 = some (r1, r2, r3, r4, r5, r6, r7)) ∧ Aside0 (kq ≤ k) ∧ Aside0 (Kd.R (Kd.int .i64) 3 wc w.heap.size (fun k_ => some k_ ≠ ((.slice Ao101 y228.length co101) : Value).ownBlock) (.slice Ao95 y222.length co95) y222) ∧ Aside0 (Kd.R (Kd.int .i64) 3 wc w.heap.size (fun k_ => some k_ ≠ ((.slice Ao95 y222.length co95) : Value).ownBlock) (.slice Ao101 y228.length co101) y228) ∧ Aside0 (wc.heap[gb216]? = some (.cells #[.int .i64 a0_0, .int .i64 a0_1, (.slice Ao95 y222.length co95), .int .i64 a0_3, .int .i64 a0_4, (.slice Ao101 y228.length co101)] 24 (0, 0))) ∧ Aside0 (wc.heap[gb217]? = some (.cells #[.int .i64 a1_0, .int .i64 a1_1, .int .i64 a1_2] 45 (0, 0))) ∧ Aside0 (wc.heap[gb218]? = some (.cells #[.int .i64 0, .int .i64 0, (.slice none 0 0), .int .i64 0, .int .i64 0, (.slice none 0 0)] 24 (0, 0))) ∧ Aside0 (Below w.heap.size w wc))
  case first =>
   have H := HC85.out
   clear HC85
   by_cases c105 : t231 = true
   rotate_left
   ·replace c105 := Bool.eq_false_iff.mpr c105
    subst c105
    have H1 : (impl_Leases_step.j1 k false a0_0 a0_1 y222 a0_3 a0_4 y228 a1_0 a1_1 a1_2) = some (r1, r2, r3, r4, r5, r6, r7) := by rw [if_neg (show ¬ (false = true) by decide)] at H; exact H
    clear H
    have H := H1
    clear H1
    have H' := Aside0.mk H
    clear H
    go_wp2
    go_meet
    case rel => exact ⟨_, (false), (by first | rfl | (simp; done) | (simp [*]; done)), H', ⟨by first | omega | exact Nat.le_refl _⟩, ⟨by exact kr_ (Kd.R_mono (Kd.R_far (p := ⟨gb216, 5, none⟩) (Kd.R_types HO224.out BK216.out (by decide)) (fun _ hk => hk.2) (.slice Ao101 y228.length co101)) (fun _ hk => hk.1.2))⟩, ⟨by exact kr_ (Kd.R_mono (Kd.R_far (p := ⟨gb216, 5, none⟩) (Kd.R_types HO230.out BK216.out (by decide)) (fun _ hk => hk.2) (.slice Ao101 y228.length co101)) (fun _ hk => hk.1))⟩, ⟨by (with_reducible repeat (first | refine blk_drewN ?_ _ | refine blk_drew ?_ | refine blk_alloc ?_ _)); refine blk_put (cs := #[.int .i64 a0_0, .int .i64 a0_1, .slice Ao95 y222.length co95, .int .i64 a0_3, .int .i64 a0_4, .slice A0_5 l0_5.length c0_5]) ?_ 5 _ rfl; exact kb_ BK216.out⟩, ⟨kz_⟩, ⟨kz_⟩, ⟨bl_⟩⟩
   subst c105
   have H1 : (impl_Leases_step.j1 k (a1_1 == a0_3) a0_0 a0_1 y222 a0_3 a0_4 y228 a1_0 a1_1 a1_2) = some (r1, r2, r3, r4, r5, r6, r7) := by rw [if_pos rfl] at H; exact H
   clear H
   have H := H1
   clear H1
   have H' := Aside0.mk H
   clear H
   have hnb106 := NB217_216.out
   have hnc106 := NB216_217.out
   have hnb107 := NB217_218.out
   have hnc107 := NB218_217.out
   have hcz108_0 : w100.cell? ⟨gb217, 0, none⟩ = some (.int .i64 a1_0) := bc_ BK217.out 0
   have hcz108_1 : w100.cell? ⟨gb217, 1, none⟩ = some (.int .i64 a1_1) := bc_ BK217.out 1
   have hcz108_2 : w100.cell? ⟨gb217, 2, none⟩ = some (.int .i64 a1_2) := bc_ BK217.out 2
   have hfz108_0 := blk_frozen BK217.out 0
   have hfz108_1 := blk_frozen BK217.out 1
   have hfz108_2 := blk_frozen BK217.out 2
   have hnb109 := NB216_218.out
   have hnc109 := NB218_216.out
   have hcz110_0 : w100.cell? ⟨gb216, 0, none⟩ = some (.int .i64 a0_0) := bc_ BK216.out 0
   have hcz110_1 : w100.cell? ⟨gb216, 1, none⟩ = some (.int .i64 a0_1) := bc_ BK216.out 1
   have hcz110_2 : w100.cell? ⟨gb216, 2, none⟩ = some (.slice Ao95 y222.length co95) := bc_ BK216.out 2
   have hcz110_3 : w100.cell? ⟨gb216, 3, none⟩ = some (.int .i64 a0_3) := bc_ BK216.out 3
   have hcz110_4 : w100.cell? ⟨gb216, 4, none⟩ = some (.int .i64 a0_4) := bc_ BK216.out 4
   have hcz110_5 : w100.cell? ⟨gb216, 5, none⟩ = some (.slice A0_5 l0_5.length c0_5) := bc_ BK216.out 5
   have hfz110_0 := blk_frozen BK216.out 0
   have hfz110_1 := blk_frozen BK216.out 1
   have hfz110_2 := blk_frozen BK216.out 2
   have hfz110_3 := blk_frozen BK216.out 3
   have hfz110_4 := blk_frozen BK216.out 4
   have hfz110_5 := blk_frozen BK216.out 5
   go_wp2
   go_meet
   case rel => exact ⟨_, ((a1_1 == a0_3)), (by first | rfl | (simp; done) | (simp [*]; done)), H', ⟨by first | omega | exact Nat.le_refl _⟩, ⟨by exact kr_ (Kd.R_mono (Kd.R_far (p := ⟨gb216, 5, none⟩) (Kd.R_types HO224.out BK216.out (by decide)) (fun _ hk => hk.2) (.slice Ao101 y228.length co101)) (fun _ hk => hk.1.2))⟩, ⟨by exact kr_ (Kd.R_mono (Kd.R_far (p := ⟨gb216, 5, none⟩) (Kd.R_types HO230.out BK216.out (by decide)) (fun _ hk => hk.2) (.slice Ao101 y228.length co101)) (fun _ hk => hk.1))⟩, ⟨by (with_reducible repeat (first | refine blk_drewN ?_ _ | refine blk_drew ?_ | refine blk_alloc ?_ _)); refine blk_put (cs := #[.int .i64 a0_0, .int .i64 a0_1, .slice Ao95 y222.length co95, .int .i64 a0_3, .int .i64 a0_4, .slice A0_5 l0_5.length c0_5]) ?_ 5 _ rfl; exact kb_ BK216.out⟩, ⟨kz_⟩, ⟨kz_⟩, ⟨bl_⟩⟩
  clear HC85
  try clear c1
  try clear c2
  try clear p2
  try clear c3
  try clear c4
  try clear c5
  try clear c6
  try clear c6b0
  try clear c6b1
  try clear p6
  try clear c7
  try clear c8
  try clear c9
  try clear c10
  try clear c13
  try clear c14
  try clear c25
  try clear c27
  try clear c29
  try clear c30
  try clear c30b0
  try clear c30b1
  try clear c31
  try clear c32
  try clear c34
  try clear c36
  try clear c37
  try clear c39
  try clear c41
  try clear c42
  try clear c44
  try clear c45
  try clear c45b0
  try clear c45b1
  try clear c48
  try clear c49
  try clear c50
  try clear c52
  try clear c55
  try clear c57
  try clear c58
  try clear c60
  try clear p64
  try clear c65
  try clear c66
  try clear c67
  try clear c69
  try clear c74
  try clear c75
  try clear c77
  try clear c81
  try clear c82
  try clear c84
  try clear c84b0
  try clear c84b1
  try clear c91
  try clear c92
  try clear c103
  try clear c105
  try clear c106
  try clear c107
  try clear c109
  try clear hcz102_0
  try clear hcz102_1
  try clear hcz102_2
  try clear hcz102_3
  try clear hcz102_4
  try clear hcz102_5
  try clear hcz104_0
  try clear hcz104_1
  try clear hcz104_2
  try clear hcz108_0
  try clear hcz108_1
  try clear hcz108_2
  try clear hcz110_0
  try clear hcz110_1
  try clear hcz110_2
  try clear hcz110_3
  try clear hcz110_4
  try clear hcz110_5
  try clear hcz15_0
  try clear hcz15_1
  try clear hcz15_2
  try clear hcz15_3
  try clear hcz15_4
  try clear hcz15_5
  try clear hcz18_0
  try clear hcz18_1
  try clear hcz18_2
  try clear hcz18_3
  try clear hcz18_4
  try clear hcz18_5
  try clear hcz21_0
  try clear hcz21_1
  try clear hcz21_2
  try clear hcz21_3
  try clear hcz21_4
  try clear hcz21_5
  try clear hcz24_0
  try clear hcz24_1
  try clear hcz24_2
  try clear hcz24_3
  try clear hcz24_4
  try clear hcz24_5
  try clear hcz26_0
  try clear hcz26_1
  try clear hcz26_2
  try clear hcz33_0
  try clear hcz33_1
  try clear hcz33_2
  try clear hcz35_0
  try clear hcz35_1
  try clear hcz35_2
  try clear hcz35_3
  try clear hcz35_4
  try clear hcz35_5
  try clear hcz38_0
  try clear hcz38_1
  try clear hcz38_2
  try clear hcz40_0
  try clear hcz40_1
  try clear hcz40_2
  try clear hcz40_3
  try clear hcz40_4
  try clear hcz40_5
  try clear hcz43_0
  try clear hcz43_1
  try clear hcz43_2
  try clear hcz51_0
  try clear hcz51_1
  try clear hcz51_2
  try clear hcz51_3
  try clear hcz51_4
  try clear hcz51_5
  try clear hcz53_0
  try clear hcz53_1
  try clear hcz53_2
  try clear hcz55_0
  try clear hcz55_1
  try clear hcz55_2
  try clear hcz55_3
  try clear hcz55_4
  try clear hcz55_5
  try clear hcz56_0
  try clear hcz56_1
  try clear hcz56_2
  try clear hcz56_3
  try clear hcz56_4
  try clear hcz56_5
  try clear hcz59_0
  try clear hcz59_1
  try clear hcz59_2
  try clear hcz59_3
  try clear hcz59_4
  try clear hcz59_5
  try clear hcz61_0
  try clear hcz61_1
  try clear hcz61_2
  try clear hcz63_0
  try clear hcz63_1
  try clear hcz63_2
  try clear hcz63_3
  try clear hcz63_4
  try clear hcz63_5
  try clear hcz68_0
  try clear hcz68_1
  try clear hcz68_2
  try clear hcz68_3
  try clear hcz68_4
  try clear hcz68_5
  try clear hcz70_0
  try clear hcz70_1
  try clear hcz70_2
  try clear hcz72_0
  try clear hcz72_1
  try clear hcz72_2
  try clear hcz72_3
  try clear hcz72_4
  try clear hcz72_5
  try clear hcz73_0
  try clear hcz73_1
  try clear hcz73_2
  try clear hcz73_3
  try clear hcz73_4
  try clear hcz73_5
  try clear hcz76_0
  try clear hcz76_1
  try clear hcz76_2
  try clear hcz76_3
  try clear hcz76_4
  try clear hcz76_5
  try clear hcz78_0
  try clear hcz78_1
  try clear hcz78_2
  try clear hcz80_0
  try clear hcz80_1
  try clear hcz80_2
  try clear hcz80_3
  try clear hcz80_4
  try clear hcz80_5
  try clear hcz83_0
  try clear hcz83_1
  try clear hcz83_2
  try clear hcz83_3
  try clear hcz83_4
  try clear hcz83_5
  try clear hcz93_0
  try clear hcz93_1
  try clear hcz93_2
  try clear hcz93_3
  try clear hcz93_4
  try clear hcz93_5
  try clear hcz96_0
  try clear hcz96_1
  try clear hcz96_2
  try clear hcz96_3
  try clear hcz96_4
  try clear hcz96_5
  try clear hcz99_0
  try clear hcz99_1
  try clear hcz99_2
  try clear hcz99_3
  try clear hcz99_4
  try clear hcz99_5
  try clear hfz102_0
  try clear hfz102_1
  try clear hfz102_2
  try clear hfz102_3
  try clear hfz102_4
  try clear hfz102_5
  try clear hfz104_0
  try clear hfz104_1
  try clear hfz104_2
  try clear hfz108_0
  try clear hfz108_1
  try clear hfz108_2
  try clear hfz110_0
  try clear hfz110_1
  try clear hfz110_2
  try clear hfz110_3
  try clear hfz110_4
  try clear hfz110_5
  try clear hfz15_0
  try clear hfz15_1
  try clear hfz15_2
  try clear hfz15_3
  try clear hfz15_4
  try clear hfz15_5
  try clear hfz18_0
  try clear hfz18_1
  try clear hfz18_2
  try clear hfz18_3
  try clear hfz18_4
  try clear hfz18_5
  try clear hfz21_0
  try clear hfz21_1
  try clear hfz21_2
  try clear hfz21_3
  try clear hfz21_4
  try clear hfz21_5
  try clear hfz24_0
  try clear hfz24_1
  try clear hfz24_2
  try clear hfz24_3
  try clear hfz24_4
  try clear hfz24_5
  try clear hfz26_0
  try clear hfz26_1
  try clear hfz26_2
  try clear hfz33_0
  try clear hfz33_1
  try clear hfz33_2
  try clear hfz35_0
  try clear hfz35_1
  try clear hfz35_2
  try clear hfz35_3
  try clear hfz35_4
  try clear hfz35_5
  try clear hfz38_0
  try clear hfz38_1
  try clear hfz38_2
  try clear hfz40_0
  try clear hfz40_1
  try clear hfz40_2
  try clear hfz40_3
  try clear hfz40_4
  try clear hfz40_5
  try clear hfz43_0
  try clear hfz43_1
  try clear hfz43_2
  try clear hfz51_0
  try clear hfz51_1
  try clear hfz51_2
  try clear hfz51_3
  try clear hfz51_4
  try clear hfz51_5
  try clear hfz53_0
  try clear hfz53_1
  try clear hfz53_2
  try clear hfz55_0
  try clear hfz55_1
  try clear hfz55_2
  try clear hfz55_3
  try clear hfz55_4
  try clear hfz55_5
  try clear hfz56_0
  try clear hfz56_1
  try clear hfz56_2
  try clear hfz56_3
  try clear hfz56_4
  try clear hfz56_5
  try clear hfz59_0
  try clear hfz59_1
  try clear hfz59_2
  try clear hfz59_3
  try clear hfz59_4
  try clear hfz59_5
  try clear hfz61_0
  try clear hfz61_1
  try clear hfz61_2
  try clear hfz63_0
  try clear hfz63_1
  try clear hfz63_2
  try clear hfz63_3
  try clear hfz63_4
  try clear hfz63_5
  try clear hfz68_0
  try clear hfz68_1
  try clear hfz68_2
  try clear hfz68_3
  try clear hfz68_4
  try clear hfz68_5
  try clear hfz70_0
  try clear hfz70_1
  try clear hfz70_2
  try clear hfz72_0
  try clear hfz72_1
  try clear hfz72_2
  try clear hfz72_3
  try clear hfz72_4
  try clear hfz72_5
  try clear hfz73_0
  try clear hfz73_1
  try clear hfz73_2
  try clear hfz73_3
  try clear hfz73_4
  try clear hfz73_5
  try clear hfz76_0
  try clear hfz76_1
  try clear hfz76_2
  try clear hfz76_3
  try clear hfz76_4
  try clear hfz76_5
  try clear hfz78_0
  try clear hfz78_1
  try clear hfz78_2
  try clear hfz80_0
  try clear hfz80_1
  try clear hfz80_2
  try clear hfz80_3
  try clear hfz80_4
  try clear hfz80_5
  try clear hfz83_0
  try clear hfz83_1
  try clear hfz83_2
  try clear hfz83_3
  try clear hfz83_4
  try clear hfz83_5
  try clear hfz93_0
  try clear hfz93_1
  try clear hfz93_2
  try clear hfz93_3
  try clear hfz93_4
  try clear hfz93_5
  try clear hfz96_0
  try clear hfz96_1
  try clear hfz96_2
  try clear hfz96_3
  try clear hfz96_4
  try clear hfz96_5
  try clear hfz99_0
  try clear hfz99_1
  try clear hfz99_2
  try clear hfz99_3
  try clear hfz99_4
  try clear hfz99_5
  try clear p2
  try clear p6
  obtain ⟨kq, x7_84, rfl, HA, HJ84, HO_217002, HO_217005, BK216, BK217, BK218, HB⟩ := hcut
  cases kq with
  | zero => exact absurd HA.out (by simp [impl_Leases_step.j1])
  | succ kj84 => ?_
  have H := HA.out
  clear HA
  simp only [impl_Leases_step.j1] at H
  by_cases c111 : x7_84 = true
  rotate_left
  ·replace c111 := Bool.eq_false_iff.mpr c111
   subst c111
   have H1 : (some (0, 0, ([] : List Int), 0, 0, ([] : List Int), false)) = some (r1, r2, r3, r4, r5, r6, r7) := by rw [if_neg (show ¬ (false = true) by decide)] at H; exact H
   clear H
   have H := H1
   clear H1
   simp only [Option.some.injEq, Prod.mk.injEq] at H
   obtain ⟨rfl, rfl, rfl, rfl, rfl, rfl, rfl⟩ := H
   have hnb138 := NB218_216.out
   have hnc138 := NB216_218.out
   have hnb139 := NB218_217.out
   have hnc139 := NB217_218.out
   have hcz140_0 : wc.cell? ⟨gb218, 0, none⟩ = some (.int .i64 0) := bc_ BK218.out 0
   have hcz140_1 : wc.cell? ⟨gb218, 1, none⟩ = some (.int .i64 0) := bc_ BK218.out 1
   have hcz140_2 : wc.cell? ⟨gb218, 2, none⟩ = some (.slice none 0 0) := bc_ BK218.out 2
   have hcz140_3 : wc.cell? ⟨gb218, 3, none⟩ = some (.int .i64 0) := bc_ BK218.out 3
   have hcz140_4 : wc.cell? ⟨gb218, 4, none⟩ = some (.int .i64 0) := bc_ BK218.out 4
   have hcz140_5 : wc.cell? ⟨gb218, 5, none⟩ = some (.slice none 0 0) := bc_ BK218.out 5
   have hfz140_0 := blk_frozen BK218.out 0
   have hfz140_1 := blk_frozen BK218.out 1
   have hfz140_2 := blk_frozen BK218.out 2
   have hfz140_3 := blk_frozen BK218.out 3
   have hfz140_4 := blk_frozen BK218.out 4
   have hfz140_5 := blk_frozen BK218.out 5
   go_wp2
   refine bodyPost_ret (results_ct rfl _ _ gb218 24 #[.int .i64 0, .int .i64 0, .slice none 0 0, .int .i64 0, .int .i64 0, .slice none 0 0] (0, 0) _ rfl (by (with_reducible repeat (first | refine blk_drewN ?_ _ | refine blk_drew ?_ | refine blk_alloc ?_ _)); refine blk_put (cs := #[.int .i64 0, .int .i64 0, .slice none 0 0, .int .i64 0, .int .i64 0, .slice none 0 0]) ?_ 5 _ rfl; (with_reducible repeat (first | refine blk_drewN ?_ _ | refine blk_drew ?_ | refine blk_alloc ?_ _)); refine blk_put (cs := #[.int .i64 0, .int .i64 0, .slice none 0 0, .int .i64 0, .int .i64 0, .slice none 0 0]) ?_ 4 _ rfl; (with_reducible repeat (first | refine blk_drewN ?_ _ | refine blk_drew ?_ | refine blk_alloc ?_ _)); refine blk_put (cs := #[.int .i64 0, .int .i64 0, .slice none 0 0, .int .i64 0, .int .i64 0, .slice none 0 0]) ?_ 3 _ rfl; (with_reducible repeat (first | refine blk_drewN ?_ _ | refine blk_drew ?_ | refine blk_alloc ?_ _)); refine blk_put (cs := #[.int .i64 0, .int .i64 0, .slice none 0 0, .int .i64 0, .int .i64 0, .slice none 0 0]) ?_ 2 _ rfl; (with_reducible repeat (first | refine blk_drewN ?_ _ | refine blk_drew ?_ | refine blk_alloc ?_ _)); refine blk_put (cs := #[.int .i64 0, .int .i64 0, .slice none 0 0, .int .i64 0, .int .i64 0, .slice none 0 0]) ?_ 1 _ rfl; (with_reducible repeat (first | refine blk_drewN ?_ _ | refine blk_drew ?_ | refine blk_alloc ?_ _)); refine blk_put (cs := #[.int .i64 0, .int .i64 0, .slice none 0 0, .int .i64 0, .int .i64 0, .slice none 0 0]) ?_ 0 _ rfl; exact kb_ BK218.out) Try.underlying24 rfl (by kernel_rfl)) rfl ?_
   exact ⟨_, _, ng_, by first | exact Kd.R_nil _ _ _ _ _ | exact Kd.N_nil _ _ _ _ _ | exact Kd.V_nil _ _ _ _ _ | exact Kd.Q_nil _ _ _ _ _ | exact Kd.S_nil _ _ _ _ _, by first | exact Kd.R_nil _ _ _ _ _ | exact Kd.N_nil _ _ _ _ _ | exact Kd.V_nil _ _ _ _ _ | exact Kd.Q_nil _ _ _ _ _ | exact Kd.S_nil _ _ _ _ _, bl_⟩
  subst c111
  have H1 : (if 0 ≤ a1_1 then (if a1_1 < (y228.length : Int) then ((some (y228.set (a1_1 : Int).toNat a0_4 : List Int)).bind fun y235 => ((impl_areLeases.f kj84 a0_0 a0_1 y222 a0_3 a0_4 y235).bind fun t236 => (if t236 = true then (some (a0_0, a0_1, y222, a0_3, a0_4, y235, true)) else (some (0, 0, ([] : List Int), 0, 0, ([] : List Int), false))))) else (none)) else (none)) = some (r1, r2, r3, r4, r5, r6, r7) := by rw [if_pos rfl] at H; exact H
  clear H
  have H := H1
  clear H1
  by_cases c112 : 0 ≤ a1_1
  rotate_left
  ·rw [if_neg c112] at H
   exact absurd H (by simp)
  rw [if_pos c112] at H
  have c112b0 : decide (0 ≤ a1_1) = true := decide_eq_true c112
  clear c112
  by_cases c113 : a1_1 < (y228.length : Int)
  rotate_left
  ·rw [if_neg c113] at H
   exact absurd H (by simp)
  rw [if_pos c113] at H
  have c113b0 : decide (a1_1 < (y228.length : Int)) = true := decide_eq_true c113
  clear c113
  obtain ⟨y235, hy235⟩ : ∃ y_ : List Int, y_ = (y228.set (a1_1 : Int).toNat a0_4) := ⟨_, rfl⟩
  replace H : ((impl_areLeases.f kj84 a0_0 a0_1 y222 a0_3 a0_4 y235).bind fun t236 => (if t236 = true then (some (a0_0, a0_1, y222, a0_3, a0_4, y235, true)) else (some (0, 0, ([] : List Int), 0, 0, ([] : List Int), false)))) = some (r1, r2, r3, r4, r5, r6, r7) := by first | (rw [hy235]; with_reducible exact H) | (have H2_ := (Option.bind_some _ _).symm.trans H; rw [hy235]; with_reducible exact H2_) | (have H2_ := (Option.bind_some _ _).symm.trans H; with_reducible exact H2_) | with_reducible exact H | (rw [hy235]; exact H) | exact H
  have Ny235 := Aside0.mk hy235
  clear hy235
  replace H := Option.bind_eq_some_iff.mp H
  obtain ⟨t236, A1150, H⟩ := H
  replace H : (if t236 = true then (some (a0_0, a0_1, y222, a0_3, a0_4, y235, true)) else (some (0, 0, ([] : List Int), 0, 0, ([] : List Int), false))) = some (r1, r2, r3, r4, r5, r6, r7) := H
  have A115 := Aside0.mk A1150
  clear A1150
  by_cases c116 : t236 = true
  rotate_left
  ·replace c116 := Bool.eq_false_iff.mpr c116
   subst c116
   have H1 : (some (0, 0, ([] : List Int), 0, 0, ([] : List Int), false)) = some (r1, r2, r3, r4, r5, r6, r7) := by rw [if_neg (show ¬ (false = true) by decide)] at H; exact H
   clear H
   have H := H1
   clear H1
   simp only [Option.some.injEq, Prod.mk.injEq] at H
   obtain ⟨rfl, rfl, rfl, rfl, rfl, rfl, rfl⟩ := H
   have hnb128 := NB216_217.out
   have hnc128 := NB217_216.out
   have hnb129 := NB216_218.out
   have hnc129 := NB218_216.out
   have hcz130_0 : wc.cell? ⟨gb216, 0, none⟩ = some (.int .i64 a0_0) := bc_ BK216.out 0
   have hcz130_1 : wc.cell? ⟨gb216, 1, none⟩ = some (.int .i64 a0_1) := bc_ BK216.out 1
   have hcz130_2 : wc.cell? ⟨gb216, 2, none⟩ = some (.slice Ao95 y222.length co95) := bc_ BK216.out 2
   have hcz130_3 : wc.cell? ⟨gb216, 3, none⟩ = some (.int .i64 a0_3) := bc_ BK216.out 3
   have hcz130_4 : wc.cell? ⟨gb216, 4, none⟩ = some (.int .i64 a0_4) := bc_ BK216.out 4
   have hcz130_5 : wc.cell? ⟨gb216, 5, none⟩ = some (.slice Ao101 y228.length co101) := bc_ BK216.out 5
   have hfz130_0 := blk_frozen BK216.out 0
   have hfz130_1 := blk_frozen BK216.out 1
   have hfz130_2 := blk_frozen BK216.out 2
   have hfz130_3 := blk_frozen BK216.out 3
   have hfz130_4 := blk_frozen BK216.out 4
   have hfz130_5 := blk_frozen BK216.out 5
   have hnb131 := NB217_218.out
   have hnc131 := NB218_217.out
   have hcz132_0 : wc.cell? ⟨gb217, 0, none⟩ = some (.int .i64 a1_0) := bc_ BK217.out 0
   have hcz132_1 : wc.cell? ⟨gb217, 1, none⟩ = some (.int .i64 a1_1) := bc_ BK217.out 1
   have hcz132_2 : wc.cell? ⟨gb217, 2, none⟩ = some (.int .i64 a1_2) := bc_ BK217.out 2
   have hfz132_0 := blk_frozen BK217.out 0
   have hfz132_1 := blk_frozen BK217.out 1
   have hfz132_2 := blk_frozen BK217.out 2
   have p114 : 0 ≤ (a1_1 : Int) := of_decide_eq_true (by first | (with_reducible assumption) | assumption)
   have q114 : (a1_1 : Int) < ((y228.length : Int) : Int) := of_decide_eq_true (by first | (with_reducible assumption) | assumption)
   obtain ⟨go114, co114, eo114, gb114, gl114, cl114, HG114⟩ := Kd.R_form HO_217005.out (by omega)
   (first | cases eo114 | (injection eo114 with ea_ en_ ec_; (first | subst ea_ | (injection ea_ with ea_; subst ea_)); subst ec_; clear en_))
   have GB114 := Aside0.mk gb114
   have GG114 := Aside0.mk HG114
   clear gb114 gl114 HG114
   obtain ⟨hx114_0, hf114_0⟩ := Kd.R_celln 0 HO_217005.out (a1_1 : Int) p114 q114
   replace p114 := eq_true p114
   replace q114 := eq_true q114
   have HP133 := Kd.R_putg HO_217005.out (a1_1 : Int) a0_4
   go_wp2_with (first | ((with_reducible refine gate_store (t := 3) (p := 87) rfl ?_); refine store_event (t := 3) (p := 87) (v := ?vo_w134) (w1 := (wc.setCell ⟨go114, (a1_1 : Int).toNat, none⟩ (.int .i64 a0_4))) ?hg ?ho ?hn ?hr ?_; (case ho => rfl); (case hg => rfl); (case hn => rfl); (case hr => first | (go_simp; done) | (go_simp; rfl)); intro w134 hw; have hg : wc.grownBy w134 (some go114) := (by rw [hw]; exact HP133.2); have hp_ : Kd.R (Kd.int .i64) 3 w134 w.heap.size (fun k_ => some k_ ≠ (.slice Ao95 y222.length co95 : Value).ownBlock) (.slice (some ⟨go114, 0, none⟩) y228.length co101) y235 := (by rw [hw, Ny235.out]; exact HP133.1); clear HP133; replace HO_217002 := Aside0.mk (Kd.R_after (v := (.slice (some ⟨go114, 0, none⟩) y228.length co101)) (v1 := (.slice (some ⟨go114, 0, none⟩) y228.length co101)) (ok := (fun _ => True)) (by exact kr_ (Kd.R_mono HO_217002.out (fun _ hk => ⟨trivial, hk⟩))) hg (.inl rfl)); replace BK216 := bgr_ BK216 hg HO_217005 BK216; replace BK217 := bgr_ BK217 hg HO_217005 BK217; replace BK218 := bgr_ BK218 hg HO_217005 BK218; replace HO_217005 := Aside0.mk (hp_); replace HB := Aside0.mk ((by rw [hw]; exact below_set (HB.out) GB114.out : Below w.heap.size w w134)); clear hg hw hp_; have hcz135_0 : w134.cell? ⟨gb216, 0, none⟩ = some (.int .i64 a0_0) := bc_ BK216.out 0; have hcz135_1 : w134.cell? ⟨gb216, 1, none⟩ = some (.int .i64 a0_1) := bc_ BK216.out 1; have hcz135_2 : w134.cell? ⟨gb216, 2, none⟩ = some (.slice Ao95 y222.length co95) := bc_ BK216.out 2; have hcz135_3 : w134.cell? ⟨gb216, 3, none⟩ = some (.int .i64 a0_3) := bc_ BK216.out 3; have hcz135_4 : w134.cell? ⟨gb216, 4, none⟩ = some (.int .i64 a0_4) := bc_ BK216.out 4; have hcz135_5 : w134.cell? ⟨gb216, 5, none⟩ = some (.slice (some ⟨go114, 0, none⟩) y228.length co101) := bc_ BK216.out 5; have hfz135_0 := blk_frozen BK216.out 0; have hfz135_1 := blk_frozen BK216.out 1; have hfz135_2 := blk_frozen BK216.out 2; have hfz135_3 := blk_frozen BK216.out 3; have hfz135_4 := blk_frozen BK216.out 4; have hfz135_5 := blk_frozen BK216.out 5) | (go_at_call 49; refine calls_of_args (args' := #[.agg #[.int .i64 a0_0, .int .i64 a0_1, .slice Ao95 y222.length co95, .int .i64 a0_3, .int .i64 a0_4, .slice (some ⟨go114, 0, none⟩) y235.length co101]]) (by first | (rw [show y235.length = y228.length from (Kd.R_reads' HO_217005.out).1.symm] <;> rfl) | rfl) ?_; (with_reducible refine (impl_areLeases.calls kj84 a0_0 a0_1 _ _ y222 a0_3 a0_4 _ _ y235 false _ ?side1 ?side2 ?side3 ?side4 A115.out).mono ?_); (case side1 => exact kc_ (Kd.R_reads' HO_217002.out).2.2); (case side2 => exact (Kd.R_reads' HO_217002.out).2.1); (case side3 => exact kc_ (Kd.R_reads' HO_217005.out).2.2); (case side4 => rw [show y235.length = y228.length from (Kd.R_reads' HO_217005.out).1.symm]; exact (Kd.R_reads' HO_217005.out).2.1); rintro e w136 ⟨rfl, hb⟩; replace HO_217002 := rb_ HO_217002 hb; replace HO_217005 := rb_ HO_217005 hb; replace BK216 := bb_ BK216 hb; replace BK217 := bb_ BK217 hb; replace BK218 := bb_ BK218 hb; replace HB := Aside0.mk (below_step bl_ hb); clear hb; have hcz137_0 : w136.cell? ⟨gb218, 0, none⟩ = some (.int .i64 0) := bc_ BK218.out 0; have hcz137_1 : w136.cell? ⟨gb218, 1, none⟩ = some (.int .i64 0) := bc_ BK218.out 1; have hcz137_2 : w136.cell? ⟨gb218, 2, none⟩ = some (.slice none 0 0) := bc_ BK218.out 2; have hcz137_3 : w136.cell? ⟨gb218, 3, none⟩ = some (.int .i64 0) := bc_ BK218.out 3; have hcz137_4 : w136.cell? ⟨gb218, 4, none⟩ = some (.int .i64 0) := bc_ BK218.out 4; have hcz137_5 : w136.cell? ⟨gb218, 5, none⟩ = some (.slice none 0 0) := bc_ BK218.out 5; have hfz137_0 := blk_frozen BK218.out 0; have hfz137_1 := blk_frozen BK218.out 1; have hfz137_2 := blk_frozen BK218.out 2; have hfz137_3 := blk_frozen BK218.out 3; have hfz137_4 := blk_frozen BK218.out 4; have hfz137_5 := blk_frozen BK218.out 5))
   refine bodyPost_ret (results_ct rfl _ _ gb218 24 #[.int .i64 0, .int .i64 0, .slice none 0 0, .int .i64 0, .int .i64 0, .slice none 0 0] (0, 0) _ rfl (by (with_reducible repeat (first | refine blk_drewN ?_ _ | refine blk_drew ?_ | refine blk_alloc ?_ _)); refine blk_put (cs := #[.int .i64 0, .int .i64 0, .slice none 0 0, .int .i64 0, .int .i64 0, .slice none 0 0]) ?_ 5 _ rfl; (with_reducible repeat (first | refine blk_drewN ?_ _ | refine blk_drew ?_ | refine blk_alloc ?_ _)); refine blk_put (cs := #[.int .i64 0, .int .i64 0, .slice none 0 0, .int .i64 0, .int .i64 0, .slice none 0 0]) ?_ 4 _ rfl; (with_reducible repeat (first | refine blk_drewN ?_ _ | refine blk_drew ?_ | refine blk_alloc ?_ _)); refine blk_put (cs := #[.int .i64 0, .int .i64 0, .slice none 0 0, .int .i64 0, .int .i64 0, .slice none 0 0]) ?_ 3 _ rfl; (with_reducible repeat (first | refine blk_drewN ?_ _ | refine blk_drew ?_ | refine blk_alloc ?_ _)); refine blk_put (cs := #[.int .i64 0, .int .i64 0, .slice none 0 0, .int .i64 0, .int .i64 0, .slice none 0 0]) ?_ 2 _ rfl; (with_reducible repeat (first | refine blk_drewN ?_ _ | refine blk_drew ?_ | refine blk_alloc ?_ _)); refine blk_put (cs := #[.int .i64 0, .int .i64 0, .slice none 0 0, .int .i64 0, .int .i64 0, .slice none 0 0]) ?_ 1 _ rfl; (with_reducible repeat (first | refine blk_drewN ?_ _ | refine blk_drew ?_ | refine blk_alloc ?_ _)); refine blk_put (cs := #[.int .i64 0, .int .i64 0, .slice none 0 0, .int .i64 0, .int .i64 0, .slice none 0 0]) ?_ 0 _ rfl; exact kb_ BK218.out) Try.underlying24 rfl (by kernel_rfl)) rfl ?_
   exact ⟨_, _, ng_, by first | exact Kd.R_nil _ _ _ _ _ | exact Kd.N_nil _ _ _ _ _ | exact Kd.V_nil _ _ _ _ _ | exact Kd.Q_nil _ _ _ _ _ | exact Kd.S_nil _ _ _ _ _, by first | exact Kd.R_nil _ _ _ _ _ | exact Kd.N_nil _ _ _ _ _ | exact Kd.V_nil _ _ _ _ _ | exact Kd.Q_nil _ _ _ _ _ | exact Kd.S_nil _ _ _ _ _, bl_⟩
  subst c116
  have H1 : (some (a0_0, a0_1, y222, a0_3, a0_4, y235, true)) = some (r1, r2, r3, r4, r5, r6, r7) := by rw [if_pos rfl] at H; exact H
  clear H
  have H := H1
  clear H1
  simp only [Option.some.injEq, Prod.mk.injEq] at H
  obtain ⟨rfl, rfl, rfl, rfl, rfl, rfl, rfl⟩ := H
  have hnb117 := NB216_217.out
  have hnc117 := NB217_216.out
  have hnb118 := NB216_218.out
  have hnc118 := NB218_216.out
  have hcz119_0 : wc.cell? ⟨gb216, 0, none⟩ = some (.int .i64 a0_0) := bc_ BK216.out 0
  have hcz119_1 : wc.cell? ⟨gb216, 1, none⟩ = some (.int .i64 a0_1) := bc_ BK216.out 1
  have hcz119_2 : wc.cell? ⟨gb216, 2, none⟩ = some (.slice Ao95 y222.length co95) := bc_ BK216.out 2
  have hcz119_3 : wc.cell? ⟨gb216, 3, none⟩ = some (.int .i64 a0_3) := bc_ BK216.out 3
  have hcz119_4 : wc.cell? ⟨gb216, 4, none⟩ = some (.int .i64 a0_4) := bc_ BK216.out 4
  have hcz119_5 : wc.cell? ⟨gb216, 5, none⟩ = some (.slice Ao101 y228.length co101) := bc_ BK216.out 5
  have hfz119_0 := blk_frozen BK216.out 0
  have hfz119_1 := blk_frozen BK216.out 1
  have hfz119_2 := blk_frozen BK216.out 2
  have hfz119_3 := blk_frozen BK216.out 3
  have hfz119_4 := blk_frozen BK216.out 4
  have hfz119_5 := blk_frozen BK216.out 5
  have hnb120 := NB217_218.out
  have hnc120 := NB218_217.out
  have hcz121_0 : wc.cell? ⟨gb217, 0, none⟩ = some (.int .i64 a1_0) := bc_ BK217.out 0
  have hcz121_1 : wc.cell? ⟨gb217, 1, none⟩ = some (.int .i64 a1_1) := bc_ BK217.out 1
  have hcz121_2 : wc.cell? ⟨gb217, 2, none⟩ = some (.int .i64 a1_2) := bc_ BK217.out 2
  have hfz121_0 := blk_frozen BK217.out 0
  have hfz121_1 := blk_frozen BK217.out 1
  have hfz121_2 := blk_frozen BK217.out 2
  have p114 : 0 ≤ (a1_1 : Int) := of_decide_eq_true (by first | (with_reducible assumption) | assumption)
  have q114 : (a1_1 : Int) < ((y228.length : Int) : Int) := of_decide_eq_true (by first | (with_reducible assumption) | assumption)
  obtain ⟨go114, co114, eo114, gb114, gl114, cl114, HG114⟩ := Kd.R_form HO_217005.out (by omega)
  (first | cases eo114 | (injection eo114 with ea_ en_ ec_; (first | subst ea_ | (injection ea_ with ea_; subst ea_)); subst ec_; clear en_))
  have GB114 := Aside0.mk gb114
  have GG114 := Aside0.mk HG114
  clear gb114 gl114 HG114
  obtain ⟨hx114_0, hf114_0⟩ := Kd.R_celln 0 HO_217005.out (a1_1 : Int) p114 q114
  replace p114 := eq_true p114
  replace q114 := eq_true q114
  have HP122 := Kd.R_putg HO_217005.out (a1_1 : Int) a0_4
  go_wp2_with (first | ((with_reducible refine gate_store (t := 3) (p := 87) rfl ?_); refine store_event (t := 3) (p := 87) (v := ?vo_w123) (w1 := (wc.setCell ⟨go114, (a1_1 : Int).toNat, none⟩ (.int .i64 a0_4))) ?hg ?ho ?hn ?hr ?_; (case ho => rfl); (case hg => rfl); (case hn => rfl); (case hr => first | (go_simp; done) | (go_simp; rfl)); intro w123 hw; have hg : wc.grownBy w123 (some go114) := (by rw [hw]; exact HP122.2); have hp_ : Kd.R (Kd.int .i64) 3 w123 w.heap.size (fun k_ => some k_ ≠ (.slice Ao95 y222.length co95 : Value).ownBlock) (.slice (some ⟨go114, 0, none⟩) y228.length co101) y235 := (by rw [hw, Ny235.out]; exact HP122.1); clear HP122; replace HO_217002 := Aside0.mk (Kd.R_after (v := (.slice (some ⟨go114, 0, none⟩) y228.length co101)) (v1 := (.slice (some ⟨go114, 0, none⟩) y228.length co101)) (ok := (fun _ => True)) (by exact kr_ (Kd.R_mono HO_217002.out (fun _ hk => ⟨trivial, hk⟩))) hg (.inl rfl)); replace BK216 := bgr_ BK216 hg HO_217005 BK216; replace BK217 := bgr_ BK217 hg HO_217005 BK217; replace BK218 := bgr_ BK218 hg HO_217005 BK218; replace HO_217005 := Aside0.mk (hp_); replace HB := Aside0.mk ((by rw [hw]; exact below_set (HB.out) GB114.out : Below w.heap.size w w123)); clear hg hw hp_; have hcz124_0 : w123.cell? ⟨gb216, 0, none⟩ = some (.int .i64 a0_0) := bc_ BK216.out 0; have hcz124_1 : w123.cell? ⟨gb216, 1, none⟩ = some (.int .i64 a0_1) := bc_ BK216.out 1; have hcz124_2 : w123.cell? ⟨gb216, 2, none⟩ = some (.slice Ao95 y222.length co95) := bc_ BK216.out 2; have hcz124_3 : w123.cell? ⟨gb216, 3, none⟩ = some (.int .i64 a0_3) := bc_ BK216.out 3; have hcz124_4 : w123.cell? ⟨gb216, 4, none⟩ = some (.int .i64 a0_4) := bc_ BK216.out 4; have hcz124_5 : w123.cell? ⟨gb216, 5, none⟩ = some (.slice (some ⟨go114, 0, none⟩) y228.length co101) := bc_ BK216.out 5; have hfz124_0 := blk_frozen BK216.out 0; have hfz124_1 := blk_frozen BK216.out 1; have hfz124_2 := blk_frozen BK216.out 2; have hfz124_3 := blk_frozen BK216.out 3; have hfz124_4 := blk_frozen BK216.out 4; have hfz124_5 := blk_frozen BK216.out 5) | (go_at_call 49; refine calls_of_args (args' := #[.agg #[.int .i64 a0_0, .int .i64 a0_1, .slice Ao95 y222.length co95, .int .i64 a0_3, .int .i64 a0_4, .slice (some ⟨go114, 0, none⟩) y235.length co101]]) (by first | (rw [show y235.length = y228.length from (Kd.R_reads' HO_217005.out).1.symm] <;> rfl) | rfl) ?_; (with_reducible refine (impl_areLeases.calls kj84 a0_0 a0_1 _ _ y222 a0_3 a0_4 _ _ y235 true _ ?side1 ?side2 ?side3 ?side4 A115.out).mono ?_); (case side1 => exact kc_ (Kd.R_reads' HO_217002.out).2.2); (case side2 => exact (Kd.R_reads' HO_217002.out).2.1); (case side3 => exact kc_ (Kd.R_reads' HO_217005.out).2.2); (case side4 => rw [show y235.length = y228.length from (Kd.R_reads' HO_217005.out).1.symm]; exact (Kd.R_reads' HO_217005.out).2.1); rintro e w125 ⟨rfl, hb⟩; replace HO_217002 := rb_ HO_217002 hb; replace HO_217005 := rb_ HO_217005 hb; replace BK216 := bb_ BK216 hb; replace BK217 := bb_ BK217 hb; replace BK218 := bb_ BK218 hb; replace HB := Aside0.mk (below_step bl_ hb); clear hb; have hcz126_0 : w125.cell? ⟨gb216, 0, none⟩ = some (.int .i64 a0_0) := bc_ BK216.out 0; have hcz126_1 : w125.cell? ⟨gb216, 1, none⟩ = some (.int .i64 a0_1) := bc_ BK216.out 1; have hcz126_2 : w125.cell? ⟨gb216, 2, none⟩ = some (.slice Ao95 y222.length co95) := bc_ BK216.out 2; have hcz126_3 : w125.cell? ⟨gb216, 3, none⟩ = some (.int .i64 a0_3) := bc_ BK216.out 3; have hcz126_4 : w125.cell? ⟨gb216, 4, none⟩ = some (.int .i64 a0_4) := bc_ BK216.out 4; have hcz126_5 : w125.cell? ⟨gb216, 5, none⟩ = some (.slice (some ⟨go114, 0, none⟩) y228.length co101) := bc_ BK216.out 5; have hfz126_0 := blk_frozen BK216.out 0; have hfz126_1 := blk_frozen BK216.out 1; have hfz126_2 := blk_frozen BK216.out 2; have hfz126_3 := blk_frozen BK216.out 3; have hfz126_4 := blk_frozen BK216.out 4; have hfz126_5 := blk_frozen BK216.out 5; have hcz127_0 : w125.cell? ⟨gb218, 0, none⟩ = some (.int .i64 0) := bc_ BK218.out 0; have hcz127_1 : w125.cell? ⟨gb218, 1, none⟩ = some (.int .i64 0) := bc_ BK218.out 1; have hcz127_2 : w125.cell? ⟨gb218, 2, none⟩ = some (.slice none 0 0) := bc_ BK218.out 2; have hcz127_3 : w125.cell? ⟨gb218, 3, none⟩ = some (.int .i64 0) := bc_ BK218.out 3; have hcz127_4 : w125.cell? ⟨gb218, 4, none⟩ = some (.int .i64 0) := bc_ BK218.out 4; have hcz127_5 : w125.cell? ⟨gb218, 5, none⟩ = some (.slice none 0 0) := bc_ BK218.out 5; have hfz127_0 := blk_frozen BK218.out 0; have hfz127_1 := blk_frozen BK218.out 1; have hfz127_2 := blk_frozen BK218.out 2; have hfz127_3 := blk_frozen BK218.out 3; have hfz127_4 := blk_frozen BK218.out 4; have hfz127_5 := blk_frozen BK218.out 5))
  refine bodyPost_ret (results_ct rfl _ _ gb218 24 #[.int .i64 a0_0, .int .i64 a0_1, .slice Ao95 y222.length co95, .int .i64 a0_3, .int .i64 a0_4, .slice (some ⟨go114, 0, none⟩) y228.length co101] (0, 0) _ rfl (by (with_reducible repeat (first | refine blk_drewN ?_ _ | refine blk_drew ?_ | refine blk_alloc ?_ _)); refine blk_put (cs := #[.int .i64 a0_0, .int .i64 a0_1, .slice Ao95 y222.length co95, .int .i64 a0_3, .int .i64 a0_4, .slice none 0 0]) ?_ 5 _ rfl; (with_reducible repeat (first | refine blk_drewN ?_ _ | refine blk_drew ?_ | refine blk_alloc ?_ _)); refine blk_put (cs := #[.int .i64 a0_0, .int .i64 a0_1, .slice Ao95 y222.length co95, .int .i64 a0_3, .int .i64 0, .slice none 0 0]) ?_ 4 _ rfl; (with_reducible repeat (first | refine blk_drewN ?_ _ | refine blk_drew ?_ | refine blk_alloc ?_ _)); refine blk_put (cs := #[.int .i64 a0_0, .int .i64 a0_1, .slice Ao95 y222.length co95, .int .i64 0, .int .i64 0, .slice none 0 0]) ?_ 3 _ rfl; (with_reducible repeat (first | refine blk_drewN ?_ _ | refine blk_drew ?_ | refine blk_alloc ?_ _)); refine blk_put (cs := #[.int .i64 a0_0, .int .i64 a0_1, .slice none 0 0, .int .i64 0, .int .i64 0, .slice none 0 0]) ?_ 2 _ rfl; (with_reducible repeat (first | refine blk_drewN ?_ _ | refine blk_drew ?_ | refine blk_alloc ?_ _)); refine blk_put (cs := #[.int .i64 a0_0, .int .i64 0, .slice none 0 0, .int .i64 0, .int .i64 0, .slice none 0 0]) ?_ 1 _ rfl; (with_reducible repeat (first | refine blk_drewN ?_ _ | refine blk_drew ?_ | refine blk_alloc ?_ _)); refine blk_put (cs := #[.int .i64 0, .int .i64 0, .slice none 0 0, .int .i64 0, .int .i64 0, .slice none 0 0]) ?_ 0 _ rfl; exact kb_ BK218.out) Try.underlying24 rfl (by kernel_rfl)) rfl ?_
  exact ⟨_, _, ng_, by exact kr_ (Kd.R_mono (Kd.R_far (p := ⟨gb218, 5, none⟩) (Kd.R_far (p := ⟨gb218, 4, none⟩) (Kd.R_far (p := ⟨gb218, 3, none⟩) (Kd.R_far (p := ⟨gb218, 2, none⟩) (Kd.R_far (p := ⟨gb218, 1, none⟩) (Kd.R_far (p := ⟨gb218, 0, none⟩) (Kd.R_types HO_217002.out BK218.out (by decide)) (fun _ hk => hk.2) (.int .i64 a0_0)) (fun _ hk => hk.2) (.int .i64 a0_1)) (fun _ hk => hk.2) (.slice Ao95 y222.length co95)) (fun _ hk => hk.2) (.int .i64 a0_3)) (fun _ hk => hk.2) (.int .i64 a0_4)) (fun _ hk => hk.2) (.slice (some ⟨go114, 0, none⟩) y228.length co101)) (fun _ hk => hk.1.2)), by exact kr_ (Kd.R_mono (Kd.R_far (p := ⟨gb218, 5, none⟩) (Kd.R_far (p := ⟨gb218, 4, none⟩) (Kd.R_far (p := ⟨gb218, 3, none⟩) (Kd.R_far (p := ⟨gb218, 2, none⟩) (Kd.R_far (p := ⟨gb218, 1, none⟩) (Kd.R_far (p := ⟨gb218, 0, none⟩) (Kd.R_types HO_217005.out BK218.out (by decide)) (fun _ hk => hk.2) (.int .i64 a0_0)) (fun _ hk => hk.2) (.int .i64 a0_1)) (fun _ hk => hk.2) (.slice Ao95 y222.length co95)) (fun _ hk => hk.2) (.int .i64 a0_3)) (fun _ hk => hk.2) (.int .i64 a0_4)) (fun _ hk => hk.2) (.slice (some ⟨go114, 0, none⟩) y228.length co101)) (fun _ hk => hk.1)), bl_⟩
 rw [if_neg c84] at H
 have c84b0 : (a1_0 == 2) = false := beq_eq_false_iff_ne.mpr c84
 have c84b1 : (a1_0 != 2) = true := bne_iff_ne.mpr c84
 by_cases c141 : a1_0 = 3
 ·rw [if_pos c141] at H
  have c141b0 : (a1_0 == 3) = true := beq_iff_eq.mpr c141
  have c141b1 : (a1_0 != 3) = false := bne_eq_false_iff_eq.mpr c141
  clear c141
  replace H := Option.bind_eq_some_iff.mp H
  obtain ⟨t237, A1420, H⟩ := H
  replace H : (if t237 = true then ((impl_areLeases.f k a0_0 (wrap64 (a0_1 + a1_2)) y222 a0_3 a0_4 y228).bind fun t238 => (if t238 = true then (some (a0_0, wrap64 (a0_1 + a1_2), y222, a0_3, a0_4, y228, true)) else (some (0, 0, ([] : List Int), 0, 0, ([] : List Int), false)))) else (some (0, 0, ([] : List Int), 0, 0, ([] : List Int), false))) = some (r1, r2, r3, r4, r5, r6, r7) := H
  have A142 := Aside0.mk A1420
  clear A1420
  by_cases c143 : t237 = true
  rotate_left
  ·replace c143 := Bool.eq_false_iff.mpr c143
   subst c143
   have H1 : (some (0, 0, ([] : List Int), 0, 0, ([] : List Int), false)) = some (r1, r2, r3, r4, r5, r6, r7) := by rw [if_neg (show ¬ (false = true) by decide)] at H; exact H
   clear H
   have H := H1
   clear H1
   simp only [Option.some.injEq, Prod.mk.injEq] at H
   obtain ⟨rfl, rfl, rfl, rfl, rfl, rfl, rfl⟩ := H
   go_enter Try.func55, Try.ntmps55
   go_wp2_with (first | ((with_reducible refine gate_dst (N := 2) rfl ?_); refine box_event rfl (N := 2) rfl (cs := #[.int .i64 a0_0, .int .i64 a0_1, .slice A0_2 l0_2.length c0_2, .int .i64 a0_3, .int .i64 a0_4, .slice A0_5 l0_5.length c0_5]) (t := 24) gs_ ?_; intro gb216 hg w189 hbox hb; have BK216 := Aside0.mk (hbox); have GW216 := Aside0.mk ((by rw [hg]; exact bz_ : w.heap.size ≤ gb216)); have GE216 := GW216; replace HB := Aside0.mk (below_step bl_ hb); clear hb hbox hg) | ((with_reducible refine gate_dst (N := 3) rfl ?_); refine box_event rfl (N := 3) rfl (cs := #[.int .i64 a1_0, .int .i64 a1_1, .int .i64 a1_2]) (t := 45) gs_ ?_; intro gb217 hg w190 hbox hb; have BK217 := Aside0.mk (hbox); have GW217 := Aside0.mk ((by rw [hg]; exact bz_ : w.heap.size ≤ gb217)); have GE217 := GW217; replace HB := Aside0.mk (below_step bl_ hb); have NB216_217 := nl_ hg BK216; have NB217_216 := nm_ hg BK216; replace BK216 := bb_ BK216 hb; clear hb hbox hg) | ((with_reducible refine gate_dst (N := 4) rfl ?_); refine box_event rfl (N := 4) rfl (cs := #[.int .i64 0, .int .i64 0, .slice none 0 0, .int .i64 0, .int .i64 0, .slice none 0 0]) (t := 24) gs_ ?_; intro gb218 hg w191 hbox hb; have BK218 := Aside0.mk (hbox); have GW218 := Aside0.mk ((by rw [hg]; exact bz_ : w.heap.size ≤ gb218)); have GE218 := GW218; replace HB := Aside0.mk (below_step bl_ hb); have NB216_218 := nl_ hg BK216; have NB218_216 := nm_ hg BK216; replace BK216 := bb_ BK216 hb; have NB217_218 := nl_ hg BK217; have NB218_217 := nm_ hg BK217; replace BK217 := bb_ BK217 hb; clear hb hbox hg) | ((with_reducible refine gate_dst (N := 9) rfl ?_); refine Kd.R_lit (Kd.int .i64) _ 3 rfl (N := 9) rfl (xs := ([] : List Int)) (inner := []) (ok := fun _ => True) (okp := fun _ => True) gs_ ?hp (fun _ hk => hk) trivial (Below.refl _ _) (Nat.le_refl _) (by simp) ?_; (case hp => exact (Reps.none _ _)); intro v220 w192 ho193 hb hg_ hnew_; clear hg_ hnew_; (first | rw [← Ny219.out] at ho193 | (simp only [Int.reduceToNat] at ho193; rw [← Ny219.out] at ho193)); have HO221 := Aside0.mk (Kd.R_lower ho193 bz_); replace BK216 := bb_ BK216 hb; replace BK217 := bb_ BK217 hb; replace BK218 := bb_ BK218 hb; replace HB := Aside0.mk (below_step bl_ hb); clear hb ho193; have hnb194 := NB216_217.out; have hnc194 := NB217_216.out; have hnb195 := NB216_218.out; have hnc195 := NB218_216.out; have hcz196_0 : w192.cell? ⟨gb216, 0, none⟩ = some (.int .i64 a0_0) := bc_ BK216.out 0; have hcz196_1 : w192.cell? ⟨gb216, 1, none⟩ = some (.int .i64 a0_1) := bc_ BK216.out 1; have hcz196_2 : w192.cell? ⟨gb216, 2, none⟩ = some (.slice A0_2 l0_2.length c0_2) := bc_ BK216.out 2; have hcz196_3 : w192.cell? ⟨gb216, 3, none⟩ = some (.int .i64 a0_3) := bc_ BK216.out 3; have hcz196_4 : w192.cell? ⟨gb216, 4, none⟩ = some (.int .i64 a0_4) := bc_ BK216.out 4; have hcz196_5 : w192.cell? ⟨gb216, 5, none⟩ = some (.slice A0_5 l0_5.length c0_5) := bc_ BK216.out 5; have hfz196_0 := blk_frozen BK216.out 0; have hfz196_1 := blk_frozen BK216.out 1; have hfz196_2 := blk_frozen BK216.out 2; have hfz196_3 := blk_frozen BK216.out 3; have hfz196_4 := blk_frozen BK216.out 4; have hfz196_5 := blk_frozen BK216.out 5) | ((with_reducible refine gate_builtin (b := .append) (xs := #[.tmp 9, .tmp 11]) rfl ?_); at_builtin; refine Kd.R_append_rows (Kd.int .i64) (w0 := w) w.heap.size rfl (.tmp 9) (.tmp 11) 22 3 (.int .i64 0) 8 rfl Try.underlying22 info3 rfl (by decide) (by omega) v220 y219 l0_2 _ _ _ (fun _ => True) (fun _ => False) rfl rfl ?aO ?aR (fun _ _ h => h) (fun _ h => h.elim) ?aF ?aB ?aS ?aL ?_; (case aR => exact kc_ (Kd.C_below HR0_2.out HB.out)); (case aB => exact bl_); (case aF => exact (fun _ _ => trivial)); (case aO => exact (kr_ HO221.out)); (case aS => exact bz_); (case aL => have := LMc3.out; omega); intro v223 w197 ho hb hg hat; rw [← Ny222.out] at ho; replace BK216 := bgr_ BK216 hg HO221 BK216; replace BK217 := bgr_ BK217 hg HO221 BK217; replace BK218 := bgr_ BK218 hg HO221 BK218; replace HB := Aside0.mk (hb); have HO224 := Aside0.mk (ho); clear HO221 ho hb hg hat; obtain ⟨Ao198, co198, eo198⟩ := Kd.R_slice HO224.out; subst eo198; have hcz199_0 : w197.cell? ⟨gb216, 0, none⟩ = some (.int .i64 a0_0) := bc_ BK216.out 0; have hcz199_1 : w197.cell? ⟨gb216, 1, none⟩ = some (.int .i64 a0_1) := bc_ BK216.out 1; have hcz199_2 : w197.cell? ⟨gb216, 2, none⟩ = some (.slice A0_2 l0_2.length c0_2) := bc_ BK216.out 2; have hcz199_3 : w197.cell? ⟨gb216, 3, none⟩ = some (.int .i64 a0_3) := bc_ BK216.out 3; have hcz199_4 : w197.cell? ⟨gb216, 4, none⟩ = some (.int .i64 a0_4) := bc_ BK216.out 4; have hcz199_5 : w197.cell? ⟨gb216, 5, none⟩ = some (.slice A0_5 l0_5.length c0_5) := bc_ BK216.out 5; have hfz199_0 := blk_frozen BK216.out 0; have hfz199_1 := blk_frozen BK216.out 1; have hfz199_2 := blk_frozen BK216.out 2; have hfz199_3 := blk_frozen BK216.out 3; have hfz199_4 := blk_frozen BK216.out 4; have hfz199_5 := blk_frozen BK216.out 5) | ((with_reducible refine gate_dst (N := 14) rfl ?_); refine Kd.R_lit (Kd.int .i64) _ 3 rfl (N := 14) rfl (xs := ([] : List Int)) (inner := []) (ok := fun _ => True) (okp := fun _ => True) gs_ ?hp (fun _ hk => hk) trivial (Below.refl _ _) (Nat.le_refl _) (by simp) ?_; (case hp => exact (Reps.none _ _)); intro v226 w200 ho201 hb hg_ hnew_; clear hg_ hnew_; (first | rw [← Ny225.out] at ho201 | (simp only [Int.reduceToNat] at ho201; rw [← Ny225.out] at ho201)); have HO227 := Aside0.mk (Kd.R_lower (Kd.R_new' ho201 (Kd.R_lt (by exact kr_ ((Kd.R_mono (Kd.R_far (p := ⟨gb216, 2, none⟩) (Kd.R_types HO224.out BK216.out (by decide)) (fun _ hk => hk.2) (.slice Ao198 y222.length co198)) (fun _ h_ => h_.1)))))) bz_); replace HO224 := Aside0.mk (Kd.R_elder' (by exact kr_ ((Kd.R_mono (Kd.R_far (p := ⟨gb216, 2, none⟩) (Kd.R_types HO224.out BK216.out (by decide)) (fun _ hk => hk.2) (.slice Ao198 y222.length co198)) (fun _ h_ => h_.1)))) (Kd.R_base ho201) hb); replace BK216 := Aside0.mk (blk_below (g := gb216) (o := .cells #[.int .i64 a0_0, .int .i64 a0_1, .slice Ao198 y222.length co198, .int .i64 a0_3, .int .i64 a0_4, .slice A0_5 l0_5.length c0_5] 24 (0, 0)) (by (with_reducible repeat (first | refine blk_drewN ?_ _ | refine blk_drew ?_ | refine blk_alloc ?_ _)); refine blk_put (cs := #[.int .i64 a0_0, .int .i64 a0_1, .slice A0_2 l0_2.length c0_2, .int .i64 a0_3, .int .i64 a0_4, .slice A0_5 l0_5.length c0_5]) ?_ 2 _ rfl; exact kb_ BK216.out) hb); replace BK217 := Aside0.mk (blk_below (g := gb217) (o := .cells #[.int .i64 a1_0, .int .i64 a1_1, .int .i64 a1_2] 45 (0, 0)) kz_ hb); replace BK218 := Aside0.mk (blk_below (g := gb218) (o := .cells #[.int .i64 0, .int .i64 0, .slice none 0 0, .int .i64 0, .int .i64 0, .slice none 0 0] 24 (0, 0)) kz_ hb); replace HB := Aside0.mk (below_step bl_ hb); clear hb ho201; have hcz202_0 : w200.cell? ⟨gb216, 0, none⟩ = some (.int .i64 a0_0) := bc_ BK216.out 0; have hcz202_1 : w200.cell? ⟨gb216, 1, none⟩ = some (.int .i64 a0_1) := bc_ BK216.out 1; have hcz202_2 : w200.cell? ⟨gb216, 2, none⟩ = some (.slice Ao198 y222.length co198) := bc_ BK216.out 2; have hcz202_3 : w200.cell? ⟨gb216, 3, none⟩ = some (.int .i64 a0_3) := bc_ BK216.out 3; have hcz202_4 : w200.cell? ⟨gb216, 4, none⟩ = some (.int .i64 a0_4) := bc_ BK216.out 4; have hcz202_5 : w200.cell? ⟨gb216, 5, none⟩ = some (.slice A0_5 l0_5.length c0_5) := bc_ BK216.out 5; have hfz202_0 := blk_frozen BK216.out 0; have hfz202_1 := blk_frozen BK216.out 1; have hfz202_2 := blk_frozen BK216.out 2; have hfz202_3 := blk_frozen BK216.out 3; have hfz202_4 := blk_frozen BK216.out 4; have hfz202_5 := blk_frozen BK216.out 5) | ((with_reducible refine gate_builtin (b := .append) (xs := #[.tmp 14, .tmp 16]) rfl ?_); at_builtin; refine Kd.R_append_rows (Kd.int .i64) (w0 := w) w.heap.size rfl (.tmp 14) (.tmp 16) 22 3 (.int .i64 0) 8 rfl Try.underlying22 info3 rfl (by decide) (by omega) v226 y225 l0_5 _ _ _ (fun k_ => some k_ ≠ (.slice Ao198 y222.length co198 : Value).ownBlock) (fun _ => False) rfl rfl ?aO ?aR (fun _ _ h => h) (fun _ h => h.elim) ?aF ?aB ?aS ?aL ?_; (case aR => exact kc_ (Kd.C_below HR0_5.out HB.out)); (case aB => exact bl_); (case aF => exact (fun k_ hk => Kd.fresh' (Kd.R_lt (kr_ HO224.out)) k_ hk)); (case aO => exact (kp_ HO227.out)); (case aS => exact bz_); (case aL => have := LMc4.out; omega); intro v229 w203 ho hb hg hat; rw [← Ny228.out] at ho; replace BK216 := bgr_ BK216 hg HO227 BK216; replace BK217 := bgr_ BK217 hg HO227 BK217; replace BK218 := bgr_ BK218 hg HO227 BK218; replace HO224 := Aside0.mk (Kd.R_after (ok := (fun _ => True)) (kr_ HO224.out) hg hat); replace HB := Aside0.mk (hb); have HO230 := Aside0.mk (ho); clear HO227 ho hb hg hat; obtain ⟨Ao204, co204, eo204⟩ := Kd.R_slice HO230.out; subst eo204; have hcz205_0 : w203.cell? ⟨gb216, 0, none⟩ = some (.int .i64 a0_0) := bc_ BK216.out 0; have hcz205_1 : w203.cell? ⟨gb216, 1, none⟩ = some (.int .i64 a0_1) := bc_ BK216.out 1; have hcz205_2 : w203.cell? ⟨gb216, 2, none⟩ = some (.slice Ao198 y222.length co198) := bc_ BK216.out 2; have hcz205_3 : w203.cell? ⟨gb216, 3, none⟩ = some (.int .i64 a0_3) := bc_ BK216.out 3; have hcz205_4 : w203.cell? ⟨gb216, 4, none⟩ = some (.int .i64 a0_4) := bc_ BK216.out 4; have hcz205_5 : w203.cell? ⟨gb216, 5, none⟩ = some (.slice A0_5 l0_5.length c0_5) := bc_ BK216.out 5; have hfz205_0 := blk_frozen BK216.out 0; have hfz205_1 := blk_frozen BK216.out 1; have hfz205_2 := blk_frozen BK216.out 2; have hfz205_3 := blk_frozen BK216.out 3; have hfz205_4 := blk_frozen BK216.out 4; have hfz205_5 := blk_frozen BK216.out 5; have hnb206 := NB217_218.out; have hnc206 := NB218_217.out; have hcz207_0 : w203.cell? ⟨gb217, 0, none⟩ = some (.int .i64 a1_0) := bc_ BK217.out 0; have hcz207_1 : w203.cell? ⟨gb217, 1, none⟩ = some (.int .i64 a1_1) := bc_ BK217.out 1; have hcz207_2 : w203.cell? ⟨gb217, 2, none⟩ = some (.int .i64 a1_2) := bc_ BK217.out 2; have hfz207_0 := blk_frozen BK217.out 0; have hfz207_1 := blk_frozen BK217.out 1; have hfz207_2 := blk_frozen BK217.out 2) | ((with_reducible refine gate_callee (f := 50) rfl ?_); refine goesL_ (some 25) rfl rfl Try.func50 (by kernel_rfl) rfl #[.int .i64 a1_1, .int .i64 0, .int .i64 (wrap64 ((y222.length : Int) - 1))] rfl nc_ ?_; (with_reducible refine (impl_in.calls a1_1 0 (wrap64 ((y222.length : Int) - 1)) t231 _ A5.out).mono ?_); rintro e w' ⟨rfl, ⟨nd, rfl⟩⟩; refine ⟨_, rfl, ?_⟩) | ((with_reducible refine gate_callee (f := 50) rfl ?_); refine goesL_ (some 92) rfl rfl Try.func50 (by kernel_rfl) rfl #[.int .i64 a1_2, .int .i64 1, .int .i64 1000000] rfl nc_ ?_; (with_reducible refine (impl_in.calls a1_2 1 1000000 false _ A142.out).mono ?_); rintro e w' ⟨rfl, ⟨nd, rfl⟩⟩; refine ⟨_, rfl, ?_⟩; have hcz208_0 : w203.cell? ⟨gb218, 0, none⟩ = some (.int .i64 0) := bc_ BK218.out 0; have hcz208_1 : w203.cell? ⟨gb218, 1, none⟩ = some (.int .i64 0) := bc_ BK218.out 1; have hcz208_2 : w203.cell? ⟨gb218, 2, none⟩ = some (.slice none 0 0) := bc_ BK218.out 2; have hcz208_3 : w203.cell? ⟨gb218, 3, none⟩ = some (.int .i64 0) := bc_ BK218.out 3; have hcz208_4 : w203.cell? ⟨gb218, 4, none⟩ = some (.int .i64 0) := bc_ BK218.out 4; have hcz208_5 : w203.cell? ⟨gb218, 5, none⟩ = some (.slice none 0 0) := bc_ BK218.out 5; have hfz208_0 := blk_frozen BK218.out 0; have hfz208_1 := blk_frozen BK218.out 1; have hfz208_2 := blk_frozen BK218.out 2; have hfz208_3 := blk_frozen BK218.out 3; have hfz208_4 := blk_frozen BK218.out 4; have hfz208_5 := blk_frozen BK218.out 5))
   refine bodyPost_ret (results_ct rfl _ _ gb218 24 #[.int .i64 0, .int .i64 0, .slice none 0 0, .int .i64 0, .int .i64 0, .slice none 0 0] (0, 0) _ rfl (by (with_reducible repeat (first | refine blk_drewN ?_ _ | refine blk_drew ?_ | refine blk_alloc ?_ _)); refine blk_put (cs := #[.int .i64 0, .int .i64 0, .slice none 0 0, .int .i64 0, .int .i64 0, .slice none 0 0]) ?_ 5 _ rfl; (with_reducible repeat (first | refine blk_drewN ?_ _ | refine blk_drew ?_ | refine blk_alloc ?_ _)); refine blk_put (cs := #[.int .i64 0, .int .i64 0, .slice none 0 0, .int .i64 0, .int .i64 0, .slice none 0 0]) ?_ 4 _ rfl; (with_reducible repeat (first | refine blk_drewN ?_ _ | refine blk_drew ?_ | refine blk_alloc ?_ _)); refine blk_put (cs := #[.int .i64 0, .int .i64 0, .slice none 0 0, .int .i64 0, .int .i64 0, .slice none 0 0]) ?_ 3 _ rfl; (with_reducible repeat (first | refine blk_drewN ?_ _ | refine blk_drew ?_ | refine blk_alloc ?_ _)); refine blk_put (cs := #[.int .i64 0, .int .i64 0, .slice none 0 0, .int .i64 0, .int .i64 0, .slice none 0 0]) ?_ 2 _ rfl; (with_reducible repeat (first | refine blk_drewN ?_ _ | refine blk_drew ?_ | refine blk_alloc ?_ _)); refine blk_put (cs := #[.int .i64 0, .int .i64 0, .slice none 0 0, .int .i64 0, .int .i64 0, .slice none 0 0]) ?_ 1 _ rfl; (with_reducible repeat (first | refine blk_drewN ?_ _ | refine blk_drew ?_ | refine blk_alloc ?_ _)); refine blk_put (cs := #[.int .i64 0, .int .i64 0, .slice none 0 0, .int .i64 0, .int .i64 0, .slice none 0 0]) ?_ 0 _ rfl; (with_reducible repeat (first | refine blk_drewN ?_ _ | refine blk_drew ?_ | refine blk_alloc ?_ _)); refine blk_far ?_ NB218_216.out _; exact kb_ BK218.out) Try.underlying24 rfl (by kernel_rfl)) rfl ?_
   exact ⟨_, _, ng_, by first | exact Kd.R_nil _ _ _ _ _ | exact Kd.N_nil _ _ _ _ _ | exact Kd.V_nil _ _ _ _ _ | exact Kd.Q_nil _ _ _ _ _ | exact Kd.S_nil _ _ _ _ _, by first | exact Kd.R_nil _ _ _ _ _ | exact Kd.N_nil _ _ _ _ _ | exact Kd.V_nil _ _ _ _ _ | exact Kd.Q_nil _ _ _ _ _ | exact Kd.S_nil _ _ _ _ _, bl_⟩
  subst c143
  have H1 : ((impl_areLeases.f k a0_0 (wrap64 (a0_1 + a1_2)) y222 a0_3 a0_4 y228).bind fun t238 => (if t238 = true then (some (a0_0, wrap64 (a0_1 + a1_2), y222, a0_3, a0_4, y228, true)) else (some (0, 0, ([] : List Int), 0, 0, ([] : List Int), false)))) = some (r1, r2, r3, r4, r5, r6, r7) := by rw [if_pos rfl] at H; exact H
  clear H
  have H := H1
  clear H1
  replace H := Option.bind_eq_some_iff.mp H
  obtain ⟨t238, A1440, H⟩ := H
  replace H : (if t238 = true then (some (a0_0, wrap64 (a0_1 + a1_2), y222, a0_3, a0_4, y228, true)) else (some (0, 0, ([] : List Int), 0, 0, ([] : List Int), false))) = some (r1, r2, r3, r4, r5, r6, r7) := H
  have A144 := Aside0.mk A1440
  clear A1440
  by_cases c145 : t238 = true
  rotate_left
  ·replace c145 := Bool.eq_false_iff.mpr c145
   subst c145
   have H1 : (some (0, 0, ([] : List Int), 0, 0, ([] : List Int), false)) = some (r1, r2, r3, r4, r5, r6, r7) := by rw [if_neg (show ¬ (false = true) by decide)] at H; exact H
   clear H
   have H := H1
   clear H1
   simp only [Option.some.injEq, Prod.mk.injEq] at H
   obtain ⟨rfl, rfl, rfl, rfl, rfl, rfl, rfl⟩ := H
   go_enter Try.func55, Try.ntmps55
   go_wp2_with (first | ((with_reducible refine gate_dst (N := 2) rfl ?_); refine box_event rfl (N := 2) rfl (cs := #[.int .i64 a0_0, .int .i64 a0_1, .slice A0_2 l0_2.length c0_2, .int .i64 a0_3, .int .i64 a0_4, .slice A0_5 l0_5.length c0_5]) (t := 24) gs_ ?_; intro gb216 hg w168 hbox hb; have BK216 := Aside0.mk (hbox); have GW216 := Aside0.mk ((by rw [hg]; exact bz_ : w.heap.size ≤ gb216)); have GE216 := GW216; replace HB := Aside0.mk (below_step bl_ hb); clear hb hbox hg) | ((with_reducible refine gate_dst (N := 3) rfl ?_); refine box_event rfl (N := 3) rfl (cs := #[.int .i64 a1_0, .int .i64 a1_1, .int .i64 a1_2]) (t := 45) gs_ ?_; intro gb217 hg w169 hbox hb; have BK217 := Aside0.mk (hbox); have GW217 := Aside0.mk ((by rw [hg]; exact bz_ : w.heap.size ≤ gb217)); have GE217 := GW217; replace HB := Aside0.mk (below_step bl_ hb); have NB216_217 := nl_ hg BK216; have NB217_216 := nm_ hg BK216; replace BK216 := bb_ BK216 hb; clear hb hbox hg) | ((with_reducible refine gate_dst (N := 4) rfl ?_); refine box_event rfl (N := 4) rfl (cs := #[.int .i64 0, .int .i64 0, .slice none 0 0, .int .i64 0, .int .i64 0, .slice none 0 0]) (t := 24) gs_ ?_; intro gb218 hg w170 hbox hb; have BK218 := Aside0.mk (hbox); have GW218 := Aside0.mk ((by rw [hg]; exact bz_ : w.heap.size ≤ gb218)); have GE218 := GW218; replace HB := Aside0.mk (below_step bl_ hb); have NB216_218 := nl_ hg BK216; have NB218_216 := nm_ hg BK216; replace BK216 := bb_ BK216 hb; have NB217_218 := nl_ hg BK217; have NB218_217 := nm_ hg BK217; replace BK217 := bb_ BK217 hb; clear hb hbox hg) | ((with_reducible refine gate_dst (N := 9) rfl ?_); refine Kd.R_lit (Kd.int .i64) _ 3 rfl (N := 9) rfl (xs := ([] : List Int)) (inner := []) (ok := fun _ => True) (okp := fun _ => True) gs_ ?hp (fun _ hk => hk) trivial (Below.refl _ _) (Nat.le_refl _) (by simp) ?_; (case hp => exact (Reps.none _ _)); intro v220 w171 ho172 hb hg_ hnew_; clear hg_ hnew_; (first | rw [← Ny219.out] at ho172 | (simp only [Int.reduceToNat] at ho172; rw [← Ny219.out] at ho172)); have HO221 := Aside0.mk (Kd.R_lower ho172 bz_); replace BK216 := bb_ BK216 hb; replace BK217 := bb_ BK217 hb; replace BK218 := bb_ BK218 hb; replace HB := Aside0.mk (below_step bl_ hb); clear hb ho172; have hnb173 := NB216_217.out; have hnc173 := NB217_216.out; have hnb174 := NB216_218.out; have hnc174 := NB218_216.out; have hcz175_0 : w171.cell? ⟨gb216, 0, none⟩ = some (.int .i64 a0_0) := bc_ BK216.out 0; have hcz175_1 : w171.cell? ⟨gb216, 1, none⟩ = some (.int .i64 a0_1) := bc_ BK216.out 1; have hcz175_2 : w171.cell? ⟨gb216, 2, none⟩ = some (.slice A0_2 l0_2.length c0_2) := bc_ BK216.out 2; have hcz175_3 : w171.cell? ⟨gb216, 3, none⟩ = some (.int .i64 a0_3) := bc_ BK216.out 3; have hcz175_4 : w171.cell? ⟨gb216, 4, none⟩ = some (.int .i64 a0_4) := bc_ BK216.out 4; have hcz175_5 : w171.cell? ⟨gb216, 5, none⟩ = some (.slice A0_5 l0_5.length c0_5) := bc_ BK216.out 5; have hfz175_0 := blk_frozen BK216.out 0; have hfz175_1 := blk_frozen BK216.out 1; have hfz175_2 := blk_frozen BK216.out 2; have hfz175_3 := blk_frozen BK216.out 3; have hfz175_4 := blk_frozen BK216.out 4; have hfz175_5 := blk_frozen BK216.out 5) | ((with_reducible refine gate_builtin (b := .append) (xs := #[.tmp 9, .tmp 11]) rfl ?_); at_builtin; refine Kd.R_append_rows (Kd.int .i64) (w0 := w) w.heap.size rfl (.tmp 9) (.tmp 11) 22 3 (.int .i64 0) 8 rfl Try.underlying22 info3 rfl (by decide) (by omega) v220 y219 l0_2 _ _ _ (fun _ => True) (fun _ => False) rfl rfl ?aO ?aR (fun _ _ h => h) (fun _ h => h.elim) ?aF ?aB ?aS ?aL ?_; (case aR => exact kc_ (Kd.C_below HR0_2.out HB.out)); (case aB => exact bl_); (case aF => exact (fun _ _ => trivial)); (case aO => exact (kr_ HO221.out)); (case aS => exact bz_); (case aL => have := LMc3.out; omega); intro v223 w176 ho hb hg hat; rw [← Ny222.out] at ho; replace BK216 := bgr_ BK216 hg HO221 BK216; replace BK217 := bgr_ BK217 hg HO221 BK217; replace BK218 := bgr_ BK218 hg HO221 BK218; replace HB := Aside0.mk (hb); have HO224 := Aside0.mk (ho); clear HO221 ho hb hg hat; obtain ⟨Ao177, co177, eo177⟩ := Kd.R_slice HO224.out; subst eo177; have hcz178_0 : w176.cell? ⟨gb216, 0, none⟩ = some (.int .i64 a0_0) := bc_ BK216.out 0; have hcz178_1 : w176.cell? ⟨gb216, 1, none⟩ = some (.int .i64 a0_1) := bc_ BK216.out 1; have hcz178_2 : w176.cell? ⟨gb216, 2, none⟩ = some (.slice A0_2 l0_2.length c0_2) := bc_ BK216.out 2; have hcz178_3 : w176.cell? ⟨gb216, 3, none⟩ = some (.int .i64 a0_3) := bc_ BK216.out 3; have hcz178_4 : w176.cell? ⟨gb216, 4, none⟩ = some (.int .i64 a0_4) := bc_ BK216.out 4; have hcz178_5 : w176.cell? ⟨gb216, 5, none⟩ = some (.slice A0_5 l0_5.length c0_5) := bc_ BK216.out 5; have hfz178_0 := blk_frozen BK216.out 0; have hfz178_1 := blk_frozen BK216.out 1; have hfz178_2 := blk_frozen BK216.out 2; have hfz178_3 := blk_frozen BK216.out 3; have hfz178_4 := blk_frozen BK216.out 4; have hfz178_5 := blk_frozen BK216.out 5) | ((with_reducible refine gate_dst (N := 14) rfl ?_); refine Kd.R_lit (Kd.int .i64) _ 3 rfl (N := 14) rfl (xs := ([] : List Int)) (inner := []) (ok := fun _ => True) (okp := fun _ => True) gs_ ?hp (fun _ hk => hk) trivial (Below.refl _ _) (Nat.le_refl _) (by simp) ?_; (case hp => exact (Reps.none _ _)); intro v226 w179 ho180 hb hg_ hnew_; clear hg_ hnew_; (first | rw [← Ny225.out] at ho180 | (simp only [Int.reduceToNat] at ho180; rw [← Ny225.out] at ho180)); have HO227 := Aside0.mk (Kd.R_lower (Kd.R_new' ho180 (Kd.R_lt (by (with_reducible repeat (first | apply Kd.R_alloc | apply Kd.R_drewN | apply Kd.R_drew)); exact ((Kd.R_mono (Kd.R_far (p := ⟨gb216, 2, none⟩) (Kd.R_types HO224.out BK216.out (by decide)) (fun _ hk => hk.2) (.slice Ao177 y222.length co177)) (fun _ h_ => h_.1)))))) bz_); replace HO224 := Aside0.mk (Kd.R_elder' (by (with_reducible repeat (first | apply Kd.R_alloc | apply Kd.R_drewN | apply Kd.R_drew)); exact ((Kd.R_mono (Kd.R_far (p := ⟨gb216, 2, none⟩) (Kd.R_types HO224.out BK216.out (by decide)) (fun _ hk => hk.2) (.slice Ao177 y222.length co177)) (fun _ h_ => h_.1)))) (Kd.R_base ho180) hb); replace BK216 := Aside0.mk (blk_below (g := gb216) (o := .cells #[.int .i64 a0_0, .int .i64 a0_1, .slice Ao177 y222.length co177, .int .i64 a0_3, .int .i64 a0_4, .slice A0_5 l0_5.length c0_5] 24 (0, 0)) (by (with_reducible repeat (first | refine blk_drewN ?_ _ | refine blk_drew ?_ | refine blk_alloc ?_ _)); refine blk_put (cs := #[.int .i64 a0_0, .int .i64 a0_1, .slice A0_2 l0_2.length c0_2, .int .i64 a0_3, .int .i64 a0_4, .slice A0_5 l0_5.length c0_5]) ?_ 2 _ rfl; exact kb_ BK216.out) hb); replace BK217 := Aside0.mk (blk_below (g := gb217) (o := .cells #[.int .i64 a1_0, .int .i64 a1_1, .int .i64 a1_2] 45 (0, 0)) kz_ hb); replace BK218 := Aside0.mk (blk_below (g := gb218) (o := .cells #[.int .i64 0, .int .i64 0, .slice none 0 0, .int .i64 0, .int .i64 0, .slice none 0 0] 24 (0, 0)) kz_ hb); replace HB := Aside0.mk (below_step bl_ hb); clear hb ho180; have hcz181_0 : w179.cell? ⟨gb216, 0, none⟩ = some (.int .i64 a0_0) := bc_ BK216.out 0; have hcz181_1 : w179.cell? ⟨gb216, 1, none⟩ = some (.int .i64 a0_1) := bc_ BK216.out 1; have hcz181_2 : w179.cell? ⟨gb216, 2, none⟩ = some (.slice Ao177 y222.length co177) := bc_ BK216.out 2; have hcz181_3 : w179.cell? ⟨gb216, 3, none⟩ = some (.int .i64 a0_3) := bc_ BK216.out 3; have hcz181_4 : w179.cell? ⟨gb216, 4, none⟩ = some (.int .i64 a0_4) := bc_ BK216.out 4; have hcz181_5 : w179.cell? ⟨gb216, 5, none⟩ = some (.slice A0_5 l0_5.length c0_5) := bc_ BK216.out 5; have hfz181_0 := blk_frozen BK216.out 0; have hfz181_1 := blk_frozen BK216.out 1; have hfz181_2 := blk_frozen BK216.out 2; have hfz181_3 := blk_frozen BK216.out 3; have hfz181_4 := blk_frozen BK216.out 4; have hfz181_5 := blk_frozen BK216.out 5) | ((with_reducible refine gate_builtin (b := .append) (xs := #[.tmp 14, .tmp 16]) rfl ?_); at_builtin; refine Kd.R_append_rows (Kd.int .i64) (w0 := w) w.heap.size rfl (.tmp 14) (.tmp 16) 22 3 (.int .i64 0) 8 rfl Try.underlying22 info3 rfl (by decide) (by omega) v226 y225 l0_5 _ _ _ (fun k_ => some k_ ≠ (.slice Ao177 y222.length co177 : Value).ownBlock) (fun _ => False) rfl rfl ?aO ?aR (fun _ _ h => h) (fun _ h => h.elim) ?aF ?aB ?aS ?aL ?_; (case aR => exact kc_ (Kd.C_below HR0_5.out HB.out)); (case aB => exact bl_); (case aF => exact (fun k_ hk => Kd.fresh' (Kd.R_lt (kr_ HO224.out)) k_ hk)); (case aO => exact (kp_ HO227.out)); (case aS => exact bz_); (case aL => have := LMc4.out; omega); intro v229 w182 ho hb hg hat; rw [← Ny228.out] at ho; replace BK216 := bgr_ BK216 hg HO227 BK216; replace BK217 := bgr_ BK217 hg HO227 BK217; replace BK218 := bgr_ BK218 hg HO227 BK218; replace HO224 := Aside0.mk (Kd.R_after (ok := (fun _ => True)) (kr_ HO224.out) hg hat); replace HB := Aside0.mk (hb); have HO230 := Aside0.mk (ho); clear HO227 ho hb hg hat; obtain ⟨Ao183, co183, eo183⟩ := Kd.R_slice HO230.out; subst eo183; have hcz184_0 : w182.cell? ⟨gb216, 0, none⟩ = some (.int .i64 a0_0) := bc_ BK216.out 0; have hcz184_1 : w182.cell? ⟨gb216, 1, none⟩ = some (.int .i64 a0_1) := bc_ BK216.out 1; have hcz184_2 : w182.cell? ⟨gb216, 2, none⟩ = some (.slice Ao177 y222.length co177) := bc_ BK216.out 2; have hcz184_3 : w182.cell? ⟨gb216, 3, none⟩ = some (.int .i64 a0_3) := bc_ BK216.out 3; have hcz184_4 : w182.cell? ⟨gb216, 4, none⟩ = some (.int .i64 a0_4) := bc_ BK216.out 4; have hcz184_5 : w182.cell? ⟨gb216, 5, none⟩ = some (.slice A0_5 l0_5.length c0_5) := bc_ BK216.out 5; have hfz184_0 := blk_frozen BK216.out 0; have hfz184_1 := blk_frozen BK216.out 1; have hfz184_2 := blk_frozen BK216.out 2; have hfz184_3 := blk_frozen BK216.out 3; have hfz184_4 := blk_frozen BK216.out 4; have hfz184_5 := blk_frozen BK216.out 5; have hnb185 := NB217_218.out; have hnc185 := NB218_217.out; have hcz186_0 : w182.cell? ⟨gb217, 0, none⟩ = some (.int .i64 a1_0) := bc_ BK217.out 0; have hcz186_1 : w182.cell? ⟨gb217, 1, none⟩ = some (.int .i64 a1_1) := bc_ BK217.out 1; have hcz186_2 : w182.cell? ⟨gb217, 2, none⟩ = some (.int .i64 a1_2) := bc_ BK217.out 2; have hfz186_0 := blk_frozen BK217.out 0; have hfz186_1 := blk_frozen BK217.out 1; have hfz186_2 := blk_frozen BK217.out 2) | ((with_reducible refine gate_callee (f := 50) rfl ?_); refine goesL_ (some 25) rfl rfl Try.func50 (by kernel_rfl) rfl #[.int .i64 a1_1, .int .i64 0, .int .i64 (wrap64 ((y222.length : Int) - 1))] rfl nc_ ?_; (with_reducible refine (impl_in.calls a1_1 0 (wrap64 ((y222.length : Int) - 1)) t231 _ A5.out).mono ?_); rintro e w' ⟨rfl, ⟨nd, rfl⟩⟩; refine ⟨_, rfl, ?_⟩) | ((with_reducible refine gate_callee (f := 50) rfl ?_); refine goesL_ (some 92) rfl rfl Try.func50 (by kernel_rfl) rfl #[.int .i64 a1_2, .int .i64 1, .int .i64 1000000] rfl nc_ ?_; (with_reducible refine (impl_in.calls a1_2 1 1000000 true _ A142.out).mono ?_); rintro e w' ⟨rfl, ⟨nd, rfl⟩⟩; refine ⟨_, rfl, ?_⟩) | (go_at_call 49; (with_reducible refine (impl_areLeases.calls k a0_0 (wrap64 (a0_1 + a1_2)) _ _ y222 a0_3 a0_4 _ _ y228 false _ ?side1 ?side2 ?side3 ?side4 A144.out).mono ?_); (case side1 => refine (Kd.R_reads' (e := 3) (base := w.heap.size) (ok := fun k_ => (True ∧ some k_ ≠ (.slice Ao183 y228.length co183 : Value).ownBlock)) (n := y222.length) (c := co177) ?_).2.2; exact (by (with_reducible repeat (first | apply Kd.R_alloc | apply Kd.R_drewN | apply Kd.R_drew)); exact ((Kd.R_mono (Kd.R_far (p := ⟨gb216, 1, none⟩) (Kd.R_far (p := ⟨gb216, 5, none⟩) (Kd.R_types HO224.out BK216.out (by decide)) (fun _ hk => hk.2) (.slice Ao183 y228.length co183)) (fun _ hk => hk.2) (.int .i64 (wrap64 (a0_1 + a1_2)))) (fun _ h_ => h_.1))))); (case side2 => exact (Kd.R_reads' HO224.out).2.1); (case side3 => refine (Kd.R_reads' (e := 3) (base := w.heap.size) (ok := fun k_ => some k_ ≠ (.slice Ao177 y222.length co177 : Value).ownBlock) (n := y228.length) (c := co183) ?_).2.2; exact (by (with_reducible repeat (first | apply Kd.R_alloc | apply Kd.R_drewN | apply Kd.R_drew)); exact ((Kd.R_mono (Kd.R_far (p := ⟨gb216, 1, none⟩) (Kd.R_far (p := ⟨gb216, 5, none⟩) (Kd.R_types HO230.out BK216.out (by decide)) (fun _ hk => hk.2) (.slice Ao183 y228.length co183)) (fun _ hk => hk.2) (.int .i64 (wrap64 (a0_1 + a1_2)))) (fun _ h_ => h_.1))))); (case side4 => exact (Kd.R_reads' HO230.out).2.1); rintro e w187 ⟨rfl, hb⟩; replace HO224 := Aside0.mk (Kd.R_below (by (with_reducible repeat (first | apply Kd.R_alloc | apply Kd.R_drewN | apply Kd.R_drew)); exact ((Kd.R_mono (Kd.R_far (p := ⟨gb216, 1, none⟩) (Kd.R_far (p := ⟨gb216, 5, none⟩) (Kd.R_types HO224.out BK216.out (by decide)) (fun _ hk => hk.2) (.slice Ao183 y228.length co183)) (fun _ hk => hk.2) (.int .i64 (wrap64 (a0_1 + a1_2)))) (fun _ h_ => h_.1)))) hb); replace HO230 := Aside0.mk (Kd.R_below (by (with_reducible repeat (first | apply Kd.R_alloc | apply Kd.R_drewN | apply Kd.R_drew)); exact ((Kd.R_mono (Kd.R_far (p := ⟨gb216, 1, none⟩) (Kd.R_far (p := ⟨gb216, 5, none⟩) (Kd.R_types HO230.out BK216.out (by decide)) (fun _ hk => hk.2) (.slice Ao183 y228.length co183)) (fun _ hk => hk.2) (.int .i64 (wrap64 (a0_1 + a1_2)))) (fun _ h_ => h_.1)))) hb); replace BK216 := Aside0.mk (blk_below (g := gb216) (o := .cells #[.int .i64 a0_0, .int .i64 (wrap64 (a0_1 + a1_2)), .slice Ao177 y222.length co177, .int .i64 a0_3, .int .i64 a0_4, .slice Ao183 y228.length co183] 24 (0, 0)) (by (with_reducible repeat (first | refine blk_drewN ?_ _ | refine blk_drew ?_ | refine blk_alloc ?_ _)); refine blk_put (cs := #[.int .i64 a0_0, .int .i64 a0_1, .slice Ao177 y222.length co177, .int .i64 a0_3, .int .i64 a0_4, .slice Ao183 y228.length co183]) ?_ 1 _ rfl; (with_reducible repeat (first | refine blk_drewN ?_ _ | refine blk_drew ?_ | refine blk_alloc ?_ _)); refine blk_put (cs := #[.int .i64 a0_0, .int .i64 a0_1, .slice Ao177 y222.length co177, .int .i64 a0_3, .int .i64 a0_4, .slice A0_5 l0_5.length c0_5]) ?_ 5 _ rfl; exact kb_ BK216.out) hb); replace BK217 := Aside0.mk (blk_below (g := gb217) (o := .cells #[.int .i64 a1_0, .int .i64 a1_1, .int .i64 a1_2] 45 (0, 0)) kz_ hb); replace BK218 := Aside0.mk (blk_below (g := gb218) (o := .cells #[.int .i64 0, .int .i64 0, .slice none 0 0, .int .i64 0, .int .i64 0, .slice none 0 0] 24 (0, 0)) kz_ hb); replace HB := Aside0.mk (below_step bl_ hb); clear hb; have hcz188_0 : w187.cell? ⟨gb218, 0, none⟩ = some (.int .i64 0) := bc_ BK218.out 0; have hcz188_1 : w187.cell? ⟨gb218, 1, none⟩ = some (.int .i64 0) := bc_ BK218.out 1; have hcz188_2 : w187.cell? ⟨gb218, 2, none⟩ = some (.slice none 0 0) := bc_ BK218.out 2; have hcz188_3 : w187.cell? ⟨gb218, 3, none⟩ = some (.int .i64 0) := bc_ BK218.out 3; have hcz188_4 : w187.cell? ⟨gb218, 4, none⟩ = some (.int .i64 0) := bc_ BK218.out 4; have hcz188_5 : w187.cell? ⟨gb218, 5, none⟩ = some (.slice none 0 0) := bc_ BK218.out 5; have hfz188_0 := blk_frozen BK218.out 0; have hfz188_1 := blk_frozen BK218.out 1; have hfz188_2 := blk_frozen BK218.out 2; have hfz188_3 := blk_frozen BK218.out 3; have hfz188_4 := blk_frozen BK218.out 4; have hfz188_5 := blk_frozen BK218.out 5))
   refine bodyPost_ret (results_ct rfl _ _ gb218 24 #[.int .i64 0, .int .i64 0, .slice none 0 0, .int .i64 0, .int .i64 0, .slice none 0 0] (0, 0) _ rfl (by (with_reducible repeat (first | refine blk_drewN ?_ _ | refine blk_drew ?_ | refine blk_alloc ?_ _)); refine blk_put (cs := #[.int .i64 0, .int .i64 0, .slice none 0 0, .int .i64 0, .int .i64 0, .slice none 0 0]) ?_ 5 _ rfl; (with_reducible repeat (first | refine blk_drewN ?_ _ | refine blk_drew ?_ | refine blk_alloc ?_ _)); refine blk_put (cs := #[.int .i64 0, .int .i64 0, .slice none 0 0, .int .i64 0, .int .i64 0, .slice none 0 0]) ?_ 4 _ rfl; (with_reducible repeat (first | refine blk_drewN ?_ _ | refine blk_drew ?_ | refine blk_alloc ?_ _)); refine blk_put (cs := #[.int .i64 0, .int .i64 0, .slice none 0 0, .int .i64 0, .int .i64 0, .slice none 0 0]) ?_ 3 _ rfl; (with_reducible repeat (first | refine blk_drewN ?_ _ | refine blk_drew ?_ | refine blk_alloc ?_ _)); refine blk_put (cs := #[.int .i64 0, .int .i64 0, .slice none 0 0, .int .i64 0, .int .i64 0, .slice none 0 0]) ?_ 2 _ rfl; (with_reducible repeat (first | refine blk_drewN ?_ _ | refine blk_drew ?_ | refine blk_alloc ?_ _)); refine blk_put (cs := #[.int .i64 0, .int .i64 0, .slice none 0 0, .int .i64 0, .int .i64 0, .slice none 0 0]) ?_ 1 _ rfl; (with_reducible repeat (first | refine blk_drewN ?_ _ | refine blk_drew ?_ | refine blk_alloc ?_ _)); refine blk_put (cs := #[.int .i64 0, .int .i64 0, .slice none 0 0, .int .i64 0, .int .i64 0, .slice none 0 0]) ?_ 0 _ rfl; exact kb_ BK218.out) Try.underlying24 rfl (by kernel_rfl)) rfl ?_
   exact ⟨_, _, ng_, by first | exact Kd.R_nil _ _ _ _ _ | exact Kd.N_nil _ _ _ _ _ | exact Kd.V_nil _ _ _ _ _ | exact Kd.Q_nil _ _ _ _ _ | exact Kd.S_nil _ _ _ _ _, by first | exact Kd.R_nil _ _ _ _ _ | exact Kd.N_nil _ _ _ _ _ | exact Kd.V_nil _ _ _ _ _ | exact Kd.Q_nil _ _ _ _ _ | exact Kd.S_nil _ _ _ _ _, bl_⟩
  subst c145
  have H1 : (some (a0_0, wrap64 (a0_1 + a1_2), y222, a0_3, a0_4, y228, true)) = some (r1, r2, r3, r4, r5, r6, r7) := by rw [if_pos rfl] at H; exact H
  clear H
  have H := H1
  clear H1
  simp only [Option.some.injEq, Prod.mk.injEq] at H
  obtain ⟨rfl, rfl, rfl, rfl, rfl, rfl, rfl⟩ := H
  go_enter Try.func55, Try.ntmps55
  go_wp2_with (first | ((with_reducible refine gate_dst (N := 2) rfl ?_); refine box_event rfl (N := 2) rfl (cs := #[.int .i64 a0_0, .int .i64 a0_1, .slice A0_2 l0_2.length c0_2, .int .i64 a0_3, .int .i64 a0_4, .slice A0_5 l0_5.length c0_5]) (t := 24) gs_ ?_; intro gb216 hg w146 hbox hb; have BK216 := Aside0.mk (hbox); have GW216 := Aside0.mk ((by rw [hg]; exact bz_ : w.heap.size ≤ gb216)); have GE216 := GW216; replace HB := Aside0.mk (below_step bl_ hb); clear hb hbox hg) | ((with_reducible refine gate_dst (N := 3) rfl ?_); refine box_event rfl (N := 3) rfl (cs := #[.int .i64 a1_0, .int .i64 a1_1, .int .i64 a1_2]) (t := 45) gs_ ?_; intro gb217 hg w147 hbox hb; have BK217 := Aside0.mk (hbox); have GW217 := Aside0.mk ((by rw [hg]; exact bz_ : w.heap.size ≤ gb217)); have GE217 := GW217; replace HB := Aside0.mk (below_step bl_ hb); have NB216_217 := nl_ hg BK216; have NB217_216 := nm_ hg BK216; replace BK216 := bb_ BK216 hb; clear hb hbox hg) | ((with_reducible refine gate_dst (N := 4) rfl ?_); refine box_event rfl (N := 4) rfl (cs := #[.int .i64 0, .int .i64 0, .slice none 0 0, .int .i64 0, .int .i64 0, .slice none 0 0]) (t := 24) gs_ ?_; intro gb218 hg w148 hbox hb; have BK218 := Aside0.mk (hbox); have GW218 := Aside0.mk ((by rw [hg]; exact bz_ : w.heap.size ≤ gb218)); have GE218 := GW218; replace HB := Aside0.mk (below_step bl_ hb); have NB216_218 := nl_ hg BK216; have NB218_216 := nm_ hg BK216; replace BK216 := bb_ BK216 hb; have NB217_218 := nl_ hg BK217; have NB218_217 := nm_ hg BK217; replace BK217 := bb_ BK217 hb; clear hb hbox hg) | ((with_reducible refine gate_dst (N := 9) rfl ?_); refine Kd.R_lit (Kd.int .i64) _ 3 rfl (N := 9) rfl (xs := ([] : List Int)) (inner := []) (ok := fun _ => True) (okp := fun _ => True) gs_ ?hp (fun _ hk => hk) trivial (Below.refl _ _) (Nat.le_refl _) (by simp) ?_; (case hp => exact (Reps.none _ _)); intro v220 w149 ho150 hb hg_ hnew_; clear hg_ hnew_; (first | rw [← Ny219.out] at ho150 | (simp only [Int.reduceToNat] at ho150; rw [← Ny219.out] at ho150)); have HO221 := Aside0.mk (Kd.R_lower ho150 bz_); replace BK216 := bb_ BK216 hb; replace BK217 := bb_ BK217 hb; replace BK218 := bb_ BK218 hb; replace HB := Aside0.mk (below_step bl_ hb); clear hb ho150; have hnb151 := NB216_217.out; have hnc151 := NB217_216.out; have hnb152 := NB216_218.out; have hnc152 := NB218_216.out; have hcz153_0 : w149.cell? ⟨gb216, 0, none⟩ = some (.int .i64 a0_0) := bc_ BK216.out 0; have hcz153_1 : w149.cell? ⟨gb216, 1, none⟩ = some (.int .i64 a0_1) := bc_ BK216.out 1; have hcz153_2 : w149.cell? ⟨gb216, 2, none⟩ = some (.slice A0_2 l0_2.length c0_2) := bc_ BK216.out 2; have hcz153_3 : w149.cell? ⟨gb216, 3, none⟩ = some (.int .i64 a0_3) := bc_ BK216.out 3; have hcz153_4 : w149.cell? ⟨gb216, 4, none⟩ = some (.int .i64 a0_4) := bc_ BK216.out 4; have hcz153_5 : w149.cell? ⟨gb216, 5, none⟩ = some (.slice A0_5 l0_5.length c0_5) := bc_ BK216.out 5; have hfz153_0 := blk_frozen BK216.out 0; have hfz153_1 := blk_frozen BK216.out 1; have hfz153_2 := blk_frozen BK216.out 2; have hfz153_3 := blk_frozen BK216.out 3; have hfz153_4 := blk_frozen BK216.out 4; have hfz153_5 := blk_frozen BK216.out 5) | ((with_reducible refine gate_builtin (b := .append) (xs := #[.tmp 9, .tmp 11]) rfl ?_); at_builtin; refine Kd.R_append_rows (Kd.int .i64) (w0 := w) w.heap.size rfl (.tmp 9) (.tmp 11) 22 3 (.int .i64 0) 8 rfl Try.underlying22 info3 rfl (by decide) (by omega) v220 y219 l0_2 _ _ _ (fun _ => True) (fun _ => False) rfl rfl ?aO ?aR (fun _ _ h => h) (fun _ h => h.elim) ?aF ?aB ?aS ?aL ?_; (case aR => exact kc_ (Kd.C_below HR0_2.out HB.out)); (case aB => exact bl_); (case aF => exact (fun _ _ => trivial)); (case aO => exact (kr_ HO221.out)); (case aS => exact bz_); (case aL => have := LMc3.out; omega); intro v223 w154 ho hb hg hat; rw [← Ny222.out] at ho; replace BK216 := bgr_ BK216 hg HO221 BK216; replace BK217 := bgr_ BK217 hg HO221 BK217; replace BK218 := bgr_ BK218 hg HO221 BK218; replace HB := Aside0.mk (hb); have HO224 := Aside0.mk (ho); clear HO221 ho hb hg hat; obtain ⟨Ao155, co155, eo155⟩ := Kd.R_slice HO224.out; subst eo155; have hcz156_0 : w154.cell? ⟨gb216, 0, none⟩ = some (.int .i64 a0_0) := bc_ BK216.out 0; have hcz156_1 : w154.cell? ⟨gb216, 1, none⟩ = some (.int .i64 a0_1) := bc_ BK216.out 1; have hcz156_2 : w154.cell? ⟨gb216, 2, none⟩ = some (.slice A0_2 l0_2.length c0_2) := bc_ BK216.out 2; have hcz156_3 : w154.cell? ⟨gb216, 3, none⟩ = some (.int .i64 a0_3) := bc_ BK216.out 3; have hcz156_4 : w154.cell? ⟨gb216, 4, none⟩ = some (.int .i64 a0_4) := bc_ BK216.out 4; have hcz156_5 : w154.cell? ⟨gb216, 5, none⟩ = some (.slice A0_5 l0_5.length c0_5) := bc_ BK216.out 5; have hfz156_0 := blk_frozen BK216.out 0; have hfz156_1 := blk_frozen BK216.out 1; have hfz156_2 := blk_frozen BK216.out 2; have hfz156_3 := blk_frozen BK216.out 3; have hfz156_4 := blk_frozen BK216.out 4; have hfz156_5 := blk_frozen BK216.out 5) | ((with_reducible refine gate_dst (N := 14) rfl ?_); refine Kd.R_lit (Kd.int .i64) _ 3 rfl (N := 14) rfl (xs := ([] : List Int)) (inner := []) (ok := fun _ => True) (okp := fun _ => True) gs_ ?hp (fun _ hk => hk) trivial (Below.refl _ _) (Nat.le_refl _) (by simp) ?_; (case hp => exact (Reps.none _ _)); intro v226 w157 ho158 hb hg_ hnew_; clear hg_ hnew_; (first | rw [← Ny225.out] at ho158 | (simp only [Int.reduceToNat] at ho158; rw [← Ny225.out] at ho158)); have HO227 := Aside0.mk (Kd.R_lower (Kd.R_new' ho158 (Kd.R_lt (by (with_reducible repeat (first | apply Kd.R_alloc | apply Kd.R_drewN | apply Kd.R_drew)); exact ((Kd.R_mono (Kd.R_far (p := ⟨gb216, 2, none⟩) (Kd.R_types HO224.out BK216.out (by decide)) (fun _ hk => hk.2) (.slice Ao155 y222.length co155)) (fun _ h_ => h_.1)))))) bz_); replace HO224 := Aside0.mk (Kd.R_elder' (by (with_reducible repeat (first | apply Kd.R_alloc | apply Kd.R_drewN | apply Kd.R_drew)); exact ((Kd.R_mono (Kd.R_far (p := ⟨gb216, 2, none⟩) (Kd.R_types HO224.out BK216.out (by decide)) (fun _ hk => hk.2) (.slice Ao155 y222.length co155)) (fun _ h_ => h_.1)))) (Kd.R_base ho158) hb); replace BK216 := Aside0.mk (blk_below (g := gb216) (o := .cells #[.int .i64 a0_0, .int .i64 a0_1, .slice Ao155 y222.length co155, .int .i64 a0_3, .int .i64 a0_4, .slice A0_5 l0_5.length c0_5] 24 (0, 0)) (by (with_reducible repeat (first | refine blk_drewN ?_ _ | refine blk_drew ?_ | refine blk_alloc ?_ _)); refine blk_put (cs := #[.int .i64 a0_0, .int .i64 a0_1, .slice A0_2 l0_2.length c0_2, .int .i64 a0_3, .int .i64 a0_4, .slice A0_5 l0_5.length c0_5]) ?_ 2 _ rfl; exact kb_ BK216.out) hb); replace BK217 := Aside0.mk (blk_below (g := gb217) (o := .cells #[.int .i64 a1_0, .int .i64 a1_1, .int .i64 a1_2] 45 (0, 0)) kz_ hb); replace BK218 := Aside0.mk (blk_below (g := gb218) (o := .cells #[.int .i64 0, .int .i64 0, .slice none 0 0, .int .i64 0, .int .i64 0, .slice none 0 0] 24 (0, 0)) kz_ hb); replace HB := Aside0.mk (below_step bl_ hb); clear hb ho158; have hcz159_0 : w157.cell? ⟨gb216, 0, none⟩ = some (.int .i64 a0_0) := bc_ BK216.out 0; have hcz159_1 : w157.cell? ⟨gb216, 1, none⟩ = some (.int .i64 a0_1) := bc_ BK216.out 1; have hcz159_2 : w157.cell? ⟨gb216, 2, none⟩ = some (.slice Ao155 y222.length co155) := bc_ BK216.out 2; have hcz159_3 : w157.cell? ⟨gb216, 3, none⟩ = some (.int .i64 a0_3) := bc_ BK216.out 3; have hcz159_4 : w157.cell? ⟨gb216, 4, none⟩ = some (.int .i64 a0_4) := bc_ BK216.out 4; have hcz159_5 : w157.cell? ⟨gb216, 5, none⟩ = some (.slice A0_5 l0_5.length c0_5) := bc_ BK216.out 5; have hfz159_0 := blk_frozen BK216.out 0; have hfz159_1 := blk_frozen BK216.out 1; have hfz159_2 := blk_frozen BK216.out 2; have hfz159_3 := blk_frozen BK216.out 3; have hfz159_4 := blk_frozen BK216.out 4; have hfz159_5 := blk_frozen BK216.out 5) | ((with_reducible refine gate_builtin (b := .append) (xs := #[.tmp 14, .tmp 16]) rfl ?_); at_builtin; refine Kd.R_append_rows (Kd.int .i64) (w0 := w) w.heap.size rfl (.tmp 14) (.tmp 16) 22 3 (.int .i64 0) 8 rfl Try.underlying22 info3 rfl (by decide) (by omega) v226 y225 l0_5 _ _ _ (fun k_ => some k_ ≠ (.slice Ao155 y222.length co155 : Value).ownBlock) (fun _ => False) rfl rfl ?aO ?aR (fun _ _ h => h) (fun _ h => h.elim) ?aF ?aB ?aS ?aL ?_; (case aR => exact kc_ (Kd.C_below HR0_5.out HB.out)); (case aB => exact bl_); (case aF => exact (fun k_ hk => Kd.fresh' (Kd.R_lt (kr_ HO224.out)) k_ hk)); (case aO => exact (kp_ HO227.out)); (case aS => exact bz_); (case aL => have := LMc4.out; omega); intro v229 w160 ho hb hg hat; rw [← Ny228.out] at ho; replace BK216 := bgr_ BK216 hg HO227 BK216; replace BK217 := bgr_ BK217 hg HO227 BK217; replace BK218 := bgr_ BK218 hg HO227 BK218; replace HO224 := Aside0.mk (Kd.R_after (ok := (fun _ => True)) (kr_ HO224.out) hg hat); replace HB := Aside0.mk (hb); have HO230 := Aside0.mk (ho); clear HO227 ho hb hg hat; obtain ⟨Ao161, co161, eo161⟩ := Kd.R_slice HO230.out; subst eo161; have hcz162_0 : w160.cell? ⟨gb216, 0, none⟩ = some (.int .i64 a0_0) := bc_ BK216.out 0; have hcz162_1 : w160.cell? ⟨gb216, 1, none⟩ = some (.int .i64 a0_1) := bc_ BK216.out 1; have hcz162_2 : w160.cell? ⟨gb216, 2, none⟩ = some (.slice Ao155 y222.length co155) := bc_ BK216.out 2; have hcz162_3 : w160.cell? ⟨gb216, 3, none⟩ = some (.int .i64 a0_3) := bc_ BK216.out 3; have hcz162_4 : w160.cell? ⟨gb216, 4, none⟩ = some (.int .i64 a0_4) := bc_ BK216.out 4; have hcz162_5 : w160.cell? ⟨gb216, 5, none⟩ = some (.slice A0_5 l0_5.length c0_5) := bc_ BK216.out 5; have hfz162_0 := blk_frozen BK216.out 0; have hfz162_1 := blk_frozen BK216.out 1; have hfz162_2 := blk_frozen BK216.out 2; have hfz162_3 := blk_frozen BK216.out 3; have hfz162_4 := blk_frozen BK216.out 4; have hfz162_5 := blk_frozen BK216.out 5; have hnb163 := NB217_218.out; have hnc163 := NB218_217.out; have hcz164_0 : w160.cell? ⟨gb217, 0, none⟩ = some (.int .i64 a1_0) := bc_ BK217.out 0; have hcz164_1 : w160.cell? ⟨gb217, 1, none⟩ = some (.int .i64 a1_1) := bc_ BK217.out 1; have hcz164_2 : w160.cell? ⟨gb217, 2, none⟩ = some (.int .i64 a1_2) := bc_ BK217.out 2; have hfz164_0 := blk_frozen BK217.out 0; have hfz164_1 := blk_frozen BK217.out 1; have hfz164_2 := blk_frozen BK217.out 2) | ((with_reducible refine gate_callee (f := 50) rfl ?_); refine goesL_ (some 25) rfl rfl Try.func50 (by kernel_rfl) rfl #[.int .i64 a1_1, .int .i64 0, .int .i64 (wrap64 ((y222.length : Int) - 1))] rfl nc_ ?_; (with_reducible refine (impl_in.calls a1_1 0 (wrap64 ((y222.length : Int) - 1)) t231 _ A5.out).mono ?_); rintro e w' ⟨rfl, ⟨nd, rfl⟩⟩; refine ⟨_, rfl, ?_⟩) | ((with_reducible refine gate_callee (f := 50) rfl ?_); refine goesL_ (some 92) rfl rfl Try.func50 (by kernel_rfl) rfl #[.int .i64 a1_2, .int .i64 1, .int .i64 1000000] rfl nc_ ?_; (with_reducible refine (impl_in.calls a1_2 1 1000000 true _ A142.out).mono ?_); rintro e w' ⟨rfl, ⟨nd, rfl⟩⟩; refine ⟨_, rfl, ?_⟩) | (go_at_call 49; (with_reducible refine (impl_areLeases.calls k a0_0 (wrap64 (a0_1 + a1_2)) _ _ y222 a0_3 a0_4 _ _ y228 true _ ?side1 ?side2 ?side3 ?side4 A144.out).mono ?_); (case side1 => refine (Kd.R_reads' (e := 3) (base := w.heap.size) (ok := fun k_ => (True ∧ some k_ ≠ (.slice Ao161 y228.length co161 : Value).ownBlock)) (n := y222.length) (c := co155) ?_).2.2; exact (by (with_reducible repeat (first | apply Kd.R_alloc | apply Kd.R_drewN | apply Kd.R_drew)); exact ((Kd.R_mono (Kd.R_far (p := ⟨gb216, 1, none⟩) (Kd.R_far (p := ⟨gb216, 5, none⟩) (Kd.R_types HO224.out BK216.out (by decide)) (fun _ hk => hk.2) (.slice Ao161 y228.length co161)) (fun _ hk => hk.2) (.int .i64 (wrap64 (a0_1 + a1_2)))) (fun _ h_ => h_.1))))); (case side2 => exact (Kd.R_reads' HO224.out).2.1); (case side3 => refine (Kd.R_reads' (e := 3) (base := w.heap.size) (ok := fun k_ => some k_ ≠ (.slice Ao155 y222.length co155 : Value).ownBlock) (n := y228.length) (c := co161) ?_).2.2; exact (by (with_reducible repeat (first | apply Kd.R_alloc | apply Kd.R_drewN | apply Kd.R_drew)); exact ((Kd.R_mono (Kd.R_far (p := ⟨gb216, 1, none⟩) (Kd.R_far (p := ⟨gb216, 5, none⟩) (Kd.R_types HO230.out BK216.out (by decide)) (fun _ hk => hk.2) (.slice Ao161 y228.length co161)) (fun _ hk => hk.2) (.int .i64 (wrap64 (a0_1 + a1_2)))) (fun _ h_ => h_.1))))); (case side4 => exact (Kd.R_reads' HO230.out).2.1); rintro e w165 ⟨rfl, hb⟩; replace HO224 := Aside0.mk (Kd.R_below (by (with_reducible repeat (first | apply Kd.R_alloc | apply Kd.R_drewN | apply Kd.R_drew)); exact ((Kd.R_mono (Kd.R_far (p := ⟨gb216, 1, none⟩) (Kd.R_far (p := ⟨gb216, 5, none⟩) (Kd.R_types HO224.out BK216.out (by decide)) (fun _ hk => hk.2) (.slice Ao161 y228.length co161)) (fun _ hk => hk.2) (.int .i64 (wrap64 (a0_1 + a1_2)))) (fun _ h_ => h_.1)))) hb); replace HO230 := Aside0.mk (Kd.R_below (by (with_reducible repeat (first | apply Kd.R_alloc | apply Kd.R_drewN | apply Kd.R_drew)); exact ((Kd.R_mono (Kd.R_far (p := ⟨gb216, 1, none⟩) (Kd.R_far (p := ⟨gb216, 5, none⟩) (Kd.R_types HO230.out BK216.out (by decide)) (fun _ hk => hk.2) (.slice Ao161 y228.length co161)) (fun _ hk => hk.2) (.int .i64 (wrap64 (a0_1 + a1_2)))) (fun _ h_ => h_.1)))) hb); replace BK216 := Aside0.mk (blk_below (g := gb216) (o := .cells #[.int .i64 a0_0, .int .i64 (wrap64 (a0_1 + a1_2)), .slice Ao155 y222.length co155, .int .i64 a0_3, .int .i64 a0_4, .slice Ao161 y228.length co161] 24 (0, 0)) (by (with_reducible repeat (first | refine blk_drewN ?_ _ | refine blk_drew ?_ | refine blk_alloc ?_ _)); refine blk_put (cs := #[.int .i64 a0_0, .int .i64 a0_1, .slice Ao155 y222.length co155, .int .i64 a0_3, .int .i64 a0_4, .slice Ao161 y228.length co161]) ?_ 1 _ rfl; (with_reducible repeat (first | refine blk_drewN ?_ _ | refine blk_drew ?_ | refine blk_alloc ?_ _)); refine blk_put (cs := #[.int .i64 a0_0, .int .i64 a0_1, .slice Ao155 y222.length co155, .int .i64 a0_3, .int .i64 a0_4, .slice A0_5 l0_5.length c0_5]) ?_ 5 _ rfl; exact kb_ BK216.out) hb); replace BK217 := Aside0.mk (blk_below (g := gb217) (o := .cells #[.int .i64 a1_0, .int .i64 a1_1, .int .i64 a1_2] 45 (0, 0)) kz_ hb); replace BK218 := Aside0.mk (blk_below (g := gb218) (o := .cells #[.int .i64 0, .int .i64 0, .slice none 0 0, .int .i64 0, .int .i64 0, .slice none 0 0] 24 (0, 0)) kz_ hb); replace HB := Aside0.mk (below_step bl_ hb); clear hb; have hcz166_0 : w165.cell? ⟨gb216, 0, none⟩ = some (.int .i64 a0_0) := bc_ BK216.out 0; have hcz166_1 : w165.cell? ⟨gb216, 1, none⟩ = some (.int .i64 (wrap64 (a0_1 + a1_2))) := bc_ BK216.out 1; have hcz166_2 : w165.cell? ⟨gb216, 2, none⟩ = some (.slice Ao155 y222.length co155) := bc_ BK216.out 2; have hcz166_3 : w165.cell? ⟨gb216, 3, none⟩ = some (.int .i64 a0_3) := bc_ BK216.out 3; have hcz166_4 : w165.cell? ⟨gb216, 4, none⟩ = some (.int .i64 a0_4) := bc_ BK216.out 4; have hcz166_5 : w165.cell? ⟨gb216, 5, none⟩ = some (.slice Ao161 y228.length co161) := bc_ BK216.out 5; have hfz166_0 := blk_frozen BK216.out 0; have hfz166_1 := blk_frozen BK216.out 1; have hfz166_2 := blk_frozen BK216.out 2; have hfz166_3 := blk_frozen BK216.out 3; have hfz166_4 := blk_frozen BK216.out 4; have hfz166_5 := blk_frozen BK216.out 5; have hcz167_0 : w165.cell? ⟨gb218, 0, none⟩ = some (.int .i64 0) := bc_ BK218.out 0; have hcz167_1 : w165.cell? ⟨gb218, 1, none⟩ = some (.int .i64 0) := bc_ BK218.out 1; have hcz167_2 : w165.cell? ⟨gb218, 2, none⟩ = some (.slice none 0 0) := bc_ BK218.out 2; have hcz167_3 : w165.cell? ⟨gb218, 3, none⟩ = some (.int .i64 0) := bc_ BK218.out 3; have hcz167_4 : w165.cell? ⟨gb218, 4, none⟩ = some (.int .i64 0) := bc_ BK218.out 4; have hcz167_5 : w165.cell? ⟨gb218, 5, none⟩ = some (.slice none 0 0) := bc_ BK218.out 5; have hfz167_0 := blk_frozen BK218.out 0; have hfz167_1 := blk_frozen BK218.out 1; have hfz167_2 := blk_frozen BK218.out 2; have hfz167_3 := blk_frozen BK218.out 3; have hfz167_4 := blk_frozen BK218.out 4; have hfz167_5 := blk_frozen BK218.out 5))
  refine bodyPost_ret (results_ct rfl _ _ gb218 24 #[.int .i64 a0_0, .int .i64 (wrap64 (a0_1 + a1_2)), .slice Ao155 y222.length co155, .int .i64 a0_3, .int .i64 a0_4, .slice Ao161 y228.length co161] (0, 0) _ rfl (by (with_reducible repeat (first | refine blk_drewN ?_ _ | refine blk_drew ?_ | refine blk_alloc ?_ _)); refine blk_put (cs := #[.int .i64 a0_0, .int .i64 (wrap64 (a0_1 + a1_2)), .slice Ao155 y222.length co155, .int .i64 a0_3, .int .i64 a0_4, .slice none 0 0]) ?_ 5 _ rfl; (with_reducible repeat (first | refine blk_drewN ?_ _ | refine blk_drew ?_ | refine blk_alloc ?_ _)); refine blk_put (cs := #[.int .i64 a0_0, .int .i64 (wrap64 (a0_1 + a1_2)), .slice Ao155 y222.length co155, .int .i64 a0_3, .int .i64 0, .slice none 0 0]) ?_ 4 _ rfl; (with_reducible repeat (first | refine blk_drewN ?_ _ | refine blk_drew ?_ | refine blk_alloc ?_ _)); refine blk_put (cs := #[.int .i64 a0_0, .int .i64 (wrap64 (a0_1 + a1_2)), .slice Ao155 y222.length co155, .int .i64 0, .int .i64 0, .slice none 0 0]) ?_ 3 _ rfl; (with_reducible repeat (first | refine blk_drewN ?_ _ | refine blk_drew ?_ | refine blk_alloc ?_ _)); refine blk_put (cs := #[.int .i64 a0_0, .int .i64 (wrap64 (a0_1 + a1_2)), .slice none 0 0, .int .i64 0, .int .i64 0, .slice none 0 0]) ?_ 2 _ rfl; (with_reducible repeat (first | refine blk_drewN ?_ _ | refine blk_drew ?_ | refine blk_alloc ?_ _)); refine blk_put (cs := #[.int .i64 a0_0, .int .i64 0, .slice none 0 0, .int .i64 0, .int .i64 0, .slice none 0 0]) ?_ 1 _ rfl; (with_reducible repeat (first | refine blk_drewN ?_ _ | refine blk_drew ?_ | refine blk_alloc ?_ _)); refine blk_put (cs := #[.int .i64 0, .int .i64 0, .slice none 0 0, .int .i64 0, .int .i64 0, .slice none 0 0]) ?_ 0 _ rfl; exact kb_ BK218.out) Try.underlying24 rfl (by kernel_rfl)) rfl ?_
  exact ⟨_, _, ng_, by exact kr_ (Kd.R_mono (Kd.R_far (p := ⟨gb218, 5, none⟩) (Kd.R_far (p := ⟨gb218, 4, none⟩) (Kd.R_far (p := ⟨gb218, 3, none⟩) (Kd.R_far (p := ⟨gb218, 2, none⟩) (Kd.R_far (p := ⟨gb218, 1, none⟩) (Kd.R_far (p := ⟨gb218, 0, none⟩) (Kd.R_types HO224.out BK218.out (by decide)) (fun _ hk => hk.2) (.int .i64 a0_0)) (fun _ hk => hk.2) (.int .i64 (wrap64 (a0_1 + a1_2)))) (fun _ hk => hk.2) (.slice Ao155 y222.length co155)) (fun _ hk => hk.2) (.int .i64 a0_3)) (fun _ hk => hk.2) (.int .i64 a0_4)) (fun _ hk => hk.2) (.slice Ao161 y228.length co161)) (fun _ hk => hk.1.2)), by exact kr_ (Kd.R_mono (Kd.R_far (p := ⟨gb218, 5, none⟩) (Kd.R_far (p := ⟨gb218, 4, none⟩) (Kd.R_far (p := ⟨gb218, 3, none⟩) (Kd.R_far (p := ⟨gb218, 2, none⟩) (Kd.R_far (p := ⟨gb218, 1, none⟩) (Kd.R_far (p := ⟨gb218, 0, none⟩) (Kd.R_types HO230.out BK218.out (by decide)) (fun _ hk => hk.2) (.int .i64 a0_0)) (fun _ hk => hk.2) (.int .i64 (wrap64 (a0_1 + a1_2)))) (fun _ hk => hk.2) (.slice Ao155 y222.length co155)) (fun _ hk => hk.2) (.int .i64 a0_3)) (fun _ hk => hk.2) (.int .i64 a0_4)) (fun _ hk => hk.2) (.slice Ao161 y228.length co161)) (fun _ hk => hk.1)), bl_⟩
 rw [if_neg c141] at H
 have c141b0 : (a1_0 == 3) = false := beq_eq_false_iff_ne.mpr c141
 have c141b1 : (a1_0 != 3) = true := bne_iff_ne.mpr c141
 by_cases c209 : a1_0 = 4
 rotate_left
 ·rw [if_neg c209] at H
  have c209b0 : (a1_0 == 4) = false := beq_eq_false_iff_ne.mpr c209
  have c209b1 : (a1_0 != 4) = true := bne_iff_ne.mpr c209
  simp only [Option.some.injEq, Prod.mk.injEq] at H
  obtain ⟨rfl, rfl, rfl, rfl, rfl, rfl, rfl⟩ := H
  go_enter Try.func55, Try.ntmps55
  go_wp2_with (first | ((with_reducible refine gate_dst (N := 2) rfl ?_); refine box_event rfl (N := 2) rfl (cs := #[.int .i64 a0_0, .int .i64 a0_1, .slice A0_2 l0_2.length c0_2, .int .i64 a0_3, .int .i64 a0_4, .slice A0_5 l0_5.length c0_5]) (t := 24) gs_ ?_; intro gb216 hg w263 hbox hb; have BK216 := Aside0.mk (hbox); have GW216 := Aside0.mk ((by rw [hg]; exact bz_ : w.heap.size ≤ gb216)); have GE216 := GW216; replace HB := Aside0.mk (below_step bl_ hb); clear hb hbox hg) | ((with_reducible refine gate_dst (N := 3) rfl ?_); refine box_event rfl (N := 3) rfl (cs := #[.int .i64 a1_0, .int .i64 a1_1, .int .i64 a1_2]) (t := 45) gs_ ?_; intro gb217 hg w264 hbox hb; have BK217 := Aside0.mk (hbox); have GW217 := Aside0.mk ((by rw [hg]; exact bz_ : w.heap.size ≤ gb217)); have GE217 := GW217; replace HB := Aside0.mk (below_step bl_ hb); have NB216_217 := nl_ hg BK216; have NB217_216 := nm_ hg BK216; replace BK216 := bb_ BK216 hb; clear hb hbox hg) | ((with_reducible refine gate_dst (N := 4) rfl ?_); refine box_event rfl (N := 4) rfl (cs := #[.int .i64 0, .int .i64 0, .slice none 0 0, .int .i64 0, .int .i64 0, .slice none 0 0]) (t := 24) gs_ ?_; intro gb218 hg w265 hbox hb; have BK218 := Aside0.mk (hbox); have GW218 := Aside0.mk ((by rw [hg]; exact bz_ : w.heap.size ≤ gb218)); have GE218 := GW218; replace HB := Aside0.mk (below_step bl_ hb); have NB216_218 := nl_ hg BK216; have NB218_216 := nm_ hg BK216; replace BK216 := bb_ BK216 hb; have NB217_218 := nl_ hg BK217; have NB218_217 := nm_ hg BK217; replace BK217 := bb_ BK217 hb; clear hb hbox hg) | ((with_reducible refine gate_dst (N := 9) rfl ?_); refine Kd.R_lit (Kd.int .i64) _ 3 rfl (N := 9) rfl (xs := ([] : List Int)) (inner := []) (ok := fun _ => True) (okp := fun _ => True) gs_ ?hp (fun _ hk => hk) trivial (Below.refl _ _) (Nat.le_refl _) (by simp) ?_; (case hp => exact (Reps.none _ _)); intro v220 w266 ho267 hb hg_ hnew_; clear hg_ hnew_; (first | rw [← Ny219.out] at ho267 | (simp only [Int.reduceToNat] at ho267; rw [← Ny219.out] at ho267)); have HO221 := Aside0.mk (Kd.R_lower ho267 bz_); replace BK216 := bb_ BK216 hb; replace BK217 := bb_ BK217 hb; replace BK218 := bb_ BK218 hb; replace HB := Aside0.mk (below_step bl_ hb); clear hb ho267; have hnb268 := NB216_217.out; have hnc268 := NB217_216.out; have hnb269 := NB216_218.out; have hnc269 := NB218_216.out; have hcz270_0 : w266.cell? ⟨gb216, 0, none⟩ = some (.int .i64 a0_0) := bc_ BK216.out 0; have hcz270_1 : w266.cell? ⟨gb216, 1, none⟩ = some (.int .i64 a0_1) := bc_ BK216.out 1; have hcz270_2 : w266.cell? ⟨gb216, 2, none⟩ = some (.slice A0_2 l0_2.length c0_2) := bc_ BK216.out 2; have hcz270_3 : w266.cell? ⟨gb216, 3, none⟩ = some (.int .i64 a0_3) := bc_ BK216.out 3; have hcz270_4 : w266.cell? ⟨gb216, 4, none⟩ = some (.int .i64 a0_4) := bc_ BK216.out 4; have hcz270_5 : w266.cell? ⟨gb216, 5, none⟩ = some (.slice A0_5 l0_5.length c0_5) := bc_ BK216.out 5; have hfz270_0 := blk_frozen BK216.out 0; have hfz270_1 := blk_frozen BK216.out 1; have hfz270_2 := blk_frozen BK216.out 2; have hfz270_3 := blk_frozen BK216.out 3; have hfz270_4 := blk_frozen BK216.out 4; have hfz270_5 := blk_frozen BK216.out 5) | ((with_reducible refine gate_builtin (b := .append) (xs := #[.tmp 9, .tmp 11]) rfl ?_); at_builtin; refine Kd.R_append_rows (Kd.int .i64) (w0 := w) w.heap.size rfl (.tmp 9) (.tmp 11) 22 3 (.int .i64 0) 8 rfl Try.underlying22 info3 rfl (by decide) (by omega) v220 y219 l0_2 _ _ _ (fun _ => True) (fun _ => False) rfl rfl ?aO ?aR (fun _ _ h => h) (fun _ h => h.elim) ?aF ?aB ?aS ?aL ?_; (case aR => exact kc_ (Kd.C_below HR0_2.out HB.out)); (case aB => exact bl_); (case aF => exact (fun _ _ => trivial)); (case aO => exact (kr_ HO221.out)); (case aS => exact bz_); (case aL => have := LMc3.out; omega); intro v223 w271 ho hb hg hat; rw [← Ny222.out] at ho; replace BK216 := bgr_ BK216 hg HO221 BK216; replace BK217 := bgr_ BK217 hg HO221 BK217; replace BK218 := bgr_ BK218 hg HO221 BK218; replace HB := Aside0.mk (hb); have HO224 := Aside0.mk (ho); clear HO221 ho hb hg hat; obtain ⟨Ao272, co272, eo272⟩ := Kd.R_slice HO224.out; subst eo272; have hcz273_0 : w271.cell? ⟨gb216, 0, none⟩ = some (.int .i64 a0_0) := bc_ BK216.out 0; have hcz273_1 : w271.cell? ⟨gb216, 1, none⟩ = some (.int .i64 a0_1) := bc_ BK216.out 1; have hcz273_2 : w271.cell? ⟨gb216, 2, none⟩ = some (.slice A0_2 l0_2.length c0_2) := bc_ BK216.out 2; have hcz273_3 : w271.cell? ⟨gb216, 3, none⟩ = some (.int .i64 a0_3) := bc_ BK216.out 3; have hcz273_4 : w271.cell? ⟨gb216, 4, none⟩ = some (.int .i64 a0_4) := bc_ BK216.out 4; have hcz273_5 : w271.cell? ⟨gb216, 5, none⟩ = some (.slice A0_5 l0_5.length c0_5) := bc_ BK216.out 5; have hfz273_0 := blk_frozen BK216.out 0; have hfz273_1 := blk_frozen BK216.out 1; have hfz273_2 := blk_frozen BK216.out 2; have hfz273_3 := blk_frozen BK216.out 3; have hfz273_4 := blk_frozen BK216.out 4; have hfz273_5 := blk_frozen BK216.out 5) | ((with_reducible refine gate_dst (N := 14) rfl ?_); refine Kd.R_lit (Kd.int .i64) _ 3 rfl (N := 14) rfl (xs := ([] : List Int)) (inner := []) (ok := fun _ => True) (okp := fun _ => True) gs_ ?hp (fun _ hk => hk) trivial (Below.refl _ _) (Nat.le_refl _) (by simp) ?_; (case hp => exact (Reps.none _ _)); intro v226 w274 ho275 hb hg_ hnew_; clear hg_ hnew_; (first | rw [← Ny225.out] at ho275 | (simp only [Int.reduceToNat] at ho275; rw [← Ny225.out] at ho275)); have HO227 := Aside0.mk (Kd.R_lower (Kd.R_new' ho275 (Kd.R_lt (by exact kr_ ((Kd.R_mono (Kd.R_far (p := ⟨gb216, 2, none⟩) (Kd.R_types HO224.out BK216.out (by decide)) (fun _ hk => hk.2) (.slice Ao272 y222.length co272)) (fun _ h_ => h_.1)))))) bz_); replace HO224 := Aside0.mk (Kd.R_elder' (by exact kr_ ((Kd.R_mono (Kd.R_far (p := ⟨gb216, 2, none⟩) (Kd.R_types HO224.out BK216.out (by decide)) (fun _ hk => hk.2) (.slice Ao272 y222.length co272)) (fun _ h_ => h_.1)))) (Kd.R_base ho275) hb); replace BK216 := Aside0.mk (blk_below (g := gb216) (o := .cells #[.int .i64 a0_0, .int .i64 a0_1, .slice Ao272 y222.length co272, .int .i64 a0_3, .int .i64 a0_4, .slice A0_5 l0_5.length c0_5] 24 (0, 0)) (by (with_reducible repeat (first | refine blk_drewN ?_ _ | refine blk_drew ?_ | refine blk_alloc ?_ _)); refine blk_put (cs := #[.int .i64 a0_0, .int .i64 a0_1, .slice A0_2 l0_2.length c0_2, .int .i64 a0_3, .int .i64 a0_4, .slice A0_5 l0_5.length c0_5]) ?_ 2 _ rfl; exact kb_ BK216.out) hb); replace BK217 := Aside0.mk (blk_below (g := gb217) (o := .cells #[.int .i64 a1_0, .int .i64 a1_1, .int .i64 a1_2] 45 (0, 0)) kz_ hb); replace BK218 := Aside0.mk (blk_below (g := gb218) (o := .cells #[.int .i64 0, .int .i64 0, .slice none 0 0, .int .i64 0, .int .i64 0, .slice none 0 0] 24 (0, 0)) kz_ hb); replace HB := Aside0.mk (below_step bl_ hb); clear hb ho275; have hcz276_0 : w274.cell? ⟨gb216, 0, none⟩ = some (.int .i64 a0_0) := bc_ BK216.out 0; have hcz276_1 : w274.cell? ⟨gb216, 1, none⟩ = some (.int .i64 a0_1) := bc_ BK216.out 1; have hcz276_2 : w274.cell? ⟨gb216, 2, none⟩ = some (.slice Ao272 y222.length co272) := bc_ BK216.out 2; have hcz276_3 : w274.cell? ⟨gb216, 3, none⟩ = some (.int .i64 a0_3) := bc_ BK216.out 3; have hcz276_4 : w274.cell? ⟨gb216, 4, none⟩ = some (.int .i64 a0_4) := bc_ BK216.out 4; have hcz276_5 : w274.cell? ⟨gb216, 5, none⟩ = some (.slice A0_5 l0_5.length c0_5) := bc_ BK216.out 5; have hfz276_0 := blk_frozen BK216.out 0; have hfz276_1 := blk_frozen BK216.out 1; have hfz276_2 := blk_frozen BK216.out 2; have hfz276_3 := blk_frozen BK216.out 3; have hfz276_4 := blk_frozen BK216.out 4; have hfz276_5 := blk_frozen BK216.out 5) | ((with_reducible refine gate_builtin (b := .append) (xs := #[.tmp 14, .tmp 16]) rfl ?_); at_builtin; refine Kd.R_append_rows (Kd.int .i64) (w0 := w) w.heap.size rfl (.tmp 14) (.tmp 16) 22 3 (.int .i64 0) 8 rfl Try.underlying22 info3 rfl (by decide) (by omega) v226 y225 l0_5 _ _ _ (fun k_ => some k_ ≠ (.slice Ao272 y222.length co272 : Value).ownBlock) (fun _ => False) rfl rfl ?aO ?aR (fun _ _ h => h) (fun _ h => h.elim) ?aF ?aB ?aS ?aL ?_; (case aR => exact kc_ (Kd.C_below HR0_5.out HB.out)); (case aB => exact bl_); (case aF => exact (fun k_ hk => Kd.fresh' (Kd.R_lt (kr_ HO224.out)) k_ hk)); (case aO => exact (kp_ HO227.out)); (case aS => exact bz_); (case aL => have := LMc4.out; omega); intro v229 w277 ho hb hg hat; rw [← Ny228.out] at ho; replace BK216 := bgr_ BK216 hg HO227 BK216; replace BK217 := bgr_ BK217 hg HO227 BK217; replace BK218 := bgr_ BK218 hg HO227 BK218; replace HO224 := Aside0.mk (Kd.R_after (ok := (fun _ => True)) (kr_ HO224.out) hg hat); replace HB := Aside0.mk (hb); have HO230 := Aside0.mk (ho); clear HO227 ho hb hg hat; obtain ⟨Ao278, co278, eo278⟩ := Kd.R_slice HO230.out; subst eo278; have hcz279_0 : w277.cell? ⟨gb216, 0, none⟩ = some (.int .i64 a0_0) := bc_ BK216.out 0; have hcz279_1 : w277.cell? ⟨gb216, 1, none⟩ = some (.int .i64 a0_1) := bc_ BK216.out 1; have hcz279_2 : w277.cell? ⟨gb216, 2, none⟩ = some (.slice Ao272 y222.length co272) := bc_ BK216.out 2; have hcz279_3 : w277.cell? ⟨gb216, 3, none⟩ = some (.int .i64 a0_3) := bc_ BK216.out 3; have hcz279_4 : w277.cell? ⟨gb216, 4, none⟩ = some (.int .i64 a0_4) := bc_ BK216.out 4; have hcz279_5 : w277.cell? ⟨gb216, 5, none⟩ = some (.slice A0_5 l0_5.length c0_5) := bc_ BK216.out 5; have hfz279_0 := blk_frozen BK216.out 0; have hfz279_1 := blk_frozen BK216.out 1; have hfz279_2 := blk_frozen BK216.out 2; have hfz279_3 := blk_frozen BK216.out 3; have hfz279_4 := blk_frozen BK216.out 4; have hfz279_5 := blk_frozen BK216.out 5; have hnb280 := NB217_218.out; have hnc280 := NB218_217.out; have hcz281_0 : w277.cell? ⟨gb217, 0, none⟩ = some (.int .i64 a1_0) := bc_ BK217.out 0; have hcz281_1 : w277.cell? ⟨gb217, 1, none⟩ = some (.int .i64 a1_1) := bc_ BK217.out 1; have hcz281_2 : w277.cell? ⟨gb217, 2, none⟩ = some (.int .i64 a1_2) := bc_ BK217.out 2; have hfz281_0 := blk_frozen BK217.out 0; have hfz281_1 := blk_frozen BK217.out 1; have hfz281_2 := blk_frozen BK217.out 2) | ((with_reducible refine gate_callee (f := 50) rfl ?_); refine goesL_ (some 25) rfl rfl Try.func50 (by kernel_rfl) rfl #[.int .i64 a1_1, .int .i64 0, .int .i64 (wrap64 ((y222.length : Int) - 1))] rfl nc_ ?_; (with_reducible refine (impl_in.calls a1_1 0 (wrap64 ((y222.length : Int) - 1)) t231 _ A5.out).mono ?_); rintro e w' ⟨rfl, ⟨nd, rfl⟩⟩; refine ⟨_, rfl, ?_⟩; have hcz282_0 : w277.cell? ⟨gb218, 0, none⟩ = some (.int .i64 0) := bc_ BK218.out 0; have hcz282_1 : w277.cell? ⟨gb218, 1, none⟩ = some (.int .i64 0) := bc_ BK218.out 1; have hcz282_2 : w277.cell? ⟨gb218, 2, none⟩ = some (.slice none 0 0) := bc_ BK218.out 2; have hcz282_3 : w277.cell? ⟨gb218, 3, none⟩ = some (.int .i64 0) := bc_ BK218.out 3; have hcz282_4 : w277.cell? ⟨gb218, 4, none⟩ = some (.int .i64 0) := bc_ BK218.out 4; have hcz282_5 : w277.cell? ⟨gb218, 5, none⟩ = some (.slice none 0 0) := bc_ BK218.out 5; have hfz282_0 := blk_frozen BK218.out 0; have hfz282_1 := blk_frozen BK218.out 1; have hfz282_2 := blk_frozen BK218.out 2; have hfz282_3 := blk_frozen BK218.out 3; have hfz282_4 := blk_frozen BK218.out 4; have hfz282_5 := blk_frozen BK218.out 5))
  refine bodyPost_ret (results_ct rfl _ _ gb218 24 #[.int .i64 0, .int .i64 0, .slice none 0 0, .int .i64 0, .int .i64 0, .slice none 0 0] (0, 0) _ rfl (by (with_reducible repeat (first | refine blk_drewN ?_ _ | refine blk_drew ?_ | refine blk_alloc ?_ _)); refine blk_put (cs := #[.int .i64 0, .int .i64 0, .slice none 0 0, .int .i64 0, .int .i64 0, .slice none 0 0]) ?_ 5 _ rfl; (with_reducible repeat (first | refine blk_drewN ?_ _ | refine blk_drew ?_ | refine blk_alloc ?_ _)); refine blk_put (cs := #[.int .i64 0, .int .i64 0, .slice none 0 0, .int .i64 0, .int .i64 0, .slice none 0 0]) ?_ 4 _ rfl; (with_reducible repeat (first | refine blk_drewN ?_ _ | refine blk_drew ?_ | refine blk_alloc ?_ _)); refine blk_put (cs := #[.int .i64 0, .int .i64 0, .slice none 0 0, .int .i64 0, .int .i64 0, .slice none 0 0]) ?_ 3 _ rfl; (with_reducible repeat (first | refine blk_drewN ?_ _ | refine blk_drew ?_ | refine blk_alloc ?_ _)); refine blk_put (cs := #[.int .i64 0, .int .i64 0, .slice none 0 0, .int .i64 0, .int .i64 0, .slice none 0 0]) ?_ 2 _ rfl; (with_reducible repeat (first | refine blk_drewN ?_ _ | refine blk_drew ?_ | refine blk_alloc ?_ _)); refine blk_put (cs := #[.int .i64 0, .int .i64 0, .slice none 0 0, .int .i64 0, .int .i64 0, .slice none 0 0]) ?_ 1 _ rfl; (with_reducible repeat (first | refine blk_drewN ?_ _ | refine blk_drew ?_ | refine blk_alloc ?_ _)); refine blk_put (cs := #[.int .i64 0, .int .i64 0, .slice none 0 0, .int .i64 0, .int .i64 0, .slice none 0 0]) ?_ 0 _ rfl; (with_reducible repeat (first | refine blk_drewN ?_ _ | refine blk_drew ?_ | refine blk_alloc ?_ _)); refine blk_far ?_ NB218_216.out _; exact kb_ BK218.out) Try.underlying24 rfl (by kernel_rfl)) rfl ?_
  exact ⟨_, _, ng_, by first | exact Kd.R_nil _ _ _ _ _ | exact Kd.N_nil _ _ _ _ _ | exact Kd.V_nil _ _ _ _ _ | exact Kd.Q_nil _ _ _ _ _ | exact Kd.S_nil _ _ _ _ _, by first | exact Kd.R_nil _ _ _ _ _ | exact Kd.N_nil _ _ _ _ _ | exact Kd.V_nil _ _ _ _ _ | exact Kd.Q_nil _ _ _ _ _ | exact Kd.S_nil _ _ _ _ _, bl_⟩
 rw [if_pos c209] at H
 have c209b0 : (a1_0 == 4) = true := beq_iff_eq.mpr c209
 have c209b1 : (a1_0 != 4) = false := bne_eq_false_iff_eq.mpr c209
 clear c209
 have HC210 := Aside0.mk H
 clear H
 go_enter Try.func55, Try.ntmps55
 go_upto_region 23 with (first | ((with_reducible refine gate_dst (N := 2) rfl ?_); refine box_event rfl (N := 2) rfl (cs := #[.int .i64 a0_0, .int .i64 a0_1, .slice A0_2 l0_2.length c0_2, .int .i64 a0_3, .int .i64 a0_4, .slice A0_5 l0_5.length c0_5]) (t := 24) gs_ ?_; intro gb216 hg w211 hbox hb; have BK216 := Aside0.mk (hbox); have GW216 := Aside0.mk ((by rw [hg]; exact bz_ : w.heap.size ≤ gb216)); have GE216 := GW216; replace HB := Aside0.mk (below_step bl_ hb); clear hb hbox hg) | ((with_reducible refine gate_dst (N := 3) rfl ?_); refine box_event rfl (N := 3) rfl (cs := #[.int .i64 a1_0, .int .i64 a1_1, .int .i64 a1_2]) (t := 45) gs_ ?_; intro gb217 hg w212 hbox hb; have BK217 := Aside0.mk (hbox); have GW217 := Aside0.mk ((by rw [hg]; exact bz_ : w.heap.size ≤ gb217)); have GE217 := GW217; replace HB := Aside0.mk (below_step bl_ hb); have NB216_217 := nl_ hg BK216; have NB217_216 := nm_ hg BK216; replace BK216 := bb_ BK216 hb; clear hb hbox hg) | ((with_reducible refine gate_dst (N := 4) rfl ?_); refine box_event rfl (N := 4) rfl (cs := #[.int .i64 0, .int .i64 0, .slice none 0 0, .int .i64 0, .int .i64 0, .slice none 0 0]) (t := 24) gs_ ?_; intro gb218 hg w213 hbox hb; have BK218 := Aside0.mk (hbox); have GW218 := Aside0.mk ((by rw [hg]; exact bz_ : w.heap.size ≤ gb218)); have GE218 := GW218; replace HB := Aside0.mk (below_step bl_ hb); have NB216_218 := nl_ hg BK216; have NB218_216 := nm_ hg BK216; replace BK216 := bb_ BK216 hb; have NB217_218 := nl_ hg BK217; have NB218_217 := nm_ hg BK217; replace BK217 := bb_ BK217 hb; clear hb hbox hg) | ((with_reducible refine gate_dst (N := 9) rfl ?_); refine Kd.R_lit (Kd.int .i64) _ 3 rfl (N := 9) rfl (xs := ([] : List Int)) (inner := []) (ok := fun _ => True) (okp := fun _ => True) gs_ ?hp (fun _ hk => hk) trivial (Below.refl _ _) (Nat.le_refl _) (by simp) ?_; (case hp => exact (Reps.none _ _)); intro v220 w214 ho215 hb hg_ hnew_; clear hg_ hnew_; (first | rw [← Ny219.out] at ho215 | (simp only [Int.reduceToNat] at ho215; rw [← Ny219.out] at ho215)); have HO221 := Aside0.mk (Kd.R_lower ho215 bz_); replace BK216 := bb_ BK216 hb; replace BK217 := bb_ BK217 hb; replace BK218 := bb_ BK218 hb; replace HB := Aside0.mk (below_step bl_ hb); clear hb ho215; have hnb216 := NB216_217.out; have hnc216 := NB217_216.out; have hnb217 := NB216_218.out; have hnc217 := NB218_216.out; have hcz218_0 : w214.cell? ⟨gb216, 0, none⟩ = some (.int .i64 a0_0) := bc_ BK216.out 0; have hcz218_1 : w214.cell? ⟨gb216, 1, none⟩ = some (.int .i64 a0_1) := bc_ BK216.out 1; have hcz218_2 : w214.cell? ⟨gb216, 2, none⟩ = some (.slice A0_2 l0_2.length c0_2) := bc_ BK216.out 2; have hcz218_3 : w214.cell? ⟨gb216, 3, none⟩ = some (.int .i64 a0_3) := bc_ BK216.out 3; have hcz218_4 : w214.cell? ⟨gb216, 4, none⟩ = some (.int .i64 a0_4) := bc_ BK216.out 4; have hcz218_5 : w214.cell? ⟨gb216, 5, none⟩ = some (.slice A0_5 l0_5.length c0_5) := bc_ BK216.out 5; have hfz218_0 := blk_frozen BK216.out 0; have hfz218_1 := blk_frozen BK216.out 1; have hfz218_2 := blk_frozen BK216.out 2; have hfz218_3 := blk_frozen BK216.out 3; have hfz218_4 := blk_frozen BK216.out 4; have hfz218_5 := blk_frozen BK216.out 5) | ((with_reducible refine gate_builtin (b := .append) (xs := #[.tmp 9, .tmp 11]) rfl ?_); at_builtin; refine Kd.R_append_rows (Kd.int .i64) (w0 := w) w.heap.size rfl (.tmp 9) (.tmp 11) 22 3 (.int .i64 0) 8 rfl Try.underlying22 info3 rfl (by decide) (by omega) v220 y219 l0_2 _ _ _ (fun _ => True) (fun _ => False) rfl rfl ?aO ?aR (fun _ _ h => h) (fun _ h => h.elim) ?aF ?aB ?aS ?aL ?_; (case aR => exact kc_ (Kd.C_below HR0_2.out HB.out)); (case aB => exact bl_); (case aF => exact (fun _ _ => trivial)); (case aO => exact (kr_ HO221.out)); (case aS => exact bz_); (case aL => have := LMc3.out; omega); intro v223 w219 ho hb hg hat; rw [← Ny222.out] at ho; replace BK216 := bgr_ BK216 hg HO221 BK216; replace BK217 := bgr_ BK217 hg HO221 BK217; replace BK218 := bgr_ BK218 hg HO221 BK218; replace HB := Aside0.mk (hb); have HO224 := Aside0.mk (ho); clear HO221 ho hb hg hat; obtain ⟨Ao220, co220, eo220⟩ := Kd.R_slice HO224.out; subst eo220; have hcz221_0 : w219.cell? ⟨gb216, 0, none⟩ = some (.int .i64 a0_0) := bc_ BK216.out 0; have hcz221_1 : w219.cell? ⟨gb216, 1, none⟩ = some (.int .i64 a0_1) := bc_ BK216.out 1; have hcz221_2 : w219.cell? ⟨gb216, 2, none⟩ = some (.slice A0_2 l0_2.length c0_2) := bc_ BK216.out 2; have hcz221_3 : w219.cell? ⟨gb216, 3, none⟩ = some (.int .i64 a0_3) := bc_ BK216.out 3; have hcz221_4 : w219.cell? ⟨gb216, 4, none⟩ = some (.int .i64 a0_4) := bc_ BK216.out 4; have hcz221_5 : w219.cell? ⟨gb216, 5, none⟩ = some (.slice A0_5 l0_5.length c0_5) := bc_ BK216.out 5; have hfz221_0 := blk_frozen BK216.out 0; have hfz221_1 := blk_frozen BK216.out 1; have hfz221_2 := blk_frozen BK216.out 2; have hfz221_3 := blk_frozen BK216.out 3; have hfz221_4 := blk_frozen BK216.out 4; have hfz221_5 := blk_frozen BK216.out 5) | ((with_reducible refine gate_dst (N := 14) rfl ?_); refine Kd.R_lit (Kd.int .i64) _ 3 rfl (N := 14) rfl (xs := ([] : List Int)) (inner := []) (ok := fun _ => True) (okp := fun _ => True) gs_ ?hp (fun _ hk => hk) trivial (Below.refl _ _) (Nat.le_refl _) (by simp) ?_; (case hp => exact (Reps.none _ _)); intro v226 w222 ho223 hb hg_ hnew_; clear hg_ hnew_; (first | rw [← Ny225.out] at ho223 | (simp only [Int.reduceToNat] at ho223; rw [← Ny225.out] at ho223)); have HO227 := Aside0.mk (Kd.R_lower (Kd.R_new' ho223 (Kd.R_lt (by exact kr_ ((Kd.R_mono (Kd.R_far (p := ⟨gb216, 2, none⟩) (Kd.R_types HO224.out BK216.out (by decide)) (fun _ hk => hk.2) (.slice Ao220 y222.length co220)) (fun _ h_ => h_.1)))))) bz_); replace HO224 := Aside0.mk (Kd.R_elder' (by exact kr_ ((Kd.R_mono (Kd.R_far (p := ⟨gb216, 2, none⟩) (Kd.R_types HO224.out BK216.out (by decide)) (fun _ hk => hk.2) (.slice Ao220 y222.length co220)) (fun _ h_ => h_.1)))) (Kd.R_base ho223) hb); replace BK216 := Aside0.mk (blk_below (g := gb216) (o := .cells #[.int .i64 a0_0, .int .i64 a0_1, .slice Ao220 y222.length co220, .int .i64 a0_3, .int .i64 a0_4, .slice A0_5 l0_5.length c0_5] 24 (0, 0)) (by (with_reducible repeat (first | refine blk_drewN ?_ _ | refine blk_drew ?_ | refine blk_alloc ?_ _)); refine blk_put (cs := #[.int .i64 a0_0, .int .i64 a0_1, .slice A0_2 l0_2.length c0_2, .int .i64 a0_3, .int .i64 a0_4, .slice A0_5 l0_5.length c0_5]) ?_ 2 _ rfl; exact kb_ BK216.out) hb); replace BK217 := Aside0.mk (blk_below (g := gb217) (o := .cells #[.int .i64 a1_0, .int .i64 a1_1, .int .i64 a1_2] 45 (0, 0)) kz_ hb); replace BK218 := Aside0.mk (blk_below (g := gb218) (o := .cells #[.int .i64 0, .int .i64 0, .slice none 0 0, .int .i64 0, .int .i64 0, .slice none 0 0] 24 (0, 0)) kz_ hb); replace HB := Aside0.mk (below_step bl_ hb); clear hb ho223; have hcz224_0 : w222.cell? ⟨gb216, 0, none⟩ = some (.int .i64 a0_0) := bc_ BK216.out 0; have hcz224_1 : w222.cell? ⟨gb216, 1, none⟩ = some (.int .i64 a0_1) := bc_ BK216.out 1; have hcz224_2 : w222.cell? ⟨gb216, 2, none⟩ = some (.slice Ao220 y222.length co220) := bc_ BK216.out 2; have hcz224_3 : w222.cell? ⟨gb216, 3, none⟩ = some (.int .i64 a0_3) := bc_ BK216.out 3; have hcz224_4 : w222.cell? ⟨gb216, 4, none⟩ = some (.int .i64 a0_4) := bc_ BK216.out 4; have hcz224_5 : w222.cell? ⟨gb216, 5, none⟩ = some (.slice A0_5 l0_5.length c0_5) := bc_ BK216.out 5; have hfz224_0 := blk_frozen BK216.out 0; have hfz224_1 := blk_frozen BK216.out 1; have hfz224_2 := blk_frozen BK216.out 2; have hfz224_3 := blk_frozen BK216.out 3; have hfz224_4 := blk_frozen BK216.out 4; have hfz224_5 := blk_frozen BK216.out 5) | ((with_reducible refine gate_builtin (b := .append) (xs := #[.tmp 14, .tmp 16]) rfl ?_); at_builtin; refine Kd.R_append_rows (Kd.int .i64) (w0 := w) w.heap.size rfl (.tmp 14) (.tmp 16) 22 3 (.int .i64 0) 8 rfl Try.underlying22 info3 rfl (by decide) (by omega) v226 y225 l0_5 _ _ _ (fun k_ => some k_ ≠ (.slice Ao220 y222.length co220 : Value).ownBlock) (fun _ => False) rfl rfl ?aO ?aR (fun _ _ h => h) (fun _ h => h.elim) ?aF ?aB ?aS ?aL ?_; (case aR => exact kc_ (Kd.C_below HR0_5.out HB.out)); (case aB => exact bl_); (case aF => exact (fun k_ hk => Kd.fresh' (Kd.R_lt (kr_ HO224.out)) k_ hk)); (case aO => exact (kp_ HO227.out)); (case aS => exact bz_); (case aL => have := LMc4.out; omega); intro v229 w225 ho hb hg hat; rw [← Ny228.out] at ho; replace BK216 := bgr_ BK216 hg HO227 BK216; replace BK217 := bgr_ BK217 hg HO227 BK217; replace BK218 := bgr_ BK218 hg HO227 BK218; replace HO224 := Aside0.mk (Kd.R_after (ok := (fun _ => True)) (kr_ HO224.out) hg hat); replace HB := Aside0.mk (hb); have HO230 := Aside0.mk (ho); clear HO227 ho hb hg hat; obtain ⟨Ao226, co226, eo226⟩ := Kd.R_slice HO230.out; subst eo226; have hcz227_0 : w225.cell? ⟨gb216, 0, none⟩ = some (.int .i64 a0_0) := bc_ BK216.out 0; have hcz227_1 : w225.cell? ⟨gb216, 1, none⟩ = some (.int .i64 a0_1) := bc_ BK216.out 1; have hcz227_2 : w225.cell? ⟨gb216, 2, none⟩ = some (.slice Ao220 y222.length co220) := bc_ BK216.out 2; have hcz227_3 : w225.cell? ⟨gb216, 3, none⟩ = some (.int .i64 a0_3) := bc_ BK216.out 3; have hcz227_4 : w225.cell? ⟨gb216, 4, none⟩ = some (.int .i64 a0_4) := bc_ BK216.out 4; have hcz227_5 : w225.cell? ⟨gb216, 5, none⟩ = some (.slice A0_5 l0_5.length c0_5) := bc_ BK216.out 5; have hfz227_0 := blk_frozen BK216.out 0; have hfz227_1 := blk_frozen BK216.out 1; have hfz227_2 := blk_frozen BK216.out 2; have hfz227_3 := blk_frozen BK216.out 3; have hfz227_4 := blk_frozen BK216.out 4; have hfz227_5 := blk_frozen BK216.out 5; have hnb228 := NB217_218.out; have hnc228 := NB218_217.out; have hcz229_0 : w225.cell? ⟨gb217, 0, none⟩ = some (.int .i64 a1_0) := bc_ BK217.out 0; have hcz229_1 : w225.cell? ⟨gb217, 1, none⟩ = some (.int .i64 a1_1) := bc_ BK217.out 1; have hcz229_2 : w225.cell? ⟨gb217, 2, none⟩ = some (.int .i64 a1_2) := bc_ BK217.out 2; have hfz229_0 := blk_frozen BK217.out 0; have hfz229_1 := blk_frozen BK217.out 1; have hfz229_2 := blk_frozen BK217.out 2) | ((with_reducible refine gate_callee (f := 50) rfl ?_); refine goesL_ (some 25) rfl rfl Try.func50 (by kernel_rfl) rfl #[.int .i64 a1_1, .int .i64 0, .int .i64 (wrap64 ((y222.length : Int) - 1))] rfl nc_ ?_; (with_reducible refine (impl_in.calls a1_1 0 (wrap64 ((y222.length : Int) - 1)) t231 _ A5.out).mono ?_); rintro e w' ⟨rfl, ⟨nd, rfl⟩⟩; refine ⟨_, rfl, ?_⟩))
 (try simp only [Act.put, List.setIfInBounds_toArray, List.set_cons_zero, List.set_cons_succ])
 go_cut [7] (fun v7 wc => ∃ (kq : Nat) (x7_209 : Bool), v7 = .bool x7_209 ∧ Aside0 (impl_Leases_step.j2 kq x7_209 a0_0 a0_1 y222 a0_3 a0_4 y228 a1_0 a1_1 a1_2 = some (r1, r2, r3, r4, r5, r6, r7)) ∧ Aside0 (kq ≤ k) ∧ Aside0 (Kd.R (Kd.int .i64) 3 wc w.heap.size (fun k_ => some k_ ≠ ((.slice Ao226 y228.length co226) : Value).ownBlock) (.slice Ao220 y222.length co220) y222) ∧ Aside0 (Kd.R (Kd.int .i64) 3 wc w.heap.size (fun k_ => some k_ ≠ ((.slice Ao220 y222.length co220) : Value).ownBlock) (.slice Ao226 y228.length co226) y228) ∧ Aside0 (wc.heap[gb216]? = some (.cells #[.int .i64 a0_0, .int .i64 a0_1, (.slice Ao220 y222.length co220), .int .i64 a0_3, .int .i64 a0_4, (.slice Ao226 y228.length co226)] 24 (0, 0))) ∧ Aside0 (wc.heap[gb217]? = some (.cells #[.int .i64 a1_0, .int .i64 a1_1, .int .i64 a1_2] 45 (0, 0))) ∧ Aside0 (wc.heap[gb218]? = some (.cells #[.int .i64 0, .int .i64 0, (.slice none 0 0), .int .i64 0, .int .i64 0, (.slice none 0 0)] 24 (0, 0))) ∧ Aside0 (Below w.heap.size w wc))
 case first =>
  have H := HC210.out
  clear HC210
  by_cases c230 : t231 = true
  rotate_left
  ·replace c230 := Bool.eq_false_iff.mpr c230
   subst c230
   have H1 : (impl_Leases_step.j2 k false a0_0 a0_1 y222 a0_3 a0_4 y228 a1_0 a1_1 a1_2) = some (r1, r2, r3, r4, r5, r6, r7) := by rw [if_neg (show ¬ (false = true) by decide)] at H; exact H
   clear H
   have H := H1
   clear H1
   have H' := Aside0.mk H
   clear H
   go_wp2
   go_meet
   case rel => exact ⟨_, (false), (by first | rfl | (simp; done) | (simp [*]; done)), H', ⟨by first | omega | exact Nat.le_refl _⟩, ⟨by exact kr_ (Kd.R_mono (Kd.R_far (p := ⟨gb216, 5, none⟩) (Kd.R_types HO224.out BK216.out (by decide)) (fun _ hk => hk.2) (.slice Ao226 y228.length co226)) (fun _ hk => hk.1.2))⟩, ⟨by exact kr_ (Kd.R_mono (Kd.R_far (p := ⟨gb216, 5, none⟩) (Kd.R_types HO230.out BK216.out (by decide)) (fun _ hk => hk.2) (.slice Ao226 y228.length co226)) (fun _ hk => hk.1))⟩, ⟨by (with_reducible repeat (first | refine blk_drewN ?_ _ | refine blk_drew ?_ | refine blk_alloc ?_ _)); refine blk_put (cs := #[.int .i64 a0_0, .int .i64 a0_1, .slice Ao220 y222.length co220, .int .i64 a0_3, .int .i64 a0_4, .slice A0_5 l0_5.length c0_5]) ?_ 5 _ rfl; exact kb_ BK216.out⟩, ⟨kz_⟩, ⟨kz_⟩, ⟨bl_⟩⟩
  subst c230
  have H1 : ((impl_in.f a1_2 (-1000) 1000000).bind fun t239 => (impl_Leases_step.j2 k t239 a0_0 a0_1 y222 a0_3 a0_4 y228 a1_0 a1_1 a1_2)) = some (r1, r2, r3, r4, r5, r6, r7) := by rw [if_pos rfl] at H; exact H
  clear H
  have H := H1
  clear H1
  replace H := Option.bind_eq_some_iff.mp H
  obtain ⟨t239, A2310, H⟩ := H
  replace H : (impl_Leases_step.j2 k t239 a0_0 a0_1 y222 a0_3 a0_4 y228 a1_0 a1_1 a1_2) = some (r1, r2, r3, r4, r5, r6, r7) := H
  have A231 := Aside0.mk A2310
  clear A2310
  have H' := Aside0.mk H
  clear H
  have hnb232 := NB217_216.out
  have hnc232 := NB216_217.out
  have hnb233 := NB217_218.out
  have hnc233 := NB218_217.out
  have hcz234_0 : w225.cell? ⟨gb217, 0, none⟩ = some (.int .i64 a1_0) := bc_ BK217.out 0
  have hcz234_1 : w225.cell? ⟨gb217, 1, none⟩ = some (.int .i64 a1_1) := bc_ BK217.out 1
  have hcz234_2 : w225.cell? ⟨gb217, 2, none⟩ = some (.int .i64 a1_2) := bc_ BK217.out 2
  have hfz234_0 := blk_frozen BK217.out 0
  have hfz234_1 := blk_frozen BK217.out 1
  have hfz234_2 := blk_frozen BK217.out 2
  go_wp2_with (first | (go_at_call 50; (with_reducible refine (impl_in.calls a1_2 (-1000) 1000000 t239 _ A231.out).mono ?_); rintro e w' ⟨rfl, ⟨nd, rfl⟩⟩))
  go_meet
  case rel => exact ⟨_, (t239), (by first | rfl | (simp; done) | (simp [*]; done)), H', ⟨by first | omega | exact Nat.le_refl _⟩, ⟨by exact kr_ (Kd.R_mono (Kd.R_far (p := ⟨gb216, 5, none⟩) (Kd.R_types HO224.out BK216.out (by decide)) (fun _ hk => hk.2) (.slice Ao226 y228.length co226)) (fun _ hk => hk.1.2))⟩, ⟨by exact kr_ (Kd.R_mono (Kd.R_far (p := ⟨gb216, 5, none⟩) (Kd.R_types HO230.out BK216.out (by decide)) (fun _ hk => hk.2) (.slice Ao226 y228.length co226)) (fun _ hk => hk.1))⟩, ⟨by (with_reducible repeat (first | refine blk_drewN ?_ _ | refine blk_drew ?_ | refine blk_alloc ?_ _)); refine blk_put (cs := #[.int .i64 a0_0, .int .i64 a0_1, .slice Ao220 y222.length co220, .int .i64 a0_3, .int .i64 a0_4, .slice A0_5 l0_5.length c0_5]) ?_ 5 _ rfl; exact kb_ BK216.out⟩, ⟨kz_⟩, ⟨kz_⟩, ⟨bl_⟩⟩
 clear HC210
 try clear c1
 try clear p1
 try clear q1
 try clear hx1
 try clear c2
 try clear p2
 try clear c3
 try clear c4
 try clear c5
 try clear p6
 try clear c8
 try clear c10
 try clear c11
 try clear p11
 try clear q11
 try clear hx11
 try clear hf11
 try clear c12
 try clear c13
 try clear c14
 try clear c15
 try clear c16
 try clear c17
 try clear c18
 try clear c19
 try clear c20
 try clear c21
 try clear c22
 try clear c23
 try clear c50
 try clear c55
 try clear p64
 try clear c84
 try clear c84b0
 try clear c84b1
 try clear c103
 try clear c105
 try clear c106
 try clear c107
 try clear c109
 try clear c111
 try clear c112
 try clear c112b0
 try clear c113
 try clear c113b0
 try clear p114
 try clear q114
 try clear hx114
 try clear hf114
 try clear c116
 try clear c117
 try clear c118
 try clear c120
 try clear c128
 try clear c129
 try clear c131
 try clear c138
 try clear c139
 try clear c141
 try clear c141b0
 try clear c141b1
 try clear c143
 try clear c145
 try clear c151
 try clear c152
 try clear c163
 try clear c173
 try clear c174
 try clear c185
 try clear c194
 try clear c195
 try clear c206
 try clear c209
 try clear c209b0
 try clear c209b1
 try clear c216
 try clear c217
 try clear c228
 try clear c230
 try clear c232
 try clear c233
 try clear hcz102_0
 try clear hcz102_1
 try clear hcz102_2
 try clear hcz102_3
 try clear hcz102_4
 try clear hcz102_5
 try clear hcz104_0
 try clear hcz104_1
 try clear hcz104_2
 try clear hcz108_0
 try clear hcz108_1
 try clear hcz108_2
 try clear hcz110_0
 try clear hcz110_1
 try clear hcz110_2
 try clear hcz110_3
 try clear hcz110_4
 try clear hcz110_5
 try clear hcz119_0
 try clear hcz119_1
 try clear hcz119_2
 try clear hcz119_3
 try clear hcz119_4
 try clear hcz119_5
 try clear hcz121_0
 try clear hcz121_1
 try clear hcz121_2
 try clear hcz124_0
 try clear hcz124_1
 try clear hcz124_2
 try clear hcz124_3
 try clear hcz124_4
 try clear hcz124_5
 try clear hcz126_0
 try clear hcz126_1
 try clear hcz126_2
 try clear hcz126_3
 try clear hcz126_4
 try clear hcz126_5
 try clear hcz127_0
 try clear hcz127_1
 try clear hcz127_2
 try clear hcz127_3
 try clear hcz127_4
 try clear hcz127_5
 try clear hcz130_0
 try clear hcz130_1
 try clear hcz130_2
 try clear hcz130_3
 try clear hcz130_4
 try clear hcz130_5
 try clear hcz132_0
 try clear hcz132_1
 try clear hcz132_2
 try clear hcz135_0
 try clear hcz135_1
 try clear hcz135_2
 try clear hcz135_3
 try clear hcz135_4
 try clear hcz135_5
 try clear hcz137_0
 try clear hcz137_1
 try clear hcz137_2
 try clear hcz137_3
 try clear hcz137_4
 try clear hcz137_5
 try clear hcz140_0
 try clear hcz140_1
 try clear hcz140_2
 try clear hcz140_3
 try clear hcz140_4
 try clear hcz140_5
 try clear hcz153_0
 try clear hcz153_1
 try clear hcz153_2
 try clear hcz153_3
 try clear hcz153_4
 try clear hcz153_5
 try clear hcz156_0
 try clear hcz156_1
 try clear hcz156_2
 try clear hcz156_3
 try clear hcz156_4
 try clear hcz156_5
 try clear hcz159_0
 try clear hcz159_1
 try clear hcz159_2
 try clear hcz159_3
 try clear hcz159_4
 try clear hcz159_5
 try clear hcz15_0
 try clear hcz15_1
 try clear hcz15_2
 try clear hcz15_3
 try clear hcz15_4
 try clear hcz15_5
 try clear hcz162_0
 try clear hcz162_1
 try clear hcz162_2
 try clear hcz162_3
 try clear hcz162_4
 try clear hcz162_5
 try clear hcz164_0
 try clear hcz164_1
 try clear hcz164_2
 try clear hcz166_0
 try clear hcz166_1
 try clear hcz166_2
 try clear hcz166_3
 try clear hcz166_4
 try clear hcz166_5
 try clear hcz167_0
 try clear hcz167_1
 try clear hcz167_2
 try clear hcz167_3
 try clear hcz167_4
 try clear hcz167_5
 try clear hcz175_0
 try clear hcz175_1
 try clear hcz175_2
 try clear hcz175_3
 try clear hcz175_4
 try clear hcz175_5
 try clear hcz178_0
 try clear hcz178_1
 try clear hcz178_2
 try clear hcz178_3
 try clear hcz178_4
 try clear hcz178_5
 try clear hcz181_0
 try clear hcz181_1
 try clear hcz181_2
 try clear hcz181_3
 try clear hcz181_4
 try clear hcz181_5
 try clear hcz184_0
 try clear hcz184_1
 try clear hcz184_2
 try clear hcz184_3
 try clear hcz184_4
 try clear hcz184_5
 try clear hcz186_0
 try clear hcz186_1
 try clear hcz186_2
 try clear hcz188_0
 try clear hcz188_1
 try clear hcz188_2
 try clear hcz188_3
 try clear hcz188_4
 try clear hcz188_5
 try clear hcz18_0
 try clear hcz18_1
 try clear hcz18_2
 try clear hcz18_3
 try clear hcz18_4
 try clear hcz18_5
 try clear hcz196_0
 try clear hcz196_1
 try clear hcz196_2
 try clear hcz196_3
 try clear hcz196_4
 try clear hcz196_5
 try clear hcz199_0
 try clear hcz199_1
 try clear hcz199_2
 try clear hcz199_3
 try clear hcz199_4
 try clear hcz199_5
 try clear hcz202_0
 try clear hcz202_1
 try clear hcz202_2
 try clear hcz202_3
 try clear hcz202_4
 try clear hcz202_5
 try clear hcz205_0
 try clear hcz205_1
 try clear hcz205_2
 try clear hcz205_3
 try clear hcz205_4
 try clear hcz205_5
 try clear hcz207_0
 try clear hcz207_1
 try clear hcz207_2
 try clear hcz208_0
 try clear hcz208_1
 try clear hcz208_2
 try clear hcz208_3
 try clear hcz208_4
 try clear hcz208_5
 try clear hcz218_0
 try clear hcz218_1
 try clear hcz218_2
 try clear hcz218_3
 try clear hcz218_4
 try clear hcz218_5
 try clear hcz21_0
 try clear hcz21_1
 try clear hcz21_2
 try clear hcz21_3
 try clear hcz21_4
 try clear hcz21_5
 try clear hcz221_0
 try clear hcz221_1
 try clear hcz221_2
 try clear hcz221_3
 try clear hcz221_4
 try clear hcz221_5
 try clear hcz224_0
 try clear hcz224_1
 try clear hcz224_2
 try clear hcz224_3
 try clear hcz224_4
 try clear hcz224_5
 try clear hcz227_0
 try clear hcz227_1
 try clear hcz227_2
 try clear hcz227_3
 try clear hcz227_4
 try clear hcz227_5
 try clear hcz229_0
 try clear hcz229_1
 try clear hcz229_2
 try clear hcz234_0
 try clear hcz234_1
 try clear hcz234_2
 try clear hcz24_0
 try clear hcz24_1
 try clear hcz24_2
 try clear hcz24_3
 try clear hcz24_4
 try clear hcz24_5
 try clear hcz26_0
 try clear hcz26_1
 try clear hcz26_2
 try clear hcz33_0
 try clear hcz33_1
 try clear hcz33_2
 try clear hcz35_0
 try clear hcz35_1
 try clear hcz35_2
 try clear hcz35_3
 try clear hcz35_4
 try clear hcz35_5
 try clear hcz38_0
 try clear hcz38_1
 try clear hcz38_2
 try clear hcz40_0
 try clear hcz40_1
 try clear hcz40_2
 try clear hcz40_3
 try clear hcz40_4
 try clear hcz40_5
 try clear hcz43_0
 try clear hcz43_1
 try clear hcz43_2
 try clear hcz51_0
 try clear hcz51_1
 try clear hcz51_2
 try clear hcz51_3
 try clear hcz51_4
 try clear hcz51_5
 try clear hcz53_0
 try clear hcz53_1
 try clear hcz53_2
 try clear hcz55_0
 try clear hcz55_1
 try clear hcz55_2
 try clear hcz55_3
 try clear hcz55_4
 try clear hcz55_5
 try clear hcz56_0
 try clear hcz56_1
 try clear hcz56_2
 try clear hcz56_3
 try clear hcz56_4
 try clear hcz56_5
 try clear hcz59_0
 try clear hcz59_1
 try clear hcz59_2
 try clear hcz59_3
 try clear hcz59_4
 try clear hcz59_5
 try clear hcz61_0
 try clear hcz61_1
 try clear hcz61_2
 try clear hcz63_0
 try clear hcz63_1
 try clear hcz63_2
 try clear hcz63_3
 try clear hcz63_4
 try clear hcz63_5
 try clear hcz68_0
 try clear hcz68_1
 try clear hcz68_2
 try clear hcz68_3
 try clear hcz68_4
 try clear hcz68_5
 try clear hcz70_0
 try clear hcz70_1
 try clear hcz70_2
 try clear hcz72_0
 try clear hcz72_1
 try clear hcz72_2
 try clear hcz72_3
 try clear hcz72_4
 try clear hcz72_5
 try clear hcz73_0
 try clear hcz73_1
 try clear hcz73_2
 try clear hcz73_3
 try clear hcz73_4
 try clear hcz73_5
 try clear hcz76_0
 try clear hcz76_1
 try clear hcz76_2
 try clear hcz76_3
 try clear hcz76_4
 try clear hcz76_5
 try clear hcz78_0
 try clear hcz78_1
 try clear hcz78_2
 try clear hcz80_0
 try clear hcz80_1
 try clear hcz80_2
 try clear hcz80_3
 try clear hcz80_4
 try clear hcz80_5
 try clear hcz83_0
 try clear hcz83_1
 try clear hcz83_2
 try clear hcz83_3
 try clear hcz83_4
 try clear hcz83_5
 try clear hcz93_0
 try clear hcz93_1
 try clear hcz93_2
 try clear hcz93_3
 try clear hcz93_4
 try clear hcz93_5
 try clear hcz96_0
 try clear hcz96_1
 try clear hcz96_2
 try clear hcz96_3
 try clear hcz96_4
 try clear hcz96_5
 try clear hcz99_0
 try clear hcz99_1
 try clear hcz99_2
 try clear hcz99_3
 try clear hcz99_4
 try clear hcz99_5
 try clear hfz102_0
 try clear hfz102_1
 try clear hfz102_2
 try clear hfz102_3
 try clear hfz102_4
 try clear hfz102_5
 try clear hfz104_0
 try clear hfz104_1
 try clear hfz104_2
 try clear hfz108_0
 try clear hfz108_1
 try clear hfz108_2
 try clear hfz110_0
 try clear hfz110_1
 try clear hfz110_2
 try clear hfz110_3
 try clear hfz110_4
 try clear hfz110_5
 try clear hfz119_0
 try clear hfz119_1
 try clear hfz119_2
 try clear hfz119_3
 try clear hfz119_4
 try clear hfz119_5
 try clear hfz121_0
 try clear hfz121_1
 try clear hfz121_2
 try clear hfz124_0
 try clear hfz124_1
 try clear hfz124_2
 try clear hfz124_3
 try clear hfz124_4
 try clear hfz124_5
 try clear hfz126_0
 try clear hfz126_1
 try clear hfz126_2
 try clear hfz126_3
 try clear hfz126_4
 try clear hfz126_5
 try clear hfz127_0
 try clear hfz127_1
 try clear hfz127_2
 try clear hfz127_3
 try clear hfz127_4
 try clear hfz127_5
 try clear hfz130_0
 try clear hfz130_1
 try clear hfz130_2
 try clear hfz130_3
 try clear hfz130_4
 try clear hfz130_5
 try clear hfz132_0
 try clear hfz132_1
 try clear hfz132_2
 try clear hfz135_0
 try clear hfz135_1
 try clear hfz135_2
 try clear hfz135_3
 try clear hfz135_4
 try clear hfz135_5
 try clear hfz137_0
 try clear hfz137_1
 try clear hfz137_2
 try clear hfz137_3
 try clear hfz137_4
 try clear hfz137_5
 try clear hfz140_0
 try clear hfz140_1
 try clear hfz140_2
 try clear hfz140_3
 try clear hfz140_4
 try clear hfz140_5
 try clear hfz153_0
 try clear hfz153_1
 try clear hfz153_2
 try clear hfz153_3
 try clear hfz153_4
 try clear hfz153_5
 try clear hfz156_0
 try clear hfz156_1
 try clear hfz156_2
 try clear hfz156_3
 try clear hfz156_4
 try clear hfz156_5
 try clear hfz159_0
 try clear hfz159_1
 try clear hfz159_2
 try clear hfz159_3
 try clear hfz159_4
 try clear hfz159_5
 try clear hfz15_0
 try clear hfz15_1
 try clear hfz15_2
 try clear hfz15_3
 try clear hfz15_4
 try clear hfz15_5
 try clear hfz162_0
 try clear hfz162_1
 try clear hfz162_2
 try clear hfz162_3
 try clear hfz162_4
 try clear hfz162_5
 try clear hfz164_0
 try clear hfz164_1
 try clear hfz164_2
 try clear hfz166_0
 try clear hfz166_1
 try clear hfz166_2
 try clear hfz166_3
 try clear hfz166_4
 try clear hfz166_5
 try clear hfz167_0
 try clear hfz167_1
 try clear hfz167_2
 try clear hfz167_3
 try clear hfz167_4
 try clear hfz167_5
 try clear hfz175_0
 try clear hfz175_1
 try clear hfz175_2
 try clear hfz175_3
 try clear hfz175_4
 try clear hfz175_5
 try clear hfz178_0
 try clear hfz178_1
 try clear hfz178_2
 try clear hfz178_3
 try clear hfz178_4
 try clear hfz178_5
 try clear hfz181_0
 try clear hfz181_1
 try clear hfz181_2
 try clear hfz181_3
 try clear hfz181_4
 try clear hfz181_5
 try clear hfz184_0
 try clear hfz184_1
 try clear hfz184_2
 try clear hfz184_3
 try clear hfz184_4
 try clear hfz184_5
 try clear hfz186_0
 try clear hfz186_1
 try clear hfz186_2
 try clear hfz188_0
 try clear hfz188_1
 try clear hfz188_2
 try clear hfz188_3
 try clear hfz188_4
 try clear hfz188_5
 try clear hfz18_0
 try clear hfz18_1
 try clear hfz18_2
 try clear hfz18_3
 try clear hfz18_4
 try clear hfz18_5
 try clear hfz196_0
 try clear hfz196_1
 try clear hfz196_2
 try clear hfz196_3
 try clear hfz196_4
 try clear hfz196_5
 try clear hfz199_0
 try clear hfz199_1
 try clear hfz199_2
 try clear hfz199_3
 try clear hfz199_4
 try clear hfz199_5
 try clear hfz202_0
 try clear hfz202_1
 try clear hfz202_2
 try clear hfz202_3
 try clear hfz202_4
 try clear hfz202_5
 try clear hfz205_0
 try clear hfz205_1
 try clear hfz205_2
 try clear hfz205_3
 try clear hfz205_4
 try clear hfz205_5
 try clear hfz207_0
 try clear hfz207_1
 try clear hfz207_2
 try clear hfz208_0
 try clear hfz208_1
 try clear hfz208_2
 try clear hfz208_3
 try clear hfz208_4
 try clear hfz208_5
 try clear hfz218_0
 try clear hfz218_1
 try clear hfz218_2
 try clear hfz218_3
 try clear hfz218_4
 try clear hfz218_5
 try clear hfz21_0
 try clear hfz21_1
 try clear hfz21_2
 try clear hfz21_3
 try clear hfz21_4
 try clear hfz21_5
 try clear hfz221_0
 try clear hfz221_1
 try clear hfz221_2
 try clear hfz221_3
 try clear hfz221_4
 try clear hfz221_5
 try clear hfz224_0
 try clear hfz224_1
 try clear hfz224_2
 try clear hfz224_3
 try clear hfz224_4
 try clear hfz224_5
 try clear hfz227_0
 try clear hfz227_1
 try clear hfz227_2
 try clear hfz227_3
 try clear hfz227_4
 try clear hfz227_5
 try clear hfz229_0
 try clear hfz229_1
 try clear hfz229_2
 try clear hfz234_0
 try clear hfz234_1
 try clear hfz234_2
 try clear hfz24_0
 try clear hfz24_1
 try clear hfz24_2
 try clear hfz24_3
 try clear hfz24_4
 try clear hfz24_5
 try clear hfz26_0
 try clear hfz26_1
 try clear hfz26_2
 try clear hfz33_0
 try clear hfz33_1
 try clear hfz33_2
 try clear hfz35_0
 try clear hfz35_1
 try clear hfz35_2
 try clear hfz35_3
 try clear hfz35_4
 try clear hfz35_5
 try clear hfz38_0
 try clear hfz38_1
 try clear hfz38_2
 try clear hfz40_0
 try clear hfz40_1
 try clear hfz40_2
 try clear hfz40_3
 try clear hfz40_4
 try clear hfz40_5
 try clear hfz43_0
 try clear hfz43_1
 try clear hfz43_2
 try clear hfz51_0
 try clear hfz51_1
 try clear hfz51_2
 try clear hfz51_3
 try clear hfz51_4
 try clear hfz51_5
 try clear hfz53_0
 try clear hfz53_1
 try clear hfz53_2
 try clear hfz55_0
 try clear hfz55_1
 try clear hfz55_2
 try clear hfz55_3
 try clear hfz55_4
 try clear hfz55_5
 try clear hfz56_0
 try clear hfz56_1
 try clear hfz56_2
 try clear hfz56_3
 try clear hfz56_4
 try clear hfz56_5
 try clear hfz59_0
 try clear hfz59_1
 try clear hfz59_2
 try clear hfz59_3
 try clear hfz59_4
 try clear hfz59_5
 try clear hfz61_0
 try clear hfz61_1
 try clear hfz61_2
 try clear hfz63_0
 try clear hfz63_1
 try clear hfz63_2
 try clear hfz63_3
 try clear hfz63_4
 try clear hfz63_5
 try clear hfz68_0
 try clear hfz68_1
 try clear hfz68_2
 try clear hfz68_3
 try clear hfz68_4
 try clear hfz68_5
 try clear hfz70_0
 try clear hfz70_1
 try clear hfz70_2
 try clear hfz72_0
 try clear hfz72_1
 try clear hfz72_2
 try clear hfz72_3
 try clear hfz72_4
 try clear hfz72_5
 try clear hfz73_0
 try clear hfz73_1
 try clear hfz73_2
 try clear hfz73_3
 try clear hfz73_4
 try clear hfz73_5
 try clear hfz76_0
 try clear hfz76_1
 try clear hfz76_2
 try clear hfz76_3
 try clear hfz76_4
 try clear hfz76_5
 try clear hfz78_0
 try clear hfz78_1
 try clear hfz78_2
 try clear hfz80_0
 try clear hfz80_1
 try clear hfz80_2
 try clear hfz80_3
 try clear hfz80_4
 try clear hfz80_5
 try clear hfz83_0
 try clear hfz83_1
 try clear hfz83_2
 try clear hfz83_3
 try clear hfz83_4
 try clear hfz83_5
 try clear hfz93_0
 try clear hfz93_1
 try clear hfz93_2
 try clear hfz93_3
 try clear hfz93_4
 try clear hfz93_5
 try clear hfz96_0
 try clear hfz96_1
 try clear hfz96_2
 try clear hfz96_3
 try clear hfz96_4
 try clear hfz96_5
 try clear hfz99_0
 try clear hfz99_1
 try clear hfz99_2
 try clear hfz99_3
 try clear hfz99_4
 try clear hfz99_5
 try clear hx114_0
 try clear p114
 try clear p2
 try clear p6
 try clear q114
 obtain ⟨kq, x7_209, rfl, HA, HJ209, HO_217002, HO_217005, BK216, BK217, BK218, HB⟩ := hcut
 cases kq with
 | zero => exact absurd HA.out (by simp [impl_Leases_step.j2])
 | succ kj209 => ?_
 have H := HA.out
 clear HA
 simp only [impl_Leases_step.j2] at H
 by_cases c235 : x7_209 = true
 rotate_left
 ·replace c235 := Bool.eq_false_iff.mpr c235
  subst c235
  have H1 : (some (0, 0, ([] : List Int), 0, 0, ([] : List Int), false)) = some (r1, r2, r3, r4, r5, r6, r7) := by rw [if_neg (show ¬ (false = true) by decide)] at H; exact H
  clear H
  have H := H1
  clear H1
  simp only [Option.some.injEq, Prod.mk.injEq] at H
  obtain ⟨rfl, rfl, rfl, rfl, rfl, rfl, rfl⟩ := H
  have hnb260 := NB218_216.out
  have hnc260 := NB216_218.out
  have hnb261 := NB218_217.out
  have hnc261 := NB217_218.out
  have hcz262_0 : wc.cell? ⟨gb218, 0, none⟩ = some (.int .i64 0) := bc_ BK218.out 0
  have hcz262_1 : wc.cell? ⟨gb218, 1, none⟩ = some (.int .i64 0) := bc_ BK218.out 1
  have hcz262_2 : wc.cell? ⟨gb218, 2, none⟩ = some (.slice none 0 0) := bc_ BK218.out 2
  have hcz262_3 : wc.cell? ⟨gb218, 3, none⟩ = some (.int .i64 0) := bc_ BK218.out 3
  have hcz262_4 : wc.cell? ⟨gb218, 4, none⟩ = some (.int .i64 0) := bc_ BK218.out 4
  have hcz262_5 : wc.cell? ⟨gb218, 5, none⟩ = some (.slice none 0 0) := bc_ BK218.out 5
  have hfz262_0 := blk_frozen BK218.out 0
  have hfz262_1 := blk_frozen BK218.out 1
  have hfz262_2 := blk_frozen BK218.out 2
  have hfz262_3 := blk_frozen BK218.out 3
  have hfz262_4 := blk_frozen BK218.out 4
  have hfz262_5 := blk_frozen BK218.out 5
  go_wp2
  refine bodyPost_ret (results_ct rfl _ _ gb218 24 #[.int .i64 0, .int .i64 0, .slice none 0 0, .int .i64 0, .int .i64 0, .slice none 0 0] (0, 0) _ rfl (by (with_reducible repeat (first | refine blk_drewN ?_ _ | refine blk_drew ?_ | refine blk_alloc ?_ _)); refine blk_put (cs := #[.int .i64 0, .int .i64 0, .slice none 0 0, .int .i64 0, .int .i64 0, .slice none 0 0]) ?_ 5 _ rfl; (with_reducible repeat (first | refine blk_drewN ?_ _ | refine blk_drew ?_ | refine blk_alloc ?_ _)); refine blk_put (cs := #[.int .i64 0, .int .i64 0, .slice none 0 0, .int .i64 0, .int .i64 0, .slice none 0 0]) ?_ 4 _ rfl; (with_reducible repeat (first | refine blk_drewN ?_ _ | refine blk_drew ?_ | refine blk_alloc ?_ _)); refine blk_put (cs := #[.int .i64 0, .int .i64 0, .slice none 0 0, .int .i64 0, .int .i64 0, .slice none 0 0]) ?_ 3 _ rfl; (with_reducible repeat (first | refine blk_drewN ?_ _ | refine blk_drew ?_ | refine blk_alloc ?_ _)); refine blk_put (cs := #[.int .i64 0, .int .i64 0, .slice none 0 0, .int .i64 0, .int .i64 0, .slice none 0 0]) ?_ 2 _ rfl; (with_reducible repeat (first | refine blk_drewN ?_ _ | refine blk_drew ?_ | refine blk_alloc ?_ _)); refine blk_put (cs := #[.int .i64 0, .int .i64 0, .slice none 0 0, .int .i64 0, .int .i64 0, .slice none 0 0]) ?_ 1 _ rfl; (with_reducible repeat (first | refine blk_drewN ?_ _ | refine blk_drew ?_ | refine blk_alloc ?_ _)); refine blk_put (cs := #[.int .i64 0, .int .i64 0, .slice none 0 0, .int .i64 0, .int .i64 0, .slice none 0 0]) ?_ 0 _ rfl; exact kb_ BK218.out) Try.underlying24 rfl (by kernel_rfl)) rfl ?_
  exact ⟨_, _, ng_, by first | exact Kd.R_nil _ _ _ _ _ | exact Kd.N_nil _ _ _ _ _ | exact Kd.V_nil _ _ _ _ _ | exact Kd.Q_nil _ _ _ _ _ | exact Kd.S_nil _ _ _ _ _, by first | exact Kd.R_nil _ _ _ _ _ | exact Kd.N_nil _ _ _ _ _ | exact Kd.V_nil _ _ _ _ _ | exact Kd.Q_nil _ _ _ _ _ | exact Kd.S_nil _ _ _ _ _, bl_⟩
 subst c235
 have H1 : (if 0 ≤ a1_1 then (if a1_1 < (y222.length : Int) then ((some (y222.set (a1_1 : Int).toNat (wrap64 ((rd y222 a1_1) + a1_2)) : List Int)).bind fun y241 => ((impl_areLeases.f kj209 a0_0 a0_1 y241 a0_3 a0_4 y228).bind fun t242 => (if t242 = true then (some (a0_0, a0_1, y241, a0_3, a0_4, y228, true)) else (some (0, 0, ([] : List Int), 0, 0, ([] : List Int), false))))) else (none)) else (none)) = some (r1, r2, r3, r4, r5, r6, r7) := by rw [if_pos rfl] at H; exact H
 clear H
 have H := H1
 clear H1
 by_cases c236 : 0 ≤ a1_1
 rotate_left
 ·rw [if_neg c236] at H
  exact absurd H (by simp)
 rw [if_pos c236] at H
 have c236b0 : decide (0 ≤ a1_1) = true := decide_eq_true c236
 clear c236
 by_cases c237 : a1_1 < (y222.length : Int)
 rotate_left
 ·rw [if_neg c237] at H
  exact absurd H (by simp)
 rw [if_pos c237] at H
 have c237b0 : decide (a1_1 < (y222.length : Int)) = true := decide_eq_true c237
 clear c237
 obtain ⟨y241, hy241⟩ : ∃ y_ : List Int, y_ = (y222.set (a1_1 : Int).toNat (wrap64 ((rd y222 a1_1) + a1_2))) := ⟨_, rfl⟩
 replace H : ((impl_areLeases.f kj209 a0_0 a0_1 y241 a0_3 a0_4 y228).bind fun t242 => (if t242 = true then (some (a0_0, a0_1, y241, a0_3, a0_4, y228, true)) else (some (0, 0, ([] : List Int), 0, 0, ([] : List Int), false)))) = some (r1, r2, r3, r4, r5, r6, r7) := by first | (rw [hy241]; with_reducible exact H) | (have H2_ := (Option.bind_some _ _).symm.trans H; rw [hy241]; with_reducible exact H2_) | (have H2_ := (Option.bind_some _ _).symm.trans H; with_reducible exact H2_) | with_reducible exact H | (rw [hy241]; exact H) | exact H
 have Ny241 := Aside0.mk hy241
 clear hy241
 replace H := Option.bind_eq_some_iff.mp H
 obtain ⟨t242, A2390, H⟩ := H
 replace H : (if t242 = true then (some (a0_0, a0_1, y241, a0_3, a0_4, y228, true)) else (some (0, 0, ([] : List Int), 0, 0, ([] : List Int), false))) = some (r1, r2, r3, r4, r5, r6, r7) := H
 have A239 := Aside0.mk A2390
 clear A2390
 by_cases c240 : t242 = true
 rotate_left
 ·replace c240 := Bool.eq_false_iff.mpr c240
  subst c240
  have H1 : (some (0, 0, ([] : List Int), 0, 0, ([] : List Int), false)) = some (r1, r2, r3, r4, r5, r6, r7) := by rw [if_neg (show ¬ (false = true) by decide)] at H; exact H
  clear H
  have H := H1
  clear H1
  simp only [Option.some.injEq, Prod.mk.injEq] at H
  obtain ⟨rfl, rfl, rfl, rfl, rfl, rfl, rfl⟩ := H
  try go_wp2
  replace HO_217002 := Aside0.mk (Kd.R_drew HO_217002.out)
  replace HO_217005 := Aside0.mk (Kd.R_drew HO_217005.out)
  replace BK216 := Aside0.mk (blk_drew BK216.out)
  replace BK217 := Aside0.mk (blk_drew BK217.out)
  replace BK218 := Aside0.mk (blk_drew BK218.out)
  replace HB := Aside0.mk (below_drew1 HB.out)
  have p240 : 0 ≤ (a1_1 : Int) := of_decide_eq_true (by first | (with_reducible assumption) | assumption)
  have q240 : a1_1 < (y222.length : Int) := of_decide_eq_true (by first | (with_reducible assumption) | assumption)
  obtain ⟨ad240, e240, hx240_0⟩ := Kd.at_int (Kd.R_reads' HO_217002.out).2.2 a1_1 p240 q240
  cases e240
  replace p240 := eq_true p240
  replace q240 := eq_true q240
  have p238 : 0 ≤ (a1_1 : Int) := of_decide_eq_true (by first | (with_reducible assumption) | assumption)
  have q238 : (a1_1 : Int) < ((y222.length : Int) : Int) := of_decide_eq_true (by first | (with_reducible assumption) | assumption)
  obtain ⟨go238, co238, eo238, gb238, gl238, cl238, HG238⟩ := Kd.R_form HO_217002.out (by omega)
  (first | cases eo238 | (injection eo238 with ea_ en_ ec_; (first | subst ea_ | (injection ea_ with ea_; subst ea_)); subst ec_; clear en_))
  have GB238 := Aside0.mk gb238
  have GG238 := Aside0.mk HG238
  clear gb238 gl238 HG238
  (first | simp only [add_plain] at hx240_0 | skip)
  obtain ⟨hx238_0, hf238_0⟩ := Kd.R_celln 0 HO_217002.out (a1_1 : Int) p238 q238
  replace p238 := eq_true p238
  replace q238 := eq_true q238
  have HP252 := Kd.R_putn HO_217002.out (a1_1 : Int) (wrap64 ((rd y222 a1_1) + a1_2))
  rw [← Ny241.out] at HP252
  have HQ252 := Aside0.mk HP252
  clear HP252
  refine start_ (n := 11) (S := fun w' => w'.cell? ⟨gb216, 0, none⟩ = some (.int .i64 a0_0) ∧ w'.cell? ⟨gb216, 1, none⟩ = some (.int .i64 a0_1) ∧ w'.cell? ⟨gb216, 2, none⟩ = some (.slice (some ⟨go238, 0, none⟩) y222.length co220) ∧ w'.cell? ⟨gb216, 3, none⟩ = some (.int .i64 a0_3) ∧ w'.cell? ⟨gb216, 4, none⟩ = some (.int .i64 a0_4) ∧ w'.cell? ⟨gb216, 5, none⟩ = some (.slice Ao226 y228.length co226) ∧ w'.cell? ⟨gb217, 0, none⟩ = some (.int .i64 a1_0) ∧ w'.cell? ⟨gb217, 1, none⟩ = some (.int .i64 a1_1) ∧ w'.cell? ⟨gb217, 2, none⟩ = some (.int .i64 a1_2) ∧ w'.cell? ⟨go238, (a1_1).toNat, none⟩ = some (.int .i64 (rd y222 a1_1))) (ds := [10]) #[false, false, false, false, false, false, false, false, false, false, false] (by kernel_rfl) rfl rfl ⟨bc_ BK216.out 0, bc_ BK216.out 1, bc_ BK216.out 2, bc_ BK216.out 3, bc_ BK216.out 4, bc_ BK216.out 5, bc_ BK217.out 0, bc_ BK217.out 1, bc_ BK217.out 2, hx240_0⟩ (fun hHeld => ?_); refine with_tabW impl_Leases_step.tab25 impl_Leases_step.bits25 (fun HT_ HW_ => ?_)
  generalize wc.drew = w251 at HO_217002 HO_217005 BK216 BK217 BK218 HB GG238 HQ252 hf238_0 hx238_0 hx240_0 hHeld ⊢
  refine pu_ 0 (some 109) (h := ?_)
  refine pu_ 2 (some 111) (h := ?_)
  refine pu_ 6 (some 115) (h := ?_)
  refine tk10_ 1 (some 110) (h := ?_)
  refine tk10_ 3 (some 112) (h := ?_)
  refine pu_ 4 (some 113) (h := ?_)
  refine tk10_ 5 (some 114) (h := ?_)
  refine tk10_ 7 (some 116) (h := ?_)
  refine pu_ 8 (some 117) (h := ?_)
  refine pu_ 9 (some 118) (h := ?_)
  refine last_ (i := 10) (N := none) #[true, true, true, true, true, true, true, true, true, true, true] rfl rfl (one_of HT_.out (by kernel_rfl)) (by decide) (fun K hK => ?_)
  refine skip_ (w1 := ?_) (by rfl) rfl ?_ ?_
  rotate_left
  ·go_simp
   rfl
  refine hK.out _ _ ?_
  clear hK K
  refine done_ (done_of HT_.out (by kernel_rfl)) ?_
  have n0_ : Aside0 (Kd.R (Kd.int .i64) 3 (w251.setCell ⟨go238, (a1_1 : Int).toNat, none⟩ (.int .i64 (wrap64 ((rd y222 a1_1) + a1_2)))) w.heap.size (fun k_ => some k_ ≠ (.slice Ao226 y228.length co226 : Value).ownBlock) (.slice (some ⟨go238, 0, none⟩) y222.length co220) y241) := ⟨by exact kr_ HQ252.out⟩
  have n1_ : Aside0 (Kd.R (Kd.int .i64) 3 (w251.setCell ⟨go238, (a1_1 : Int).toNat, none⟩ (.int .i64 (wrap64 ((rd y222 a1_1) + a1_2)))) w.heap.size (fun k_ => some k_ ≠ (.slice (some ⟨go238, 0, none⟩) y222.length co220 : Value).ownBlock) (.slice Ao226 y228.length co226) y228) := ⟨by exact kr_ (Kd.R_mono (Kd.R_far (p := ⟨go238, (a1_1 : Int).toNat, none⟩) (Kd.R_mono HO_217005.out (fun k_ hk => (⟨hk, fun e_ => hk (by rw [e_]; rfl)⟩ : _ ∧ k_ ≠ go238))) (fun _ hk => hk.2) (.int .i64 (wrap64 ((rd y222 a1_1) + a1_2)))) (fun _ hk => hk.1))⟩
  have n2_ : Aside0 ((w251.setCell ⟨go238, (a1_1 : Int).toNat, none⟩ (.int .i64 (wrap64 ((rd y222 a1_1) + a1_2)))).heap[gb216]? = some (.cells #[.int .i64 a0_0, .int .i64 a0_1, .slice (some ⟨go238, 0, none⟩) y222.length co220, .int .i64 a0_3, .int .i64 a0_4, .slice Ao226 y228.length co226] 24 (0, 0))) := ⟨by (with_reducible repeat (first | refine blk_drewN ?_ _ | refine blk_drew ?_ | refine blk_alloc ?_ _)); refine blk_far ?_ (by have h_ := Kd.R_ne HO_217002.out BK216.out (by decide); intro e_; exact h_ (by rw [e_]; rfl)) _; exact kb_ BK216.out⟩
  have n3_ : Aside0 ((w251.setCell ⟨go238, (a1_1 : Int).toNat, none⟩ (.int .i64 (wrap64 ((rd y222 a1_1) + a1_2)))).heap[gb217]? = some (.cells #[.int .i64 a1_0, .int .i64 a1_1, .int .i64 a1_2] 45 (0, 0))) := ⟨by (with_reducible repeat (first | refine blk_drewN ?_ _ | refine blk_drew ?_ | refine blk_alloc ?_ _)); refine blk_far ?_ (by have h_ := Kd.R_ne HO_217002.out BK217.out (by decide); intro e_; exact h_ (by rw [e_]; rfl)) _; exact kb_ BK217.out⟩
  have n4_ : Aside0 ((w251.setCell ⟨go238, (a1_1 : Int).toNat, none⟩ (.int .i64 (wrap64 ((rd y222 a1_1) + a1_2)))).heap[gb218]? = some (.cells #[.int .i64 0, .int .i64 0, .slice none 0 0, .int .i64 0, .int .i64 0, .slice none 0 0] 24 (0, 0))) := ⟨by (with_reducible repeat (first | refine blk_drewN ?_ _ | refine blk_drew ?_ | refine blk_alloc ?_ _)); refine blk_far ?_ (by have h_ := Kd.R_ne HO_217002.out BK218.out (by decide); intro e_; exact h_ (by rw [e_]; rfl)) _; exact kb_ BK218.out⟩
  have n5_ : Aside0 (Below w.heap.size w (w251.setCell ⟨go238, (a1_1 : Int).toNat, none⟩ (.int .i64 (wrap64 ((rd y222 a1_1) + a1_2))))) := ⟨by repeat (first | (with_reducible first | exact HB.out | apply below_alloc | apply pw_below_drewN | apply below_drew1 | refine below_set ?_ GB238.out | refine below_set ?_ GE216.out | refine below_set ?_ GE217.out | refine below_set ?_ GE218.out) | exact HB.out)⟩
  (try clear HO_217002)
  (try clear HO_217005)
  (try clear BK216)
  (try clear BK217)
  (try clear BK218)
  (try clear HB)
  generalize (w251.setCell ⟨go238, (a1_1 : Int).toNat, none⟩ (.int .i64 (wrap64 ((rd y222 a1_1) + a1_2)))) = w253 at n0_ n1_ n2_ n3_ n4_ n5_ ⊢
  have HO_217002 := n0_
  have HO_217005 := n1_
  have BK216 := n2_
  have BK217 := n3_
  have BK218 := n4_
  have HB := n5_
  clear n0_ n1_ n2_ n3_ n4_ n5_
  have hnb254 := NB216_217.out
  have hnc254 := NB217_216.out
  have hnb255 := NB216_218.out
  have hnc255 := NB218_216.out
  have hcz256_0 : w253.cell? ⟨gb216, 0, none⟩ = some (.int .i64 a0_0) := bc_ BK216.out 0
  have hcz256_1 : w253.cell? ⟨gb216, 1, none⟩ = some (.int .i64 a0_1) := bc_ BK216.out 1
  have hcz256_2 : w253.cell? ⟨gb216, 2, none⟩ = some (.slice (some ⟨go238, 0, none⟩) y222.length co220) := bc_ BK216.out 2
  have hcz256_3 : w253.cell? ⟨gb216, 3, none⟩ = some (.int .i64 a0_3) := bc_ BK216.out 3
  have hcz256_4 : w253.cell? ⟨gb216, 4, none⟩ = some (.int .i64 a0_4) := bc_ BK216.out 4
  have hcz256_5 : w253.cell? ⟨gb216, 5, none⟩ = some (.slice Ao226 y228.length co226) := bc_ BK216.out 5
  have hfz256_0 := blk_frozen BK216.out 0
  have hfz256_1 := blk_frozen BK216.out 1
  have hfz256_2 := blk_frozen BK216.out 2
  have hfz256_3 := blk_frozen BK216.out 3
  have hfz256_4 := blk_frozen BK216.out 4
  have hfz256_5 := blk_frozen BK216.out 5
  try go_wp2_with (first | (go_at_call 49; refine calls_of_args (args' := #[.agg #[.int .i64 a0_0, .int .i64 a0_1, .slice (some ⟨go238, 0, none⟩) y241.length co220, .int .i64 a0_3, .int .i64 a0_4, .slice Ao226 y228.length co226]]) (by first | (rw [show y241.length = y222.length from (Kd.R_reads' HO_217002.out).1.symm] <;> rfl) | rfl) ?_; (with_reducible refine (impl_areLeases.calls kj209 a0_0 a0_1 _ _ y241 a0_3 a0_4 _ _ y228 false _ ?side1 ?side2 ?side3 ?side4 A239.out).mono ?_); (case side1 => exact kc_ (Kd.R_reads' HO_217002.out).2.2); (case side2 => rw [show y241.length = y222.length from (Kd.R_reads' HO_217002.out).1.symm]; exact (Kd.R_reads' HO_217002.out).2.1); (case side3 => exact kc_ (Kd.R_reads' HO_217005.out).2.2); (case side4 => exact (Kd.R_reads' HO_217005.out).2.1); rintro e w257 ⟨rfl, hb⟩; replace HO_217002 := rb_ HO_217002 hb; replace HO_217005 := rb_ HO_217005 hb; replace BK216 := bb_ BK216 hb; replace BK217 := bb_ BK217 hb; replace BK218 := bb_ BK218 hb; replace HB := Aside0.mk (below_step bl_ hb); clear hb; have hnb258 := NB218_217.out; have hnc258 := NB217_218.out; have hcz259_0 : w257.cell? ⟨gb218, 0, none⟩ = some (.int .i64 0) := bc_ BK218.out 0; have hcz259_1 : w257.cell? ⟨gb218, 1, none⟩ = some (.int .i64 0) := bc_ BK218.out 1; have hcz259_2 : w257.cell? ⟨gb218, 2, none⟩ = some (.slice none 0 0) := bc_ BK218.out 2; have hcz259_3 : w257.cell? ⟨gb218, 3, none⟩ = some (.int .i64 0) := bc_ BK218.out 3; have hcz259_4 : w257.cell? ⟨gb218, 4, none⟩ = some (.int .i64 0) := bc_ BK218.out 4; have hcz259_5 : w257.cell? ⟨gb218, 5, none⟩ = some (.slice none 0 0) := bc_ BK218.out 5; have hfz259_0 := blk_frozen BK218.out 0; have hfz259_1 := blk_frozen BK218.out 1; have hfz259_2 := blk_frozen BK218.out 2; have hfz259_3 := blk_frozen BK218.out 3; have hfz259_4 := blk_frozen BK218.out 4; have hfz259_5 := blk_frozen BK218.out 5))
  refine bodyPost_ret (results_ct rfl _ _ gb218 24 #[.int .i64 0, .int .i64 0, .slice none 0 0, .int .i64 0, .int .i64 0, .slice none 0 0] (0, 0) _ rfl (by (with_reducible repeat (first | refine blk_drewN ?_ _ | refine blk_drew ?_ | refine blk_alloc ?_ _)); refine blk_put (cs := #[.int .i64 0, .int .i64 0, .slice none 0 0, .int .i64 0, .int .i64 0, .slice none 0 0]) ?_ 5 _ rfl; (with_reducible repeat (first | refine blk_drewN ?_ _ | refine blk_drew ?_ | refine blk_alloc ?_ _)); refine blk_put (cs := #[.int .i64 0, .int .i64 0, .slice none 0 0, .int .i64 0, .int .i64 0, .slice none 0 0]) ?_ 4 _ rfl; (with_reducible repeat (first | refine blk_drewN ?_ _ | refine blk_drew ?_ | refine blk_alloc ?_ _)); refine blk_put (cs := #[.int .i64 0, .int .i64 0, .slice none 0 0, .int .i64 0, .int .i64 0, .slice none 0 0]) ?_ 3 _ rfl; (with_reducible repeat (first | refine blk_drewN ?_ _ | refine blk_drew ?_ | refine blk_alloc ?_ _)); refine blk_put (cs := #[.int .i64 0, .int .i64 0, .slice none 0 0, .int .i64 0, .int .i64 0, .slice none 0 0]) ?_ 2 _ rfl; (with_reducible repeat (first | refine blk_drewN ?_ _ | refine blk_drew ?_ | refine blk_alloc ?_ _)); refine blk_put (cs := #[.int .i64 0, .int .i64 0, .slice none 0 0, .int .i64 0, .int .i64 0, .slice none 0 0]) ?_ 1 _ rfl; (with_reducible repeat (first | refine blk_drewN ?_ _ | refine blk_drew ?_ | refine blk_alloc ?_ _)); refine blk_put (cs := #[.int .i64 0, .int .i64 0, .slice none 0 0, .int .i64 0, .int .i64 0, .slice none 0 0]) ?_ 0 _ rfl; exact kb_ BK218.out) Try.underlying24 rfl (by kernel_rfl)) rfl ?_
  exact ⟨_, _, ng_, by first | exact Kd.R_nil _ _ _ _ _ | exact Kd.N_nil _ _ _ _ _ | exact Kd.V_nil _ _ _ _ _ | exact Kd.Q_nil _ _ _ _ _ | exact Kd.S_nil _ _ _ _ _, by first | exact Kd.R_nil _ _ _ _ _ | exact Kd.N_nil _ _ _ _ _ | exact Kd.V_nil _ _ _ _ _ | exact Kd.Q_nil _ _ _ _ _ | exact Kd.S_nil _ _ _ _ _, bl_⟩
 subst c240
 have H1 : (some (a0_0, a0_1, y241, a0_3, a0_4, y228, true)) = some (r1, r2, r3, r4, r5, r6, r7) := by rw [if_pos rfl] at H; exact H
 clear H
 have H := H1
 clear H1
 simp only [Option.some.injEq, Prod.mk.injEq] at H
 obtain ⟨rfl, rfl, rfl, rfl, rfl, rfl, rfl⟩ := H
 try go_wp2
 replace HO_217002 := Aside0.mk (Kd.R_drew HO_217002.out)
 replace HO_217005 := Aside0.mk (Kd.R_drew HO_217005.out)
 replace BK216 := Aside0.mk (blk_drew BK216.out)
 replace BK217 := Aside0.mk (blk_drew BK217.out)
 replace BK218 := Aside0.mk (blk_drew BK218.out)
 replace HB := Aside0.mk (below_drew1 HB.out)
 have p240 : 0 ≤ (a1_1 : Int) := of_decide_eq_true (by first | (with_reducible assumption) | assumption)
 have q240 : a1_1 < (y222.length : Int) := of_decide_eq_true (by first | (with_reducible assumption) | assumption)
 obtain ⟨ad240, e240, hx240_0⟩ := Kd.at_int (Kd.R_reads' HO_217002.out).2.2 a1_1 p240 q240
 cases e240
 replace p240 := eq_true p240
 replace q240 := eq_true q240
 have p238 : 0 ≤ (a1_1 : Int) := of_decide_eq_true (by first | (with_reducible assumption) | assumption)
 have q238 : (a1_1 : Int) < ((y222.length : Int) : Int) := of_decide_eq_true (by first | (with_reducible assumption) | assumption)
 obtain ⟨go238, co238, eo238, gb238, gl238, cl238, HG238⟩ := Kd.R_form HO_217002.out (by omega)
 (first | cases eo238 | (injection eo238 with ea_ en_ ec_; (first | subst ea_ | (injection ea_ with ea_; subst ea_)); subst ec_; clear en_))
 have GB238 := Aside0.mk gb238
 have GG238 := Aside0.mk HG238
 clear gb238 gl238 HG238
 (first | simp only [add_plain] at hx240_0 | skip)
 obtain ⟨hx238_0, hf238_0⟩ := Kd.R_celln 0 HO_217002.out (a1_1 : Int) p238 q238
 replace p238 := eq_true p238
 replace q238 := eq_true q238
 have HP242 := Kd.R_putn HO_217002.out (a1_1 : Int) (wrap64 ((rd y222 a1_1) + a1_2))
 rw [← Ny241.out] at HP242
 have HQ242 := Aside0.mk HP242
 clear HP242
 refine start_ (n := 11) (S := fun w' => w'.cell? ⟨gb216, 0, none⟩ = some (.int .i64 a0_0) ∧ w'.cell? ⟨gb216, 1, none⟩ = some (.int .i64 a0_1) ∧ w'.cell? ⟨gb216, 2, none⟩ = some (.slice (some ⟨go238, 0, none⟩) y222.length co220) ∧ w'.cell? ⟨gb216, 3, none⟩ = some (.int .i64 a0_3) ∧ w'.cell? ⟨gb216, 4, none⟩ = some (.int .i64 a0_4) ∧ w'.cell? ⟨gb216, 5, none⟩ = some (.slice Ao226 y228.length co226) ∧ w'.cell? ⟨gb217, 0, none⟩ = some (.int .i64 a1_0) ∧ w'.cell? ⟨gb217, 1, none⟩ = some (.int .i64 a1_1) ∧ w'.cell? ⟨gb217, 2, none⟩ = some (.int .i64 a1_2) ∧ w'.cell? ⟨go238, (a1_1).toNat, none⟩ = some (.int .i64 (rd y222 a1_1))) (ds := [10]) #[false, false, false, false, false, false, false, false, false, false, false] (by kernel_rfl) rfl rfl ⟨bc_ BK216.out 0, bc_ BK216.out 1, bc_ BK216.out 2, bc_ BK216.out 3, bc_ BK216.out 4, bc_ BK216.out 5, bc_ BK217.out 0, bc_ BK217.out 1, bc_ BK217.out 2, hx240_0⟩ (fun hHeld => ?_); refine with_tabW impl_Leases_step.tab25 impl_Leases_step.bits25 (fun HT_ HW_ => ?_)
 generalize wc.drew = w241 at HO_217002 HO_217005 BK216 BK217 BK218 HB GG238 HQ242 hf238_0 hx238_0 hx240_0 hHeld ⊢
 refine pu_ 0 (some 109) (h := ?_)
 refine pu_ 2 (some 111) (h := ?_)
 refine pu_ 6 (some 115) (h := ?_)
 refine tk10_ 1 (some 110) (h := ?_)
 refine tk10_ 3 (some 112) (h := ?_)
 refine pu_ 4 (some 113) (h := ?_)
 refine tk10_ 5 (some 114) (h := ?_)
 refine tk10_ 7 (some 116) (h := ?_)
 refine pu_ 8 (some 117) (h := ?_)
 refine pu_ 9 (some 118) (h := ?_)
 refine last_ (i := 10) (N := none) #[true, true, true, true, true, true, true, true, true, true, true] rfl rfl (one_of HT_.out (by kernel_rfl)) (by decide) (fun K hK => ?_)
 refine skip_ (w1 := ?_) (by rfl) rfl ?_ ?_
 rotate_left
 ·go_simp
  rfl
 refine hK.out _ _ ?_
 clear hK K
 refine done_ (done_of HT_.out (by kernel_rfl)) ?_
 have n0_ : Aside0 (Kd.R (Kd.int .i64) 3 (w241.setCell ⟨go238, (a1_1 : Int).toNat, none⟩ (.int .i64 (wrap64 ((rd y222 a1_1) + a1_2)))) w.heap.size (fun k_ => some k_ ≠ (.slice Ao226 y228.length co226 : Value).ownBlock) (.slice (some ⟨go238, 0, none⟩) y222.length co220) y241) := ⟨by exact kr_ HQ242.out⟩
 have n1_ : Aside0 (Kd.R (Kd.int .i64) 3 (w241.setCell ⟨go238, (a1_1 : Int).toNat, none⟩ (.int .i64 (wrap64 ((rd y222 a1_1) + a1_2)))) w.heap.size (fun k_ => some k_ ≠ (.slice (some ⟨go238, 0, none⟩) y222.length co220 : Value).ownBlock) (.slice Ao226 y228.length co226) y228) := ⟨by exact kr_ (Kd.R_mono (Kd.R_far (p := ⟨go238, (a1_1 : Int).toNat, none⟩) (Kd.R_mono HO_217005.out (fun k_ hk => (⟨hk, fun e_ => hk (by rw [e_]; rfl)⟩ : _ ∧ k_ ≠ go238))) (fun _ hk => hk.2) (.int .i64 (wrap64 ((rd y222 a1_1) + a1_2)))) (fun _ hk => hk.1))⟩
 have n2_ : Aside0 ((w241.setCell ⟨go238, (a1_1 : Int).toNat, none⟩ (.int .i64 (wrap64 ((rd y222 a1_1) + a1_2)))).heap[gb216]? = some (.cells #[.int .i64 a0_0, .int .i64 a0_1, .slice (some ⟨go238, 0, none⟩) y222.length co220, .int .i64 a0_3, .int .i64 a0_4, .slice Ao226 y228.length co226] 24 (0, 0))) := ⟨by (with_reducible repeat (first | refine blk_drewN ?_ _ | refine blk_drew ?_ | refine blk_alloc ?_ _)); refine blk_far ?_ (by have h_ := Kd.R_ne HO_217002.out BK216.out (by decide); intro e_; exact h_ (by rw [e_]; rfl)) _; exact kb_ BK216.out⟩
 have n3_ : Aside0 ((w241.setCell ⟨go238, (a1_1 : Int).toNat, none⟩ (.int .i64 (wrap64 ((rd y222 a1_1) + a1_2)))).heap[gb217]? = some (.cells #[.int .i64 a1_0, .int .i64 a1_1, .int .i64 a1_2] 45 (0, 0))) := ⟨by (with_reducible repeat (first | refine blk_drewN ?_ _ | refine blk_drew ?_ | refine blk_alloc ?_ _)); refine blk_far ?_ (by have h_ := Kd.R_ne HO_217002.out BK217.out (by decide); intro e_; exact h_ (by rw [e_]; rfl)) _; exact kb_ BK217.out⟩
 have n4_ : Aside0 ((w241.setCell ⟨go238, (a1_1 : Int).toNat, none⟩ (.int .i64 (wrap64 ((rd y222 a1_1) + a1_2)))).heap[gb218]? = some (.cells #[.int .i64 0, .int .i64 0, .slice none 0 0, .int .i64 0, .int .i64 0, .slice none 0 0] 24 (0, 0))) := ⟨by (with_reducible repeat (first | refine blk_drewN ?_ _ | refine blk_drew ?_ | refine blk_alloc ?_ _)); refine blk_far ?_ (by have h_ := Kd.R_ne HO_217002.out BK218.out (by decide); intro e_; exact h_ (by rw [e_]; rfl)) _; exact kb_ BK218.out⟩
 have n5_ : Aside0 (Below w.heap.size w (w241.setCell ⟨go238, (a1_1 : Int).toNat, none⟩ (.int .i64 (wrap64 ((rd y222 a1_1) + a1_2))))) := ⟨by repeat (first | (with_reducible first | exact HB.out | apply below_alloc | apply pw_below_drewN | apply below_drew1 | refine below_set ?_ GB238.out | refine below_set ?_ GE216.out | refine below_set ?_ GE217.out | refine below_set ?_ GE218.out) | exact HB.out)⟩
 (try clear HO_217002)
 (try clear HO_217005)
 (try clear BK216)
 (try clear BK217)
 (try clear BK218)
 (try clear HB)
 generalize (w241.setCell ⟨go238, (a1_1 : Int).toNat, none⟩ (.int .i64 (wrap64 ((rd y222 a1_1) + a1_2)))) = w243 at n0_ n1_ n2_ n3_ n4_ n5_ ⊢
 have HO_217002 := n0_
 have HO_217005 := n1_
 have BK216 := n2_
 have BK217 := n3_
 have BK218 := n4_
 have HB := n5_
 clear n0_ n1_ n2_ n3_ n4_ n5_
 have hnb244 := NB216_217.out
 have hnc244 := NB217_216.out
 have hnb245 := NB216_218.out
 have hnc245 := NB218_216.out
 have hcz246_0 : w243.cell? ⟨gb216, 0, none⟩ = some (.int .i64 a0_0) := bc_ BK216.out 0
 have hcz246_1 : w243.cell? ⟨gb216, 1, none⟩ = some (.int .i64 a0_1) := bc_ BK216.out 1
 have hcz246_2 : w243.cell? ⟨gb216, 2, none⟩ = some (.slice (some ⟨go238, 0, none⟩) y222.length co220) := bc_ BK216.out 2
 have hcz246_3 : w243.cell? ⟨gb216, 3, none⟩ = some (.int .i64 a0_3) := bc_ BK216.out 3
 have hcz246_4 : w243.cell? ⟨gb216, 4, none⟩ = some (.int .i64 a0_4) := bc_ BK216.out 4
 have hcz246_5 : w243.cell? ⟨gb216, 5, none⟩ = some (.slice Ao226 y228.length co226) := bc_ BK216.out 5
 have hfz246_0 := blk_frozen BK216.out 0
 have hfz246_1 := blk_frozen BK216.out 1
 have hfz246_2 := blk_frozen BK216.out 2
 have hfz246_3 := blk_frozen BK216.out 3
 have hfz246_4 := blk_frozen BK216.out 4
 have hfz246_5 := blk_frozen BK216.out 5
 try go_wp2_with (first | (go_at_call 49; refine calls_of_args (args' := #[.agg #[.int .i64 a0_0, .int .i64 a0_1, .slice (some ⟨go238, 0, none⟩) y241.length co220, .int .i64 a0_3, .int .i64 a0_4, .slice Ao226 y228.length co226]]) (by first | (rw [show y241.length = y222.length from (Kd.R_reads' HO_217002.out).1.symm] <;> rfl) | rfl) ?_; (with_reducible refine (impl_areLeases.calls kj209 a0_0 a0_1 _ _ y241 a0_3 a0_4 _ _ y228 true _ ?side1 ?side2 ?side3 ?side4 A239.out).mono ?_); (case side1 => exact kc_ (Kd.R_reads' HO_217002.out).2.2); (case side2 => rw [show y241.length = y222.length from (Kd.R_reads' HO_217002.out).1.symm]; exact (Kd.R_reads' HO_217002.out).2.1); (case side3 => exact kc_ (Kd.R_reads' HO_217005.out).2.2); (case side4 => exact (Kd.R_reads' HO_217005.out).2.1); rintro e w247 ⟨rfl, hb⟩; replace HO_217002 := rb_ HO_217002 hb; replace HO_217005 := rb_ HO_217005 hb; replace BK216 := bb_ BK216 hb; replace BK217 := bb_ BK217 hb; replace BK218 := bb_ BK218 hb; replace HB := Aside0.mk (below_step bl_ hb); clear hb; have hcz248_0 : w247.cell? ⟨gb216, 0, none⟩ = some (.int .i64 a0_0) := bc_ BK216.out 0; have hcz248_1 : w247.cell? ⟨gb216, 1, none⟩ = some (.int .i64 a0_1) := bc_ BK216.out 1; have hcz248_2 : w247.cell? ⟨gb216, 2, none⟩ = some (.slice (some ⟨go238, 0, none⟩) y222.length co220) := bc_ BK216.out 2; have hcz248_3 : w247.cell? ⟨gb216, 3, none⟩ = some (.int .i64 a0_3) := bc_ BK216.out 3; have hcz248_4 : w247.cell? ⟨gb216, 4, none⟩ = some (.int .i64 a0_4) := bc_ BK216.out 4; have hcz248_5 : w247.cell? ⟨gb216, 5, none⟩ = some (.slice Ao226 y228.length co226) := bc_ BK216.out 5; have hfz248_0 := blk_frozen BK216.out 0; have hfz248_1 := blk_frozen BK216.out 1; have hfz248_2 := blk_frozen BK216.out 2; have hfz248_3 := blk_frozen BK216.out 3; have hfz248_4 := blk_frozen BK216.out 4; have hfz248_5 := blk_frozen BK216.out 5; have hnb249 := NB218_217.out; have hnc249 := NB217_218.out; have hcz250_0 : w247.cell? ⟨gb218, 0, none⟩ = some (.int .i64 0) := bc_ BK218.out 0; have hcz250_1 : w247.cell? ⟨gb218, 1, none⟩ = some (.int .i64 0) := bc_ BK218.out 1; have hcz250_2 : w247.cell? ⟨gb218, 2, none⟩ = some (.slice none 0 0) := bc_ BK218.out 2; have hcz250_3 : w247.cell? ⟨gb218, 3, none⟩ = some (.int .i64 0) := bc_ BK218.out 3; have hcz250_4 : w247.cell? ⟨gb218, 4, none⟩ = some (.int .i64 0) := bc_ BK218.out 4; have hcz250_5 : w247.cell? ⟨gb218, 5, none⟩ = some (.slice none 0 0) := bc_ BK218.out 5; have hfz250_0 := blk_frozen BK218.out 0; have hfz250_1 := blk_frozen BK218.out 1; have hfz250_2 := blk_frozen BK218.out 2; have hfz250_3 := blk_frozen BK218.out 3; have hfz250_4 := blk_frozen BK218.out 4; have hfz250_5 := blk_frozen BK218.out 5))
 refine bodyPost_ret (results_ct rfl _ _ gb218 24 #[.int .i64 a0_0, .int .i64 a0_1, .slice (some ⟨go238, 0, none⟩) y222.length co220, .int .i64 a0_3, .int .i64 a0_4, .slice Ao226 y228.length co226] (0, 0) _ rfl (by (with_reducible repeat (first | refine blk_drewN ?_ _ | refine blk_drew ?_ | refine blk_alloc ?_ _)); refine blk_put (cs := #[.int .i64 a0_0, .int .i64 a0_1, .slice (some ⟨go238, 0, none⟩) y222.length co220, .int .i64 a0_3, .int .i64 a0_4, .slice none 0 0]) ?_ 5 _ rfl; (with_reducible repeat (first | refine blk_drewN ?_ _ | refine blk_drew ?_ | refine blk_alloc ?_ _)); refine blk_put (cs := #[.int .i64 a0_0, .int .i64 a0_1, .slice (some ⟨go238, 0, none⟩) y222.length co220, .int .i64 a0_3, .int .i64 0, .slice none 0 0]) ?_ 4 _ rfl; (with_reducible repeat (first | refine blk_drewN ?_ _ | refine blk_drew ?_ | refine blk_alloc ?_ _)); refine blk_put (cs := #[.int .i64 a0_0, .int .i64 a0_1, .slice (some ⟨go238, 0, none⟩) y222.length co220, .int .i64 0, .int .i64 0, .slice none 0 0]) ?_ 3 _ rfl; (with_reducible repeat (first | refine blk_drewN ?_ _ | refine blk_drew ?_ | refine blk_alloc ?_ _)); refine blk_put (cs := #[.int .i64 a0_0, .int .i64 a0_1, .slice none 0 0, .int .i64 0, .int .i64 0, .slice none 0 0]) ?_ 2 _ rfl; (with_reducible repeat (first | refine blk_drewN ?_ _ | refine blk_drew ?_ | refine blk_alloc ?_ _)); refine blk_put (cs := #[.int .i64 a0_0, .int .i64 0, .slice none 0 0, .int .i64 0, .int .i64 0, .slice none 0 0]) ?_ 1 _ rfl; (with_reducible repeat (first | refine blk_drewN ?_ _ | refine blk_drew ?_ | refine blk_alloc ?_ _)); refine blk_put (cs := #[.int .i64 0, .int .i64 0, .slice none 0 0, .int .i64 0, .int .i64 0, .slice none 0 0]) ?_ 0 _ rfl; exact kb_ BK218.out) Try.underlying24 rfl (by kernel_rfl)) rfl ?_
 exact ⟨_, _, ng_, by exact kr_ (Kd.R_mono (Kd.R_far (p := ⟨gb218, 5, none⟩) (Kd.R_far (p := ⟨gb218, 4, none⟩) (Kd.R_far (p := ⟨gb218, 3, none⟩) (Kd.R_far (p := ⟨gb218, 2, none⟩) (Kd.R_far (p := ⟨gb218, 1, none⟩) (Kd.R_far (p := ⟨gb218, 0, none⟩) (Kd.R_types HO_217002.out BK218.out (by decide)) (fun _ hk => hk.2) (.int .i64 a0_0)) (fun _ hk => hk.2) (.int .i64 a0_1)) (fun _ hk => hk.2) (.slice (some ⟨go238, 0, none⟩) y222.length co220)) (fun _ hk => hk.2) (.int .i64 a0_3)) (fun _ hk => hk.2) (.int .i64 a0_4)) (fun _ hk => hk.2) (.slice Ao226 y228.length co226)) (fun _ hk => hk.1)), by exact kr_ (Kd.R_mono (Kd.R_far (p := ⟨gb218, 5, none⟩) (Kd.R_far (p := ⟨gb218, 4, none⟩) (Kd.R_far (p := ⟨gb218, 3, none⟩) (Kd.R_far (p := ⟨gb218, 2, none⟩) (Kd.R_far (p := ⟨gb218, 1, none⟩) (Kd.R_far (p := ⟨gb218, 0, none⟩) (Kd.R_types HO_217005.out BK218.out (by decide)) (fun _ hk => hk.2) (.int .i64 a0_0)) (fun _ hk => hk.2) (.int .i64 a0_1)) (fun _ hk => hk.2) (.slice (some ⟨go238, 0, none⟩) y222.length co220)) (fun _ hk => hk.2) (.int .i64 a0_3)) (fun _ hk => hk.2) (.int .i64 a0_4)) (fun _ hk => hk.2) (.slice Ao226 y228.length co226)) (fun _ hk => hk.1)), bl_⟩

end Go.Proofs.Ytbnadnfggpnbgaa.PSL
