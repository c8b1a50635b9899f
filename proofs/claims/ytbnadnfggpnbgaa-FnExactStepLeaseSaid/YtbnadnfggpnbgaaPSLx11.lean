/- What this text proves: the machine calls of these functions return what the plain functions say. Conditions: as each theorem says. Printed by a program of this session out of the translation. -/
import Derived.Test.YtbnadnfggpnbgaaPSLx0
import Derived.Test.YtbnadnfggpnbgaaPSLx1
import Derived.Test.YtbnadnfggpnbgaaPSLx6
import Derived.Test.YtbnadnfggpnbgaaPSLx7
import Derived.Test.YtbnadnfggpnbgaaPSLx10
namespace Go.Proofs.Ytbnadnfggpnbgaa.PSL
open Go.RowKit Go.Proofs.YtbnadnfggpnbgaaW.PrintWords Go.Proofs.YtbnadnfggpnbgaaW.PrintLast Go.Proofs.YtbnadnfggpnbgaaW.PrintMore
attribute [local go_sem] max2_int min2_int max_two min_two max_three min_three max_four min_four   -- for this text's walks alone
set_option linter.unusedVariables false
set_option linter.unusedSimpArgs false

/-! ### laws_FnExactStepLease: function 7 -/
mutual
def laws_FnExactStepLease.j0 : Nat → Bool → Bool → Bool → Int → Int → List Int → Int → Int → List Int → Int → Int → Int → Int → Int → List Int → Int → Int → List Int → Int → Int → List Int → Int → Int → List Int → Int → Int → List Int → Int → Int → List Int → Option (Bool)
 | 0, _, _, _, _, _, _, _, _, _, _, _, _, _, _, _, _, _, _, _, _, _, _, _, _, _, _, _, _, _, _ => none
 | k + 1, x7, x10, x46, x259000, x259001, x259002, x259003, x259004, x259005, x260000, x260001, x260002, x286000, x286001, x286002, x286003, x286004, x286005, x297000, x297001, x297002, x297003, x297004, x297005, x312000, x312001, x312002, x312003, x312004, x312005 => if x46 = true then (none) else ((laws_toLeases.f k x259000 x259001 x259002 x259003 x259004 x259005).bind fun bt313 => ((laws_eqLeases.f k x297000 x297001 x297002 x297003 x297004 x297005 bt313.1 bt313.2.1 bt313.2.2.1 bt313.2.2.2.1 bt313.2.2.2.2.1 bt313.2.2.2.2.2).bind fun t323 => (if t323 = true then ((laws_markLeases.f k x297000 x297001 x297002 x297003 x297004 x297005 1).bind fun bt324 => (if bt324.1 < 0 then (none) else ((laws_eqLeases.f k x312000 x312001 x312002 x312003 x312004 x312005 x286000 x286001 x286002 x286003 x286004 x286005).bind fun t327 => (if t327 = true then (laws_FnExactStepLease.j1 k x7 (x10 != x7) x259000 x259001 x259002 x259003 x259004 x259005 x260000 x260001 x260002 x286000 x286001 x286002 x286003 x286004 x286005 x312000 x312001 x312002 x312003 x312004 x312005) else (none))))) else (none))))
def laws_FnExactStepLease.j1 : Nat → Bool → Bool → Int → Int → List Int → Int → Int → List Int → Int → Int → Int → Int → Int → List Int → Int → Int → List Int → Int → Int → List Int → Int → Int → List Int → Option (Bool)
 | 0, _, _, _, _, _, _, _, _, _, _, _, _, _, _, _, _, _, _, _, _, _, _, _ => none
 | k + 1, x7, x67, x259000, x259001, x259002, x259003, x259004, x259005, x260000, x260001, x260002, x286000, x286001, x286002, x286003, x286004, x286005, x312000, x312001, x312002, x312003, x312004, x312005 => if x67 = true then (none) else ((laws_markLeases.f k x312000 x312001 x312002 x312003 x312004 x312005 1).bind fun bt328 => ((laws_heldLeases.f k x312000 x312001 bt328.2.1 x312003 x312004 bt328.2.2 1).bind fun t331 => (if t331 < 0 then (none) else (if t331 = bt328.1 then ((laws_toLeases.f k x259000 x259001 x259002 x259003 x259004 x259005).bind fun bt332 => ((laws_toLeaseStep.f x260000 x260001 x260002).bind fun bt342 => ((impl_StepLease.f k bt332.1 bt332.2.1 bt332.2.2.1 bt332.2.2.2.1 bt332.2.2.2.2.1 bt332.2.2.2.2.2 bt342.1 bt342.2.1 bt342.2.2).bind fun bt345 => ((laws_eqLeases.f k bt345.1 bt345.2.1 bt345.2.2.1 bt345.2.2.2.1 bt345.2.2.2.2.1 bt345.2.2.2.2.2.1 x286000 x286001 x286002 x286003 x286004 x286005).bind fun t357 => (if t357 = true then (laws_FnExactStepLease.j2 k bt328.1 (bt345.2.2.2.2.2.2 != x7) x312000 x312001 bt328.2.1 x312003 x312004 bt328.2.2) else (none)))))) else (none)))))
def laws_FnExactStepLease.j2 : Nat → Int → Bool → Int → Int → List Int → Int → Int → List Int → Option (Bool)
 | 0, _, _, _, _, _, _, _, _ => none
 | k + 1, x12, x95, x312000, x312001, x312002, x312003, x312004, x312005 => if x95 = true then (none) else ((laws_heldLeases.f k x312000 x312001 x312002 x312003 x312004 x312005 1).bind fun t358 => (if t358 < 0 then (none) else (if t358 = x12 then (some true) else (none))))
end
def laws_FnExactStepLease.f (k : Nat) (a0_0 : Int) (a0_1 : Int) (l0_2 : List Int) (a0_3 : Int) (a0_4 : Int) (l0_5 : List Int) (a1_0 : Int) (a1_1 : Int) (a1_2 : Int) : Option (Bool) := (laws_szLeases.f a0_0 a0_1 l0_2 a0_3 a0_4 l0_5 1048576).bind fun t260 => (if t260 < 0 then (some true) else ((laws_toLeases.f k a0_0 a0_1 l0_2 a0_3 a0_4 l0_5).bind fun bt261 => ((laws_toLeaseStep.f a1_0 a1_1 a1_2).bind fun bt271 => ((spec_StepLease.f k bt261.1 bt261.2.1 bt261.2.2.1 bt261.2.2.2.1 bt261.2.2.2.2.1 bt261.2.2.2.2.2 bt271.1 bt271.2.1 bt271.2.2).bind fun bt274 => ((laws_toLeases.f k a0_0 a0_1 l0_2 a0_3 a0_4 l0_5).bind fun bt286 => ((laws_toLeaseStep.f a1_0 a1_1 a1_2).bind fun bt297 => ((impl_StepLease.f k bt286.1 bt286.2.1 bt286.2.2.1 bt286.2.2.2.1 bt286.2.2.2.2.1 bt286.2.2.2.2.2 bt297.1 bt297.2.1 bt297.2.2).bind fun bt300 => ((laws_eqLeases.f k bt300.1 bt300.2.1 bt300.2.2.1 bt300.2.2.2.1 bt300.2.2.2.2.1 bt300.2.2.2.2.2.1 bt274.1 bt274.2.1 bt274.2.2.1 bt274.2.2.2.1 bt274.2.2.2.2.1 bt274.2.2.2.2.2.1).bind fun t312 => (if t312 = true then (laws_FnExactStepLease.j0 k bt274.2.2.2.2.2.2 bt300.2.2.2.2.2.2 (bt300.2.2.2.2.2.2 != bt274.2.2.2.2.2.2) a0_0 a0_1 l0_2 a0_3 a0_4 l0_5 a1_0 a1_1 a1_2 bt274.1 bt274.2.1 bt274.2.2.1 bt274.2.2.2.1 bt274.2.2.2.2.1 bt274.2.2.2.2.2.1 bt286.1 bt286.2.1 bt286.2.2.1 bt286.2.2.2.1 bt286.2.2.2.2.1 bt286.2.2.2.2.2 bt300.1 bt300.2.1 bt300.2.2.1 bt300.2.2.2.1 bt300.2.2.2.2.1 bt300.2.2.2.2.2.1) else (none))))))))))
theorem laws_FnExactStepLease.mono_l : ∀ k, (∀ y0 y1 y2 y3 y4 y5 y6 y7 y8 y9 y10 y11 y12 y13 y14 y15 y16 y17 y18 y19 y20 y21 y22 y23 y24 y25 y26 y27 y28 y29, LeO (laws_FnExactStepLease.j0 k y0 y1 y2 y3 y4 y5 y6 y7 y8 y9 y10 y11 y12 y13 y14 y15 y16 y17 y18 y19 y20 y21 y22 y23 y24 y25 y26 y27 y28 y29) (laws_FnExactStepLease.j0 (k + 1) y0 y1 y2 y3 y4 y5 y6 y7 y8 y9 y10 y11 y12 y13 y14 y15 y16 y17 y18 y19 y20 y21 y22 y23 y24 y25 y26 y27 y28 y29)) ∧ (∀ y0 y1 y2 y3 y4 y5 y6 y7 y8 y9 y10 y11 y12 y13 y14 y15 y16 y17 y18 y19 y20 y21 y22, LeO (laws_FnExactStepLease.j1 k y0 y1 y2 y3 y4 y5 y6 y7 y8 y9 y10 y11 y12 y13 y14 y15 y16 y17 y18 y19 y20 y21 y22) (laws_FnExactStepLease.j1 (k + 1) y0 y1 y2 y3 y4 y5 y6 y7 y8 y9 y10 y11 y12 y13 y14 y15 y16 y17 y18 y19 y20 y21 y22)) ∧ (∀ y0 y1 y2 y3 y4 y5 y6 y7, LeO (laws_FnExactStepLease.j2 k y0 y1 y2 y3 y4 y5 y6 y7) (laws_FnExactStepLease.j2 (k + 1) y0 y1 y2 y3 y4 y5 y6 y7))
 | 0 => ⟨fun _ _ _ _ _ _ _ _ _ _ _ _ _ _ _ _ _ _ _ _ _ _ _ _ _ _ _ _ _ _ r h => by simp [laws_FnExactStepLease.j0] at h, fun _ _ _ _ _ _ _ _ _ _ _ _ _ _ _ _ _ _ _ _ _ _ _ r h => by simp [laws_FnExactStepLease.j1] at h, fun _ _ _ _ _ _ _ _ r h => by simp [laws_FnExactStepLease.j2] at h⟩
 | k + 1 => by
  obtain ⟨ih0, ih1, ih2⟩ := laws_FnExactStepLease.mono_l k
  refine ⟨?_, ?_, ?_⟩
  ·intro y0 y1 y2 y3 y4 y5 y6 y7 y8 y9 y10 y11 y12 y13 y14 y15 y16 y17 y18 y19 y20 y21 y22 y23 y24 y25 y26 y27 y28 y29
   unfold laws_FnExactStepLease.j0
   repeat' first
   | (with_reducible exact ih0 _ _ _ _ _ _ _ _ _ _ _ _ _ _ _ _ _ _ _ _ _ _ _ _ _ _ _ _ _ _)
   | (with_reducible exact ih1 _ _ _ _ _ _ _ _ _ _ _ _ _ _ _ _ _ _ _ _ _ _ _)
   | (with_reducible exact ih2 _ _ _ _ _ _ _ _)
   | (with_reducible exact impl_StepLease.mono _ _ _ _ _ _ _ _ _ _)
   | (with_reducible exact laws_eqLeases.mono _ _ _ _ _ _ _ _ _ _ _ _ _)
   | (with_reducible exact laws_heldLeases.mono _ _ _ _ _ _ _ _)
   | (with_reducible exact laws_markLeases.mono _ _ _ _ _ _ _ _)
   | (with_reducible exact laws_toLeases.mono _ _ _ _ _ _ _)
   | (with_reducible exact spec_StepLease.mono _ _ _ _ _ _ _ _ _ _)
   | (with_reducible exact LeO.refl _)
   | (with_reducible exact LeO.none _)
   | (with_reducible refine LeO.ite ?_ ?_)
   | (with_reducible refine LeO.bind ?_ (fun _ => ?_))
   | exact ih0 _ _ _ _ _ _ _ _ _ _ _ _ _ _ _ _ _ _ _ _ _ _ _ _ _ _ _ _ _ _
   | exact ih1 _ _ _ _ _ _ _ _ _ _ _ _ _ _ _ _ _ _ _ _ _ _ _
   | exact ih2 _ _ _ _ _ _ _ _
   | exact impl_StepLease.mono _ _ _ _ _ _ _ _ _ _
   | exact laws_eqLeases.mono _ _ _ _ _ _ _ _ _ _ _ _ _
   | exact laws_heldLeases.mono _ _ _ _ _ _ _ _
   | exact laws_markLeases.mono _ _ _ _ _ _ _ _
   | exact laws_toLeases.mono _ _ _ _ _ _ _
   | exact spec_StepLease.mono _ _ _ _ _ _ _ _ _ _
   | exact LeO.none _
   | refine LeO.ite ?_ ?_
   | refine LeO.bind ?_ (fun _ => ?_)
  ·intro y0 y1 y2 y3 y4 y5 y6 y7 y8 y9 y10 y11 y12 y13 y14 y15 y16 y17 y18 y19 y20 y21 y22
   unfold laws_FnExactStepLease.j1
   repeat' first
   | (with_reducible exact ih0 _ _ _ _ _ _ _ _ _ _ _ _ _ _ _ _ _ _ _ _ _ _ _ _ _ _ _ _ _ _)
   | (with_reducible exact ih1 _ _ _ _ _ _ _ _ _ _ _ _ _ _ _ _ _ _ _ _ _ _ _)
   | (with_reducible exact ih2 _ _ _ _ _ _ _ _)
   | (with_reducible exact impl_StepLease.mono _ _ _ _ _ _ _ _ _ _)
   | (with_reducible exact laws_eqLeases.mono _ _ _ _ _ _ _ _ _ _ _ _ _)
   | (with_reducible exact laws_heldLeases.mono _ _ _ _ _ _ _ _)
   | (with_reducible exact laws_markLeases.mono _ _ _ _ _ _ _ _)
   | (with_reducible exact laws_toLeases.mono _ _ _ _ _ _ _)
   | (with_reducible exact spec_StepLease.mono _ _ _ _ _ _ _ _ _ _)
   | (with_reducible exact LeO.refl _)
   | (with_reducible exact LeO.none _)
   | (with_reducible refine LeO.ite ?_ ?_)
   | (with_reducible refine LeO.bind ?_ (fun _ => ?_))
   | exact ih0 _ _ _ _ _ _ _ _ _ _ _ _ _ _ _ _ _ _ _ _ _ _ _ _ _ _ _ _ _ _
   | exact ih1 _ _ _ _ _ _ _ _ _ _ _ _ _ _ _ _ _ _ _ _ _ _ _
   | exact ih2 _ _ _ _ _ _ _ _
   | exact impl_StepLease.mono _ _ _ _ _ _ _ _ _ _
   | exact laws_eqLeases.mono _ _ _ _ _ _ _ _ _ _ _ _ _
   | exact laws_heldLeases.mono _ _ _ _ _ _ _ _
   | exact laws_markLeases.mono _ _ _ _ _ _ _ _
   | exact laws_toLeases.mono _ _ _ _ _ _ _
   | exact spec_StepLease.mono _ _ _ _ _ _ _ _ _ _
   | exact LeO.none _
   | refine LeO.ite ?_ ?_
   | refine LeO.bind ?_ (fun _ => ?_)
  ·intro y0 y1 y2 y3 y4 y5 y6 y7
   unfold laws_FnExactStepLease.j2
   repeat' first
   | (with_reducible exact ih0 _ _ _ _ _ _ _ _ _ _ _ _ _ _ _ _ _ _ _ _ _ _ _ _ _ _ _ _ _ _)
   | (with_reducible exact ih1 _ _ _ _ _ _ _ _ _ _ _ _ _ _ _ _ _ _ _ _ _ _ _)
   | (with_reducible exact ih2 _ _ _ _ _ _ _ _)
   | (with_reducible exact impl_StepLease.mono _ _ _ _ _ _ _ _ _ _)
   | (with_reducible exact laws_eqLeases.mono _ _ _ _ _ _ _ _ _ _ _ _ _)
   | (with_reducible exact laws_heldLeases.mono _ _ _ _ _ _ _ _)
   | (with_reducible exact laws_markLeases.mono _ _ _ _ _ _ _ _)
   | (with_reducible exact laws_toLeases.mono _ _ _ _ _ _ _)
   | (with_reducible exact spec_StepLease.mono _ _ _ _ _ _ _ _ _ _)
   | (with_reducible exact LeO.refl _)
   | (with_reducible exact LeO.none _)
   | (with_reducible refine LeO.ite ?_ ?_)
   | (with_reducible refine LeO.bind ?_ (fun _ => ?_))
   | exact ih0 _ _ _ _ _ _ _ _ _ _ _ _ _ _ _ _ _ _ _ _ _ _ _ _ _ _ _ _ _ _
   | exact ih1 _ _ _ _ _ _ _ _ _ _ _ _ _ _ _ _ _ _ _ _ _ _ _
   | exact ih2 _ _ _ _ _ _ _ _
   | exact impl_StepLease.mono _ _ _ _ _ _ _ _ _ _
   | exact laws_eqLeases.mono _ _ _ _ _ _ _ _ _ _ _ _ _
   | exact laws_heldLeases.mono _ _ _ _ _ _ _ _
   | exact laws_markLeases.mono _ _ _ _ _ _ _ _
   | exact laws_toLeases.mono _ _ _ _ _ _ _
   | exact spec_StepLease.mono _ _ _ _ _ _ _ _ _ _
   | exact LeO.none _
   | refine LeO.ite ?_ ?_
   | refine LeO.bind ?_ (fun _ => ?_)
theorem laws_FnExactStepLease.mono : ∀ a0 a1 a2 a3 a4 a5 a6 a7 a8 k, LeO (laws_FnExactStepLease.f k a0 a1 a2 a3 a4 a5 a6 a7 a8) (laws_FnExactStepLease.f (k + 1) a0 a1 a2 a3 a4 a5 a6 a7 a8) := by
 intro a0 a1 a2 a3 a4 a5 a6 a7 a8 k
 obtain ⟨ih0, ih1, ih2⟩ := laws_FnExactStepLease.mono_l k
 unfold laws_FnExactStepLease.f
 repeat' first
   | (with_reducible exact ih0 _ _ _ _ _ _ _ _ _ _ _ _ _ _ _ _ _ _ _ _ _ _ _ _ _ _ _ _ _ _)
   | (with_reducible exact ih1 _ _ _ _ _ _ _ _ _ _ _ _ _ _ _ _ _ _ _ _ _ _ _)
   | (with_reducible exact ih2 _ _ _ _ _ _ _ _)
   | (with_reducible exact impl_StepLease.mono _ _ _ _ _ _ _ _ _ _)
   | (with_reducible exact laws_eqLeases.mono _ _ _ _ _ _ _ _ _ _ _ _ _)
   | (with_reducible exact laws_heldLeases.mono _ _ _ _ _ _ _ _)
   | (with_reducible exact laws_markLeases.mono _ _ _ _ _ _ _ _)
   | (with_reducible exact laws_toLeases.mono _ _ _ _ _ _ _)
   | (with_reducible exact spec_StepLease.mono _ _ _ _ _ _ _ _ _ _)
   | (with_reducible exact LeO.refl _)
   | (with_reducible exact LeO.none _)
   | (with_reducible refine LeO.ite ?_ ?_)
   | (with_reducible refine LeO.bind ?_ (fun _ => ?_))
   | exact ih0 _ _ _ _ _ _ _ _ _ _ _ _ _ _ _ _ _ _ _ _ _ _ _ _ _ _ _ _ _ _
   | exact ih1 _ _ _ _ _ _ _ _ _ _ _ _ _ _ _ _ _ _ _ _ _ _ _
   | exact ih2 _ _ _ _ _ _ _ _
   | exact impl_StepLease.mono _ _ _ _ _ _ _ _ _ _
   | exact laws_eqLeases.mono _ _ _ _ _ _ _ _ _ _ _ _ _
   | exact laws_heldLeases.mono _ _ _ _ _ _ _ _
   | exact laws_markLeases.mono _ _ _ _ _ _ _ _
   | exact laws_toLeases.mono _ _ _ _ _ _ _
   | exact spec_StepLease.mono _ _ _ _ _ _ _ _ _ _
   | exact LeO.none _
   | refine LeO.ite ?_ ?_
   | refine LeO.bind ?_ (fun _ => ?_)
def laws_FnExactStepLease.T5 : Bool × List (List Nat × List Nat) := (true, [([], []), ([0], [0]), ([], []), ([2, 1], [2]), ([1, 3, 3], [1, 3]), ([4], [4]), ([5], [5]), ([5], [5]), ([], []), ([8, 6, 4, 0, 1, 2, 3, 4, 5, 6, 8], [6, 8]), ([7, 9, 0, 1, 2, 3, 4, 5, 6, 7, 8, 9], [7])])
def laws_FnExactStepLease.B5 : List Nat := [0, 1, 0, 7, 15, 31, 63, 63, 0, 383, 1023]
theorem laws_FnExactStepLease.tab5 : rtab .any (opsOf Try.f7 5) = laws_FnExactStepLease.T5 := by kernel_rfl
theorem laws_FnExactStepLease.bits5 : waitsOk laws_FnExactStepLease.T5.2 laws_FnExactStepLease.B5 = true := by kernel_rfl
def laws_FnExactStepLease.T7 : Bool × List (List Nat × List Nat) := (true, [([], []), ([], []), ([1], [1]), ([0, 2, 2], [0, 2]), ([3], [3]), ([4], [4]), ([4], [4]), ([], []), ([7, 5, 3, 0, 1, 2, 3, 4, 5, 7], [5, 7]), ([6, 8, 0, 1, 2, 3, 4, 5, 6, 7, 8], [6])])
def laws_FnExactStepLease.B7 : List Nat := [0, 0, 2, 7, 15, 31, 31, 0, 191, 511]
theorem laws_FnExactStepLease.tab7 : rtab .any (opsOf Try.f7 7) = laws_FnExactStepLease.T7 := by kernel_rfl
theorem laws_FnExactStepLease.bits7 : waitsOk laws_FnExactStepLease.T7.2 laws_FnExactStepLease.B7 = true := by kernel_rfl
def laws_FnExactStepLease.T24 : Bool × List (List Nat × List Nat) := (true, [([], []), ([0], [0]), ([], []), ([2, 1], [2]), ([1, 3, 3], [1, 3]), ([4], [4]), ([5], [5]), ([5], [5]), ([], []), ([8, 6, 4, 0, 1, 2, 3, 4, 5, 6, 8], [6, 8]), ([7, 9, 0, 1, 2, 3, 4, 5, 6, 7, 8, 9], [7])])
def laws_FnExactStepLease.B24 : List Nat := [0, 1, 0, 7, 15, 31, 63, 63, 0, 383, 1023]
theorem laws_FnExactStepLease.tab24 : rtab .any (opsOf Try.f7 24) = laws_FnExactStepLease.T24 := by kernel_rfl
theorem laws_FnExactStepLease.bits24 : waitsOk laws_FnExactStepLease.T24.2 laws_FnExactStepLease.B24 = true := by kernel_rfl
set_option maxHeartbeats 8000000 in
set_option maxRecDepth 100000 in
theorem laws_FnExactStepLease.calls (k : Nat) (a0_0 : Int) (a0_1 : Int) (A0_2 : Option Addr) (c0_2 : Nat) (l0_2 : List Int) (a0_3 : Int) (a0_4 : Int) (A0_5 : Option Addr) (c0_5 : Nat) (l0_5 : List Int) (a1_0 : Int) (a1_1 : Int) (a1_2 : Int) (r : Bool) (w : World) (hr0_2 : Kd.C (Kd.int .i64) w A0_2 l0_2.length l0_2) (hc0_2 : l0_2.length ≤ c0_2) (hr0_5 : Kd.C (Kd.int .i64) w A0_5 l0_5.length l0_5) (hc0_5 : l0_5.length ≤ c0_5) (h : laws_FnExactStepLease.f k a0_0 a0_1 l0_2 a0_3 a0_4 l0_5 a1_0 a1_1 a1_2 = some r) :
  Calls Try.prog 7 #[.agg #[.int .i64 a0_0, .int .i64 a0_1, .slice A0_2 l0_2.length c0_2, .int .i64 a0_3, .int .i64 a0_4, .slice A0_5 l0_5.length c0_5], .agg #[.int .i64 a1_0, .int .i64 a1_1, .int .i64 a1_2]] w fun e w' => e = .returned (.bool r) ∧ Below w.heap.size w w' := by
 have hu30 := Try.underlying30
 have hu43 := Try.underlying43
 have hu24 := Try.underlying24
 have HR0_2 := Aside0.mk hr0_2
 have HC0_2 := Aside0.mk hc0_2
 clear hr0_2 hc0_2
 have HR0_5 := Aside0.mk hr0_5
 have HC0_5 := Aside0.mk hc0_5
 clear hr0_5 hc0_5
 have HB := Aside0.mk (Below.refl w.heap.size w)
 have H : ((laws_szLeases.f a0_0 a0_1 l0_2 a0_3 a0_4 l0_5 1048576).bind fun t260 => (if t260 < 0 then (some true) else ((laws_toLeases.f k a0_0 a0_1 l0_2 a0_3 a0_4 l0_5).bind fun bt261 => ((laws_toLeaseStep.f a1_0 a1_1 a1_2).bind fun bt271 => ((spec_StepLease.f k bt261.1 bt261.2.1 bt261.2.2.1 bt261.2.2.2.1 bt261.2.2.2.2.1 bt261.2.2.2.2.2 bt271.1 bt271.2.1 bt271.2.2).bind fun bt274 => ((laws_toLeases.f k a0_0 a0_1 l0_2 a0_3 a0_4 l0_5).bind fun bt286 => ((laws_toLeaseStep.f a1_0 a1_1 a1_2).bind fun bt297 => ((impl_StepLease.f k bt286.1 bt286.2.1 bt286.2.2.1 bt286.2.2.2.1 bt286.2.2.2.2.1 bt286.2.2.2.2.2 bt297.1 bt297.2.1 bt297.2.2).bind fun bt300 => ((laws_eqLeases.f k bt300.1 bt300.2.1 bt300.2.2.1 bt300.2.2.2.1 bt300.2.2.2.2.1 bt300.2.2.2.2.2.1 bt274.1 bt274.2.1 bt274.2.2.1 bt274.2.2.2.1 bt274.2.2.2.2.1 bt274.2.2.2.2.2.1).bind fun t312 => (if t312 = true then (laws_FnExactStepLease.j0 k bt274.2.2.2.2.2.2 bt300.2.2.2.2.2.2 (bt300.2.2.2.2.2.2 != bt274.2.2.2.2.2.2) a0_0 a0_1 l0_2 a0_3 a0_4 l0_5 a1_0 a1_1 a1_2 bt274.1 bt274.2.1 bt274.2.2.1 bt274.2.2.2.1 bt274.2.2.2.2.1 bt274.2.2.2.2.2.1 bt286.1 bt286.2.1 bt286.2.2.1 bt286.2.2.2.1 bt286.2.2.2.2.1 bt286.2.2.2.2.2 bt300.1 bt300.2.1 bt300.2.2.1 bt300.2.2.2.1 bt300.2.2.2.2.1 bt300.2.2.2.2.2.1) else (none))))))))))) = some r := h
 clear h
 replace H := Option.bind_eq_some_iff.mp H
 obtain ⟨t260, A30, H⟩ := H
 replace H : (if t260 < 0 then (some true) else ((laws_toLeases.f k a0_0 a0_1 l0_2 a0_3 a0_4 l0_5).bind fun bt261 => ((laws_toLeaseStep.f a1_0 a1_1 a1_2).bind fun bt271 => ((spec_StepLease.f k bt261.1 bt261.2.1 bt261.2.2.1 bt261.2.2.2.1 bt261.2.2.2.2.1 bt261.2.2.2.2.2 bt271.1 bt271.2.1 bt271.2.2).bind fun bt274 => ((laws_toLeases.f k a0_0 a0_1 l0_2 a0_3 a0_4 l0_5).bind fun bt286 => ((laws_toLeaseStep.f a1_0 a1_1 a1_2).bind fun bt297 => ((impl_StepLease.f k bt286.1 bt286.2.1 bt286.2.2.1 bt286.2.2.2.1 bt286.2.2.2.2.1 bt286.2.2.2.2.2 bt297.1 bt297.2.1 bt297.2.2).bind fun bt300 => ((laws_eqLeases.f k bt300.1 bt300.2.1 bt300.2.2.1 bt300.2.2.2.1 bt300.2.2.2.2.1 bt300.2.2.2.2.2.1 bt274.1 bt274.2.1 bt274.2.2.1 bt274.2.2.2.1 bt274.2.2.2.2.1 bt274.2.2.2.2.2.1).bind fun t312 => (if t312 = true then (laws_FnExactStepLease.j0 k bt274.2.2.2.2.2.2 bt300.2.2.2.2.2.2 (bt300.2.2.2.2.2.2 != bt274.2.2.2.2.2.2) a0_0 a0_1 l0_2 a0_3 a0_4 l0_5 a1_0 a1_1 a1_2 bt274.1 bt274.2.1 bt274.2.2.1 bt274.2.2.2.1 bt274.2.2.2.2.1 bt274.2.2.2.2.2.1 bt286.1 bt286.2.1 bt286.2.2.1 bt286.2.2.2.1 bt286.2.2.2.2.1 bt286.2.2.2.2.2 bt300.1 bt300.2.1 bt300.2.2.1 bt300.2.2.2.1 bt300.2.2.2.2.1 bt300.2.2.2.2.2.1) else (none)))))))))) = some r := H
 have A3 := Aside0.mk A30
 clear A30
 by_cases c4 : t260 < 0
 ·rw [if_pos c4] at H
  have c4b0 : decide (t260 < 0) = true := decide_eq_true c4
  clear c4
  obtain rfl := Option.some.inj H
  go_enter Try.func7, Try.ntmps7
  go_wp2_with (first | ((with_reducible refine gate_dst (N := 2) rfl ?_); refine box_event rfl (N := 2) rfl (cs := #[.int .i64 a0_0, .int .i64 a0_1, .slice A0_2 l0_2.length c0_2, .int .i64 a0_3, .int .i64 a0_4, .slice A0_5 l0_5.length c0_5]) (t := 30) gs_ ?_; intro gb258 hg w5 hbox hb; have BK258 := Aside0.mk (hbox); have GW258 := Aside0.mk ((by rw [hg]; exact bz_ : w.heap.size ≤ gb258)); have GE258 := GW258; replace HB := Aside0.mk (below_step bl_ hb); clear hb hbox hg) | ((with_reducible refine gate_dst (N := 3) rfl ?_); refine box_event rfl (N := 3) rfl (cs := #[.int .i64 a1_0, .int .i64 a1_1, .int .i64 a1_2]) (t := 43) gs_ ?_; intro gb259 hg w6 hbox hb; have BK259 := Aside0.mk (hbox); have GW259 := Aside0.mk ((by rw [hg]; exact bz_ : w.heap.size ≤ gb259)); have GE259 := GW259; replace HB := Aside0.mk (below_step bl_ hb); have NB258_259 := nl_ hg BK258; have NB259_258 := nm_ hg BK258; replace BK258 := bb_ BK258 hb; clear hb hbox hg; have hnb7 := NB258_259.out; have hnc7 := NB259_258.out; have hcz8_0 : w6.cell? ⟨gb258, 0, none⟩ = some (.int .i64 a0_0) := bc_ BK258.out 0; have hcz8_1 : w6.cell? ⟨gb258, 1, none⟩ = some (.int .i64 a0_1) := bc_ BK258.out 1; have hcz8_2 : w6.cell? ⟨gb258, 2, none⟩ = some (.slice A0_2 l0_2.length c0_2) := bc_ BK258.out 2; have hcz8_3 : w6.cell? ⟨gb258, 3, none⟩ = some (.int .i64 a0_3) := bc_ BK258.out 3; have hcz8_4 : w6.cell? ⟨gb258, 4, none⟩ = some (.int .i64 a0_4) := bc_ BK258.out 4; have hcz8_5 : w6.cell? ⟨gb258, 5, none⟩ = some (.slice A0_5 l0_5.length c0_5) := bc_ BK258.out 5; have hfz8_0 := blk_frozen BK258.out 0; have hfz8_1 := blk_frozen BK258.out 1; have hfz8_2 := blk_frozen BK258.out 2; have hfz8_3 := blk_frozen BK258.out 3; have hfz8_4 := blk_frozen BK258.out 4; have hfz8_5 := blk_frozen BK258.out 5) | ((with_reducible refine gate_callee (f := 17) rfl ?_); refine goesL_ (some 18) rfl rfl Try.func17 (by kernel_rfl) rfl #[.agg #[.int .i64 a0_0, .int .i64 a0_1, .slice A0_2 l0_2.length c0_2, .int .i64 a0_3, .int .i64 a0_4, .slice A0_5 l0_5.length c0_5], .int .i64 1048576] rfl nc_ ?_; (with_reducible refine (laws_szLeases.calls a0_0 a0_1 _ _ l0_2 a0_3 a0_4 _ _ l0_5 1048576 t260 _ ?side1 ?side2 ?side3 ?side4 A3.out).mono ?_); (case side1 => exact kc_ (Kd.C_below HR0_2.out HB.out)); (case side2 => exact HC0_2.out); (case side3 => exact kc_ (Kd.C_below HR0_5.out HB.out)); (case side4 => exact HC0_5.out); rintro e w9 ⟨rfl, hb⟩; refine ⟨_, rfl, ?_⟩; replace BK258 := bb_ BK258 hb; replace BK259 := bb_ BK259 hb; replace HB := Aside0.mk (below_step bl_ hb); clear hb))
  go_ret
  exact ⟨ng_, bl_⟩
 rw [if_neg c4] at H
 have c4b0 : decide (t260 < 0) = false := decide_eq_false c4
 clear c4
 replace H := Option.bind_eq_some_iff.mp H
 obtain ⟨⟨t261, t262, t263, t266, t267, t268⟩, A100, H⟩ := H
 replace H : ((laws_toLeaseStep.f a1_0 a1_1 a1_2).bind fun bt271 => ((spec_StepLease.f k t261 t262 t263 t266 t267 t268 bt271.1 bt271.2.1 bt271.2.2).bind fun bt274 => ((laws_toLeases.f k a0_0 a0_1 l0_2 a0_3 a0_4 l0_5).bind fun bt286 => ((laws_toLeaseStep.f a1_0 a1_1 a1_2).bind fun bt297 => ((impl_StepLease.f k bt286.1 bt286.2.1 bt286.2.2.1 bt286.2.2.2.1 bt286.2.2.2.2.1 bt286.2.2.2.2.2 bt297.1 bt297.2.1 bt297.2.2).bind fun bt300 => ((laws_eqLeases.f k bt300.1 bt300.2.1 bt300.2.2.1 bt300.2.2.2.1 bt300.2.2.2.2.1 bt300.2.2.2.2.2.1 bt274.1 bt274.2.1 bt274.2.2.1 bt274.2.2.2.1 bt274.2.2.2.2.1 bt274.2.2.2.2.2.1).bind fun t312 => (if t312 = true then (laws_FnExactStepLease.j0 k bt274.2.2.2.2.2.2 bt300.2.2.2.2.2.2 (bt300.2.2.2.2.2.2 != bt274.2.2.2.2.2.2) a0_0 a0_1 l0_2 a0_3 a0_4 l0_5 a1_0 a1_1 a1_2 bt274.1 bt274.2.1 bt274.2.2.1 bt274.2.2.2.1 bt274.2.2.2.2.1 bt274.2.2.2.2.2.1 bt286.1 bt286.2.1 bt286.2.2.1 bt286.2.2.2.1 bt286.2.2.2.2.1 bt286.2.2.2.2.2 bt300.1 bt300.2.1 bt300.2.2.1 bt300.2.2.2.1 bt300.2.2.2.2.1 bt300.2.2.2.2.2.1) else (none)))))))) = some r := H
 have A10 := Aside0.mk A100
 clear A100
 replace H := Option.bind_eq_some_iff.mp H
 obtain ⟨⟨t271, t272, t273⟩, A110, H⟩ := H
 replace H : ((spec_StepLease.f k t261 t262 t263 t266 t267 t268 t271 t272 t273).bind fun bt274 => ((laws_toLeases.f k a0_0 a0_1 l0_2 a0_3 a0_4 l0_5).bind fun bt286 => ((laws_toLeaseStep.f a1_0 a1_1 a1_2).bind fun bt297 => ((impl_StepLease.f k bt286.1 bt286.2.1 bt286.2.2.1 bt286.2.2.2.1 bt286.2.2.2.2.1 bt286.2.2.2.2.2 bt297.1 bt297.2.1 bt297.2.2).bind fun bt300 => ((laws_eqLeases.f k bt300.1 bt300.2.1 bt300.2.2.1 bt300.2.2.2.1 bt300.2.2.2.2.1 bt300.2.2.2.2.2.1 bt274.1 bt274.2.1 bt274.2.2.1 bt274.2.2.2.1 bt274.2.2.2.2.1 bt274.2.2.2.2.2.1).bind fun t312 => (if t312 = true then (laws_FnExactStepLease.j0 k bt274.2.2.2.2.2.2 bt300.2.2.2.2.2.2 (bt300.2.2.2.2.2.2 != bt274.2.2.2.2.2.2) a0_0 a0_1 l0_2 a0_3 a0_4 l0_5 a1_0 a1_1 a1_2 bt274.1 bt274.2.1 bt274.2.2.1 bt274.2.2.2.1 bt274.2.2.2.2.1 bt274.2.2.2.2.2.1 bt286.1 bt286.2.1 bt286.2.2.1 bt286.2.2.2.1 bt286.2.2.2.2.1 bt286.2.2.2.2.2 bt300.1 bt300.2.1 bt300.2.2.1 bt300.2.2.2.1 bt300.2.2.2.2.1 bt300.2.2.2.2.2.1) else (none))))))) = some r := H
 have A11 := Aside0.mk A110
 clear A110
 replace H := Option.bind_eq_some_iff.mp H
 obtain ⟨⟨t274, t275, t276, t279, t280, t281, t284⟩, A120, H⟩ := H
 replace H : ((laws_toLeases.f k a0_0 a0_1 l0_2 a0_3 a0_4 l0_5).bind fun bt286 => ((laws_toLeaseStep.f a1_0 a1_1 a1_2).bind fun bt297 => ((impl_StepLease.f k bt286.1 bt286.2.1 bt286.2.2.1 bt286.2.2.2.1 bt286.2.2.2.2.1 bt286.2.2.2.2.2 bt297.1 bt297.2.1 bt297.2.2).bind fun bt300 => ((laws_eqLeases.f k bt300.1 bt300.2.1 bt300.2.2.1 bt300.2.2.2.1 bt300.2.2.2.2.1 bt300.2.2.2.2.2.1 t274 t275 t276 t279 t280 t281).bind fun t312 => (if t312 = true then (laws_FnExactStepLease.j0 k t284 bt300.2.2.2.2.2.2 (bt300.2.2.2.2.2.2 != t284) a0_0 a0_1 l0_2 a0_3 a0_4 l0_5 a1_0 a1_1 a1_2 t274 t275 t276 t279 t280 t281 bt286.1 bt286.2.1 bt286.2.2.1 bt286.2.2.2.1 bt286.2.2.2.2.1 bt286.2.2.2.2.2 bt300.1 bt300.2.1 bt300.2.2.1 bt300.2.2.2.1 bt300.2.2.2.2.1 bt300.2.2.2.2.2.1) else (none)))))) = some r := H
 have A12 := Aside0.mk A120
 clear A120
 replace H := Option.bind_eq_some_iff.mp H
 obtain ⟨⟨t286, t287, t288, t291, t292, t293⟩, A130, H⟩ := H
 replace H : ((laws_toLeaseStep.f a1_0 a1_1 a1_2).bind fun bt297 => ((impl_StepLease.f k t286 t287 t288 t291 t292 t293 bt297.1 bt297.2.1 bt297.2.2).bind fun bt300 => ((laws_eqLeases.f k bt300.1 bt300.2.1 bt300.2.2.1 bt300.2.2.2.1 bt300.2.2.2.2.1 bt300.2.2.2.2.2.1 t274 t275 t276 t279 t280 t281).bind fun t312 => (if t312 = true then (laws_FnExactStepLease.j0 k t284 bt300.2.2.2.2.2.2 (bt300.2.2.2.2.2.2 != t284) a0_0 a0_1 l0_2 a0_3 a0_4 l0_5 a1_0 a1_1 a1_2 t274 t275 t276 t279 t280 t281 t286 t287 t288 t291 t292 t293 bt300.1 bt300.2.1 bt300.2.2.1 bt300.2.2.2.1 bt300.2.2.2.2.1 bt300.2.2.2.2.2.1) else (none))))) = some r := H
 have A13 := Aside0.mk A130
 clear A130
 replace H := Option.bind_eq_some_iff.mp H
 obtain ⟨⟨t297, t298, t299⟩, A140, H⟩ := H
 replace H : ((impl_StepLease.f k t286 t287 t288 t291 t292 t293 t297 t298 t299).bind fun bt300 => ((laws_eqLeases.f k bt300.1 bt300.2.1 bt300.2.2.1 bt300.2.2.2.1 bt300.2.2.2.2.1 bt300.2.2.2.2.2.1 t274 t275 t276 t279 t280 t281).bind fun t312 => (if t312 = true then (laws_FnExactStepLease.j0 k t284 bt300.2.2.2.2.2.2 (bt300.2.2.2.2.2.2 != t284) a0_0 a0_1 l0_2 a0_3 a0_4 l0_5 a1_0 a1_1 a1_2 t274 t275 t276 t279 t280 t281 t286 t287 t288 t291 t292 t293 bt300.1 bt300.2.1 bt300.2.2.1 bt300.2.2.2.1 bt300.2.2.2.2.1 bt300.2.2.2.2.2.1) else (none)))) = some r := H
 have A14 := Aside0.mk A140
 clear A140
 replace H := Option.bind_eq_some_iff.mp H
 obtain ⟨⟨t300, t301, t302, t305, t306, t307, t310⟩, A150, H⟩ := H
 replace H : ((laws_eqLeases.f k t300 t301 t302 t305 t306 t307 t274 t275 t276 t279 t280 t281).bind fun t312 => (if t312 = true then (laws_FnExactStepLease.j0 k t284 t310 (t310 != t284) a0_0 a0_1 l0_2 a0_3 a0_4 l0_5 a1_0 a1_1 a1_2 t274 t275 t276 t279 t280 t281 t286 t287 t288 t291 t292 t293 t300 t301 t302 t305 t306 t307) else (none))) = some r := H
 have A15 := Aside0.mk A150
 clear A150
 have HC16 := Aside0.mk H
 clear H
 go_enter Try.func7, Try.ntmps7
 try go_wp2_with (first | ((with_reducible refine gate_dst (N := 2) rfl ?_); refine box_event rfl (N := 2) rfl (cs := #[.int .i64 a0_0, .int .i64 a0_1, .slice A0_2 l0_2.length c0_2, .int .i64 a0_3, .int .i64 a0_4, .slice A0_5 l0_5.length c0_5]) (t := 30) gs_ ?_; intro gb258 hg w17 hbox hb; have BK258 := Aside0.mk (hbox); have GW258 := Aside0.mk ((by rw [hg]; exact bz_ : w.heap.size ≤ gb258)); have GE258 := GW258; replace HB := Aside0.mk (below_step bl_ hb); clear hb hbox hg) | ((with_reducible refine gate_dst (N := 3) rfl ?_); refine box_event rfl (N := 3) rfl (cs := #[.int .i64 a1_0, .int .i64 a1_1, .int .i64 a1_2]) (t := 43) gs_ ?_; intro gb259 hg w18 hbox hb; have BK259 := Aside0.mk (hbox); have GW259 := Aside0.mk ((by rw [hg]; exact bz_ : w.heap.size ≤ gb259)); have GE259 := GW259; replace HB := Aside0.mk (below_step bl_ hb); have NB258_259 := nl_ hg BK258; have NB259_258 := nm_ hg BK258; replace BK258 := bb_ BK258 hb; clear hb hbox hg; have hnb19 := NB258_259.out; have hnc19 := NB259_258.out; have hcz20_0 : w18.cell? ⟨gb258, 0, none⟩ = some (.int .i64 a0_0) := bc_ BK258.out 0; have hcz20_1 : w18.cell? ⟨gb258, 1, none⟩ = some (.int .i64 a0_1) := bc_ BK258.out 1; have hcz20_2 : w18.cell? ⟨gb258, 2, none⟩ = some (.slice A0_2 l0_2.length c0_2) := bc_ BK258.out 2; have hcz20_3 : w18.cell? ⟨gb258, 3, none⟩ = some (.int .i64 a0_3) := bc_ BK258.out 3; have hcz20_4 : w18.cell? ⟨gb258, 4, none⟩ = some (.int .i64 a0_4) := bc_ BK258.out 4; have hcz20_5 : w18.cell? ⟨gb258, 5, none⟩ = some (.slice A0_5 l0_5.length c0_5) := bc_ BK258.out 5; have hfz20_0 := blk_frozen BK258.out 0; have hfz20_1 := blk_frozen BK258.out 1; have hfz20_2 := blk_frozen BK258.out 2; have hfz20_3 := blk_frozen BK258.out 3; have hfz20_4 := blk_frozen BK258.out 4; have hfz20_5 := blk_frozen BK258.out 5) | ((with_reducible refine gate_callee (f := 17) rfl ?_); refine goesL_ (some 18) rfl rfl Try.func17 (by kernel_rfl) rfl #[.agg #[.int .i64 a0_0, .int .i64 a0_1, .slice A0_2 l0_2.length c0_2, .int .i64 a0_3, .int .i64 a0_4, .slice A0_5 l0_5.length c0_5], .int .i64 1048576] rfl nc_ ?_; (with_reducible refine (laws_szLeases.calls a0_0 a0_1 _ _ l0_2 a0_3 a0_4 _ _ l0_5 1048576 t260 _ ?side1 ?side2 ?side3 ?side4 A3.out).mono ?_); (case side1 => exact kc_ (Kd.C_below HR0_2.out HB.out)); (case side2 => exact HC0_2.out); (case side3 => exact kc_ (Kd.C_below HR0_5.out HB.out)); (case side4 => exact HC0_5.out); rintro e w21 ⟨rfl, hb⟩; refine ⟨_, rfl, ?_⟩; replace BK258 := bb_ BK258 hb; replace BK259 := bb_ BK259 hb; replace HB := Aside0.mk (below_step bl_ hb); clear hb))
 replace BK258 := Aside0.mk (blk_drew BK258.out)
 replace BK259 := Aside0.mk (blk_drew BK259.out)
 replace HB := Aside0.mk (below_drew1 HB.out)
 refine start_ (n := 11) (S := fun w' => w'.cell? ⟨gb258, 0, none⟩ = some (.int .i64 a0_0) ∧ w'.cell? ⟨gb258, 1, none⟩ = some (.int .i64 a0_1) ∧ w'.cell? ⟨gb258, 2, none⟩ = some (.slice A0_2 l0_2.length c0_2) ∧ w'.cell? ⟨gb258, 3, none⟩ = some (.int .i64 a0_3) ∧ w'.cell? ⟨gb258, 4, none⟩ = some (.int .i64 a0_4) ∧ w'.cell? ⟨gb258, 5, none⟩ = some (.slice A0_5 l0_5.length c0_5) ∧ w'.cell? ⟨gb259, 0, none⟩ = some (.int .i64 a1_0) ∧ w'.cell? ⟨gb259, 1, none⟩ = some (.int .i64 a1_1) ∧ w'.cell? ⟨gb259, 2, none⟩ = some (.int .i64 a1_2)) (ds := []) #[false, false, false, false, false, false, false, false, false, false, false] (by kernel_rfl) rfl rfl ⟨bc_ BK258.out 0, bc_ BK258.out 1, bc_ BK258.out 2, bc_ BK258.out 3, bc_ BK258.out 4, bc_ BK258.out 5, bc_ BK259.out 0, bc_ BK259.out 1, bc_ BK259.out 2⟩ (fun hHeld => ?_); refine with_tabW laws_FnExactStepLease.tab5 laws_FnExactStepLease.bits5 (fun HT_ HW_ => ?_)
 generalize w21.drew = w22 at BK258 BK259 HB hHeld ⊢
 refine tk9_ 0 (some 22) (h := ?_)
 refine tk9_ 2 (some 24) (h := ?_)
 refine join_ (σ := Value × Value × Value × Value × Nat) 2 #[true, true, true, true, true, true, true, true, true, false, false] (fun s_ => [(23, .agg #[.int .i64 t261, .int .i64 t262, s_.1, .int .i64 t266, .int .i64 t267, s_.2.1]), (25, .agg #[.int .i64 t271, .int .i64 t272, .int .i64 t273]), (26, .tuple #[.agg #[.int .i64 t274, .int .i64 t275, s_.2.2.1, .int .i64 t279, .int .i64 t280, s_.2.2.2.1], .bool t284]), (6, .pointer (some ⟨s_.2.2.2.2, 0, none⟩)), (21, .tuple #[.agg #[.int .i64 t274, .int .i64 t275, s_.2.2.1, .int .i64 t279, .int .i64 t280, s_.2.2.2.1], .bool t284]), (27, .agg #[.int .i64 t274, .int .i64 t275, s_.2.2.1, .int .i64 t279, .int .i64 t280, s_.2.2.2.1]), (28, .bool t284)]) (fun s_ w' => (w'.cell? ⟨gb258, 0, none⟩ = some (.int .i64 a0_0) ∧ w'.cell? ⟨gb258, 1, none⟩ = some (.int .i64 a0_1) ∧ w'.cell? ⟨gb258, 2, none⟩ = some (.slice A0_2 l0_2.length c0_2) ∧ w'.cell? ⟨gb258, 3, none⟩ = some (.int .i64 a0_3) ∧ w'.cell? ⟨gb258, 4, none⟩ = some (.int .i64 a0_4) ∧ w'.cell? ⟨gb258, 5, none⟩ = some (.slice A0_5 l0_5.length c0_5) ∧ w'.cell? ⟨gb259, 0, none⟩ = some (.int .i64 a1_0) ∧ w'.cell? ⟨gb259, 1, none⟩ = some (.int .i64 a1_1) ∧ w'.cell? ⟨gb259, 2, none⟩ = some (.int .i64 a1_2)) ∧ (Kd.R (Kd.int .i64) 3 w' w.heap.size (fun k_ => some k_ ≠ (s_.2.1 : Value).ownBlock ∧ some k_ ≠ (s_.2.2.1 : Value).ownBlock ∧ some k_ ≠ (s_.2.2.2.1 : Value).ownBlock) s_.1 t263) ∧ (Kd.R (Kd.int .i64) 3 w' w.heap.size (fun k_ => some k_ ≠ (s_.1 : Value).ownBlock ∧ some k_ ≠ (s_.2.2.1 : Value).ownBlock ∧ some k_ ≠ (s_.2.2.2.1 : Value).ownBlock) s_.2.1 t268) ∧ (Kd.R (Kd.int .i64) 3 w' w.heap.size (fun k_ => some k_ ≠ (s_.1 : Value).ownBlock ∧ some k_ ≠ (s_.2.1 : Value).ownBlock ∧ some k_ ≠ (s_.2.2.2.1 : Value).ownBlock) s_.2.2.1 t276) ∧ (Kd.R (Kd.int .i64) 3 w' w.heap.size (fun k_ => some k_ ≠ (s_.1 : Value).ownBlock ∧ some k_ ≠ (s_.2.1 : Value).ownBlock ∧ some k_ ≠ (s_.2.2.1 : Value).ownBlock) s_.2.2.2.1 t281) ∧ (w'.heap[gb258]? = some (.cells #[.int .i64 a0_0, .int .i64 a0_1, .slice A0_2 l0_2.length c0_2, .int .i64 a0_3, .int .i64 a0_4, .slice A0_5 l0_5.length c0_5] 30 (0, 0))) ∧ (w'.heap[gb259]? = some (.cells #[.int .i64 a1_0, .int .i64 a1_1, .int .i64 a1_2] 43 (0, 0))) ∧ (w'.heap[s_.2.2.2.2]? = some (.cells #[.int .i64 0, .int .i64 0, .slice none 0 0, .int .i64 0, .int .i64 0, .slice none 0 0] 24 (0, 0))) ∧ (w.heap.size ≤ s_.2.2.2.2) ∧ (w.heap.size ≤ s_.2.2.2.2) ∧ (gb258 ≠ s_.2.2.2.2) ∧ (s_.2.2.2.2 ≠ gb258) ∧ (gb259 ≠ s_.2.2.2.2) ∧ (s_.2.2.2.2 ≠ gb259) ∧ (Below w.heap.size w w')) ?_ ?_
 rotate_left
 ·intro hCont
  refine tw_ 1 8 (some 23) (some 6) (h1 := fun K hK => ?_) (h2 := fun K hK => ?_)
  ·skip
   refine goes_ Try.func19 (by kernel_rfl) rfl #[.agg #[.int .i64 a0_0, .int .i64 a0_1, .slice A0_2 l0_2.length c0_2, .int .i64 a0_3, .int .i64 a0_4, .slice A0_5 l0_5.length c0_5]] (by rfl) rfl rfl nc_ ?_
   with_reducible refine (laws_toLeases.calls k a0_0 a0_1 _ _ l0_2 a0_3 a0_4 _ _ l0_5 t261 t262 t263 t266 t267 t268 _ ?side1 ?side2 ?side3 ?side4 A10.out).mono ?_
   (case side1 => exact kc_ (Kd.C_below HR0_2.out HB.out))
   (case side2 => exact HC0_2.out)
   (case side3 => exact kc_ (Kd.C_below HR0_5.out HB.out))
   (case side4 => exact HC0_5.out)
   rintro e w23 ⟨v264, v269, rfl, ho0, ho1, hb⟩
   refine ⟨_, rfl, ?_⟩
   have HO265 := Aside0.mk (Kd.R_lower ho0 bz_)
   have HO270 := Aside0.mk (Kd.R_lower ho1 bz_)
   replace BK258 := bb_ BK258 hb
   replace BK259 := bb_ BK259 hb
   replace HB := Aside0.mk (below_step bl_ hb)
   clear hb ho0 ho1
   refine hK.out _ _ ⟨bc_ BK258.out 0, bc_ BK258.out 1, bc_ BK258.out 2, bc_ BK258.out 3, bc_ BK258.out 4, bc_ BK258.out 5, bc_ BK259.out 0, bc_ BK259.out 1, bc_ BK259.out 2⟩ (fun hHeld => ?_)
   clear hK K
   refine norm_ nn_ ?_
   refine tw_ 3 8 (some 25) (some 6) (h1 := fun K hK => ?_) (h2 := fun K hK => ?_)
   ·skip
    refine goes_ Try.func29 (by kernel_rfl) rfl #[.agg #[.int .i64 a1_0, .int .i64 a1_1, .int .i64 a1_2]] (by rfl) rfl rfl nc_ ?_
    with_reducible refine (laws_toLeaseStep.calls a1_0 a1_1 a1_2 t271 t272 t273 _ A11.out).mono ?_
    rintro e w24 ⟨rfl, hb⟩
    refine ⟨_, rfl, ?_⟩
    replace HO265 := rb_ HO265 hb
    replace HO270 := rb_ HO270 hb
    replace BK258 := bb_ BK258 hb
    replace BK259 := bb_ BK259 hb
    replace HB := Aside0.mk (below_step bl_ hb)
    clear hb
    obtain ⟨Ao25, co25, eo25⟩ := Kd.R_slice HO265.out
    (first | subst eo25 | (injection eo25 with f1_ f2_ f3_; have f4_ := f1_.symm; have f5_ := f3_.symm; clear f1_ f2_ f3_; subst f4_; subst f5_))
    obtain ⟨Ao26, co26, eo26⟩ := Kd.R_slice HO270.out
    (first | subst eo26 | (injection eo26 with f1_ f2_ f3_; have f4_ := f1_.symm; have f5_ := f3_.symm; clear f1_ f2_ f3_; subst f4_; subst f5_))
    refine hK.out _ _ ⟨bc_ BK258.out 0, bc_ BK258.out 1, bc_ BK258.out 2, bc_ BK258.out 3, bc_ BK258.out 4, bc_ BK258.out 5, bc_ BK259.out 0, bc_ BK259.out 1, bc_ BK259.out 2⟩ (fun hHeld => ?_)
    clear hK K
    refine norm_ nn_ ?_
    refine tw_ 4 8 (some 26) (some 6) (h1 := fun K hK => ?_) (h2 := fun K hK => ?_)
    ·skip
     refine goes_ Try.func28 (by kernel_rfl) rfl #[.agg #[.int .i64 t261, .int .i64 t262, .slice Ao25 t263.length co25, .int .i64 t266, .int .i64 t267, .slice Ao26 t268.length co26], .agg #[.int .i64 t271, .int .i64 t272, .int .i64 t273]] (by rfl) rfl rfl nc_ ?_
     with_reducible refine (spec_StepLease.calls k t261 t262 _ _ t263 t266 t267 _ _ t268 t271 t272 t273 t274 t275 t276 t279 t280 t281 t284 _ ?side1 ?side2 ?side3 ?side4 A12.out).mono ?_
     (case side1 => exact kc_ (Kd.R_reads' HO265.out).2.2)
     (case side2 => exact (Kd.R_reads' HO265.out).2.1)
     (case side3 => exact kc_ (Kd.R_reads' HO270.out).2.2)
     (case side4 => exact (Kd.R_reads' HO270.out).2.1)
     rintro e w27 ⟨v277, v282, rfl, ho0, ho1, hb⟩
     refine ⟨_, rfl, ?_⟩
     have HO278 := Aside0.mk (Kd.R_lower (rn_ (rn_ ho0 HO265.out) HO270.out) bz_)
     have HO283 := Aside0.mk (Kd.R_lower (rn_ (rn_ ho1 HO265.out) HO270.out) bz_)
     replace HO265 := rp2_ HO265 hb ho0 ho1
     replace HO270 := rp2_ HO270 hb ho0 ho1
     replace BK258 := bb_ BK258 hb
     replace BK259 := bb_ BK259 hb
     replace HB := Aside0.mk (below_step bl_ hb)
     clear hb ho0 ho1
     refine hK.out _ _ ⟨bc_ BK258.out 0, bc_ BK258.out 1, bc_ BK258.out 2, bc_ BK258.out 3, bc_ BK258.out 4, bc_ BK258.out 5, bc_ BK259.out 0, bc_ BK259.out 1, bc_ BK259.out 2⟩ (fun hHeld => ?_)
     clear hK K
     refine norm_ nn_ ?_
     refine pu_ 5 (some 21) (h := ?_)
     refine pu_ 6 (some 27) (h := ?_)
     refine pu_ 7 (some 28) (h := ?_)
     refine on_ 8 (some 6) (h := fun K hK => ?_)
     refine box_step rfl (N := 6) rfl (cs := #[.int .i64 0, .int .i64 0, .slice none 0 0, .int .i64 0, .int .i64 0, .slice none 0 0]) (t := 24) gs_ ?_
     intro gb285 hg w28 hbox hb
     replace HO265 := rb_ HO265 hb
     replace HO270 := rb_ HO270 hb
     replace HO278 := rb_ HO278 hb
     replace HO283 := rb_ HO283 hb
     have BK285 := Aside0.mk (hbox)
     have GW285 := Aside0.mk ((by rw [hg]; exact bz_ : w.heap.size ≤ gb285))
     have GE285 := GW285
     replace HB := Aside0.mk (below_step bl_ hb)
     have NB258_285 := nl_ hg BK258
     have NB285_258 := nm_ hg BK258
     replace BK258 := bb_ BK258 hb
     have NB259_285 := nl_ hg BK259
     have NB285_259 := nm_ hg BK259
     replace BK259 := bb_ BK259 hb
     clear hb hbox hg
     refine hK.out _ _ ⟨bc_ BK258.out 0, bc_ BK258.out 1, bc_ BK258.out 2, bc_ BK258.out 3, bc_ BK258.out 4, bc_ BK258.out 5, bc_ BK259.out 0, bc_ BK259.out 1, bc_ BK259.out 2⟩ (fun hHeld => ?_)
     clear hK K
     refine norm_ nn_ ?_
     exact norm_ (by simp only [putAll, Act.put, List.setIfInBounds_toArray, List.set_cons_zero, List.set_cons_succ]) (hCont (.slice Ao25 t263.length co25, .slice Ao26 t268.length co26, v277, v282, gb285) _ ⟨hHeld, kp_ HO265.out, kp_ HO270.out, kp_ HO278.out, kp_ HO283.out, kb_ BK258.out, kb_ BK259.out, kb_ BK285.out, GW285.out, GE285.out, NB258_285.out, NB285_258.out, NB259_285.out, NB285_259.out, bl_⟩)
    ·skip
     refine box_step rfl (N := 6) rfl (cs := #[.int .i64 0, .int .i64 0, .slice none 0 0, .int .i64 0, .int .i64 0, .slice none 0 0]) (t := 24) gs_ ?_
     intro gb285 hg w25 hbox hb
     replace HO265 := rb_ HO265 hb
     replace HO270 := rb_ HO270 hb
     have BK285 := Aside0.mk (hbox)
     have GW285 := Aside0.mk ((by rw [hg]; exact bz_ : w.heap.size ≤ gb285))
     have GE285 := GW285
     replace HB := Aside0.mk (below_step bl_ hb)
     have NB258_285 := nl_ hg BK258
     have NB285_258 := nm_ hg BK258
     replace BK258 := bb_ BK258 hb
     have NB259_285 := nl_ hg BK259
     have NB285_259 := nm_ hg BK259
     replace BK259 := bb_ BK259 hb
     clear hb hbox hg
     obtain ⟨Ao26, co26, eo26⟩ := Kd.R_slice HO265.out
     (first | subst eo26 | (injection eo26 with f1_ f2_ f3_; have f4_ := f1_.symm; have f5_ := f3_.symm; clear f1_ f2_ f3_; subst f4_; subst f5_))
     obtain ⟨Ao27, co27, eo27⟩ := Kd.R_slice HO270.out
     (first | subst eo27 | (injection eo27 with f1_ f2_ f3_; have f4_ := f1_.symm; have f5_ := f3_.symm; clear f1_ f2_ f3_; subst f4_; subst f5_))
     refine hK.out _ _ ⟨bc_ BK258.out 0, bc_ BK258.out 1, bc_ BK258.out 2, bc_ BK258.out 3, bc_ BK258.out 4, bc_ BK258.out 5, bc_ BK259.out 0, bc_ BK259.out 1, bc_ BK259.out 2⟩ (fun hHeld => ?_)
     clear hK K
     refine norm_ nn_ ?_
     refine on_ 4 (some 26) (h := fun K hK => ?_)
     refine goes_ Try.func28 (by kernel_rfl) rfl #[.agg #[.int .i64 t261, .int .i64 t262, .slice Ao26 t263.length co26, .int .i64 t266, .int .i64 t267, .slice Ao27 t268.length co27], .agg #[.int .i64 t271, .int .i64 t272, .int .i64 t273]] (by rfl) rfl rfl nc_ ?_
     with_reducible refine (spec_StepLease.calls k t261 t262 _ _ t263 t266 t267 _ _ t268 t271 t272 t273 t274 t275 t276 t279 t280 t281 t284 _ ?side1 ?side2 ?side3 ?side4 A12.out).mono ?_
     (case side1 => exact kc_ (Kd.R_reads' HO265.out).2.2)
     (case side2 => exact (Kd.R_reads' HO265.out).2.1)
     (case side3 => exact kc_ (Kd.R_reads' HO270.out).2.2)
     (case side4 => exact (Kd.R_reads' HO270.out).2.1)
     rintro e w28 ⟨v277, v282, rfl, ho0, ho1, hb⟩
     refine ⟨_, rfl, ?_⟩
     have HO278 := Aside0.mk (Kd.R_lower (rn_ (rn_ ho0 HO265.out) HO270.out) bz_)
     have HO283 := Aside0.mk (Kd.R_lower (rn_ (rn_ ho1 HO265.out) HO270.out) bz_)
     replace HO265 := rp2_ HO265 hb ho0 ho1
     replace HO270 := rp2_ HO270 hb ho0 ho1
     replace BK258 := bb_ BK258 hb
     replace BK259 := bb_ BK259 hb
     replace BK285 := bb_ BK285 hb
     replace HB := Aside0.mk (below_step bl_ hb)
     clear hb ho0 ho1
     refine hK.out _ _ ⟨bc_ BK258.out 0, bc_ BK258.out 1, bc_ BK258.out 2, bc_ BK258.out 3, bc_ BK258.out 4, bc_ BK258.out 5, bc_ BK259.out 0, bc_ BK259.out 1, bc_ BK259.out 2⟩ (fun hHeld => ?_)
     clear hK K
     refine norm_ nn_ ?_
     refine pu_ 5 (some 21) (h := ?_)
     refine pu_ 6 (some 27) (h := ?_)
     refine pu_ 7 (some 28) (h := ?_)
     exact norm_ (by simp only [putAll, Act.put, List.setIfInBounds_toArray, List.set_cons_zero, List.set_cons_succ]) (hCont (.slice Ao26 t263.length co26, .slice Ao27 t268.length co27, v277, v282, gb285) _ ⟨hHeld, kp_ HO265.out, kp_ HO270.out, kp_ HO278.out, kp_ HO283.out, kb_ BK258.out, kb_ BK259.out, kb_ BK285.out, GW285.out, GE285.out, NB258_285.out, NB285_258.out, NB259_285.out, NB285_259.out, bl_⟩)
   ·skip
    refine box_step rfl (N := 6) rfl (cs := #[.int .i64 0, .int .i64 0, .slice none 0 0, .int .i64 0, .int .i64 0, .slice none 0 0]) (t := 24) gs_ ?_
    intro gb285 hg w24 hbox hb
    replace HO265 := rb_ HO265 hb
    replace HO270 := rb_ HO270 hb
    have BK285 := Aside0.mk (hbox)
    have GW285 := Aside0.mk ((by rw [hg]; exact bz_ : w.heap.size ≤ gb285))
    have GE285 := GW285
    replace HB := Aside0.mk (below_step bl_ hb)
    have NB258_285 := nl_ hg BK258
    have NB285_258 := nm_ hg BK258
    replace BK258 := bb_ BK258 hb
    have NB259_285 := nl_ hg BK259
    have NB285_259 := nm_ hg BK259
    replace BK259 := bb_ BK259 hb
    clear hb hbox hg
    refine hK.out _ _ ⟨bc_ BK258.out 0, bc_ BK258.out 1, bc_ BK258.out 2, bc_ BK258.out 3, bc_ BK258.out 4, bc_ BK258.out 5, bc_ BK259.out 0, bc_ BK259.out 1, bc_ BK259.out 2⟩ (fun hHeld => ?_)
    clear hK K
    refine norm_ nn_ ?_
    refine on_ 3 (some 25) (h := fun K hK => ?_)
    refine goes_ Try.func29 (by kernel_rfl) rfl #[.agg #[.int .i64 a1_0, .int .i64 a1_1, .int .i64 a1_2]] (by rfl) rfl rfl nc_ ?_
    with_reducible refine (laws_toLeaseStep.calls a1_0 a1_1 a1_2 t271 t272 t273 _ A11.out).mono ?_
    rintro e w25 ⟨rfl, hb⟩
    refine ⟨_, rfl, ?_⟩
    replace HO265 := rb_ HO265 hb
    replace HO270 := rb_ HO270 hb
    replace BK258 := bb_ BK258 hb
    replace BK259 := bb_ BK259 hb
    replace BK285 := bb_ BK285 hb
    replace HB := Aside0.mk (below_step bl_ hb)
    clear hb
    obtain ⟨Ao26, co26, eo26⟩ := Kd.R_slice HO265.out
    (first | subst eo26 | (injection eo26 with f1_ f2_ f3_; have f4_ := f1_.symm; have f5_ := f3_.symm; clear f1_ f2_ f3_; subst f4_; subst f5_))
    obtain ⟨Ao27, co27, eo27⟩ := Kd.R_slice HO270.out
    (first | subst eo27 | (injection eo27 with f1_ f2_ f3_; have f4_ := f1_.symm; have f5_ := f3_.symm; clear f1_ f2_ f3_; subst f4_; subst f5_))
    refine hK.out _ _ ⟨bc_ BK258.out 0, bc_ BK258.out 1, bc_ BK258.out 2, bc_ BK258.out 3, bc_ BK258.out 4, bc_ BK258.out 5, bc_ BK259.out 0, bc_ BK259.out 1, bc_ BK259.out 2⟩ (fun hHeld => ?_)
    clear hK K
    refine norm_ nn_ ?_
    refine on_ 4 (some 26) (h := fun K hK => ?_)
    refine goes_ Try.func28 (by kernel_rfl) rfl #[.agg #[.int .i64 t261, .int .i64 t262, .slice Ao26 t263.length co26, .int .i64 t266, .int .i64 t267, .slice Ao27 t268.length co27], .agg #[.int .i64 t271, .int .i64 t272, .int .i64 t273]] (by rfl) rfl rfl nc_ ?_
    with_reducible refine (spec_StepLease.calls k t261 t262 _ _ t263 t266 t267 _ _ t268 t271 t272 t273 t274 t275 t276 t279 t280 t281 t284 _ ?side1 ?side2 ?side3 ?side4 A12.out).mono ?_
    (case side1 => exact kc_ (Kd.R_reads' HO265.out).2.2)
    (case side2 => exact (Kd.R_reads' HO265.out).2.1)
    (case side3 => exact kc_ (Kd.R_reads' HO270.out).2.2)
    (case side4 => exact (Kd.R_reads' HO270.out).2.1)
    rintro e w28 ⟨v277, v282, rfl, ho0, ho1, hb⟩
    refine ⟨_, rfl, ?_⟩
    have HO278 := Aside0.mk (Kd.R_lower (rn_ (rn_ ho0 HO265.out) HO270.out) bz_)
    have HO283 := Aside0.mk (Kd.R_lower (rn_ (rn_ ho1 HO265.out) HO270.out) bz_)
    replace HO265 := rp2_ HO265 hb ho0 ho1
    replace HO270 := rp2_ HO270 hb ho0 ho1
    replace BK258 := bb_ BK258 hb
    replace BK259 := bb_ BK259 hb
    replace BK285 := bb_ BK285 hb
    replace HB := Aside0.mk (below_step bl_ hb)
    clear hb ho0 ho1
    refine hK.out _ _ ⟨bc_ BK258.out 0, bc_ BK258.out 1, bc_ BK258.out 2, bc_ BK258.out 3, bc_ BK258.out 4, bc_ BK258.out 5, bc_ BK259.out 0, bc_ BK259.out 1, bc_ BK259.out 2⟩ (fun hHeld => ?_)
    clear hK K
    refine norm_ nn_ ?_
    refine pu_ 5 (some 21) (h := ?_)
    refine pu_ 6 (some 27) (h := ?_)
    refine pu_ 7 (some 28) (h := ?_)
    exact norm_ (by simp only [putAll, Act.put, List.setIfInBounds_toArray, List.set_cons_zero, List.set_cons_succ]) (hCont (.slice Ao26 t263.length co26, .slice Ao27 t268.length co27, v277, v282, gb285) _ ⟨hHeld, kp_ HO265.out, kp_ HO270.out, kp_ HO278.out, kp_ HO283.out, kb_ BK258.out, kb_ BK259.out, kb_ BK285.out, GW285.out, GE285.out, NB258_285.out, NB285_258.out, NB259_285.out, NB285_259.out, bl_⟩)
  ·skip
   refine box_step rfl (N := 6) rfl (cs := #[.int .i64 0, .int .i64 0, .slice none 0 0, .int .i64 0, .int .i64 0, .slice none 0 0]) (t := 24) gs_ ?_
   intro gb285 hg w23 hbox hb
   have BK285 := Aside0.mk (hbox)
   have GW285 := Aside0.mk ((by rw [hg]; exact bz_ : w.heap.size ≤ gb285))
   have GE285 := GW285
   replace HB := Aside0.mk (below_step bl_ hb)
   have NB258_285 := nl_ hg BK258
   have NB285_258 := nm_ hg BK258
   replace BK258 := bb_ BK258 hb
   have NB259_285 := nl_ hg BK259
   have NB285_259 := nm_ hg BK259
   replace BK259 := bb_ BK259 hb
   clear hb hbox hg
   refine hK.out _ _ ⟨bc_ BK258.out 0, bc_ BK258.out 1, bc_ BK258.out 2, bc_ BK258.out 3, bc_ BK258.out 4, bc_ BK258.out 5, bc_ BK259.out 0, bc_ BK259.out 1, bc_ BK259.out 2⟩ (fun hHeld => ?_)
   clear hK K
   refine norm_ nn_ ?_
   refine on_ 1 (some 23) (h := fun K hK => ?_)
   refine goes_ Try.func19 (by kernel_rfl) rfl #[.agg #[.int .i64 a0_0, .int .i64 a0_1, .slice A0_2 l0_2.length c0_2, .int .i64 a0_3, .int .i64 a0_4, .slice A0_5 l0_5.length c0_5]] (by rfl) rfl rfl nc_ ?_
   with_reducible refine (laws_toLeases.calls k a0_0 a0_1 _ _ l0_2 a0_3 a0_4 _ _ l0_5 t261 t262 t263 t266 t267 t268 _ ?side1 ?side2 ?side3 ?side4 A10.out).mono ?_
   (case side1 => exact kc_ (Kd.C_below HR0_2.out HB.out))
   (case side2 => exact HC0_2.out)
   (case side3 => exact kc_ (Kd.C_below HR0_5.out HB.out))
   (case side4 => exact HC0_5.out)
   rintro e w24 ⟨v264, v269, rfl, ho0, ho1, hb⟩
   refine ⟨_, rfl, ?_⟩
   have HO265 := Aside0.mk (Kd.R_lower ho0 bz_)
   have HO270 := Aside0.mk (Kd.R_lower ho1 bz_)
   replace BK258 := bb_ BK258 hb
   replace BK259 := bb_ BK259 hb
   replace BK285 := bb_ BK285 hb
   replace HB := Aside0.mk (below_step bl_ hb)
   clear hb ho0 ho1
   refine hK.out _ _ ⟨bc_ BK258.out 0, bc_ BK258.out 1, bc_ BK258.out 2, bc_ BK258.out 3, bc_ BK258.out 4, bc_ BK258.out 5, bc_ BK259.out 0, bc_ BK259.out 1, bc_ BK259.out 2⟩ (fun hHeld => ?_)
   clear hK K
   refine norm_ nn_ ?_
   refine on_ 3 (some 25) (h := fun K hK => ?_)
   refine goes_ Try.func29 (by kernel_rfl) rfl #[.agg #[.int .i64 a1_0, .int .i64 a1_1, .int .i64 a1_2]] (by rfl) rfl rfl nc_ ?_
   with_reducible refine (laws_toLeaseStep.calls a1_0 a1_1 a1_2 t271 t272 t273 _ A11.out).mono ?_
   rintro e w25 ⟨rfl, hb⟩
   refine ⟨_, rfl, ?_⟩
   replace HO265 := rb_ HO265 hb
   replace HO270 := rb_ HO270 hb
   replace BK258 := bb_ BK258 hb
   replace BK259 := bb_ BK259 hb
   replace BK285 := bb_ BK285 hb
   replace HB := Aside0.mk (below_step bl_ hb)
   clear hb
   obtain ⟨Ao26, co26, eo26⟩ := Kd.R_slice HO265.out
   (first | subst eo26 | (injection eo26 with f1_ f2_ f3_; have f4_ := f1_.symm; have f5_ := f3_.symm; clear f1_ f2_ f3_; subst f4_; subst f5_))
   obtain ⟨Ao27, co27, eo27⟩ := Kd.R_slice HO270.out
   (first | subst eo27 | (injection eo27 with f1_ f2_ f3_; have f4_ := f1_.symm; have f5_ := f3_.symm; clear f1_ f2_ f3_; subst f4_; subst f5_))
   refine hK.out _ _ ⟨bc_ BK258.out 0, bc_ BK258.out 1, bc_ BK258.out 2, bc_ BK258.out 3, bc_ BK258.out 4, bc_ BK258.out 5, bc_ BK259.out 0, bc_ BK259.out 1, bc_ BK259.out 2⟩ (fun hHeld => ?_)
   clear hK K
   refine norm_ nn_ ?_
   refine on_ 4 (some 26) (h := fun K hK => ?_)
   refine goes_ Try.func28 (by kernel_rfl) rfl #[.agg #[.int .i64 t261, .int .i64 t262, .slice Ao26 t263.length co26, .int .i64 t266, .int .i64 t267, .slice Ao27 t268.length co27], .agg #[.int .i64 t271, .int .i64 t272, .int .i64 t273]] (by rfl) rfl rfl nc_ ?_
   with_reducible refine (spec_StepLease.calls k t261 t262 _ _ t263 t266 t267 _ _ t268 t271 t272 t273 t274 t275 t276 t279 t280 t281 t284 _ ?side1 ?side2 ?side3 ?side4 A12.out).mono ?_
   (case side1 => exact kc_ (Kd.R_reads' HO265.out).2.2)
   (case side2 => exact (Kd.R_reads' HO265.out).2.1)
   (case side3 => exact kc_ (Kd.R_reads' HO270.out).2.2)
   (case side4 => exact (Kd.R_reads' HO270.out).2.1)
   rintro e w28 ⟨v277, v282, rfl, ho0, ho1, hb⟩
   refine ⟨_, rfl, ?_⟩
   have HO278 := Aside0.mk (Kd.R_lower (rn_ (rn_ ho0 HO265.out) HO270.out) bz_)
   have HO283 := Aside0.mk (Kd.R_lower (rn_ (rn_ ho1 HO265.out) HO270.out) bz_)
   replace HO265 := rp2_ HO265 hb ho0 ho1
   replace HO270 := rp2_ HO270 hb ho0 ho1
   replace BK258 := bb_ BK258 hb
   replace BK259 := bb_ BK259 hb
   replace BK285 := bb_ BK285 hb
   replace HB := Aside0.mk (below_step bl_ hb)
   clear hb ho0 ho1
   refine hK.out _ _ ⟨bc_ BK258.out 0, bc_ BK258.out 1, bc_ BK258.out 2, bc_ BK258.out 3, bc_ BK258.out 4, bc_ BK258.out 5, bc_ BK259.out 0, bc_ BK259.out 1, bc_ BK259.out 2⟩ (fun hHeld => ?_)
   clear hK K
   refine norm_ nn_ ?_
   refine pu_ 5 (some 21) (h := ?_)
   refine pu_ 6 (some 27) (h := ?_)
   refine pu_ 7 (some 28) (h := ?_)
   exact norm_ (by simp only [putAll, Act.put, List.setIfInBounds_toArray, List.set_cons_zero, List.set_cons_succ]) (hCont (.slice Ao26 t263.length co26, .slice Ao27 t268.length co27, v277, v282, gb285) _ ⟨hHeld, kp_ HO265.out, kp_ HO270.out, kp_ HO278.out, kp_ HO283.out, kb_ BK258.out, kb_ BK259.out, kb_ BK285.out, GW285.out, GE285.out, NB258_285.out, NB285_258.out, NB259_285.out, NB285_259.out, bl_⟩)
 rintro ⟨v264, v269, v277, v282, gb285⟩ w29 ⟨hS_, h0_, h1_, h2_, h3_, h4_, h5_, h6_, h7_, h8_, h9_, h10_, h11_, h12_, h13_⟩
 dsimp only at h0_ h1_ h2_ h3_ h4_ h5_ h6_ h7_ h8_ h9_ h10_ h11_ h12_ h13_
 have HO265 := Aside0.mk h0_
 have HO270 := Aside0.mk h1_
 have HO278 := Aside0.mk h2_
 have HO283 := Aside0.mk h3_
 replace BK258 := Aside0.mk h4_
 replace BK259 := Aside0.mk h5_
 have BK285 := Aside0.mk h6_
 have GW285 := Aside0.mk h7_
 have GE285 := Aside0.mk h8_
 have NB258_285 := Aside0.mk h9_
 have NB285_258 := Aside0.mk h10_
 have NB259_285 := Aside0.mk h11_
 have NB285_259 := Aside0.mk h12_
 replace HB := Aside0.mk h13_
 clear h0_ h1_ h2_ h3_ h4_ h5_ h6_ h7_ h8_ h9_ h10_ h11_ h12_ h13_
 try dsimp only at hS_
 have hHeld := hS_
 obtain ⟨Ao32, co32, eo32⟩ := Kd.R_slice HO278.out
 (first | subst eo32 | (injection eo32 with f1_ f2_ f3_; have f4_ := f1_.symm; have f5_ := f3_.symm; clear f1_ f2_ f3_; subst f4_; subst f5_))
 obtain ⟨Ao36, co36, eo36⟩ := Kd.R_slice HO283.out
 (first | subst eo36 | (injection eo36 with f1_ f2_ f3_; have f4_ := f1_.symm; have f5_ := f3_.symm; clear f1_ f2_ f3_; subst f4_; subst f5_))
 refine norm_ np_ ?_
 refine on_ 9 none (h := fun K hK => ?_)
 have hs30 : w29.cell? ⟨gb285, 0, none⟩ = some (.int .i64 0) := bc_ BK285.out 0
 have hfs30 := blk_frozen BK285.out 0
 have hns30_0 := NB258_285.out
 have hns30_1 := NB259_285.out
 have hms30_0 := NB285_258.out
 have hms30_1 := NB285_259.out
 have hs31 : w29.cell? ⟨gb285, 1, none⟩ = some (.int .i64 0) := bc_ BK285.out 1
 have hfs31 := blk_frozen BK285.out 1
 have hns31_0 := NB258_285.out
 have hns31_1 := NB259_285.out
 have hms31_0 := NB285_258.out
 have hms31_1 := NB285_259.out
 have hs33 : w29.cell? ⟨gb285, 2, none⟩ = some (.slice none 0 0) := bc_ BK285.out 2
 have hfs33 := blk_frozen BK285.out 2
 have hns33_0 := NB258_285.out
 have hns33_1 := NB259_285.out
 have hms33_0 := NB285_258.out
 have hms33_1 := NB285_259.out
 have hs34 : w29.cell? ⟨gb285, 3, none⟩ = some (.int .i64 0) := bc_ BK285.out 3
 have hfs34 := blk_frozen BK285.out 3
 have hns34_0 := NB258_285.out
 have hns34_1 := NB259_285.out
 have hms34_0 := NB285_258.out
 have hms34_1 := NB285_259.out
 have hs35 : w29.cell? ⟨gb285, 4, none⟩ = some (.int .i64 0) := bc_ BK285.out 4
 have hfs35 := blk_frozen BK285.out 4
 have hns35_0 := NB258_285.out
 have hns35_1 := NB259_285.out
 have hms35_0 := NB285_258.out
 have hms35_1 := NB285_259.out
 have hs37 : w29.cell? ⟨gb285, 5, none⟩ = some (.slice none 0 0) := bc_ BK285.out 5
 have hfs37 := blk_frozen BK285.out 5
 have hns37_0 := NB258_285.out
 have hns37_1 := NB259_285.out
 have hms37_0 := NB285_258.out
 have hms37_1 := NB285_259.out
 refine skip_ (w1 := ?_) (by rfl) rfl ?_ ?_
 rotate_left
 ·go_simp
  rfl
 refine hK.out _ _ ⟨((cell_far (p := ⟨gb285, _, none⟩) NB258_285.out _).trans (((cell_far (p := ⟨gb285, _, none⟩) NB258_285.out _).trans (((cell_far (p := ⟨gb285, _, none⟩) NB258_285.out _).trans (((cell_far (p := ⟨gb285, _, none⟩) NB258_285.out _).trans (((cell_far (p := ⟨gb285, _, none⟩) NB258_285.out _).trans (((cell_far (p := ⟨gb285, _, none⟩) NB258_285.out _).trans (hHeld.1)))))))))))), ((cell_far (p := ⟨gb285, _, none⟩) NB258_285.out _).trans (((cell_far (p := ⟨gb285, _, none⟩) NB258_285.out _).trans (((cell_far (p := ⟨gb285, _, none⟩) NB258_285.out _).trans (((cell_far (p := ⟨gb285, _, none⟩) NB258_285.out _).trans (((cell_far (p := ⟨gb285, _, none⟩) NB258_285.out _).trans (((cell_far (p := ⟨gb285, _, none⟩) NB258_285.out _).trans (hHeld.2.1)))))))))))), ((cell_far (p := ⟨gb285, _, none⟩) NB258_285.out _).trans (((cell_far (p := ⟨gb285, _, none⟩) NB258_285.out _).trans (((cell_far (p := ⟨gb285, _, none⟩) NB258_285.out _).trans (((cell_far (p := ⟨gb285, _, none⟩) NB258_285.out _).trans (((cell_far (p := ⟨gb285, _, none⟩) NB258_285.out _).trans (((cell_far (p := ⟨gb285, _, none⟩) NB258_285.out _).trans (hHeld.2.2.1)))))))))))), ((cell_far (p := ⟨gb285, _, none⟩) NB258_285.out _).trans (((cell_far (p := ⟨gb285, _, none⟩) NB258_285.out _).trans (((cell_far (p := ⟨gb285, _, none⟩) NB258_285.out _).trans (((cell_far (p := ⟨gb285, _, none⟩) NB258_285.out _).trans (((cell_far (p := ⟨gb285, _, none⟩) NB258_285.out _).trans (((cell_far (p := ⟨gb285, _, none⟩) NB258_285.out _).trans (hHeld.2.2.2.1)))))))))))), ((cell_far (p := ⟨gb285, _, none⟩) NB258_285.out _).trans (((cell_far (p := ⟨gb285, _, none⟩) NB258_285.out _).trans (((cell_far (p := ⟨gb285, _, none⟩) NB258_285.out _).trans (((cell_far (p := ⟨gb285, _, none⟩) NB258_285.out _).trans (((cell_far (p := ⟨gb285, _, none⟩) NB258_285.out _).trans (((cell_far (p := ⟨gb285, _, none⟩) NB258_285.out _).trans (hHeld.2.2.2.2.1)))))))))))), ((cell_far (p := ⟨gb285, _, none⟩) NB258_285.out _).trans (((cell_far (p := ⟨gb285, _, none⟩) NB258_285.out _).trans (((cell_far (p := ⟨gb285, _, none⟩) NB258_285.out _).trans (((cell_far (p := ⟨gb285, _, none⟩) NB258_285.out _).trans (((cell_far (p := ⟨gb285, _, none⟩) NB258_285.out _).trans (((cell_far (p := ⟨gb285, _, none⟩) NB258_285.out _).trans (hHeld.2.2.2.2.2.1)))))))))))), ((cell_far (p := ⟨gb285, _, none⟩) NB259_285.out _).trans (((cell_far (p := ⟨gb285, _, none⟩) NB259_285.out _).trans (((cell_far (p := ⟨gb285, _, none⟩) NB259_285.out _).trans (((cell_far (p := ⟨gb285, _, none⟩) NB259_285.out _).trans (((cell_far (p := ⟨gb285, _, none⟩) NB259_285.out _).trans (((cell_far (p := ⟨gb285, _, none⟩) NB259_285.out _).trans (hHeld.2.2.2.2.2.2.1)))))))))))), ((cell_far (p := ⟨gb285, _, none⟩) NB259_285.out _).trans (((cell_far (p := ⟨gb285, _, none⟩) NB259_285.out _).trans (((cell_far (p := ⟨gb285, _, none⟩) NB259_285.out _).trans (((cell_far (p := ⟨gb285, _, none⟩) NB259_285.out _).trans (((cell_far (p := ⟨gb285, _, none⟩) NB259_285.out _).trans (((cell_far (p := ⟨gb285, _, none⟩) NB259_285.out _).trans (hHeld.2.2.2.2.2.2.2.1)))))))))))), ((cell_far (p := ⟨gb285, _, none⟩) NB259_285.out _).trans (((cell_far (p := ⟨gb285, _, none⟩) NB259_285.out _).trans (((cell_far (p := ⟨gb285, _, none⟩) NB259_285.out _).trans (((cell_far (p := ⟨gb285, _, none⟩) NB259_285.out _).trans (((cell_far (p := ⟨gb285, _, none⟩) NB259_285.out _).trans (((cell_far (p := ⟨gb285, _, none⟩) NB259_285.out _).trans (hHeld.2.2.2.2.2.2.2.2))))))))))))⟩ (fun hHeld => ?_)
 clear hK K
 refine pu_ 10 (some 7) (h := ?_)
 refine done_ (done_of HT_.out (by kernel_rfl)) ?_
 have hnb38 := NB258_285.out
 have hnc38 := NB285_258.out
 have hcz39_0 : w29.cell? ⟨gb258, 0, none⟩ = some (.int .i64 a0_0) := bc_ BK258.out 0
 have hcz39_1 : w29.cell? ⟨gb258, 1, none⟩ = some (.int .i64 a0_1) := bc_ BK258.out 1
 have hcz39_2 : w29.cell? ⟨gb258, 2, none⟩ = some (.slice A0_2 l0_2.length c0_2) := bc_ BK258.out 2
 have hcz39_3 : w29.cell? ⟨gb258, 3, none⟩ = some (.int .i64 a0_3) := bc_ BK258.out 3
 have hcz39_4 : w29.cell? ⟨gb258, 4, none⟩ = some (.int .i64 a0_4) := bc_ BK258.out 4
 have hcz39_5 : w29.cell? ⟨gb258, 5, none⟩ = some (.slice A0_5 l0_5.length c0_5) := bc_ BK258.out 5
 have hfz39_0 := blk_frozen BK258.out 0
 have hfz39_1 := blk_frozen BK258.out 1
 have hfz39_2 := blk_frozen BK258.out 2
 have hfz39_3 := blk_frozen BK258.out 3
 have hfz39_4 := blk_frozen BK258.out 4
 have hfz39_5 := blk_frozen BK258.out 5
 try go_wp2_with (first | ((with_reducible refine gate_callee (f := 19) rfl ?_); refine goesL_ (some 30) rfl rfl Try.func19 (by kernel_rfl) rfl #[.agg #[.int .i64 a0_0, .int .i64 a0_1, .slice A0_2 l0_2.length c0_2, .int .i64 a0_3, .int .i64 a0_4, .slice A0_5 l0_5.length c0_5]] rfl nc_ ?_; (with_reducible refine (laws_toLeases.calls k a0_0 a0_1 _ _ l0_2 a0_3 a0_4 _ _ l0_5 t286 t287 t288 t291 t292 t293 _ ?side1 ?side2 ?side3 ?side4 A13.out).mono ?_); (case side1 => exact Kd.C_below HR0_2.out bl_); (case side2 => exact HC0_2.out); (case side3 => exact Kd.C_below HR0_5.out bl_); (case side4 => exact HC0_5.out); rintro e w40 ⟨v289, v294, rfl, ho0, ho1, hb⟩; refine ⟨_, rfl, ?_⟩; have HO290 := Aside0.mk (Kd.R_lower (Kd.R_new' (Kd.R_new' (Kd.R_new' (Kd.R_new' ho0 (Kd.R_lt (by exact kr_ ((Kd.R_mono (Kd.R_far (p := ⟨gb285, 5, none⟩) (Kd.R_far (p := ⟨gb285, 4, none⟩) (Kd.R_far (p := ⟨gb285, 3, none⟩) (Kd.R_far (p := ⟨gb285, 2, none⟩) (Kd.R_far (p := ⟨gb285, 1, none⟩) (Kd.R_far (p := ⟨gb285, 0, none⟩) (Kd.R_types HO265.out BK285.out (by decide)) (fun _ hk => hk.2) (.int .i64 t274)) (fun _ hk => hk.2) (.int .i64 t275)) (fun _ hk => hk.2) (.slice Ao32 t276.length co32)) (fun _ hk => hk.2) (.int .i64 t279)) (fun _ hk => hk.2) (.int .i64 t280)) (fun _ hk => hk.2) (.slice Ao36 t281.length co36)) (fun _ h_ => h_.1)))))) (Kd.R_lt (by exact kr_ ((Kd.R_mono (Kd.R_far (p := ⟨gb285, 5, none⟩) (Kd.R_far (p := ⟨gb285, 4, none⟩) (Kd.R_far (p := ⟨gb285, 3, none⟩) (Kd.R_far (p := ⟨gb285, 2, none⟩) (Kd.R_far (p := ⟨gb285, 1, none⟩) (Kd.R_far (p := ⟨gb285, 0, none⟩) (Kd.R_types HO270.out BK285.out (by decide)) (fun _ hk => hk.2) (.int .i64 t274)) (fun _ hk => hk.2) (.int .i64 t275)) (fun _ hk => hk.2) (.slice Ao32 t276.length co32)) (fun _ hk => hk.2) (.int .i64 t279)) (fun _ hk => hk.2) (.int .i64 t280)) (fun _ hk => hk.2) (.slice Ao36 t281.length co36)) (fun _ h_ => h_.1)))))) (Kd.R_lt (by exact kr_ ((Kd.R_mono (Kd.R_far (p := ⟨gb285, 5, none⟩) (Kd.R_far (p := ⟨gb285, 4, none⟩) (Kd.R_far (p := ⟨gb285, 3, none⟩) (Kd.R_far (p := ⟨gb285, 2, none⟩) (Kd.R_far (p := ⟨gb285, 1, none⟩) (Kd.R_far (p := ⟨gb285, 0, none⟩) (Kd.R_types HO278.out BK285.out (by decide)) (fun _ hk => hk.2) (.int .i64 t274)) (fun _ hk => hk.2) (.int .i64 t275)) (fun _ hk => hk.2) (.slice Ao32 t276.length co32)) (fun _ hk => hk.2) (.int .i64 t279)) (fun _ hk => hk.2) (.int .i64 t280)) (fun _ hk => hk.2) (.slice Ao36 t281.length co36)) (fun _ h_ => h_.1)))))) (Kd.R_lt (by exact kr_ ((Kd.R_mono (Kd.R_far (p := ⟨gb285, 5, none⟩) (Kd.R_far (p := ⟨gb285, 4, none⟩) (Kd.R_far (p := ⟨gb285, 3, none⟩) (Kd.R_far (p := ⟨gb285, 2, none⟩) (Kd.R_far (p := ⟨gb285, 1, none⟩) (Kd.R_far (p := ⟨gb285, 0, none⟩) (Kd.R_types HO283.out BK285.out (by decide)) (fun _ hk => hk.2) (.int .i64 t274)) (fun _ hk => hk.2) (.int .i64 t275)) (fun _ hk => hk.2) (.slice Ao32 t276.length co32)) (fun _ hk => hk.2) (.int .i64 t279)) (fun _ hk => hk.2) (.int .i64 t280)) (fun _ hk => hk.2) (.slice Ao36 t281.length co36)) (fun _ h_ => h_.1)))))) bz_); have HO295 := Aside0.mk (Kd.R_lower (Kd.R_new' (Kd.R_new' (Kd.R_new' (Kd.R_new' ho1 (Kd.R_lt (by exact kr_ ((Kd.R_mono (Kd.R_far (p := ⟨gb285, 5, none⟩) (Kd.R_far (p := ⟨gb285, 4, none⟩) (Kd.R_far (p := ⟨gb285, 3, none⟩) (Kd.R_far (p := ⟨gb285, 2, none⟩) (Kd.R_far (p := ⟨gb285, 1, none⟩) (Kd.R_far (p := ⟨gb285, 0, none⟩) (Kd.R_types HO265.out BK285.out (by decide)) (fun _ hk => hk.2) (.int .i64 t274)) (fun _ hk => hk.2) (.int .i64 t275)) (fun _ hk => hk.2) (.slice Ao32 t276.length co32)) (fun _ hk => hk.2) (.int .i64 t279)) (fun _ hk => hk.2) (.int .i64 t280)) (fun _ hk => hk.2) (.slice Ao36 t281.length co36)) (fun _ h_ => h_.1)))))) (Kd.R_lt (by exact kr_ ((Kd.R_mono (Kd.R_far (p := ⟨gb285, 5, none⟩) (Kd.R_far (p := ⟨gb285, 4, none⟩) (Kd.R_far (p := ⟨gb285, 3, none⟩) (Kd.R_far (p := ⟨gb285, 2, none⟩) (Kd.R_far (p := ⟨gb285, 1, none⟩) (Kd.R_far (p := ⟨gb285, 0, none⟩) (Kd.R_types HO270.out BK285.out (by decide)) (fun _ hk => hk.2) (.int .i64 t274)) (fun _ hk => hk.2) (.int .i64 t275)) (fun _ hk => hk.2) (.slice Ao32 t276.length co32)) (fun _ hk => hk.2) (.int .i64 t279)) (fun _ hk => hk.2) (.int .i64 t280)) (fun _ hk => hk.2) (.slice Ao36 t281.length co36)) (fun _ h_ => h_.1)))))) (Kd.R_lt (by exact kr_ ((Kd.R_mono (Kd.R_far (p := ⟨gb285, 5, none⟩) (Kd.R_far (p := ⟨gb285, 4, none⟩) (Kd.R_far (p := ⟨gb285, 3, none⟩) (Kd.R_far (p := ⟨gb285, 2, none⟩) (Kd.R_far (p := ⟨gb285, 1, none⟩) (Kd.R_far (p := ⟨gb285, 0, none⟩) (Kd.R_types HO278.out BK285.out (by decide)) (fun _ hk => hk.2) (.int .i64 t274)) (fun _ hk => hk.2) (.int .i64 t275)) (fun _ hk => hk.2) (.slice Ao32 t276.length co32)) (fun _ hk => hk.2) (.int .i64 t279)) (fun _ hk => hk.2) (.int .i64 t280)) (fun _ hk => hk.2) (.slice Ao36 t281.length co36)) (fun _ h_ => h_.1)))))) (Kd.R_lt (by exact kr_ ((Kd.R_mono (Kd.R_far (p := ⟨gb285, 5, none⟩) (Kd.R_far (p := ⟨gb285, 4, none⟩) (Kd.R_far (p := ⟨gb285, 3, none⟩) (Kd.R_far (p := ⟨gb285, 2, none⟩) (Kd.R_far (p := ⟨gb285, 1, none⟩) (Kd.R_far (p := ⟨gb285, 0, none⟩) (Kd.R_types HO283.out BK285.out (by decide)) (fun _ hk => hk.2) (.int .i64 t274)) (fun _ hk => hk.2) (.int .i64 t275)) (fun _ hk => hk.2) (.slice Ao32 t276.length co32)) (fun _ hk => hk.2) (.int .i64 t279)) (fun _ hk => hk.2) (.int .i64 t280)) (fun _ hk => hk.2) (.slice Ao36 t281.length co36)) (fun _ h_ => h_.1)))))) bz_); replace HO265 := Aside0.mk (Kd.R_mono (Kd.R_told (Kd.R_told (Kd.R_old (by exact kr_ ((Kd.R_mono (Kd.R_far (p := ⟨gb285, 5, none⟩) (Kd.R_far (p := ⟨gb285, 4, none⟩) (Kd.R_far (p := ⟨gb285, 3, none⟩) (Kd.R_far (p := ⟨gb285, 2, none⟩) (Kd.R_far (p := ⟨gb285, 1, none⟩) (Kd.R_far (p := ⟨gb285, 0, none⟩) (Kd.R_types HO265.out BK285.out (by decide)) (fun _ hk => hk.2) (.int .i64 t274)) (fun _ hk => hk.2) (.int .i64 t275)) (fun _ hk => hk.2) (.slice Ao32 t276.length co32)) (fun _ hk => hk.2) (.int .i64 t279)) (fun _ hk => hk.2) (.int .i64 t280)) (fun _ hk => hk.2) (.slice Ao36 t281.length co36)) (fun _ h_ => h_.1)))) hb) (Kd.R_base ho0)) (Kd.R_base ho1)) (fun _ h_ => h_.1)); replace HO270 := Aside0.mk (Kd.R_mono (Kd.R_told (Kd.R_told (Kd.R_old (by exact kr_ ((Kd.R_mono (Kd.R_far (p := ⟨gb285, 5, none⟩) (Kd.R_far (p := ⟨gb285, 4, none⟩) (Kd.R_far (p := ⟨gb285, 3, none⟩) (Kd.R_far (p := ⟨gb285, 2, none⟩) (Kd.R_far (p := ⟨gb285, 1, none⟩) (Kd.R_far (p := ⟨gb285, 0, none⟩) (Kd.R_types HO270.out BK285.out (by decide)) (fun _ hk => hk.2) (.int .i64 t274)) (fun _ hk => hk.2) (.int .i64 t275)) (fun _ hk => hk.2) (.slice Ao32 t276.length co32)) (fun _ hk => hk.2) (.int .i64 t279)) (fun _ hk => hk.2) (.int .i64 t280)) (fun _ hk => hk.2) (.slice Ao36 t281.length co36)) (fun _ h_ => h_.1)))) hb) (Kd.R_base ho0)) (Kd.R_base ho1)) (fun _ h_ => h_.1)); replace HO278 := Aside0.mk (Kd.R_mono (Kd.R_told (Kd.R_told (Kd.R_old (by exact kr_ ((Kd.R_mono (Kd.R_far (p := ⟨gb285, 5, none⟩) (Kd.R_far (p := ⟨gb285, 4, none⟩) (Kd.R_far (p := ⟨gb285, 3, none⟩) (Kd.R_far (p := ⟨gb285, 2, none⟩) (Kd.R_far (p := ⟨gb285, 1, none⟩) (Kd.R_far (p := ⟨gb285, 0, none⟩) (Kd.R_types HO278.out BK285.out (by decide)) (fun _ hk => hk.2) (.int .i64 t274)) (fun _ hk => hk.2) (.int .i64 t275)) (fun _ hk => hk.2) (.slice Ao32 t276.length co32)) (fun _ hk => hk.2) (.int .i64 t279)) (fun _ hk => hk.2) (.int .i64 t280)) (fun _ hk => hk.2) (.slice Ao36 t281.length co36)) (fun _ h_ => h_.1)))) hb) (Kd.R_base ho0)) (Kd.R_base ho1)) (fun _ h_ => h_.1)); replace HO283 := Aside0.mk (Kd.R_mono (Kd.R_told (Kd.R_told (Kd.R_old (by exact kr_ ((Kd.R_mono (Kd.R_far (p := ⟨gb285, 5, none⟩) (Kd.R_far (p := ⟨gb285, 4, none⟩) (Kd.R_far (p := ⟨gb285, 3, none⟩) (Kd.R_far (p := ⟨gb285, 2, none⟩) (Kd.R_far (p := ⟨gb285, 1, none⟩) (Kd.R_far (p := ⟨gb285, 0, none⟩) (Kd.R_types HO283.out BK285.out (by decide)) (fun _ hk => hk.2) (.int .i64 t274)) (fun _ hk => hk.2) (.int .i64 t275)) (fun _ hk => hk.2) (.slice Ao32 t276.length co32)) (fun _ hk => hk.2) (.int .i64 t279)) (fun _ hk => hk.2) (.int .i64 t280)) (fun _ hk => hk.2) (.slice Ao36 t281.length co36)) (fun _ h_ => h_.1)))) hb) (Kd.R_base ho0)) (Kd.R_base ho1)) (fun _ h_ => h_.1)); replace BK258 := Aside0.mk (blk_below (g := gb258) (o := .cells #[.int .i64 a0_0, .int .i64 a0_1, .slice A0_2 l0_2.length c0_2, .int .i64 a0_3, .int .i64 a0_4, .slice A0_5 l0_5.length c0_5] 30 (0, 0)) kz_ hb); replace BK259 := Aside0.mk (blk_below (g := gb259) (o := .cells #[.int .i64 a1_0, .int .i64 a1_1, .int .i64 a1_2] 43 (0, 0)) kz_ hb); replace BK285 := Aside0.mk (blk_below (g := gb285) (o := .cells #[.int .i64 t274, .int .i64 t275, .slice Ao32 t276.length co32, .int .i64 t279, .int .i64 t280, .slice Ao36 t281.length co36] 24 (0, 0)) (by (with_reducible repeat (first | refine blk_drewN ?_ _ | refine blk_drew ?_ | refine blk_alloc ?_ _)); refine blk_put (cs := #[.int .i64 t274, .int .i64 t275, .slice Ao32 t276.length co32, .int .i64 t279, .int .i64 t280, .slice none 0 0]) ?_ 5 _ rfl; (with_reducible repeat (first | refine blk_drewN ?_ _ | refine blk_drew ?_ | refine blk_alloc ?_ _)); refine blk_put (cs := #[.int .i64 t274, .int .i64 t275, .slice Ao32 t276.length co32, .int .i64 t279, .int .i64 0, .slice none 0 0]) ?_ 4 _ rfl; (with_reducible repeat (first | refine blk_drewN ?_ _ | refine blk_drew ?_ | refine blk_alloc ?_ _)); refine blk_put (cs := #[.int .i64 t274, .int .i64 t275, .slice Ao32 t276.length co32, .int .i64 0, .int .i64 0, .slice none 0 0]) ?_ 3 _ rfl; (with_reducible repeat (first | refine blk_drewN ?_ _ | refine blk_drew ?_ | refine blk_alloc ?_ _)); refine blk_put (cs := #[.int .i64 t274, .int .i64 t275, .slice none 0 0, .int .i64 0, .int .i64 0, .slice none 0 0]) ?_ 2 _ rfl; (with_reducible repeat (first | refine blk_drewN ?_ _ | refine blk_drew ?_ | refine blk_alloc ?_ _)); refine blk_put (cs := #[.int .i64 t274, .int .i64 0, .slice none 0 0, .int .i64 0, .int .i64 0, .slice none 0 0]) ?_ 1 _ rfl; (with_reducible repeat (first | refine blk_drewN ?_ _ | refine blk_drew ?_ | refine blk_alloc ?_ _)); refine blk_put (cs := #[.int .i64 0, .int .i64 0, .slice none 0 0, .int .i64 0, .int .i64 0, .slice none 0 0]) ?_ 0 _ rfl; exact kb_ BK285.out) hb); replace HB := Aside0.mk (below_step bl_ hb); clear hb ho0 ho1) | ((with_reducible refine gate_dst (N := 8) rfl ?_); refine box_event rfl (N := 8) rfl (cs := #[.int .i64 0, .int .i64 0, .slice none 0 0, .int .i64 0, .int .i64 0, .slice none 0 0]) (t := 24) gs_ ?_; intro gb296 hg w41 hbox hb; replace HO265 := rb_ HO265 hb; replace HO270 := rb_ HO270 hb; replace HO278 := rb_ HO278 hb; replace HO283 := rb_ HO283 hb; replace HO290 := rb_ HO290 hb; replace HO295 := rb_ HO295 hb; have BK296 := Aside0.mk (hbox); have GW296 := Aside0.mk ((by rw [hg]; exact bz_ : w.heap.size ≤ gb296)); have GE296 := GW296; replace HB := Aside0.mk (below_step bl_ hb); have NB258_296 := nl_ hg BK258; have NB296_258 := nm_ hg BK258; replace BK258 := bb_ BK258 hb; have NB259_296 := nl_ hg BK259; have NB296_259 := nm_ hg BK259; replace BK259 := bb_ BK259 hb; have NB285_296 := nl_ hg BK285; have NB296_285 := nm_ hg BK285; replace BK285 := bb_ BK285 hb; clear hb hbox hg; have hnb42 := NB296_258.out; have hnc42 := NB258_296.out; have hnb43 := NB296_259.out; have hnc43 := NB259_296.out; have hnb44 := NB296_285.out; have hnc44 := NB285_296.out; have hcz45_0 : w41.cell? ⟨gb296, 0, none⟩ = some (.int .i64 0) := bc_ BK296.out 0; have hcz45_1 : w41.cell? ⟨gb296, 1, none⟩ = some (.int .i64 0) := bc_ BK296.out 1; have hcz45_2 : w41.cell? ⟨gb296, 2, none⟩ = some (.slice none 0 0) := bc_ BK296.out 2; have hcz45_3 : w41.cell? ⟨gb296, 3, none⟩ = some (.int .i64 0) := bc_ BK296.out 3; have hcz45_4 : w41.cell? ⟨gb296, 4, none⟩ = some (.int .i64 0) := bc_ BK296.out 4; have hcz45_5 : w41.cell? ⟨gb296, 5, none⟩ = some (.slice none 0 0) := bc_ BK296.out 5; have hfz45_0 := blk_frozen BK296.out 0; have hfz45_1 := blk_frozen BK296.out 1; have hfz45_2 := blk_frozen BK296.out 2; have hfz45_3 := blk_frozen BK296.out 3; have hfz45_4 := blk_frozen BK296.out 4; have hfz45_5 := blk_frozen BK296.out 5; obtain ⟨Ao46, co46, eo46⟩ := Kd.R_slice HO290.out; subst eo46; obtain ⟨Ao47, co47, eo47⟩ := Kd.R_slice HO295.out; subst eo47))
 have n0_ : Aside0 (Kd.R (Kd.int .i64) 3 ((((((w41.setCell ⟨gb296, 0, none⟩ (.int .i64 t286)).setCell ⟨gb296, 1, none⟩ (.int .i64 t287)).setCell ⟨gb296, 2, none⟩ (.slice Ao46 t288.length co46)).setCell ⟨gb296, 3, none⟩ (.int .i64 t291)).setCell ⟨gb296, 4, none⟩ (.int .i64 t292)).setCell ⟨gb296, 5, none⟩ (.slice Ao47 t293.length co47)) w.heap.size (fun k_ => some k_ ≠ (v269 : Value).ownBlock ∧ some k_ ≠ (.slice Ao32 t276.length co32 : Value).ownBlock ∧ some k_ ≠ (.slice Ao36 t281.length co36 : Value).ownBlock ∧ some k_ ≠ (.slice Ao46 t288.length co46 : Value).ownBlock ∧ some k_ ≠ (.slice Ao47 t293.length co47 : Value).ownBlock) v264 t263) := ⟨by exact kr_ (Kd.R_mono (Kd.R_far (p := ⟨gb296, 5, none⟩) (Kd.R_far (p := ⟨gb296, 4, none⟩) (Kd.R_far (p := ⟨gb296, 3, none⟩) (Kd.R_far (p := ⟨gb296, 2, none⟩) (Kd.R_far (p := ⟨gb296, 1, none⟩) (Kd.R_far (p := ⟨gb296, 0, none⟩) (Kd.R_types HO265.out BK296.out (by decide)) (fun _ hk => hk.2) (.int .i64 t286)) (fun _ hk => hk.2) (.int .i64 t287)) (fun _ hk => hk.2) (.slice Ao46 t288.length co46)) (fun _ hk => hk.2) (.int .i64 t291)) (fun _ hk => hk.2) (.int .i64 t292)) (fun _ hk => hk.2) (.slice Ao47 t293.length co47)) (fun _ hk => ⟨hk.1.1.1.1, ⟨hk.1.1.1.2.1, ⟨hk.1.1.1.2.2, ⟨hk.1.1.2, hk.1.2⟩⟩⟩⟩))⟩
 have n1_ : Aside0 (Kd.R (Kd.int .i64) 3 ((((((w41.setCell ⟨gb296, 0, none⟩ (.int .i64 t286)).setCell ⟨gb296, 1, none⟩ (.int .i64 t287)).setCell ⟨gb296, 2, none⟩ (.slice Ao46 t288.length co46)).setCell ⟨gb296, 3, none⟩ (.int .i64 t291)).setCell ⟨gb296, 4, none⟩ (.int .i64 t292)).setCell ⟨gb296, 5, none⟩ (.slice Ao47 t293.length co47)) w.heap.size (fun k_ => some k_ ≠ (v264 : Value).ownBlock ∧ some k_ ≠ (.slice Ao32 t276.length co32 : Value).ownBlock ∧ some k_ ≠ (.slice Ao36 t281.length co36 : Value).ownBlock ∧ some k_ ≠ (.slice Ao46 t288.length co46 : Value).ownBlock ∧ some k_ ≠ (.slice Ao47 t293.length co47 : Value).ownBlock) v269 t268) := ⟨by exact kr_ (Kd.R_mono (Kd.R_far (p := ⟨gb296, 5, none⟩) (Kd.R_far (p := ⟨gb296, 4, none⟩) (Kd.R_far (p := ⟨gb296, 3, none⟩) (Kd.R_far (p := ⟨gb296, 2, none⟩) (Kd.R_far (p := ⟨gb296, 1, none⟩) (Kd.R_far (p := ⟨gb296, 0, none⟩) (Kd.R_types HO270.out BK296.out (by decide)) (fun _ hk => hk.2) (.int .i64 t286)) (fun _ hk => hk.2) (.int .i64 t287)) (fun _ hk => hk.2) (.slice Ao46 t288.length co46)) (fun _ hk => hk.2) (.int .i64 t291)) (fun _ hk => hk.2) (.int .i64 t292)) (fun _ hk => hk.2) (.slice Ao47 t293.length co47)) (fun _ hk => ⟨hk.1.1.1.1, ⟨hk.1.1.1.2.1, ⟨hk.1.1.1.2.2, ⟨hk.1.1.2, hk.1.2⟩⟩⟩⟩))⟩
 have n2_ : Aside0 (Kd.R (Kd.int .i64) 3 ((((((w41.setCell ⟨gb296, 0, none⟩ (.int .i64 t286)).setCell ⟨gb296, 1, none⟩ (.int .i64 t287)).setCell ⟨gb296, 2, none⟩ (.slice Ao46 t288.length co46)).setCell ⟨gb296, 3, none⟩ (.int .i64 t291)).setCell ⟨gb296, 4, none⟩ (.int .i64 t292)).setCell ⟨gb296, 5, none⟩ (.slice Ao47 t293.length co47)) w.heap.size (fun k_ => some k_ ≠ (v264 : Value).ownBlock ∧ some k_ ≠ (v269 : Value).ownBlock ∧ some k_ ≠ (.slice Ao36 t281.length co36 : Value).ownBlock ∧ some k_ ≠ (.slice Ao46 t288.length co46 : Value).ownBlock ∧ some k_ ≠ (.slice Ao47 t293.length co47 : Value).ownBlock) (.slice Ao32 t276.length co32) t276) := ⟨by exact kr_ (Kd.R_mono (Kd.R_far (p := ⟨gb296, 5, none⟩) (Kd.R_far (p := ⟨gb296, 4, none⟩) (Kd.R_far (p := ⟨gb296, 3, none⟩) (Kd.R_far (p := ⟨gb296, 2, none⟩) (Kd.R_far (p := ⟨gb296, 1, none⟩) (Kd.R_far (p := ⟨gb296, 0, none⟩) (Kd.R_types HO278.out BK296.out (by decide)) (fun _ hk => hk.2) (.int .i64 t286)) (fun _ hk => hk.2) (.int .i64 t287)) (fun _ hk => hk.2) (.slice Ao46 t288.length co46)) (fun _ hk => hk.2) (.int .i64 t291)) (fun _ hk => hk.2) (.int .i64 t292)) (fun _ hk => hk.2) (.slice Ao47 t293.length co47)) (fun _ hk => ⟨hk.1.1.1.1, ⟨hk.1.1.1.2.1, ⟨hk.1.1.1.2.2, ⟨hk.1.1.2, hk.1.2⟩⟩⟩⟩))⟩
 have n3_ : Aside0 (Kd.R (Kd.int .i64) 3 ((((((w41.setCell ⟨gb296, 0, none⟩ (.int .i64 t286)).setCell ⟨gb296, 1, none⟩ (.int .i64 t287)).setCell ⟨gb296, 2, none⟩ (.slice Ao46 t288.length co46)).setCell ⟨gb296, 3, none⟩ (.int .i64 t291)).setCell ⟨gb296, 4, none⟩ (.int .i64 t292)).setCell ⟨gb296, 5, none⟩ (.slice Ao47 t293.length co47)) w.heap.size (fun k_ => some k_ ≠ (v264 : Value).ownBlock ∧ some k_ ≠ (v269 : Value).ownBlock ∧ some k_ ≠ (.slice Ao32 t276.length co32 : Value).ownBlock ∧ some k_ ≠ (.slice Ao46 t288.length co46 : Value).ownBlock ∧ some k_ ≠ (.slice Ao47 t293.length co47 : Value).ownBlock) (.slice Ao36 t281.length co36) t281) := ⟨by exact kr_ (Kd.R_mono (Kd.R_far (p := ⟨gb296, 5, none⟩) (Kd.R_far (p := ⟨gb296, 4, none⟩) (Kd.R_far (p := ⟨gb296, 3, none⟩) (Kd.R_far (p := ⟨gb296, 2, none⟩) (Kd.R_far (p := ⟨gb296, 1, none⟩) (Kd.R_far (p := ⟨gb296, 0, none⟩) (Kd.R_types HO283.out BK296.out (by decide)) (fun _ hk => hk.2) (.int .i64 t286)) (fun _ hk => hk.2) (.int .i64 t287)) (fun _ hk => hk.2) (.slice Ao46 t288.length co46)) (fun _ hk => hk.2) (.int .i64 t291)) (fun _ hk => hk.2) (.int .i64 t292)) (fun _ hk => hk.2) (.slice Ao47 t293.length co47)) (fun _ hk => ⟨hk.1.1.1.1, ⟨hk.1.1.1.2.1, ⟨hk.1.1.1.2.2, ⟨hk.1.1.2, hk.1.2⟩⟩⟩⟩))⟩
 have n4_ : Aside0 (Kd.R (Kd.int .i64) 3 ((((((w41.setCell ⟨gb296, 0, none⟩ (.int .i64 t286)).setCell ⟨gb296, 1, none⟩ (.int .i64 t287)).setCell ⟨gb296, 2, none⟩ (.slice Ao46 t288.length co46)).setCell ⟨gb296, 3, none⟩ (.int .i64 t291)).setCell ⟨gb296, 4, none⟩ (.int .i64 t292)).setCell ⟨gb296, 5, none⟩ (.slice Ao47 t293.length co47)) w.heap.size (fun k_ => some k_ ≠ (v264 : Value).ownBlock ∧ some k_ ≠ (v269 : Value).ownBlock ∧ some k_ ≠ (.slice Ao32 t276.length co32 : Value).ownBlock ∧ some k_ ≠ (.slice Ao36 t281.length co36 : Value).ownBlock ∧ some k_ ≠ (.slice Ao47 t293.length co47 : Value).ownBlock) (.slice Ao46 t288.length co46) t288) := ⟨by exact kr_ (Kd.R_mono (Kd.R_far (p := ⟨gb296, 5, none⟩) (Kd.R_far (p := ⟨gb296, 4, none⟩) (Kd.R_far (p := ⟨gb296, 3, none⟩) (Kd.R_far (p := ⟨gb296, 2, none⟩) (Kd.R_far (p := ⟨gb296, 1, none⟩) (Kd.R_far (p := ⟨gb296, 0, none⟩) (Kd.R_types HO290.out BK296.out (by decide)) (fun _ hk => hk.2) (.int .i64 t286)) (fun _ hk => hk.2) (.int .i64 t287)) (fun _ hk => hk.2) (.slice Ao46 t288.length co46)) (fun _ hk => hk.2) (.int .i64 t291)) (fun _ hk => hk.2) (.int .i64 t292)) (fun _ hk => hk.2) (.slice Ao47 t293.length co47)) (fun _ hk => ⟨hk.1.1.1.1.2, ⟨hk.1.1.1.2, ⟨hk.1.1.2, ⟨hk.1.2, hk.1.1.1.1.1⟩⟩⟩⟩))⟩
 have n5_ : Aside0 (Kd.R (Kd.int .i64) 3 ((((((w41.setCell ⟨gb296, 0, none⟩ (.int .i64 t286)).setCell ⟨gb296, 1, none⟩ (.int .i64 t287)).setCell ⟨gb296, 2, none⟩ (.slice Ao46 t288.length co46)).setCell ⟨gb296, 3, none⟩ (.int .i64 t291)).setCell ⟨gb296, 4, none⟩ (.int .i64 t292)).setCell ⟨gb296, 5, none⟩ (.slice Ao47 t293.length co47)) w.heap.size (fun k_ => some k_ ≠ (v264 : Value).ownBlock ∧ some k_ ≠ (v269 : Value).ownBlock ∧ some k_ ≠ (.slice Ao32 t276.length co32 : Value).ownBlock ∧ some k_ ≠ (.slice Ao36 t281.length co36 : Value).ownBlock ∧ some k_ ≠ (.slice Ao46 t288.length co46 : Value).ownBlock) (.slice Ao47 t293.length co47) t293) := ⟨by exact kr_ (Kd.R_mono (Kd.R_far (p := ⟨gb296, 5, none⟩) (Kd.R_far (p := ⟨gb296, 4, none⟩) (Kd.R_far (p := ⟨gb296, 3, none⟩) (Kd.R_far (p := ⟨gb296, 2, none⟩) (Kd.R_far (p := ⟨gb296, 1, none⟩) (Kd.R_far (p := ⟨gb296, 0, none⟩) (Kd.R_types HO295.out BK296.out (by decide)) (fun _ hk => hk.2) (.int .i64 t286)) (fun _ hk => hk.2) (.int .i64 t287)) (fun _ hk => hk.2) (.slice Ao46 t288.length co46)) (fun _ hk => hk.2) (.int .i64 t291)) (fun _ hk => hk.2) (.int .i64 t292)) (fun _ hk => hk.2) (.slice Ao47 t293.length co47)) (fun _ hk => ⟨hk.1.1.1.1.2, ⟨hk.1.1.1.2, ⟨hk.1.1.2, ⟨hk.1.2, hk.1.1.1.1.1⟩⟩⟩⟩))⟩
 have n6_ : Aside0 (((((((w41.setCell ⟨gb296, 0, none⟩ (.int .i64 t286)).setCell ⟨gb296, 1, none⟩ (.int .i64 t287)).setCell ⟨gb296, 2, none⟩ (.slice Ao46 t288.length co46)).setCell ⟨gb296, 3, none⟩ (.int .i64 t291)).setCell ⟨gb296, 4, none⟩ (.int .i64 t292)).setCell ⟨gb296, 5, none⟩ (.slice Ao47 t293.length co47)).heap[gb258]? = some (.cells #[.int .i64 a0_0, .int .i64 a0_1, .slice A0_2 l0_2.length c0_2, .int .i64 a0_3, .int .i64 a0_4, .slice A0_5 l0_5.length c0_5] 30 (0, 0))) := ⟨kz_⟩
 have n7_ : Aside0 (((((((w41.setCell ⟨gb296, 0, none⟩ (.int .i64 t286)).setCell ⟨gb296, 1, none⟩ (.int .i64 t287)).setCell ⟨gb296, 2, none⟩ (.slice Ao46 t288.length co46)).setCell ⟨gb296, 3, none⟩ (.int .i64 t291)).setCell ⟨gb296, 4, none⟩ (.int .i64 t292)).setCell ⟨gb296, 5, none⟩ (.slice Ao47 t293.length co47)).heap[gb259]? = some (.cells #[.int .i64 a1_0, .int .i64 a1_1, .int .i64 a1_2] 43 (0, 0))) := ⟨kz_⟩
 have n8_ : Aside0 (((((((w41.setCell ⟨gb296, 0, none⟩ (.int .i64 t286)).setCell ⟨gb296, 1, none⟩ (.int .i64 t287)).setCell ⟨gb296, 2, none⟩ (.slice Ao46 t288.length co46)).setCell ⟨gb296, 3, none⟩ (.int .i64 t291)).setCell ⟨gb296, 4, none⟩ (.int .i64 t292)).setCell ⟨gb296, 5, none⟩ (.slice Ao47 t293.length co47)).heap[gb285]? = some (.cells #[.int .i64 t274, .int .i64 t275, .slice Ao32 t276.length co32, .int .i64 t279, .int .i64 t280, .slice Ao36 t281.length co36] 24 (0, 0))) := ⟨kz_⟩
 have n9_ : Aside0 (((((((w41.setCell ⟨gb296, 0, none⟩ (.int .i64 t286)).setCell ⟨gb296, 1, none⟩ (.int .i64 t287)).setCell ⟨gb296, 2, none⟩ (.slice Ao46 t288.length co46)).setCell ⟨gb296, 3, none⟩ (.int .i64 t291)).setCell ⟨gb296, 4, none⟩ (.int .i64 t292)).setCell ⟨gb296, 5, none⟩ (.slice Ao47 t293.length co47)).heap[gb296]? = some (.cells #[.int .i64 t286, .int .i64 t287, .slice Ao46 t288.length co46, .int .i64 t291, .int .i64 t292, .slice Ao47 t293.length co47] 24 (0, 0))) := ⟨by (with_reducible repeat (first | refine blk_drewN ?_ _ | refine blk_drew ?_ | refine blk_alloc ?_ _)); refine blk_put (cs := #[.int .i64 t286, .int .i64 t287, .slice Ao46 t288.length co46, .int .i64 t291, .int .i64 t292, .slice none 0 0]) ?_ 5 _ rfl; (with_reducible repeat (first | refine blk_drewN ?_ _ | refine blk_drew ?_ | refine blk_alloc ?_ _)); refine blk_put (cs := #[.int .i64 t286, .int .i64 t287, .slice Ao46 t288.length co46, .int .i64 t291, .int .i64 0, .slice none 0 0]) ?_ 4 _ rfl; (with_reducible repeat (first | refine blk_drewN ?_ _ | refine blk_drew ?_ | refine blk_alloc ?_ _)); refine blk_put (cs := #[.int .i64 t286, .int .i64 t287, .slice Ao46 t288.length co46, .int .i64 0, .int .i64 0, .slice none 0 0]) ?_ 3 _ rfl; (with_reducible repeat (first | refine blk_drewN ?_ _ | refine blk_drew ?_ | refine blk_alloc ?_ _)); refine blk_put (cs := #[.int .i64 t286, .int .i64 t287, .slice none 0 0, .int .i64 0, .int .i64 0, .slice none 0 0]) ?_ 2 _ rfl; (with_reducible repeat (first | refine blk_drewN ?_ _ | refine blk_drew ?_ | refine blk_alloc ?_ _)); refine blk_put (cs := #[.int .i64 t286, .int .i64 0, .slice none 0 0, .int .i64 0, .int .i64 0, .slice none 0 0]) ?_ 1 _ rfl; (with_reducible repeat (first | refine blk_drewN ?_ _ | refine blk_drew ?_ | refine blk_alloc ?_ _)); refine blk_put (cs := #[.int .i64 0, .int .i64 0, .slice none 0 0, .int .i64 0, .int .i64 0, .slice none 0 0]) ?_ 0 _ rfl; exact kb_ BK296.out⟩
 have n10_ : Aside0 (Below w.heap.size w ((((((w41.setCell ⟨gb296, 0, none⟩ (.int .i64 t286)).setCell ⟨gb296, 1, none⟩ (.int .i64 t287)).setCell ⟨gb296, 2, none⟩ (.slice Ao46 t288.length co46)).setCell ⟨gb296, 3, none⟩ (.int .i64 t291)).setCell ⟨gb296, 4, none⟩ (.int .i64 t292)).setCell ⟨gb296, 5, none⟩ (.slice Ao47 t293.length co47))) := ⟨bl_⟩
 (try clear HO265)
 (try clear HO270)
 (try clear HO278)
 (try clear HO283)
 (try clear HO290)
 (try clear HO295)
 (try clear BK258)
 (try clear BK259)
 (try clear BK285)
 (try clear BK296)
 (try clear HB)
 generalize ((((((w41.setCell ⟨gb296, 0, none⟩ (.int .i64 t286)).setCell ⟨gb296, 1, none⟩ (.int .i64 t287)).setCell ⟨gb296, 2, none⟩ (.slice Ao46 t288.length co46)).setCell ⟨gb296, 3, none⟩ (.int .i64 t291)).setCell ⟨gb296, 4, none⟩ (.int .i64 t292)).setCell ⟨gb296, 5, none⟩ (.slice Ao47 t293.length co47)) = w48 at n0_ n1_ n2_ n3_ n4_ n5_ n6_ n7_ n8_ n9_ n10_ ⊢
 have HO265 := n0_
 have HO270 := n1_
 have HO278 := n2_
 have HO283 := n3_
 have HO290 := n4_
 have HO295 := n5_
 have BK258 := n6_
 have BK259 := n7_
 have BK285 := n8_
 have BK296 := n9_
 have HB := n10_
 clear n0_ n1_ n2_ n3_ n4_ n5_ n6_ n7_ n8_ n9_ n10_
 replace HO265 := Aside0.mk (Kd.R_drew HO265.out)
 replace HO270 := Aside0.mk (Kd.R_drew HO270.out)
 replace HO278 := Aside0.mk (Kd.R_drew HO278.out)
 replace HO283 := Aside0.mk (Kd.R_drew HO283.out)
 replace HO290 := Aside0.mk (Kd.R_drew HO290.out)
 replace HO295 := Aside0.mk (Kd.R_drew HO295.out)
 replace BK258 := Aside0.mk (blk_drew BK258.out)
 replace BK259 := Aside0.mk (blk_drew BK259.out)
 replace BK285 := Aside0.mk (blk_drew BK285.out)
 replace BK296 := Aside0.mk (blk_drew BK296.out)
 replace HB := Aside0.mk (below_drew1 HB.out)
 refine start_ (n := 10) (S := fun w' => w'.cell? ⟨gb296, 0, none⟩ = some (.int .i64 t286) ∧ w'.cell? ⟨gb296, 1, none⟩ = some (.int .i64 t287) ∧ w'.cell? ⟨gb296, 2, none⟩ = some (.slice Ao46 t288.length co46) ∧ w'.cell? ⟨gb296, 3, none⟩ = some (.int .i64 t291) ∧ w'.cell? ⟨gb296, 4, none⟩ = some (.int .i64 t292) ∧ w'.cell? ⟨gb296, 5, none⟩ = some (.slice Ao47 t293.length co47) ∧ w'.cell? ⟨gb259, 0, none⟩ = some (.int .i64 a1_0) ∧ w'.cell? ⟨gb259, 1, none⟩ = some (.int .i64 a1_1) ∧ w'.cell? ⟨gb259, 2, none⟩ = some (.int .i64 a1_2)) (ds := []) #[false, false, false, false, false, false, false, false, false, false] (by kernel_rfl) rfl rfl ⟨bc_ BK296.out 0, bc_ BK296.out 1, bc_ BK296.out 2, bc_ BK296.out 3, bc_ BK296.out 4, bc_ BK296.out 5, bc_ BK259.out 0, bc_ BK259.out 1, bc_ BK259.out 2⟩ (fun hHeld => ?_); refine with_tabW laws_FnExactStepLease.tab7 laws_FnExactStepLease.bits7 (fun HT_ HW_ => ?_)
 generalize w48.drew = w49 at HO265 HO270 HO278 HO283 HO290 HO295 BK258 BK259 BK285 BK296 HB hHeld ⊢
 refine tk9_ 0 (some 32) (h := ?_)
 refine tk9_ 1 (some 33) (h := ?_)
 refine join_ (σ := Value × Value × Nat) 2 #[true, true, true, true, true, true, true, true, false, false] (fun s_ => [(34, .agg #[.int .i64 t297, .int .i64 t298, .int .i64 t299]), (35, .tuple #[.agg #[.int .i64 t300, .int .i64 t301, s_.1, .int .i64 t305, .int .i64 t306, s_.2.1], .bool t310]), (9, .pointer (some ⟨s_.2.2, 0, none⟩)), (31, .tuple #[.agg #[.int .i64 t300, .int .i64 t301, s_.1, .int .i64 t305, .int .i64 t306, s_.2.1], .bool t310]), (36, .agg #[.int .i64 t300, .int .i64 t301, s_.1, .int .i64 t305, .int .i64 t306, s_.2.1]), (37, .bool t310)]) (fun s_ w' => (w'.cell? ⟨gb296, 0, none⟩ = some (.int .i64 t286) ∧ w'.cell? ⟨gb296, 1, none⟩ = some (.int .i64 t287) ∧ w'.cell? ⟨gb296, 2, none⟩ = some (.slice Ao46 t288.length co46) ∧ w'.cell? ⟨gb296, 3, none⟩ = some (.int .i64 t291) ∧ w'.cell? ⟨gb296, 4, none⟩ = some (.int .i64 t292) ∧ w'.cell? ⟨gb296, 5, none⟩ = some (.slice Ao47 t293.length co47) ∧ w'.cell? ⟨gb259, 0, none⟩ = some (.int .i64 a1_0) ∧ w'.cell? ⟨gb259, 1, none⟩ = some (.int .i64 a1_1) ∧ w'.cell? ⟨gb259, 2, none⟩ = some (.int .i64 a1_2)) ∧ (Kd.R (Kd.int .i64) 3 w' w.heap.size (fun k_ => some k_ ≠ (v269 : Value).ownBlock ∧ some k_ ≠ (.slice Ao32 t276.length co32 : Value).ownBlock ∧ some k_ ≠ (.slice Ao36 t281.length co36 : Value).ownBlock ∧ some k_ ≠ (.slice Ao46 t288.length co46 : Value).ownBlock ∧ some k_ ≠ (.slice Ao47 t293.length co47 : Value).ownBlock ∧ some k_ ≠ (s_.1 : Value).ownBlock ∧ some k_ ≠ (s_.2.1 : Value).ownBlock) v264 t263) ∧ (Kd.R (Kd.int .i64) 3 w' w.heap.size (fun k_ => some k_ ≠ (v264 : Value).ownBlock ∧ some k_ ≠ (.slice Ao32 t276.length co32 : Value).ownBlock ∧ some k_ ≠ (.slice Ao36 t281.length co36 : Value).ownBlock ∧ some k_ ≠ (.slice Ao46 t288.length co46 : Value).ownBlock ∧ some k_ ≠ (.slice Ao47 t293.length co47 : Value).ownBlock ∧ some k_ ≠ (s_.1 : Value).ownBlock ∧ some k_ ≠ (s_.2.1 : Value).ownBlock) v269 t268) ∧ (Kd.R (Kd.int .i64) 3 w' w.heap.size (fun k_ => some k_ ≠ (v264 : Value).ownBlock ∧ some k_ ≠ (v269 : Value).ownBlock ∧ some k_ ≠ (.slice Ao36 t281.length co36 : Value).ownBlock ∧ some k_ ≠ (.slice Ao46 t288.length co46 : Value).ownBlock ∧ some k_ ≠ (.slice Ao47 t293.length co47 : Value).ownBlock ∧ some k_ ≠ (s_.1 : Value).ownBlock ∧ some k_ ≠ (s_.2.1 : Value).ownBlock) (.slice Ao32 t276.length co32) t276) ∧ (Kd.R (Kd.int .i64) 3 w' w.heap.size (fun k_ => some k_ ≠ (v264 : Value).ownBlock ∧ some k_ ≠ (v269 : Value).ownBlock ∧ some k_ ≠ (.slice Ao32 t276.length co32 : Value).ownBlock ∧ some k_ ≠ (.slice Ao46 t288.length co46 : Value).ownBlock ∧ some k_ ≠ (.slice Ao47 t293.length co47 : Value).ownBlock ∧ some k_ ≠ (s_.1 : Value).ownBlock ∧ some k_ ≠ (s_.2.1 : Value).ownBlock) (.slice Ao36 t281.length co36) t281) ∧ (Kd.R (Kd.int .i64) 3 w' w.heap.size (fun k_ => some k_ ≠ (v264 : Value).ownBlock ∧ some k_ ≠ (v269 : Value).ownBlock ∧ some k_ ≠ (.slice Ao32 t276.length co32 : Value).ownBlock ∧ some k_ ≠ (.slice Ao36 t281.length co36 : Value).ownBlock ∧ some k_ ≠ (.slice Ao47 t293.length co47 : Value).ownBlock ∧ some k_ ≠ (s_.1 : Value).ownBlock ∧ some k_ ≠ (s_.2.1 : Value).ownBlock) (.slice Ao46 t288.length co46) t288) ∧ (Kd.R (Kd.int .i64) 3 w' w.heap.size (fun k_ => some k_ ≠ (v264 : Value).ownBlock ∧ some k_ ≠ (v269 : Value).ownBlock ∧ some k_ ≠ (.slice Ao32 t276.length co32 : Value).ownBlock ∧ some k_ ≠ (.slice Ao36 t281.length co36 : Value).ownBlock ∧ some k_ ≠ (.slice Ao46 t288.length co46 : Value).ownBlock ∧ some k_ ≠ (s_.1 : Value).ownBlock ∧ some k_ ≠ (s_.2.1 : Value).ownBlock) (.slice Ao47 t293.length co47) t293) ∧ (Kd.R (Kd.int .i64) 3 w' w.heap.size (fun k_ => some k_ ≠ (v264 : Value).ownBlock ∧ some k_ ≠ (v269 : Value).ownBlock ∧ some k_ ≠ (.slice Ao32 t276.length co32 : Value).ownBlock ∧ some k_ ≠ (.slice Ao36 t281.length co36 : Value).ownBlock ∧ some k_ ≠ (.slice Ao46 t288.length co46 : Value).ownBlock ∧ some k_ ≠ (.slice Ao47 t293.length co47 : Value).ownBlock ∧ some k_ ≠ (s_.2.1 : Value).ownBlock) s_.1 t302) ∧ (Kd.R (Kd.int .i64) 3 w' w.heap.size (fun k_ => some k_ ≠ (v264 : Value).ownBlock ∧ some k_ ≠ (v269 : Value).ownBlock ∧ some k_ ≠ (.slice Ao32 t276.length co32 : Value).ownBlock ∧ some k_ ≠ (.slice Ao36 t281.length co36 : Value).ownBlock ∧ some k_ ≠ (.slice Ao46 t288.length co46 : Value).ownBlock ∧ some k_ ≠ (.slice Ao47 t293.length co47 : Value).ownBlock ∧ some k_ ≠ (s_.1 : Value).ownBlock) s_.2.1 t307) ∧ (w'.heap[gb258]? = some (.cells #[.int .i64 a0_0, .int .i64 a0_1, .slice A0_2 l0_2.length c0_2, .int .i64 a0_3, .int .i64 a0_4, .slice A0_5 l0_5.length c0_5] 30 (0, 0))) ∧ (w'.heap[gb259]? = some (.cells #[.int .i64 a1_0, .int .i64 a1_1, .int .i64 a1_2] 43 (0, 0))) ∧ (w'.heap[gb285]? = some (.cells #[.int .i64 t274, .int .i64 t275, .slice Ao32 t276.length co32, .int .i64 t279, .int .i64 t280, .slice Ao36 t281.length co36] 24 (0, 0))) ∧ (w'.heap[gb296]? = some (.cells #[.int .i64 t286, .int .i64 t287, .slice Ao46 t288.length co46, .int .i64 t291, .int .i64 t292, .slice Ao47 t293.length co47] 24 (0, 0))) ∧ (w'.heap[s_.2.2]? = some (.cells #[.int .i64 0, .int .i64 0, .slice none 0 0, .int .i64 0, .int .i64 0, .slice none 0 0] 24 (0, 0))) ∧ (w.heap.size ≤ s_.2.2) ∧ (w.heap.size ≤ s_.2.2) ∧ (gb258 ≠ s_.2.2) ∧ (s_.2.2 ≠ gb258) ∧ (gb259 ≠ s_.2.2) ∧ (s_.2.2 ≠ gb259) ∧ (gb285 ≠ s_.2.2) ∧ (s_.2.2 ≠ gb285) ∧ (gb296 ≠ s_.2.2) ∧ (s_.2.2 ≠ gb296) ∧ (Below w.heap.size w w')) ?_ ?_
 rotate_left
 ·intro hCont
  refine tw_ 2 7 (some 34) (some 9) (h1 := fun K hK => ?_) (h2 := fun K hK => ?_)
  ·skip
   refine goes_ Try.func29 (by kernel_rfl) rfl #[.agg #[.int .i64 a1_0, .int .i64 a1_1, .int .i64 a1_2]] (by rfl) rfl rfl nc_ ?_
   with_reducible refine (laws_toLeaseStep.calls a1_0 a1_1 a1_2 t297 t298 t299 _ A14.out).mono ?_
   rintro e w50 ⟨rfl, hb⟩
   refine ⟨_, rfl, ?_⟩
   replace HO265 := rb_ HO265 hb
   replace HO270 := rb_ HO270 hb
   replace HO278 := rb_ HO278 hb
   replace HO283 := rb_ HO283 hb
   replace HO290 := rb_ HO290 hb
   replace HO295 := rb_ HO295 hb
   replace BK258 := bb_ BK258 hb
   replace BK259 := bb_ BK259 hb
   replace BK285 := bb_ BK285 hb
   replace BK296 := bb_ BK296 hb
   replace HB := Aside0.mk (below_step bl_ hb)
   clear hb
   refine hK.out _ _ ⟨bc_ BK296.out 0, bc_ BK296.out 1, bc_ BK296.out 2, bc_ BK296.out 3, bc_ BK296.out 4, bc_ BK296.out 5, bc_ BK259.out 0, bc_ BK259.out 1, bc_ BK259.out 2⟩ (fun hHeld => ?_)
   clear hK K
   refine norm_ nn_ ?_
   refine tw_ 3 7 (some 35) (some 9) (h1 := fun K hK => ?_) (h2 := fun K hK => ?_)
   ·skip
    refine goes_ Try.func30 (by kernel_rfl) rfl #[.agg #[.int .i64 t286, .int .i64 t287, .slice Ao46 t288.length co46, .int .i64 t291, .int .i64 t292, .slice Ao47 t293.length co47], .agg #[.int .i64 t297, .int .i64 t298, .int .i64 t299]] (by rfl) rfl rfl nc_ ?_
    with_reducible refine (impl_StepLease.calls k t286 t287 _ _ t288 t291 t292 _ _ t293 t297 t298 t299 t300 t301 t302 t305 t306 t307 t310 _ ?side1 ?side2 ?side3 ?side4 A15.out).mono ?_
    (case side1 => exact kc_ (Kd.R_reads' HO290.out).2.2)
    (case side2 => exact (Kd.R_reads' HO290.out).2.1)
    (case side3 => exact kc_ (Kd.R_reads' HO295.out).2.2)
    (case side4 => exact (Kd.R_reads' HO295.out).2.1)
    rintro e w51 ⟨v303, v308, rfl, ho0, ho1, hb⟩
    refine ⟨_, rfl, ?_⟩
    have HO304 := Aside0.mk (Kd.R_lower (rn_ (rn_ (rn_ (rn_ (rn_ (rn_ ho0 HO265.out) HO270.out) HO278.out) HO283.out) HO290.out) HO295.out) bz_)
    have HO309 := Aside0.mk (Kd.R_lower (rn_ (rn_ (rn_ (rn_ (rn_ (rn_ ho1 HO265.out) HO270.out) HO278.out) HO283.out) HO290.out) HO295.out) bz_)
    replace HO265 := rp2_ HO265 hb ho0 ho1
    replace HO270 := rp2_ HO270 hb ho0 ho1
    replace HO278 := rp2_ HO278 hb ho0 ho1
    replace HO283 := rp2_ HO283 hb ho0 ho1
    replace HO290 := rp2_ HO290 hb ho0 ho1
    replace HO295 := rp2_ HO295 hb ho0 ho1
    replace BK258 := bb_ BK258 hb
    replace BK259 := bb_ BK259 hb
    replace BK285 := bb_ BK285 hb
    replace BK296 := bb_ BK296 hb
    replace HB := Aside0.mk (below_step bl_ hb)
    clear hb ho0 ho1
    refine hK.out _ _ ⟨bc_ BK296.out 0, bc_ BK296.out 1, bc_ BK296.out 2, bc_ BK296.out 3, bc_ BK296.out 4, bc_ BK296.out 5, bc_ BK259.out 0, bc_ BK259.out 1, bc_ BK259.out 2⟩ (fun hHeld => ?_)
    clear hK K
    refine norm_ nn_ ?_
    refine pu_ 4 (some 31) (h := ?_)
    refine pu_ 5 (some 36) (h := ?_)
    refine pu_ 6 (some 37) (h := ?_)
    refine on_ 7 (some 9) (h := fun K hK => ?_)
    refine box_step rfl (N := 9) rfl (cs := #[.int .i64 0, .int .i64 0, .slice none 0 0, .int .i64 0, .int .i64 0, .slice none 0 0]) (t := 24) gs_ ?_
    intro gb311 hg w52 hbox hb
    replace HO265 := rb_ HO265 hb
    replace HO270 := rb_ HO270 hb
    replace HO278 := rb_ HO278 hb
    replace HO283 := rb_ HO283 hb
    replace HO290 := rb_ HO290 hb
    replace HO295 := rb_ HO295 hb
    replace HO304 := rb_ HO304 hb
    replace HO309 := rb_ HO309 hb
    have BK311 := Aside0.mk (hbox)
    have GW311 := Aside0.mk ((by rw [hg]; exact bz_ : w.heap.size ≤ gb311))
    have GE311 := GW311
    replace HB := Aside0.mk (below_step bl_ hb)
    have NB258_311 := nl_ hg BK258
    have NB311_258 := nm_ hg BK258
    replace BK258 := bb_ BK258 hb
    have NB259_311 := nl_ hg BK259
    have NB311_259 := nm_ hg BK259
    replace BK259 := bb_ BK259 hb
    have NB285_311 := nl_ hg BK285
    have NB311_285 := nm_ hg BK285
    replace BK285 := bb_ BK285 hb
    have NB296_311 := nl_ hg BK296
    have NB311_296 := nm_ hg BK296
    replace BK296 := bb_ BK296 hb
    clear hb hbox hg
    refine hK.out _ _ ⟨bc_ BK296.out 0, bc_ BK296.out 1, bc_ BK296.out 2, bc_ BK296.out 3, bc_ BK296.out 4, bc_ BK296.out 5, bc_ BK259.out 0, bc_ BK259.out 1, bc_ BK259.out 2⟩ (fun hHeld => ?_)
    clear hK K
    refine norm_ nn_ ?_
    exact norm_ (by simp only [putAll, Act.put, List.setIfInBounds_toArray, List.set_cons_zero, List.set_cons_succ]) (hCont (v303, v308, gb311) _ ⟨hHeld, kp_ HO265.out, kp_ HO270.out, kp_ HO278.out, kp_ HO283.out, kp_ HO290.out, kp_ HO295.out, kp_ HO304.out, kp_ HO309.out, kb_ BK258.out, kb_ BK259.out, kb_ BK285.out, kb_ BK296.out, kb_ BK311.out, GW311.out, GE311.out, NB258_311.out, NB311_258.out, NB259_311.out, NB311_259.out, NB285_311.out, NB311_285.out, NB296_311.out, NB311_296.out, bl_⟩)
   ·skip
    refine box_step rfl (N := 9) rfl (cs := #[.int .i64 0, .int .i64 0, .slice none 0 0, .int .i64 0, .int .i64 0, .slice none 0 0]) (t := 24) gs_ ?_
    intro gb311 hg w51 hbox hb
    replace HO265 := rb_ HO265 hb
    replace HO270 := rb_ HO270 hb
    replace HO278 := rb_ HO278 hb
    replace HO283 := rb_ HO283 hb
    replace HO290 := rb_ HO290 hb
    replace HO295 := rb_ HO295 hb
    have BK311 := Aside0.mk (hbox)
    have GW311 := Aside0.mk ((by rw [hg]; exact bz_ : w.heap.size ≤ gb311))
    have GE311 := GW311
    replace HB := Aside0.mk (below_step bl_ hb)
    have NB258_311 := nl_ hg BK258
    have NB311_258 := nm_ hg BK258
    replace BK258 := bb_ BK258 hb
    have NB259_311 := nl_ hg BK259
    have NB311_259 := nm_ hg BK259
    replace BK259 := bb_ BK259 hb
    have NB285_311 := nl_ hg BK285
    have NB311_285 := nm_ hg BK285
    replace BK285 := bb_ BK285 hb
    have NB296_311 := nl_ hg BK296
    have NB311_296 := nm_ hg BK296
    replace BK296 := bb_ BK296 hb
    clear hb hbox hg
    refine hK.out _ _ ⟨bc_ BK296.out 0, bc_ BK296.out 1, bc_ BK296.out 2, bc_ BK296.out 3, bc_ BK296.out 4, bc_ BK296.out 5, bc_ BK259.out 0, bc_ BK259.out 1, bc_ BK259.out 2⟩ (fun hHeld => ?_)
    clear hK K
    refine norm_ nn_ ?_
    refine on_ 3 (some 35) (h := fun K hK => ?_)
    refine goes_ Try.func30 (by kernel_rfl) rfl #[.agg #[.int .i64 t286, .int .i64 t287, .slice Ao46 t288.length co46, .int .i64 t291, .int .i64 t292, .slice Ao47 t293.length co47], .agg #[.int .i64 t297, .int .i64 t298, .int .i64 t299]] (by rfl) rfl rfl nc_ ?_
    with_reducible refine (impl_StepLease.calls k t286 t287 _ _ t288 t291 t292 _ _ t293 t297 t298 t299 t300 t301 t302 t305 t306 t307 t310 _ ?side1 ?side2 ?side3 ?side4 A15.out).mono ?_
    (case side1 => exact kc_ (Kd.R_reads' HO290.out).2.2)
    (case side2 => exact (Kd.R_reads' HO290.out).2.1)
    (case side3 => exact kc_ (Kd.R_reads' HO295.out).2.2)
    (case side4 => exact (Kd.R_reads' HO295.out).2.1)
    rintro e w52 ⟨v303, v308, rfl, ho0, ho1, hb⟩
    refine ⟨_, rfl, ?_⟩
    have HO304 := Aside0.mk (Kd.R_lower (rn_ (rn_ (rn_ (rn_ (rn_ (rn_ ho0 HO265.out) HO270.out) HO278.out) HO283.out) HO290.out) HO295.out) bz_)
    have HO309 := Aside0.mk (Kd.R_lower (rn_ (rn_ (rn_ (rn_ (rn_ (rn_ ho1 HO265.out) HO270.out) HO278.out) HO283.out) HO290.out) HO295.out) bz_)
    replace HO265 := rp2_ HO265 hb ho0 ho1
    replace HO270 := rp2_ HO270 hb ho0 ho1
    replace HO278 := rp2_ HO278 hb ho0 ho1
    replace HO283 := rp2_ HO283 hb ho0 ho1
    replace HO290 := rp2_ HO290 hb ho0 ho1
    replace HO295 := rp2_ HO295 hb ho0 ho1
    replace BK258 := bb_ BK258 hb
    replace BK259 := bb_ BK259 hb
    replace BK285 := bb_ BK285 hb
    replace BK296 := bb_ BK296 hb
    replace BK311 := bb_ BK311 hb
    replace HB := Aside0.mk (below_step bl_ hb)
    clear hb ho0 ho1
    refine hK.out _ _ ⟨bc_ BK296.out 0, bc_ BK296.out 1, bc_ BK296.out 2, bc_ BK296.out 3, bc_ BK296.out 4, bc_ BK296.out 5, bc_ BK259.out 0, bc_ BK259.out 1, bc_ BK259.out 2⟩ (fun hHeld => ?_)
    clear hK K
    refine norm_ nn_ ?_
    refine pu_ 4 (some 31) (h := ?_)
    refine pu_ 5 (some 36) (h := ?_)
    refine pu_ 6 (some 37) (h := ?_)
    exact norm_ (by simp only [putAll, Act.put, List.setIfInBounds_toArray, List.set_cons_zero, List.set_cons_succ]) (hCont (v303, v308, gb311) _ ⟨hHeld, kp_ HO265.out, kp_ HO270.out, kp_ HO278.out, kp_ HO283.out, kp_ HO290.out, kp_ HO295.out, kp_ HO304.out, kp_ HO309.out, kb_ BK258.out, kb_ BK259.out, kb_ BK285.out, kb_ BK296.out, kb_ BK311.out, GW311.out, GE311.out, NB258_311.out, NB311_258.out, NB259_311.out, NB311_259.out, NB285_311.out, NB311_285.out, NB296_311.out, NB311_296.out, bl_⟩)
  ·skip
   refine box_step rfl (N := 9) rfl (cs := #[.int .i64 0, .int .i64 0, .slice none 0 0, .int .i64 0, .int .i64 0, .slice none 0 0]) (t := 24) gs_ ?_
   intro gb311 hg w50 hbox hb
   replace HO265 := rb_ HO265 hb
   replace HO270 := rb_ HO270 hb
   replace HO278 := rb_ HO278 hb
   replace HO283 := rb_ HO283 hb
   replace HO290 := rb_ HO290 hb
   replace HO295 := rb_ HO295 hb
   have BK311 := Aside0.mk (hbox)
   have GW311 := Aside0.mk ((by rw [hg]; exact bz_ : w.heap.size ≤ gb311))
   have GE311 := GW311
   replace HB := Aside0.mk (below_step bl_ hb)
   have NB258_311 := nl_ hg BK258
   have NB311_258 := nm_ hg BK258
   replace BK258 := bb_ BK258 hb
   have NB259_311 := nl_ hg BK259
   have NB311_259 := nm_ hg BK259
   replace BK259 := bb_ BK259 hb
   have NB285_311 := nl_ hg BK285
   have NB311_285 := nm_ hg BK285
   replace BK285 := bb_ BK285 hb
   have NB296_311 := nl_ hg BK296
   have NB311_296 := nm_ hg BK296
   replace BK296 := bb_ BK296 hb
   clear hb hbox hg
   refine hK.out _ _ ⟨bc_ BK296.out 0, bc_ BK296.out 1, bc_ BK296.out 2, bc_ BK296.out 3, bc_ BK296.out 4, bc_ BK296.out 5, bc_ BK259.out 0, bc_ BK259.out 1, bc_ BK259.out 2⟩ (fun hHeld => ?_)
   clear hK K
   refine norm_ nn_ ?_
   refine on_ 2 (some 34) (h := fun K hK => ?_)
   refine goes_ Try.func29 (by kernel_rfl) rfl #[.agg #[.int .i64 a1_0, .int .i64 a1_1, .int .i64 a1_2]] (by rfl) rfl rfl nc_ ?_
   with_reducible refine (laws_toLeaseStep.calls a1_0 a1_1 a1_2 t297 t298 t299 _ A14.out).mono ?_
   rintro e w51 ⟨rfl, hb⟩
   refine ⟨_, rfl, ?_⟩
   replace HO265 := rb_ HO265 hb
   replace HO270 := rb_ HO270 hb
   replace HO278 := rb_ HO278 hb
   replace HO283 := rb_ HO283 hb
   replace HO290 := rb_ HO290 hb
   replace HO295 := rb_ HO295 hb
   replace BK258 := bb_ BK258 hb
   replace BK259 := bb_ BK259 hb
   replace BK285 := bb_ BK285 hb
   replace BK296 := bb_ BK296 hb
   replace BK311 := bb_ BK311 hb
   replace HB := Aside0.mk (below_step bl_ hb)
   clear hb
   refine hK.out _ _ ⟨bc_ BK296.out 0, bc_ BK296.out 1, bc_ BK296.out 2, bc_ BK296.out 3, bc_ BK296.out 4, bc_ BK296.out 5, bc_ BK259.out 0, bc_ BK259.out 1, bc_ BK259.out 2⟩ (fun hHeld => ?_)
   clear hK K
   refine norm_ nn_ ?_
   refine on_ 3 (some 35) (h := fun K hK => ?_)
   refine goes_ Try.func30 (by kernel_rfl) rfl #[.agg #[.int .i64 t286, .int .i64 t287, .slice Ao46 t288.length co46, .int .i64 t291, .int .i64 t292, .slice Ao47 t293.length co47], .agg #[.int .i64 t297, .int .i64 t298, .int .i64 t299]] (by rfl) rfl rfl nc_ ?_
   with_reducible refine (impl_StepLease.calls k t286 t287 _ _ t288 t291 t292 _ _ t293 t297 t298 t299 t300 t301 t302 t305 t306 t307 t310 _ ?side1 ?side2 ?side3 ?side4 A15.out).mono ?_
   (case side1 => exact kc_ (Kd.R_reads' HO290.out).2.2)
   (case side2 => exact (Kd.R_reads' HO290.out).2.1)
   (case side3 => exact kc_ (Kd.R_reads' HO295.out).2.2)
   (case side4 => exact (Kd.R_reads' HO295.out).2.1)
   rintro e w52 ⟨v303, v308, rfl, ho0, ho1, hb⟩
   refine ⟨_, rfl, ?_⟩
   have HO304 := Aside0.mk (Kd.R_lower (rn_ (rn_ (rn_ (rn_ (rn_ (rn_ ho0 HO265.out) HO270.out) HO278.out) HO283.out) HO290.out) HO295.out) bz_)
   have HO309 := Aside0.mk (Kd.R_lower (rn_ (rn_ (rn_ (rn_ (rn_ (rn_ ho1 HO265.out) HO270.out) HO278.out) HO283.out) HO290.out) HO295.out) bz_)
   replace HO265 := rp2_ HO265 hb ho0 ho1
   replace HO270 := rp2_ HO270 hb ho0 ho1
   replace HO278 := rp2_ HO278 hb ho0 ho1
   replace HO283 := rp2_ HO283 hb ho0 ho1
   replace HO290 := rp2_ HO290 hb ho0 ho1
   replace HO295 := rp2_ HO295 hb ho0 ho1
   replace BK258 := bb_ BK258 hb
   replace BK259 := bb_ BK259 hb
   replace BK285 := bb_ BK285 hb
   replace BK296 := bb_ BK296 hb
   replace BK311 := bb_ BK311 hb
   replace HB := Aside0.mk (below_step bl_ hb)
   clear hb ho0 ho1
   refine hK.out _ _ ⟨bc_ BK296.out 0, bc_ BK296.out 1, bc_ BK296.out 2, bc_ BK296.out 3, bc_ BK296.out 4, bc_ BK296.out 5, bc_ BK259.out 0, bc_ BK259.out 1, bc_ BK259.out 2⟩ (fun hHeld => ?_)
   clear hK K
   refine norm_ nn_ ?_
   refine pu_ 4 (some 31) (h := ?_)
   refine pu_ 5 (some 36) (h := ?_)
   refine pu_ 6 (some 37) (h := ?_)
   exact norm_ (by simp only [putAll, Act.put, List.setIfInBounds_toArray, List.set_cons_zero, List.set_cons_succ]) (hCont (v303, v308, gb311) _ ⟨hHeld, kp_ HO265.out, kp_ HO270.out, kp_ HO278.out, kp_ HO283.out, kp_ HO290.out, kp_ HO295.out, kp_ HO304.out, kp_ HO309.out, kb_ BK258.out, kb_ BK259.out, kb_ BK285.out, kb_ BK296.out, kb_ BK311.out, GW311.out, GE311.out, NB258_311.out, NB311_258.out, NB259_311.out, NB311_259.out, NB285_311.out, NB311_285.out, NB296_311.out, NB311_296.out, bl_⟩)
 rintro ⟨v303, v308, gb311⟩ w53 ⟨hS_, h0_, h1_, h2_, h3_, h4_, h5_, h6_, h7_, h8_, h9_, h10_, h11_, h12_, h13_, h14_, h15_, h16_, h17_, h18_, h19_, h20_, h21_, h22_, h23_⟩
 dsimp only at h0_ h1_ h2_ h3_ h4_ h5_ h6_ h7_ h8_ h9_ h10_ h11_ h12_ h13_ h14_ h15_ h16_ h17_ h18_ h19_ h20_ h21_ h22_ h23_
 replace HO265 := Aside0.mk h0_
 replace HO270 := Aside0.mk h1_
 replace HO278 := Aside0.mk h2_
 replace HO283 := Aside0.mk h3_
 replace HO290 := Aside0.mk h4_
 replace HO295 := Aside0.mk h5_
 have HO304 := Aside0.mk h6_
 have HO309 := Aside0.mk h7_
 replace BK258 := Aside0.mk h8_
 replace BK259 := Aside0.mk h9_
 replace BK285 := Aside0.mk h10_
 replace BK296 := Aside0.mk h11_
 have BK311 := Aside0.mk h12_
 have GW311 := Aside0.mk h13_
 have GE311 := Aside0.mk h14_
 have NB258_311 := Aside0.mk h15_
 have NB311_258 := Aside0.mk h16_
 have NB259_311 := Aside0.mk h17_
 have NB311_259 := Aside0.mk h18_
 have NB285_311 := Aside0.mk h19_
 have NB311_285 := Aside0.mk h20_
 have NB296_311 := Aside0.mk h21_
 have NB311_296 := Aside0.mk h22_
 replace HB := Aside0.mk h23_
 clear h0_ h1_ h2_ h3_ h4_ h5_ h6_ h7_ h8_ h9_ h10_ h11_ h12_ h13_ h14_ h15_ h16_ h17_ h18_ h19_ h20_ h21_ h22_ h23_
 try dsimp only at hS_
 have hHeld := hS_
 obtain ⟨Ao56, co56, eo56⟩ := Kd.R_slice HO304.out
 (first | subst eo56 | (injection eo56 with f1_ f2_ f3_; have f4_ := f1_.symm; have f5_ := f3_.symm; clear f1_ f2_ f3_; subst f4_; subst f5_))
 obtain ⟨Ao60, co60, eo60⟩ := Kd.R_slice HO309.out
 (first | subst eo60 | (injection eo60 with f1_ f2_ f3_; have f4_ := f1_.symm; have f5_ := f3_.symm; clear f1_ f2_ f3_; subst f4_; subst f5_))
 refine norm_ np_ ?_
 refine on_ 8 none (h := fun K hK => ?_)
 have hs54 : w53.cell? ⟨gb311, 0, none⟩ = some (.int .i64 0) := bc_ BK311.out 0
 have hfs54 := blk_frozen BK311.out 0
 have hns54_0 := NB258_311.out
 have hns54_1 := NB259_311.out
 have hns54_2 := NB285_311.out
 have hns54_3 := NB296_311.out
 have hms54_0 := NB311_258.out
 have hms54_1 := NB311_259.out
 have hms54_2 := NB311_285.out
 have hms54_3 := NB311_296.out
 have hs55 : w53.cell? ⟨gb311, 1, none⟩ = some (.int .i64 0) := bc_ BK311.out 1
 have hfs55 := blk_frozen BK311.out 1
 have hns55_0 := NB258_311.out
 have hns55_1 := NB259_311.out
 have hns55_2 := NB285_311.out
 have hns55_3 := NB296_311.out
 have hms55_0 := NB311_258.out
 have hms55_1 := NB311_259.out
 have hms55_2 := NB311_285.out
 have hms55_3 := NB311_296.out
 have hs57 : w53.cell? ⟨gb311, 2, none⟩ = some (.slice none 0 0) := bc_ BK311.out 2
 have hfs57 := blk_frozen BK311.out 2
 have hns57_0 := NB258_311.out
 have hns57_1 := NB259_311.out
 have hns57_2 := NB285_311.out
 have hns57_3 := NB296_311.out
 have hms57_0 := NB311_258.out
 have hms57_1 := NB311_259.out
 have hms57_2 := NB311_285.out
 have hms57_3 := NB311_296.out
 have hs58 : w53.cell? ⟨gb311, 3, none⟩ = some (.int .i64 0) := bc_ BK311.out 3
 have hfs58 := blk_frozen BK311.out 3
 have hns58_0 := NB258_311.out
 have hns58_1 := NB259_311.out
 have hns58_2 := NB285_311.out
 have hns58_3 := NB296_311.out
 have hms58_0 := NB311_258.out
 have hms58_1 := NB311_259.out
 have hms58_2 := NB311_285.out
 have hms58_3 := NB311_296.out
 have hs59 : w53.cell? ⟨gb311, 4, none⟩ = some (.int .i64 0) := bc_ BK311.out 4
 have hfs59 := blk_frozen BK311.out 4
 have hns59_0 := NB258_311.out
 have hns59_1 := NB259_311.out
 have hns59_2 := NB285_311.out
 have hns59_3 := NB296_311.out
 have hms59_0 := NB311_258.out
 have hms59_1 := NB311_259.out
 have hms59_2 := NB311_285.out
 have hms59_3 := NB311_296.out
 have hs61 : w53.cell? ⟨gb311, 5, none⟩ = some (.slice none 0 0) := bc_ BK311.out 5
 have hfs61 := blk_frozen BK311.out 5
 have hns61_0 := NB258_311.out
 have hns61_1 := NB259_311.out
 have hns61_2 := NB285_311.out
 have hns61_3 := NB296_311.out
 have hms61_0 := NB311_258.out
 have hms61_1 := NB311_259.out
 have hms61_2 := NB311_285.out
 have hms61_3 := NB311_296.out
 refine skip_ (w1 := ?_) (by rfl) rfl ?_ ?_
 rotate_left
 ·go_simp
  rfl
 refine hK.out _ _ ⟨((cell_far (p := ⟨gb311, _, none⟩) NB296_311.out _).trans (((cell_far (p := ⟨gb311, _, none⟩) NB296_311.out _).trans (((cell_far (p := ⟨gb311, _, none⟩) NB296_311.out _).trans (((cell_far (p := ⟨gb311, _, none⟩) NB296_311.out _).trans (((cell_far (p := ⟨gb311, _, none⟩) NB296_311.out _).trans (((cell_far (p := ⟨gb311, _, none⟩) NB296_311.out _).trans (hHeld.1)))))))))))), ((cell_far (p := ⟨gb311, _, none⟩) NB296_311.out _).trans (((cell_far (p := ⟨gb311, _, none⟩) NB296_311.out _).trans (((cell_far (p := ⟨gb311, _, none⟩) NB296_311.out _).trans (((cell_far (p := ⟨gb311, _, none⟩) NB296_311.out _).trans (((cell_far (p := ⟨gb311, _, none⟩) NB296_311.out _).trans (((cell_far (p := ⟨gb311, _, none⟩) NB296_311.out _).trans (hHeld.2.1)))))))))))), ((cell_far (p := ⟨gb311, _, none⟩) NB296_311.out _).trans (((cell_far (p := ⟨gb311, _, none⟩) NB296_311.out _).trans (((cell_far (p := ⟨gb311, _, none⟩) NB296_311.out _).trans (((cell_far (p := ⟨gb311, _, none⟩) NB296_311.out _).trans (((cell_far (p := ⟨gb311, _, none⟩) NB296_311.out _).trans (((cell_far (p := ⟨gb311, _, none⟩) NB296_311.out _).trans (hHeld.2.2.1)))))))))))), ((cell_far (p := ⟨gb311, _, none⟩) NB296_311.out _).trans (((cell_far (p := ⟨gb311, _, none⟩) NB296_311.out _).trans (((cell_far (p := ⟨gb311, _, none⟩) NB296_311.out _).trans (((cell_far (p := ⟨gb311, _, none⟩) NB296_311.out _).trans (((cell_far (p := ⟨gb311, _, none⟩) NB296_311.out _).trans (((cell_far (p := ⟨gb311, _, none⟩) NB296_311.out _).trans (hHeld.2.2.2.1)))))))))))), ((cell_far (p := ⟨gb311, _, none⟩) NB296_311.out _).trans (((cell_far (p := ⟨gb311, _, none⟩) NB296_311.out _).trans (((cell_far (p := ⟨gb311, _, none⟩) NB296_311.out _).trans (((cell_far (p := ⟨gb311, _, none⟩) NB296_311.out _).trans (((cell_far (p := ⟨gb311, _, none⟩) NB296_311.out _).trans (((cell_far (p := ⟨gb311, _, none⟩) NB296_311.out _).trans (hHeld.2.2.2.2.1)))))))))))), ((cell_far (p := ⟨gb311, _, none⟩) NB296_311.out _).trans (((cell_far (p := ⟨gb311, _, none⟩) NB296_311.out _).trans (((cell_far (p := ⟨gb311, _, none⟩) NB296_311.out _).trans (((cell_far (p := ⟨gb311, _, none⟩) NB296_311.out _).trans (((cell_far (p := ⟨gb311, _, none⟩) NB296_311.out _).trans (((cell_far (p := ⟨gb311, _, none⟩) NB296_311.out _).trans (hHeld.2.2.2.2.2.1)))))))))))), ((cell_far (p := ⟨gb311, _, none⟩) NB259_311.out _).trans (((cell_far (p := ⟨gb311, _, none⟩) NB259_311.out _).trans (((cell_far (p := ⟨gb311, _, none⟩) NB259_311.out _).trans (((cell_far (p := ⟨gb311, _, none⟩) NB259_311.out _).trans (((cell_far (p := ⟨gb311, _, none⟩) NB259_311.out _).trans (((cell_far (p := ⟨gb311, _, none⟩) NB259_311.out _).trans (hHeld.2.2.2.2.2.2.1)))))))))))), ((cell_far (p := ⟨gb311, _, none⟩) NB259_311.out _).trans (((cell_far (p := ⟨gb311, _, none⟩) NB259_311.out _).trans (((cell_far (p := ⟨gb311, _, none⟩) NB259_311.out _).trans (((cell_far (p := ⟨gb311, _, none⟩) NB259_311.out _).trans (((cell_far (p := ⟨gb311, _, none⟩) NB259_311.out _).trans (((cell_far (p := ⟨gb311, _, none⟩) NB259_311.out _).trans (hHeld.2.2.2.2.2.2.2.1)))))))))))), ((cell_far (p := ⟨gb311, _, none⟩) NB259_311.out _).trans (((cell_far (p := ⟨gb311, _, none⟩) NB259_311.out _).trans (((cell_far (p := ⟨gb311, _, none⟩) NB259_311.out _).trans (((cell_far (p := ⟨gb311, _, none⟩) NB259_311.out _).trans (((cell_far (p := ⟨gb311, _, none⟩) NB259_311.out _).trans (((cell_far (p := ⟨gb311, _, none⟩) NB259_311.out _).trans (hHeld.2.2.2.2.2.2.2.2))))))))))))⟩ (fun hHeld => ?_)
 clear hK K
 refine pu_ 9 (some 10) (h := ?_)
 refine done_ (done_of HT_.out (by kernel_rfl)) ?_
 go_upto_region 8 with (fail)
 go_cut [46] (fun v46 wc => ∃ (kq : Nat) (x46_15 : Bool), v46 = .bool x46_15 ∧ Aside0 (laws_FnExactStepLease.j0 kq t284 t310 x46_15 a0_0 a0_1 l0_2 a0_3 a0_4 l0_5 a1_0 a1_1 a1_2 t274 t275 t276 t279 t280 t281 t286 t287 t288 t291 t292 t293 t300 t301 t302 t305 t306 t307 = some r) ∧ Aside0 (kq ≤ k) ∧ Aside0 (Kd.R (Kd.int .i64) 3 wc w.heap.size (fun k_ => some k_ ≠ ((.slice Ao36 t281.length co36) : Value).ownBlock ∧ some k_ ≠ ((.slice Ao46 t288.length co46) : Value).ownBlock ∧ some k_ ≠ ((.slice Ao47 t293.length co47) : Value).ownBlock ∧ some k_ ≠ ((.slice Ao56 t302.length co56) : Value).ownBlock ∧ some k_ ≠ ((.slice Ao60 t307.length co60) : Value).ownBlock) (.slice Ao32 t276.length co32) t276) ∧ Aside0 (Kd.R (Kd.int .i64) 3 wc w.heap.size (fun k_ => some k_ ≠ ((.slice Ao32 t276.length co32) : Value).ownBlock ∧ some k_ ≠ ((.slice Ao46 t288.length co46) : Value).ownBlock ∧ some k_ ≠ ((.slice Ao47 t293.length co47) : Value).ownBlock ∧ some k_ ≠ ((.slice Ao56 t302.length co56) : Value).ownBlock ∧ some k_ ≠ ((.slice Ao60 t307.length co60) : Value).ownBlock) (.slice Ao36 t281.length co36) t281) ∧ Aside0 (Kd.R (Kd.int .i64) 3 wc w.heap.size (fun k_ => some k_ ≠ ((.slice Ao32 t276.length co32) : Value).ownBlock ∧ some k_ ≠ ((.slice Ao36 t281.length co36) : Value).ownBlock ∧ some k_ ≠ ((.slice Ao47 t293.length co47) : Value).ownBlock ∧ some k_ ≠ ((.slice Ao56 t302.length co56) : Value).ownBlock ∧ some k_ ≠ ((.slice Ao60 t307.length co60) : Value).ownBlock) (.slice Ao46 t288.length co46) t288) ∧ Aside0 (Kd.R (Kd.int .i64) 3 wc w.heap.size (fun k_ => some k_ ≠ ((.slice Ao32 t276.length co32) : Value).ownBlock ∧ some k_ ≠ ((.slice Ao36 t281.length co36) : Value).ownBlock ∧ some k_ ≠ ((.slice Ao46 t288.length co46) : Value).ownBlock ∧ some k_ ≠ ((.slice Ao56 t302.length co56) : Value).ownBlock ∧ some k_ ≠ ((.slice Ao60 t307.length co60) : Value).ownBlock) (.slice Ao47 t293.length co47) t293) ∧ Aside0 (Kd.R (Kd.int .i64) 3 wc w.heap.size (fun k_ => some k_ ≠ ((.slice Ao32 t276.length co32) : Value).ownBlock ∧ some k_ ≠ ((.slice Ao36 t281.length co36) : Value).ownBlock ∧ some k_ ≠ ((.slice Ao46 t288.length co46) : Value).ownBlock ∧ some k_ ≠ ((.slice Ao47 t293.length co47) : Value).ownBlock ∧ some k_ ≠ ((.slice Ao60 t307.length co60) : Value).ownBlock) (.slice Ao56 t302.length co56) t302) ∧ Aside0 (Kd.R (Kd.int .i64) 3 wc w.heap.size (fun k_ => some k_ ≠ ((.slice Ao32 t276.length co32) : Value).ownBlock ∧ some k_ ≠ ((.slice Ao36 t281.length co36) : Value).ownBlock ∧ some k_ ≠ ((.slice Ao46 t288.length co46) : Value).ownBlock ∧ some k_ ≠ ((.slice Ao47 t293.length co47) : Value).ownBlock ∧ some k_ ≠ ((.slice Ao56 t302.length co56) : Value).ownBlock) (.slice Ao60 t307.length co60) t307) ∧ Aside0 (wc.heap[gb258]? = some (.cells #[.int .i64 a0_0, .int .i64 a0_1, (.slice A0_2 l0_2.length c0_2), .int .i64 a0_3, .int .i64 a0_4, (.slice A0_5 l0_5.length c0_5)] 30 (0, 0))) ∧ Aside0 (wc.heap[gb259]? = some (.cells #[.int .i64 a1_0, .int .i64 a1_1, .int .i64 a1_2] 43 (0, 0))) ∧ Aside0 (wc.heap[gb285]? = some (.cells #[.int .i64 t274, .int .i64 t275, (.slice Ao32 t276.length co32), .int .i64 t279, .int .i64 t280, (.slice Ao36 t281.length co36)] 24 (0, 0))) ∧ Aside0 (wc.heap[gb296]? = some (.cells #[.int .i64 t286, .int .i64 t287, (.slice Ao46 t288.length co46), .int .i64 t291, .int .i64 t292, (.slice Ao47 t293.length co47)] 24 (0, 0))) ∧ Aside0 (wc.heap[gb311]? = some (.cells #[.int .i64 t300, .int .i64 t301, (.slice Ao56 t302.length co56), .int .i64 t305, .int .i64 t306, (.slice Ao60 t307.length co60)] 24 (0, 0))) ∧ Aside0 (Below w.heap.size w wc))
 case first =>
  have H := HC16.out
  clear HC16
  replace H := Option.bind_eq_some_iff.mp H
  obtain ⟨t312, A620, H⟩ := H
  replace H : (if t312 = true then (laws_FnExactStepLease.j0 k t284 t310 (t310 != t284) a0_0 a0_1 l0_2 a0_3 a0_4 l0_5 a1_0 a1_1 a1_2 t274 t275 t276 t279 t280 t281 t286 t287 t288 t291 t292 t293 t300 t301 t302 t305 t306 t307) else (none)) = some r := H
  have A62 := Aside0.mk A620
  clear A620
  by_cases c63 : t312 = true
  rotate_left
  ·replace c63 := Bool.eq_false_iff.mpr c63
   subst c63
   have H1 : (none) = some r := by rw [if_neg (show ¬ (false = true) by decide)] at H; exact H
   clear H
   have H := H1
   clear H1
   exact absurd H (by simp)
  subst c63
  have H1 : (laws_FnExactStepLease.j0 k t284 t310 (t310 != t284) a0_0 a0_1 l0_2 a0_3 a0_4 l0_5 a1_0 a1_1 a1_2 t274 t275 t276 t279 t280 t281 t286 t287 t288 t291 t292 t293 t300 t301 t302 t305 t306 t307) = some r := by rw [if_pos rfl] at H; exact H
  clear H
  have H := H1
  clear H1
  have H' := Aside0.mk H
  clear H
  have hnb64 := NB311_258.out
  have hnc64 := NB258_311.out
  have hnb65 := NB311_259.out
  have hnc65 := NB259_311.out
  have hnb66 := NB311_285.out
  have hnc66 := NB285_311.out
  have hnb67 := NB311_296.out
  have hnc67 := NB296_311.out
  have hcz68_0 : w53.cell? ⟨gb311, 0, none⟩ = some (.int .i64 0) := bc_ BK311.out 0
  have hcz68_1 : w53.cell? ⟨gb311, 1, none⟩ = some (.int .i64 0) := bc_ BK311.out 1
  have hcz68_2 : w53.cell? ⟨gb311, 2, none⟩ = some (.slice none 0 0) := bc_ BK311.out 2
  have hcz68_3 : w53.cell? ⟨gb311, 3, none⟩ = some (.int .i64 0) := bc_ BK311.out 3
  have hcz68_4 : w53.cell? ⟨gb311, 4, none⟩ = some (.int .i64 0) := bc_ BK311.out 4
  have hcz68_5 : w53.cell? ⟨gb311, 5, none⟩ = some (.slice none 0 0) := bc_ BK311.out 5
  have hfz68_0 := blk_frozen BK311.out 0
  have hfz68_1 := blk_frozen BK311.out 1
  have hfz68_2 := blk_frozen BK311.out 2
  have hfz68_3 := blk_frozen BK311.out 3
  have hfz68_4 := blk_frozen BK311.out 4
  have hfz68_5 := blk_frozen BK311.out 5
  have hnb69 := NB285_258.out
  have hnc69 := NB258_285.out
  have hnb70 := NB285_259.out
  have hnc70 := NB259_285.out
  have hnb71 := NB285_296.out
  have hnc71 := NB296_285.out
  have hcz72_0 : w53.cell? ⟨gb285, 0, none⟩ = some (.int .i64 t274) := bc_ BK285.out 0
  have hcz72_1 : w53.cell? ⟨gb285, 1, none⟩ = some (.int .i64 t275) := bc_ BK285.out 1
  have hcz72_2 : w53.cell? ⟨gb285, 2, none⟩ = some (.slice Ao32 t276.length co32) := bc_ BK285.out 2
  have hcz72_3 : w53.cell? ⟨gb285, 3, none⟩ = some (.int .i64 t279) := bc_ BK285.out 3
  have hcz72_4 : w53.cell? ⟨gb285, 4, none⟩ = some (.int .i64 t280) := bc_ BK285.out 4
  have hcz72_5 : w53.cell? ⟨gb285, 5, none⟩ = some (.slice Ao36 t281.length co36) := bc_ BK285.out 5
  have hfz72_0 := blk_frozen BK285.out 0
  have hfz72_1 := blk_frozen BK285.out 1
  have hfz72_2 := blk_frozen BK285.out 2
  have hfz72_3 := blk_frozen BK285.out 3
  have hfz72_4 := blk_frozen BK285.out 4
  have hfz72_5 := blk_frozen BK285.out 5
  go_wp2_with (first | ((with_reducible refine gate_callee (f := 14) rfl ?_); refine goesL_ (some 40) rfl rfl Try.func14 (by kernel_rfl) rfl #[.agg #[.int .i64 t300, .int .i64 t301, .slice Ao56 t302.length co56, .int .i64 t305, .int .i64 t306, .slice Ao60 t307.length co60], .agg #[.int .i64 t274, .int .i64 t275, .slice Ao32 t276.length co32, .int .i64 t279, .int .i64 t280, .slice Ao36 t281.length co36]] rfl nc_ ?_; (with_reducible refine (laws_eqLeases.calls k t300 t301 _ _ t302 t305 t306 _ _ t307 t274 t275 _ _ t276 t279 t280 _ _ t281 true _ ?side1 ?side2 ?side3 ?side4 ?side5 ?side6 ?side7 ?side8 A62.out).mono ?_); (case side1 => refine (Kd.R_reads' (e := 3) (base := w.heap.size) (ok := fun k_ => (some k_ ≠ (v264 : Value).ownBlock ∧ (some k_ ≠ (v269 : Value).ownBlock ∧ (some k_ ≠ (.slice Ao32 t276.length co32 : Value).ownBlock ∧ (some k_ ≠ (.slice Ao36 t281.length co36 : Value).ownBlock ∧ (some k_ ≠ (.slice Ao46 t288.length co46 : Value).ownBlock ∧ (some k_ ≠ (.slice Ao47 t293.length co47 : Value).ownBlock ∧ some k_ ≠ (.slice Ao60 t307.length co60 : Value).ownBlock))))))) (n := t302.length) (c := co56) ?_).2.2; exact (by exact kr_ ((Kd.R_mono (Kd.R_far (p := ⟨gb311, 5, none⟩) (Kd.R_far (p := ⟨gb311, 4, none⟩) (Kd.R_far (p := ⟨gb311, 3, none⟩) (Kd.R_far (p := ⟨gb311, 2, none⟩) (Kd.R_far (p := ⟨gb311, 1, none⟩) (Kd.R_far (p := ⟨gb311, 0, none⟩) (Kd.R_types HO304.out BK311.out (by decide)) (fun _ hk => hk.2) (.int .i64 t300)) (fun _ hk => hk.2) (.int .i64 t301)) (fun _ hk => hk.2) (.slice Ao56 t302.length co56)) (fun _ hk => hk.2) (.int .i64 t305)) (fun _ hk => hk.2) (.int .i64 t306)) (fun _ hk => hk.2) (.slice Ao60 t307.length co60)) (fun _ h_ => h_.1))))); (case side2 => exact (Kd.R_reads' HO304.out).2.1); (case side3 => refine (Kd.R_reads' (e := 3) (base := w.heap.size) (ok := fun k_ => (some k_ ≠ (v264 : Value).ownBlock ∧ (some k_ ≠ (v269 : Value).ownBlock ∧ (some k_ ≠ (.slice Ao32 t276.length co32 : Value).ownBlock ∧ (some k_ ≠ (.slice Ao36 t281.length co36 : Value).ownBlock ∧ (some k_ ≠ (.slice Ao46 t288.length co46 : Value).ownBlock ∧ (some k_ ≠ (.slice Ao47 t293.length co47 : Value).ownBlock ∧ some k_ ≠ (.slice Ao56 t302.length co56 : Value).ownBlock))))))) (n := t307.length) (c := co60) ?_).2.2; exact (by exact kr_ ((Kd.R_mono (Kd.R_far (p := ⟨gb311, 5, none⟩) (Kd.R_far (p := ⟨gb311, 4, none⟩) (Kd.R_far (p := ⟨gb311, 3, none⟩) (Kd.R_far (p := ⟨gb311, 2, none⟩) (Kd.R_far (p := ⟨gb311, 1, none⟩) (Kd.R_far (p := ⟨gb311, 0, none⟩) (Kd.R_types HO309.out BK311.out (by decide)) (fun _ hk => hk.2) (.int .i64 t300)) (fun _ hk => hk.2) (.int .i64 t301)) (fun _ hk => hk.2) (.slice Ao56 t302.length co56)) (fun _ hk => hk.2) (.int .i64 t305)) (fun _ hk => hk.2) (.int .i64 t306)) (fun _ hk => hk.2) (.slice Ao60 t307.length co60)) (fun _ h_ => h_.1))))); (case side4 => exact (Kd.R_reads' HO309.out).2.1); (case side5 => refine (Kd.R_reads' (e := 3) (base := w.heap.size) (ok := fun k_ => (some k_ ≠ (v264 : Value).ownBlock ∧ (some k_ ≠ (v269 : Value).ownBlock ∧ (some k_ ≠ (.slice Ao36 t281.length co36 : Value).ownBlock ∧ (some k_ ≠ (.slice Ao46 t288.length co46 : Value).ownBlock ∧ (some k_ ≠ (.slice Ao47 t293.length co47 : Value).ownBlock ∧ (some k_ ≠ (.slice Ao56 t302.length co56 : Value).ownBlock ∧ some k_ ≠ (.slice Ao60 t307.length co60 : Value).ownBlock))))))) (n := t276.length) (c := co32) ?_).2.2; exact (by exact kr_ ((Kd.R_mono (Kd.R_far (p := ⟨gb311, 5, none⟩) (Kd.R_far (p := ⟨gb311, 4, none⟩) (Kd.R_far (p := ⟨gb311, 3, none⟩) (Kd.R_far (p := ⟨gb311, 2, none⟩) (Kd.R_far (p := ⟨gb311, 1, none⟩) (Kd.R_far (p := ⟨gb311, 0, none⟩) (Kd.R_types HO278.out BK311.out (by decide)) (fun _ hk => hk.2) (.int .i64 t300)) (fun _ hk => hk.2) (.int .i64 t301)) (fun _ hk => hk.2) (.slice Ao56 t302.length co56)) (fun _ hk => hk.2) (.int .i64 t305)) (fun _ hk => hk.2) (.int .i64 t306)) (fun _ hk => hk.2) (.slice Ao60 t307.length co60)) (fun _ h_ => h_.1))))); (case side6 => exact (Kd.R_reads' HO278.out).2.1); (case side7 => refine (Kd.R_reads' (e := 3) (base := w.heap.size) (ok := fun k_ => (some k_ ≠ (v264 : Value).ownBlock ∧ (some k_ ≠ (v269 : Value).ownBlock ∧ (some k_ ≠ (.slice Ao32 t276.length co32 : Value).ownBlock ∧ (some k_ ≠ (.slice Ao46 t288.length co46 : Value).ownBlock ∧ (some k_ ≠ (.slice Ao47 t293.length co47 : Value).ownBlock ∧ (some k_ ≠ (.slice Ao56 t302.length co56 : Value).ownBlock ∧ some k_ ≠ (.slice Ao60 t307.length co60 : Value).ownBlock))))))) (n := t281.length) (c := co36) ?_).2.2; exact (by exact kr_ ((Kd.R_mono (Kd.R_far (p := ⟨gb311, 5, none⟩) (Kd.R_far (p := ⟨gb311, 4, none⟩) (Kd.R_far (p := ⟨gb311, 3, none⟩) (Kd.R_far (p := ⟨gb311, 2, none⟩) (Kd.R_far (p := ⟨gb311, 1, none⟩) (Kd.R_far (p := ⟨gb311, 0, none⟩) (Kd.R_types HO283.out BK311.out (by decide)) (fun _ hk => hk.2) (.int .i64 t300)) (fun _ hk => hk.2) (.int .i64 t301)) (fun _ hk => hk.2) (.slice Ao56 t302.length co56)) (fun _ hk => hk.2) (.int .i64 t305)) (fun _ hk => hk.2) (.int .i64 t306)) (fun _ hk => hk.2) (.slice Ao60 t307.length co60)) (fun _ h_ => h_.1))))); (case side8 => exact (Kd.R_reads' HO283.out).2.1); rintro e w73 ⟨rfl, hb⟩; refine ⟨_, rfl, ?_⟩; replace HO265 := Aside0.mk (Kd.R_below (by exact kr_ ((Kd.R_mono (Kd.R_far (p := ⟨gb311, 5, none⟩) (Kd.R_far (p := ⟨gb311, 4, none⟩) (Kd.R_far (p := ⟨gb311, 3, none⟩) (Kd.R_far (p := ⟨gb311, 2, none⟩) (Kd.R_far (p := ⟨gb311, 1, none⟩) (Kd.R_far (p := ⟨gb311, 0, none⟩) (Kd.R_types HO265.out BK311.out (by decide)) (fun _ hk => hk.2) (.int .i64 t300)) (fun _ hk => hk.2) (.int .i64 t301)) (fun _ hk => hk.2) (.slice Ao56 t302.length co56)) (fun _ hk => hk.2) (.int .i64 t305)) (fun _ hk => hk.2) (.int .i64 t306)) (fun _ hk => hk.2) (.slice Ao60 t307.length co60)) (fun _ h_ => h_.1)))) hb); replace HO270 := Aside0.mk (Kd.R_below (by exact kr_ ((Kd.R_mono (Kd.R_far (p := ⟨gb311, 5, none⟩) (Kd.R_far (p := ⟨gb311, 4, none⟩) (Kd.R_far (p := ⟨gb311, 3, none⟩) (Kd.R_far (p := ⟨gb311, 2, none⟩) (Kd.R_far (p := ⟨gb311, 1, none⟩) (Kd.R_far (p := ⟨gb311, 0, none⟩) (Kd.R_types HO270.out BK311.out (by decide)) (fun _ hk => hk.2) (.int .i64 t300)) (fun _ hk => hk.2) (.int .i64 t301)) (fun _ hk => hk.2) (.slice Ao56 t302.length co56)) (fun _ hk => hk.2) (.int .i64 t305)) (fun _ hk => hk.2) (.int .i64 t306)) (fun _ hk => hk.2) (.slice Ao60 t307.length co60)) (fun _ h_ => h_.1)))) hb); replace HO278 := Aside0.mk (Kd.R_below (by exact kr_ ((Kd.R_mono (Kd.R_far (p := ⟨gb311, 5, none⟩) (Kd.R_far (p := ⟨gb311, 4, none⟩) (Kd.R_far (p := ⟨gb311, 3, none⟩) (Kd.R_far (p := ⟨gb311, 2, none⟩) (Kd.R_far (p := ⟨gb311, 1, none⟩) (Kd.R_far (p := ⟨gb311, 0, none⟩) (Kd.R_types HO278.out BK311.out (by decide)) (fun _ hk => hk.2) (.int .i64 t300)) (fun _ hk => hk.2) (.int .i64 t301)) (fun _ hk => hk.2) (.slice Ao56 t302.length co56)) (fun _ hk => hk.2) (.int .i64 t305)) (fun _ hk => hk.2) (.int .i64 t306)) (fun _ hk => hk.2) (.slice Ao60 t307.length co60)) (fun _ h_ => h_.1)))) hb); replace HO283 := Aside0.mk (Kd.R_below (by exact kr_ ((Kd.R_mono (Kd.R_far (p := ⟨gb311, 5, none⟩) (Kd.R_far (p := ⟨gb311, 4, none⟩) (Kd.R_far (p := ⟨gb311, 3, none⟩) (Kd.R_far (p := ⟨gb311, 2, none⟩) (Kd.R_far (p := ⟨gb311, 1, none⟩) (Kd.R_far (p := ⟨gb311, 0, none⟩) (Kd.R_types HO283.out BK311.out (by decide)) (fun _ hk => hk.2) (.int .i64 t300)) (fun _ hk => hk.2) (.int .i64 t301)) (fun _ hk => hk.2) (.slice Ao56 t302.length co56)) (fun _ hk => hk.2) (.int .i64 t305)) (fun _ hk => hk.2) (.int .i64 t306)) (fun _ hk => hk.2) (.slice Ao60 t307.length co60)) (fun _ h_ => h_.1)))) hb); replace HO290 := Aside0.mk (Kd.R_below (by exact kr_ ((Kd.R_mono (Kd.R_far (p := ⟨gb311, 5, none⟩) (Kd.R_far (p := ⟨gb311, 4, none⟩) (Kd.R_far (p := ⟨gb311, 3, none⟩) (Kd.R_far (p := ⟨gb311, 2, none⟩) (Kd.R_far (p := ⟨gb311, 1, none⟩) (Kd.R_far (p := ⟨gb311, 0, none⟩) (Kd.R_types HO290.out BK311.out (by decide)) (fun _ hk => hk.2) (.int .i64 t300)) (fun _ hk => hk.2) (.int .i64 t301)) (fun _ hk => hk.2) (.slice Ao56 t302.length co56)) (fun _ hk => hk.2) (.int .i64 t305)) (fun _ hk => hk.2) (.int .i64 t306)) (fun _ hk => hk.2) (.slice Ao60 t307.length co60)) (fun _ h_ => h_.1)))) hb); replace HO295 := Aside0.mk (Kd.R_below (by exact kr_ ((Kd.R_mono (Kd.R_far (p := ⟨gb311, 5, none⟩) (Kd.R_far (p := ⟨gb311, 4, none⟩) (Kd.R_far (p := ⟨gb311, 3, none⟩) (Kd.R_far (p := ⟨gb311, 2, none⟩) (Kd.R_far (p := ⟨gb311, 1, none⟩) (Kd.R_far (p := ⟨gb311, 0, none⟩) (Kd.R_types HO295.out BK311.out (by decide)) (fun _ hk => hk.2) (.int .i64 t300)) (fun _ hk => hk.2) (.int .i64 t301)) (fun _ hk => hk.2) (.slice Ao56 t302.length co56)) (fun _ hk => hk.2) (.int .i64 t305)) (fun _ hk => hk.2) (.int .i64 t306)) (fun _ hk => hk.2) (.slice Ao60 t307.length co60)) (fun _ h_ => h_.1)))) hb); replace HO304 := Aside0.mk (Kd.R_below (by exact kr_ ((Kd.R_mono (Kd.R_far (p := ⟨gb311, 5, none⟩) (Kd.R_far (p := ⟨gb311, 4, none⟩) (Kd.R_far (p := ⟨gb311, 3, none⟩) (Kd.R_far (p := ⟨gb311, 2, none⟩) (Kd.R_far (p := ⟨gb311, 1, none⟩) (Kd.R_far (p := ⟨gb311, 0, none⟩) (Kd.R_types HO304.out BK311.out (by decide)) (fun _ hk => hk.2) (.int .i64 t300)) (fun _ hk => hk.2) (.int .i64 t301)) (fun _ hk => hk.2) (.slice Ao56 t302.length co56)) (fun _ hk => hk.2) (.int .i64 t305)) (fun _ hk => hk.2) (.int .i64 t306)) (fun _ hk => hk.2) (.slice Ao60 t307.length co60)) (fun _ h_ => h_.1)))) hb); replace HO309 := Aside0.mk (Kd.R_below (by exact kr_ ((Kd.R_mono (Kd.R_far (p := ⟨gb311, 5, none⟩) (Kd.R_far (p := ⟨gb311, 4, none⟩) (Kd.R_far (p := ⟨gb311, 3, none⟩) (Kd.R_far (p := ⟨gb311, 2, none⟩) (Kd.R_far (p := ⟨gb311, 1, none⟩) (Kd.R_far (p := ⟨gb311, 0, none⟩) (Kd.R_types HO309.out BK311.out (by decide)) (fun _ hk => hk.2) (.int .i64 t300)) (fun _ hk => hk.2) (.int .i64 t301)) (fun _ hk => hk.2) (.slice Ao56 t302.length co56)) (fun _ hk => hk.2) (.int .i64 t305)) (fun _ hk => hk.2) (.int .i64 t306)) (fun _ hk => hk.2) (.slice Ao60 t307.length co60)) (fun _ h_ => h_.1)))) hb); replace BK258 := Aside0.mk (blk_below (g := gb258) (o := .cells #[.int .i64 a0_0, .int .i64 a0_1, .slice A0_2 l0_2.length c0_2, .int .i64 a0_3, .int .i64 a0_4, .slice A0_5 l0_5.length c0_5] 30 (0, 0)) kz_ hb); replace BK259 := Aside0.mk (blk_below (g := gb259) (o := .cells #[.int .i64 a1_0, .int .i64 a1_1, .int .i64 a1_2] 43 (0, 0)) kz_ hb); replace BK285 := Aside0.mk (blk_below (g := gb285) (o := .cells #[.int .i64 t274, .int .i64 t275, .slice Ao32 t276.length co32, .int .i64 t279, .int .i64 t280, .slice Ao36 t281.length co36] 24 (0, 0)) kz_ hb); replace BK296 := Aside0.mk (blk_below (g := gb296) (o := .cells #[.int .i64 t286, .int .i64 t287, .slice Ao46 t288.length co46, .int .i64 t291, .int .i64 t292, .slice Ao47 t293.length co47] 24 (0, 0)) kz_ hb); replace BK311 := Aside0.mk (blk_below (g := gb311) (o := .cells #[.int .i64 t300, .int .i64 t301, .slice Ao56 t302.length co56, .int .i64 t305, .int .i64 t306, .slice Ao60 t307.length co60] 24 (0, 0)) (by (with_reducible repeat (first | refine blk_drewN ?_ _ | refine blk_drew ?_ | refine blk_alloc ?_ _)); refine blk_put (cs := #[.int .i64 t300, .int .i64 t301, .slice Ao56 t302.length co56, .int .i64 t305, .int .i64 t306, .slice none 0 0]) ?_ 5 _ rfl; (with_reducible repeat (first | refine blk_drewN ?_ _ | refine blk_drew ?_ | refine blk_alloc ?_ _)); refine blk_put (cs := #[.int .i64 t300, .int .i64 t301, .slice Ao56 t302.length co56, .int .i64 t305, .int .i64 0, .slice none 0 0]) ?_ 4 _ rfl; (with_reducible repeat (first | refine blk_drewN ?_ _ | refine blk_drew ?_ | refine blk_alloc ?_ _)); refine blk_put (cs := #[.int .i64 t300, .int .i64 t301, .slice Ao56 t302.length co56, .int .i64 0, .int .i64 0, .slice none 0 0]) ?_ 3 _ rfl; (with_reducible repeat (first | refine blk_drewN ?_ _ | refine blk_drew ?_ | refine blk_alloc ?_ _)); refine blk_put (cs := #[.int .i64 t300, .int .i64 t301, .slice none 0 0, .int .i64 0, .int .i64 0, .slice none 0 0]) ?_ 2 _ rfl; (with_reducible repeat (first | refine blk_drewN ?_ _ | refine blk_drew ?_ | refine blk_alloc ?_ _)); refine blk_put (cs := #[.int .i64 t300, .int .i64 0, .slice none 0 0, .int .i64 0, .int .i64 0, .slice none 0 0]) ?_ 1 _ rfl; (with_reducible repeat (first | refine blk_drewN ?_ _ | refine blk_drew ?_ | refine blk_alloc ?_ _)); refine blk_put (cs := #[.int .i64 0, .int .i64 0, .slice none 0 0, .int .i64 0, .int .i64 0, .slice none 0 0]) ?_ 0 _ rfl; exact kb_ BK311.out) hb); replace HB := Aside0.mk (below_step bl_ hb); clear hb))
  go_meet
  case rel => exact ⟨_, ((t310 != t284)), (by first | rfl | (simp; done) | (simp [*]; done)), H', ⟨by first | omega | exact Nat.le_refl _⟩, ⟨kp_ HO278.out⟩, ⟨kp_ HO283.out⟩, ⟨kp_ HO290.out⟩, ⟨kp_ HO295.out⟩, ⟨kp_ HO304.out⟩, ⟨kp_ HO309.out⟩, ⟨by exact kb_ BK258.out⟩, ⟨by exact kb_ BK259.out⟩, ⟨by exact kb_ BK285.out⟩, ⟨by exact kb_ BK296.out⟩, ⟨by exact kb_ BK311.out⟩, ⟨bl_⟩⟩
 clear HC16
 try clear c1
 try clear c2
 try clear p2
 try clear c3
 try clear c6
 try clear c7
 try clear c14
 try clear c29
 try clear c30
 try clear c63
 try clear c64
 try clear c65
 try clear c66
 try clear c67
 try clear c69
 try clear c70
 try clear c71
 try clear hcz68_0
 try clear hcz68_1
 try clear hcz68_2
 try clear hcz68_3
 try clear hcz68_4
 try clear hcz68_5
 try clear hcz72_0
 try clear hcz72_1
 try clear hcz72_2
 try clear hcz72_3
 try clear hcz72_4
 try clear hcz72_5
 try clear hfz68_0
 try clear hfz68_1
 try clear hfz68_2
 try clear hfz68_3
 try clear hfz68_4
 try clear hfz68_5
 try clear hfz72_0
 try clear hfz72_1
 try clear hfz72_2
 try clear hfz72_3
 try clear hfz72_4
 try clear hfz72_5
 obtain ⟨kq, x46_15, rfl, HA, HJ15, HO_286002, HO_286005, HO_297002, HO_297005, HO_312002, HO_312005, BK258, BK259, BK285, BK296, BK311, HB⟩ := hcut
 cases kq with
 | zero => exact absurd HA.out (by simp [laws_FnExactStepLease.j0])
 | succ kj15 => ?_
 have H := HA.out
 clear HA
 simp only [laws_FnExactStepLease.j0] at H
 by_cases c74 : x46_15 = true
 ·subst c74
  have H1 : (none) = some r := by rw [if_pos rfl] at H; exact H
  clear H
  have H := H1
  clear H1
  exact absurd H (by simp)
 replace c74 := Bool.eq_false_iff.mpr c74
 subst c74
 have H1 : ((laws_toLeases.f kj15 a0_0 a0_1 l0_2 a0_3 a0_4 l0_5).bind fun bt313 => ((laws_eqLeases.f kj15 t286 t287 t288 t291 t292 t293 bt313.1 bt313.2.1 bt313.2.2.1 bt313.2.2.2.1 bt313.2.2.2.2.1 bt313.2.2.2.2.2).bind fun t323 => (if t323 = true then ((laws_markLeases.f kj15 t286 t287 t288 t291 t292 t293 1).bind fun bt324 => (if bt324.1 < 0 then (none) else ((laws_eqLeases.f kj15 t300 t301 t302 t305 t306 t307 t274 t275 t276 t279 t280 t281).bind fun t327 => (if t327 = true then (laws_FnExactStepLease.j1 kj15 t284 (t310 != t284) a0_0 a0_1 l0_2 a0_3 a0_4 l0_5 a1_0 a1_1 a1_2 t274 t275 t276 t279 t280 t281 t300 t301 t302 t305 t306 t307) else (none))))) else (none)))) = some r := by rw [if_neg (show ¬ (false = true) by decide)] at H; exact H
 clear H
 have H := H1
 clear H1
 replace H := Option.bind_eq_some_iff.mp H
 obtain ⟨⟨t313, t314, t315, t318, t319, t320⟩, A750, H⟩ := H
 replace H : ((laws_eqLeases.f kj15 t286 t287 t288 t291 t292 t293 t313 t314 t315 t318 t319 t320).bind fun t323 => (if t323 = true then ((laws_markLeases.f kj15 t286 t287 t288 t291 t292 t293 1).bind fun bt324 => (if bt324.1 < 0 then (none) else ((laws_eqLeases.f kj15 t300 t301 t302 t305 t306 t307 t274 t275 t276 t279 t280 t281).bind fun t327 => (if t327 = true then (laws_FnExactStepLease.j1 kj15 t284 (t310 != t284) a0_0 a0_1 l0_2 a0_3 a0_4 l0_5 a1_0 a1_1 a1_2 t274 t275 t276 t279 t280 t281 t300 t301 t302 t305 t306 t307) else (none))))) else (none))) = some r := H
 have A75 := Aside0.mk A750
 clear A750
 replace H := Option.bind_eq_some_iff.mp H
 obtain ⟨t323, A760, H⟩ := H
 replace H : (if t323 = true then ((laws_markLeases.f kj15 t286 t287 t288 t291 t292 t293 1).bind fun bt324 => (if bt324.1 < 0 then (none) else ((laws_eqLeases.f kj15 t300 t301 t302 t305 t306 t307 t274 t275 t276 t279 t280 t281).bind fun t327 => (if t327 = true then (laws_FnExactStepLease.j1 kj15 t284 (t310 != t284) a0_0 a0_1 l0_2 a0_3 a0_4 l0_5 a1_0 a1_1 a1_2 t274 t275 t276 t279 t280 t281 t300 t301 t302 t305 t306 t307) else (none))))) else (none)) = some r := H
 have A76 := Aside0.mk A760
 clear A760
 by_cases c77 : t323 = true
 rotate_left
 ·replace c77 := Bool.eq_false_iff.mpr c77
  subst c77
  have H1 : (none) = some r := by rw [if_neg (show ¬ (false = true) by decide)] at H; exact H
  clear H
  have H := H1
  clear H1
  exact absurd H (by simp)
 subst c77
 have H1 : ((laws_markLeases.f kj15 t286 t287 t288 t291 t292 t293 1).bind fun bt324 => (if bt324.1 < 0 then (none) else ((laws_eqLeases.f kj15 t300 t301 t302 t305 t306 t307 t274 t275 t276 t279 t280 t281).bind fun t327 => (if t327 = true then (laws_FnExactStepLease.j1 kj15 t284 (t310 != t284) a0_0 a0_1 l0_2 a0_3 a0_4 l0_5 a1_0 a1_1 a1_2 t274 t275 t276 t279 t280 t281 t300 t301 t302 t305 t306 t307) else (none))))) = some r := by rw [if_pos rfl] at H; exact H
 clear H
 have H := H1
 clear H1
 replace H := Option.bind_eq_some_iff.mp H
 obtain ⟨⟨t324, t325, t326⟩, A780, H⟩ := H
 replace H : (if t324 < 0 then (none) else ((laws_eqLeases.f kj15 t300 t301 t302 t305 t306 t307 t274 t275 t276 t279 t280 t281).bind fun t327 => (if t327 = true then (laws_FnExactStepLease.j1 kj15 t284 (t310 != t284) a0_0 a0_1 l0_2 a0_3 a0_4 l0_5 a1_0 a1_1 a1_2 t274 t275 t276 t279 t280 t281 t300 t301 t302 t305 t306 t307) else (none)))) = some r := H
 have A78 := Aside0.mk A780
 clear A780
 have HC79 := Aside0.mk H
 clear H
 try go_wp2
 replace HO_286002 := Aside0.mk (Kd.R_drew HO_286002.out)
 replace HO_286005 := Aside0.mk (Kd.R_drew HO_286005.out)
 replace HO_297002 := Aside0.mk (Kd.R_drew HO_297002.out)
 replace HO_297005 := Aside0.mk (Kd.R_drew HO_297005.out)
 replace HO_312002 := Aside0.mk (Kd.R_drew HO_312002.out)
 replace HO_312005 := Aside0.mk (Kd.R_drew HO_312005.out)
 replace BK258 := Aside0.mk (blk_drew BK258.out)
 replace BK259 := Aside0.mk (blk_drew BK259.out)
 replace BK285 := Aside0.mk (blk_drew BK285.out)
 replace BK296 := Aside0.mk (blk_drew BK296.out)
 replace BK311 := Aside0.mk (blk_drew BK311.out)
 replace HB := Aside0.mk (below_drew1 HB.out)
 refine start_ (n := 5) (S := fun w' => w'.cell? ⟨gb296, 0, none⟩ = some (.int .i64 t286) ∧ w'.cell? ⟨gb296, 1, none⟩ = some (.int .i64 t287) ∧ w'.cell? ⟨gb296, 2, none⟩ = some (.slice Ao46 t288.length co46) ∧ w'.cell? ⟨gb296, 3, none⟩ = some (.int .i64 t291) ∧ w'.cell? ⟨gb296, 4, none⟩ = some (.int .i64 t292) ∧ w'.cell? ⟨gb296, 5, none⟩ = some (.slice Ao47 t293.length co47) ∧ w'.cell? ⟨gb258, 0, none⟩ = some (.int .i64 a0_0) ∧ w'.cell? ⟨gb258, 1, none⟩ = some (.int .i64 a0_1) ∧ w'.cell? ⟨gb258, 2, none⟩ = some (.slice A0_2 l0_2.length c0_2) ∧ w'.cell? ⟨gb258, 3, none⟩ = some (.int .i64 a0_3) ∧ w'.cell? ⟨gb258, 4, none⟩ = some (.int .i64 a0_4) ∧ w'.cell? ⟨gb258, 5, none⟩ = some (.slice A0_5 l0_5.length c0_5)) (ds := []) #[false, false, false, false, false] (by kernel_rfl) rfl rfl ⟨bc_ BK296.out 0, bc_ BK296.out 1, bc_ BK296.out 2, bc_ BK296.out 3, bc_ BK296.out 4, bc_ BK296.out 5, bc_ BK258.out 0, bc_ BK258.out 1, bc_ BK258.out 2, bc_ BK258.out 3, bc_ BK258.out 4, bc_ BK258.out 5⟩ (fun hHeld => ?_)
 generalize wc.drew = w80 at HO_286002 HO_286005 HO_297002 HO_297005 HO_312002 HO_312005 BK258 BK259 BK285 BK296 BK311 HB hHeld ⊢
 refine tk12_ 0 (some 47) (h := ?_)
 refine tk12_ 1 (some 48) (h := ?_)
 refine on_ 2 (some 49) (h := fun K hK => ?_)
 refine goes_ Try.func19 (by kernel_rfl) rfl #[.agg #[.int .i64 a0_0, .int .i64 a0_1, .slice A0_2 l0_2.length c0_2, .int .i64 a0_3, .int .i64 a0_4, .slice A0_5 l0_5.length c0_5]] (by rfl) rfl rfl nc_ ?_
 with_reducible refine (laws_toLeases.calls kj15 a0_0 a0_1 _ _ l0_2 a0_3 a0_4 _ _ l0_5 t313 t314 t315 t318 t319 t320 _ ?side1 ?side2 ?side3 ?side4 A75.out).mono ?_
 (case side1 => exact kc_ (Kd.C_below HR0_2.out HB.out))
 (case side2 => exact HC0_2.out)
 (case side3 => exact kc_ (Kd.C_below HR0_5.out HB.out))
 (case side4 => exact HC0_5.out)
 rintro e w81 ⟨v316, v321, rfl, ho0, ho1, hb⟩
 refine ⟨_, rfl, ?_⟩
 have HO317 := Aside0.mk (Kd.R_lower (rn_ (rn_ (rn_ (rn_ (rn_ (rn_ ho0 HO_286002.out) HO_286005.out) HO_297002.out) HO_297005.out) HO_312002.out) HO_312005.out) bz_)
 have HO322 := Aside0.mk (Kd.R_lower (rn_ (rn_ (rn_ (rn_ (rn_ (rn_ ho1 HO_286002.out) HO_286005.out) HO_297002.out) HO_297005.out) HO_312002.out) HO_312005.out) bz_)
 replace HO_286002 := rp2_ HO_286002 hb ho0 ho1
 replace HO_286005 := rp2_ HO_286005 hb ho0 ho1
 replace HO_297002 := rp2_ HO_297002 hb ho0 ho1
 replace HO_297005 := rp2_ HO_297005 hb ho0 ho1
 replace HO_312002 := rp2_ HO_312002 hb ho0 ho1
 replace HO_312005 := rp2_ HO_312005 hb ho0 ho1
 replace BK258 := bb_ BK258 hb
 replace BK259 := bb_ BK259 hb
 replace BK285 := bb_ BK285 hb
 replace BK296 := bb_ BK296 hb
 replace BK311 := bb_ BK311 hb
 replace HB := Aside0.mk (below_step bl_ hb)
 clear hb ho0 ho1
 obtain ⟨Ao82, co82, eo82⟩ := Kd.R_slice HO317.out
 (first | subst eo82 | (injection eo82 with f1_ f2_ f3_; have f4_ := f1_.symm; have f5_ := f3_.symm; clear f1_ f2_ f3_; subst f4_; subst f5_))
 obtain ⟨Ao83, co83, eo83⟩ := Kd.R_slice HO322.out
 (first | subst eo83 | (injection eo83 with f1_ f2_ f3_; have f4_ := f1_.symm; have f5_ := f3_.symm; clear f1_ f2_ f3_; subst f4_; subst f5_))
 refine hK.out _ _ ⟨bc_ BK296.out 0, bc_ BK296.out 1, bc_ BK296.out 2, bc_ BK296.out 3, bc_ BK296.out 4, bc_ BK296.out 5, bc_ BK258.out 0, bc_ BK258.out 1, bc_ BK258.out 2, bc_ BK258.out 3, bc_ BK258.out 4, bc_ BK258.out 5⟩ (fun hHeld => ?_)
 clear hK K
 refine norm_ nn_ ?_
 refine on_ 3 (some 50) (h := fun K hK => ?_)
 refine goes_ Try.func14 (by kernel_rfl) rfl #[.agg #[.int .i64 t286, .int .i64 t287, .slice Ao46 t288.length co46, .int .i64 t291, .int .i64 t292, .slice Ao47 t293.length co47], .agg #[.int .i64 t313, .int .i64 t314, .slice Ao82 t315.length co82, .int .i64 t318, .int .i64 t319, .slice Ao83 t320.length co83]] (by rfl) rfl rfl nc_ ?_
 with_reducible refine (laws_eqLeases.calls kj15 t286 t287 _ _ t288 t291 t292 _ _ t293 t313 t314 _ _ t315 t318 t319 _ _ t320 true _ ?side1 ?side2 ?side3 ?side4 ?side5 ?side6 ?side7 ?side8 A76.out).mono ?_
 (case side1 => exact kc_ (Kd.R_reads' HO_297002.out).2.2)
 (case side2 => exact (Kd.R_reads' HO_297002.out).2.1)
 (case side3 => exact kc_ (Kd.R_reads' HO_297005.out).2.2)
 (case side4 => exact (Kd.R_reads' HO_297005.out).2.1)
 (case side5 => exact kc_ (Kd.R_reads' HO317.out).2.2)
 (case side6 => exact (Kd.R_reads' HO317.out).2.1)
 (case side7 => exact kc_ (Kd.R_reads' HO322.out).2.2)
 (case side8 => exact (Kd.R_reads' HO322.out).2.1)
 rintro e w84 ⟨rfl, hb⟩
 refine ⟨_, rfl, ?_⟩
 replace HO_286002 := rb_ HO_286002 hb
 replace HO_286005 := rb_ HO_286005 hb
 replace HO_297002 := rb_ HO_297002 hb
 replace HO_297005 := rb_ HO_297005 hb
 replace HO_312002 := rb_ HO_312002 hb
 replace HO_312005 := rb_ HO_312005 hb
 replace HO317 := rb_ HO317 hb
 replace HO322 := rb_ HO322 hb
 replace BK258 := bb_ BK258 hb
 replace BK259 := bb_ BK259 hb
 replace BK285 := bb_ BK285 hb
 replace BK296 := bb_ BK296 hb
 replace BK311 := bb_ BK311 hb
 replace HB := Aside0.mk (below_step bl_ hb)
 clear hb
 refine hK.out _ _ ⟨bc_ BK296.out 0, bc_ BK296.out 1, bc_ BK296.out 2, bc_ BK296.out 3, bc_ BK296.out 4, bc_ BK296.out 5, bc_ BK258.out 0, bc_ BK258.out 1, bc_ BK258.out 2, bc_ BK258.out 3, bc_ BK258.out 4, bc_ BK258.out 5⟩ (fun hHeld => ?_)
 clear hK K
 refine norm_ nn_ ?_
 refine pu_ 4 (some 51) (h := ?_)
 refine done_ (by kernel_rfl) ?_
 have hnb85 := NB296_258.out
 have hnc85 := NB258_296.out
 have hnb86 := NB296_259.out
 have hnc86 := NB259_296.out
 have hnb87 := NB296_285.out
 have hnc87 := NB285_296.out
 have hnb88 := NB296_311.out
 have hnc88 := NB311_296.out
 have hcz89_0 : w84.cell? ⟨gb296, 0, none⟩ = some (.int .i64 t286) := bc_ BK296.out 0
 have hcz89_1 : w84.cell? ⟨gb296, 1, none⟩ = some (.int .i64 t287) := bc_ BK296.out 1
 have hcz89_2 : w84.cell? ⟨gb296, 2, none⟩ = some (.slice Ao46 t288.length co46) := bc_ BK296.out 2
 have hcz89_3 : w84.cell? ⟨gb296, 3, none⟩ = some (.int .i64 t291) := bc_ BK296.out 3
 have hcz89_4 : w84.cell? ⟨gb296, 4, none⟩ = some (.int .i64 t292) := bc_ BK296.out 4
 have hcz89_5 : w84.cell? ⟨gb296, 5, none⟩ = some (.slice Ao47 t293.length co47) := bc_ BK296.out 5
 have hfz89_0 := blk_frozen BK296.out 0
 have hfz89_1 := blk_frozen BK296.out 1
 have hfz89_2 := blk_frozen BK296.out 2
 have hfz89_3 := blk_frozen BK296.out 3
 have hfz89_4 := blk_frozen BK296.out 4
 have hfz89_5 := blk_frozen BK296.out 5
 go_upto_region 14 with (first | ((with_reducible refine gate_callee (f := 15) rfl ?_); refine goesL_ (some 54) rfl rfl Try.func15 (by kernel_rfl) rfl #[.agg #[.int .i64 t286, .int .i64 t287, .slice Ao46 t288.length co46, .int .i64 t291, .int .i64 t292, .slice Ao47 t293.length co47], .int .i64 1] rfl nc_ ?_; (with_reducible refine (laws_markLeases.calls kj15 t286 t287 (fun k_ => some k_ = (.slice Ao46 t288.length co46 : Value).ownBlock) (.slice Ao46 t288.length co46) t288 t291 t292 (fun k_ => some k_ = (.slice Ao47 t293.length co47 : Value).ownBlock) (.slice Ao47 t293.length co47) t293 1 t324 t325 t326 w _ ?side1 ?side2 ?side3 ?side4 ?side5 A78.out).mono ?_); (case side1 => repeat (first | (with_reducible first | exact HB.out | apply below_alloc | apply pw_below_drewN | apply below_drew1 | refine below_set ?_ GE258.out | refine below_set ?_ GE259.out | refine below_set ?_ GE285.out | refine below_set ?_ GE296.out | refine below_set ?_ GE311.out) | exact HB.out)); (case side2 => exact Kd.R_tight rfl HO_297002.out); (case side3 => exact fun k_ e_ => (HO_297002.out.1 k_ e_.symm).1.1.2.2.1); (case side4 => exact Kd.R_tight rfl HO_297005.out); (case side5 => exact fun k_ e_ => (HO_297005.out.1 k_ e_.symm).1.1.2.2.1); rintro e w90 ⟨rfl, hy0, hy1, hb, hkp⟩; refine ⟨_, rfl, ?_⟩; replace HO_286002 := Aside0.mk (Kd.R_mono (ok' := fun k_ => some k_ ≠ (.slice Ao36 t281.length co36 : Value).ownBlock ∧ some k_ ≠ (.slice Ao46 t288.length co46 : Value).ownBlock ∧ some k_ ≠ (.slice Ao47 t293.length co47 : Value).ownBlock ∧ some k_ ≠ (.slice Ao56 t302.length co56 : Value).ownBlock ∧ some k_ ≠ (.slice Ao60 t307.length co60 : Value).ownBlock ∧ some k_ ≠ (.slice Ao82 t315.length co82 : Value).ownBlock ∧ some k_ ≠ (.slice Ao83 t320.length co83 : Value).ownBlock) (Kd.R_keptB (HO_286002.out) hkp (fun k_ hk_ hs_ => Or.elim hs_ (fun e_ => (hk_.1.1.2.1) e_) (fun e_ => (hk_.1.1.2.2.1) e_))) (fun k_ hk_ => ⟨hk_.1.1.1.1, hk_.1.1.1.2.1, hk_.1.1.1.2.2.1, hk_.1.1.1.2.2.2.1, hk_.1.1.1.2.2.2.2, hk_.1.1.2, hk_.1.2⟩)); replace HO_286005 := Aside0.mk (Kd.R_mono (ok' := fun k_ => some k_ ≠ (.slice Ao32 t276.length co32 : Value).ownBlock ∧ some k_ ≠ (.slice Ao46 t288.length co46 : Value).ownBlock ∧ some k_ ≠ (.slice Ao47 t293.length co47 : Value).ownBlock ∧ some k_ ≠ (.slice Ao56 t302.length co56 : Value).ownBlock ∧ some k_ ≠ (.slice Ao60 t307.length co60 : Value).ownBlock ∧ some k_ ≠ (.slice Ao82 t315.length co82 : Value).ownBlock ∧ some k_ ≠ (.slice Ao83 t320.length co83 : Value).ownBlock) (Kd.R_keptB (HO_286005.out) hkp (fun k_ hk_ hs_ => Or.elim hs_ (fun e_ => (hk_.1.1.2.1) e_) (fun e_ => (hk_.1.1.2.2.1) e_))) (fun k_ hk_ => ⟨hk_.1.1.1.1, hk_.1.1.1.2.1, hk_.1.1.1.2.2.1, hk_.1.1.1.2.2.2.1, hk_.1.1.1.2.2.2.2, hk_.1.1.2, hk_.1.2⟩)); replace HO_312002 := Aside0.mk (Kd.R_mono (ok' := fun k_ => some k_ ≠ (.slice Ao32 t276.length co32 : Value).ownBlock ∧ some k_ ≠ (.slice Ao36 t281.length co36 : Value).ownBlock ∧ some k_ ≠ (.slice Ao46 t288.length co46 : Value).ownBlock ∧ some k_ ≠ (.slice Ao47 t293.length co47 : Value).ownBlock ∧ some k_ ≠ (.slice Ao60 t307.length co60 : Value).ownBlock ∧ some k_ ≠ (.slice Ao82 t315.length co82 : Value).ownBlock ∧ some k_ ≠ (.slice Ao83 t320.length co83 : Value).ownBlock) (Kd.R_keptB (HO_312002.out) hkp (fun k_ hk_ hs_ => Or.elim hs_ (fun e_ => (hk_.1.1.2.2.1) e_) (fun e_ => (hk_.1.1.2.2.2.1) e_))) (fun k_ hk_ => ⟨hk_.1.1.1.1, hk_.1.1.1.2.1, hk_.1.1.1.2.2.1, hk_.1.1.1.2.2.2.1, hk_.1.1.1.2.2.2.2, hk_.1.1.2, hk_.1.2⟩)); replace HO_312005 := Aside0.mk (Kd.R_mono (ok' := fun k_ => some k_ ≠ (.slice Ao32 t276.length co32 : Value).ownBlock ∧ some k_ ≠ (.slice Ao36 t281.length co36 : Value).ownBlock ∧ some k_ ≠ (.slice Ao46 t288.length co46 : Value).ownBlock ∧ some k_ ≠ (.slice Ao47 t293.length co47 : Value).ownBlock ∧ some k_ ≠ (.slice Ao56 t302.length co56 : Value).ownBlock ∧ some k_ ≠ (.slice Ao82 t315.length co82 : Value).ownBlock ∧ some k_ ≠ (.slice Ao83 t320.length co83 : Value).ownBlock) (Kd.R_keptB (HO_312005.out) hkp (fun k_ hk_ hs_ => Or.elim hs_ (fun e_ => (hk_.1.1.2.2.1) e_) (fun e_ => (hk_.1.1.2.2.2.1) e_))) (fun k_ hk_ => ⟨hk_.1.1.1.1, hk_.1.1.1.2.1, hk_.1.1.1.2.2.1, hk_.1.1.1.2.2.2.1, hk_.1.1.1.2.2.2.2, hk_.1.1.2, hk_.1.2⟩)); replace BK258 := Aside0.mk (blk_kept (kb_ BK258.out) hkp (fun hs_ => Or.elim hs_ (fun e_ => (fun e_ => (Kd.R_ne HO_297002.out BK258.out (by decide)) e_) e_) (fun e_ => (fun e_ => (Kd.R_ne HO_297005.out BK258.out (by decide)) e_) e_))); replace BK259 := Aside0.mk (blk_kept (kb_ BK259.out) hkp (fun hs_ => Or.elim hs_ (fun e_ => (fun e_ => (Kd.R_ne HO_297002.out BK259.out (by decide)) e_) e_) (fun e_ => (fun e_ => (Kd.R_ne HO_297005.out BK259.out (by decide)) e_) e_))); replace BK285 := Aside0.mk (blk_kept (kb_ BK285.out) hkp (fun hs_ => Or.elim hs_ (fun e_ => (fun e_ => (Kd.R_ne HO_297002.out BK285.out (by decide)) e_) e_) (fun e_ => (fun e_ => (Kd.R_ne HO_297005.out BK285.out (by decide)) e_) e_))); replace BK296 := Aside0.mk (blk_kept (kb_ BK296.out) hkp (fun hs_ => Or.elim hs_ (fun e_ => (fun e_ => (Kd.R_ne HO_297002.out BK296.out (by decide)) e_) e_) (fun e_ => (fun e_ => (Kd.R_ne HO_297005.out BK296.out (by decide)) e_) e_))); replace BK311 := Aside0.mk (blk_kept (kb_ BK311.out) hkp (fun hs_ => Or.elim hs_ (fun e_ => (fun e_ => (Kd.R_ne HO_297002.out BK311.out (by decide)) e_) e_) (fun e_ => (fun e_ => (Kd.R_ne HO_297005.out BK311.out (by decide)) e_) e_))); replace HO_297002 := Aside0.mk (Kd.R_reok rfl hy0 (fun k_ e_ => HO_297002.out.1 k_ e_)); replace HO_297005 := Aside0.mk (Kd.R_reok rfl hy1 (fun k_ e_ => HO_297005.out.1 k_ e_)); replace HO317 := Aside0.mk (Kd.R_mono (ok' := fun k_ => some k_ ≠ (.slice Ao32 t276.length co32 : Value).ownBlock ∧ some k_ ≠ (.slice Ao36 t281.length co36 : Value).ownBlock ∧ some k_ ≠ (.slice Ao46 t288.length co46 : Value).ownBlock ∧ some k_ ≠ (.slice Ao47 t293.length co47 : Value).ownBlock ∧ some k_ ≠ (.slice Ao56 t302.length co56 : Value).ownBlock ∧ some k_ ≠ (.slice Ao60 t307.length co60 : Value).ownBlock ∧ some k_ ≠ (.slice Ao83 t320.length co83 : Value).ownBlock) (Kd.R_keptB (HO317.out) hkp (fun k_ hk_ hs_ => Or.elim hs_ (fun e_ => (hk_.1.1.1.2) e_) (fun e_ => (hk_.1.1.2) e_))) (fun k_ hk_ => ⟨hk_.1.1.1.1.1.1.2, hk_.1.1.1.1.1.2, hk_.1.1.1.1.2, hk_.1.1.1.2, hk_.1.1.2, hk_.1.2, hk_.1.1.1.1.1.1.1⟩)); replace HO322 := Aside0.mk (Kd.R_mono (ok' := fun k_ => some k_ ≠ (.slice Ao32 t276.length co32 : Value).ownBlock ∧ some k_ ≠ (.slice Ao36 t281.length co36 : Value).ownBlock ∧ some k_ ≠ (.slice Ao46 t288.length co46 : Value).ownBlock ∧ some k_ ≠ (.slice Ao47 t293.length co47 : Value).ownBlock ∧ some k_ ≠ (.slice Ao56 t302.length co56 : Value).ownBlock ∧ some k_ ≠ (.slice Ao60 t307.length co60 : Value).ownBlock ∧ some k_ ≠ (.slice Ao82 t315.length co82 : Value).ownBlock) (Kd.R_keptB (HO322.out) hkp (fun k_ hk_ hs_ => Or.elim hs_ (fun e_ => (hk_.1.1.1.2) e_) (fun e_ => (hk_.1.1.2) e_))) (fun k_ hk_ => ⟨hk_.1.1.1.1.1.1.2, hk_.1.1.1.1.1.2, hk_.1.1.1.1.2, hk_.1.1.1.2, hk_.1.1.2, hk_.1.2, hk_.1.1.1.1.1.1.1⟩)); replace HB := Aside0.mk (hb); clear hb))
 (try simp only [Act.put, List.setIfInBounds_toArray, List.set_cons_zero, List.set_cons_succ])
 go_cut [67] (fun v67 wc => ∃ (kq : Nat) (x67_78 : Bool), v67 = .bool x67_78 ∧ Aside0 (laws_FnExactStepLease.j1 kq t284 x67_78 a0_0 a0_1 l0_2 a0_3 a0_4 l0_5 a1_0 a1_1 a1_2 t274 t275 t276 t279 t280 t281 t300 t301 t302 t305 t306 t307 = some r) ∧ Aside0 (kq ≤ kj15) ∧ Aside0 (Kd.R (Kd.int .i64) 3 wc w.heap.size (fun k_ => some k_ ≠ ((.slice Ao36 t281.length co36) : Value).ownBlock ∧ some k_ ≠ ((.slice Ao46 t288.length co46) : Value).ownBlock ∧ some k_ ≠ ((.slice Ao47 t293.length co47) : Value).ownBlock ∧ some k_ ≠ ((.slice Ao56 t302.length co56) : Value).ownBlock ∧ some k_ ≠ ((.slice Ao60 t307.length co60) : Value).ownBlock) (.slice Ao32 t276.length co32) t276) ∧ Aside0 (Kd.R (Kd.int .i64) 3 wc w.heap.size (fun k_ => some k_ ≠ ((.slice Ao32 t276.length co32) : Value).ownBlock ∧ some k_ ≠ ((.slice Ao46 t288.length co46) : Value).ownBlock ∧ some k_ ≠ ((.slice Ao47 t293.length co47) : Value).ownBlock ∧ some k_ ≠ ((.slice Ao56 t302.length co56) : Value).ownBlock ∧ some k_ ≠ ((.slice Ao60 t307.length co60) : Value).ownBlock) (.slice Ao36 t281.length co36) t281) ∧ Aside0 (Kd.R (Kd.int .i64) 3 wc w.heap.size (fun k_ => some k_ ≠ ((.slice Ao32 t276.length co32) : Value).ownBlock ∧ some k_ ≠ ((.slice Ao36 t281.length co36) : Value).ownBlock ∧ some k_ ≠ ((.slice Ao47 t293.length co47) : Value).ownBlock ∧ some k_ ≠ ((.slice Ao56 t302.length co56) : Value).ownBlock ∧ some k_ ≠ ((.slice Ao60 t307.length co60) : Value).ownBlock) (.slice Ao46 t288.length co46) t325) ∧ Aside0 (Kd.R (Kd.int .i64) 3 wc w.heap.size (fun k_ => some k_ ≠ ((.slice Ao32 t276.length co32) : Value).ownBlock ∧ some k_ ≠ ((.slice Ao36 t281.length co36) : Value).ownBlock ∧ some k_ ≠ ((.slice Ao46 t288.length co46) : Value).ownBlock ∧ some k_ ≠ ((.slice Ao56 t302.length co56) : Value).ownBlock ∧ some k_ ≠ ((.slice Ao60 t307.length co60) : Value).ownBlock) (.slice Ao47 t293.length co47) t326) ∧ Aside0 (Kd.R (Kd.int .i64) 3 wc w.heap.size (fun k_ => some k_ ≠ ((.slice Ao32 t276.length co32) : Value).ownBlock ∧ some k_ ≠ ((.slice Ao36 t281.length co36) : Value).ownBlock ∧ some k_ ≠ ((.slice Ao46 t288.length co46) : Value).ownBlock ∧ some k_ ≠ ((.slice Ao47 t293.length co47) : Value).ownBlock ∧ some k_ ≠ ((.slice Ao60 t307.length co60) : Value).ownBlock) (.slice Ao56 t302.length co56) t302) ∧ Aside0 (Kd.R (Kd.int .i64) 3 wc w.heap.size (fun k_ => some k_ ≠ ((.slice Ao32 t276.length co32) : Value).ownBlock ∧ some k_ ≠ ((.slice Ao36 t281.length co36) : Value).ownBlock ∧ some k_ ≠ ((.slice Ao46 t288.length co46) : Value).ownBlock ∧ some k_ ≠ ((.slice Ao47 t293.length co47) : Value).ownBlock ∧ some k_ ≠ ((.slice Ao56 t302.length co56) : Value).ownBlock) (.slice Ao60 t307.length co60) t307) ∧ Aside0 (wc.heap[gb258]? = some (.cells #[.int .i64 a0_0, .int .i64 a0_1, (.slice A0_2 l0_2.length c0_2), .int .i64 a0_3, .int .i64 a0_4, (.slice A0_5 l0_5.length c0_5)] 30 (0, 0))) ∧ Aside0 (wc.heap[gb259]? = some (.cells #[.int .i64 a1_0, .int .i64 a1_1, .int .i64 a1_2] 43 (0, 0))) ∧ Aside0 (wc.heap[gb285]? = some (.cells #[.int .i64 t274, .int .i64 t275, (.slice Ao32 t276.length co32), .int .i64 t279, .int .i64 t280, (.slice Ao36 t281.length co36)] 24 (0, 0))) ∧ Aside0 (wc.heap[gb296]? = some (.cells #[.int .i64 t286, .int .i64 t287, (.slice Ao46 t288.length co46), .int .i64 t291, .int .i64 t292, (.slice Ao47 t293.length co47)] 24 (0, 0))) ∧ Aside0 (wc.heap[gb311]? = some (.cells #[.int .i64 t300, .int .i64 t301, (.slice Ao56 t302.length co56), .int .i64 t305, .int .i64 t306, (.slice Ao60 t307.length co60)] 24 (0, 0))) ∧ Aside0 (Below w.heap.size w wc))
 case first =>
  have H := HC79.out
  clear HC79
  by_cases c91 : t324 < 0
  ·rw [if_pos c91] at H
   exact absurd H (by simp)
  rw [if_neg c91] at H
  have c91b0 : decide (t324 < 0) = false := decide_eq_false c91
  clear c91
  (first | rw [c91b0] | (simp only [i64_w, i32_w]; rw [c91b0]) | skip)
  replace H := Option.bind_eq_some_iff.mp H
  obtain ⟨t327, A920, H⟩ := H
  replace H : (if t327 = true then (laws_FnExactStepLease.j1 kj15 t284 (t310 != t284) a0_0 a0_1 l0_2 a0_3 a0_4 l0_5 a1_0 a1_1 a1_2 t274 t275 t276 t279 t280 t281 t300 t301 t302 t305 t306 t307) else (none)) = some r := H
  have A92 := Aside0.mk A920
  clear A920
  by_cases c93 : t327 = true
  rotate_left
  ·replace c93 := Bool.eq_false_iff.mpr c93
   subst c93
   have H1 : (none) = some r := by rw [if_neg (show ¬ (false = true) by decide)] at H; exact H
   clear H
   have H := H1
   clear H1
   exact absurd H (by simp)
  subst c93
  have H1 : (laws_FnExactStepLease.j1 kj15 t284 (t310 != t284) a0_0 a0_1 l0_2 a0_3 a0_4 l0_5 a1_0 a1_1 a1_2 t274 t275 t276 t279 t280 t281 t300 t301 t302 t305 t306 t307) = some r := by rw [if_pos rfl] at H; exact H
  clear H
  have H := H1
  clear H1
  have H' := Aside0.mk H
  clear H
  have hnb94 := NB311_258.out
  have hnc94 := NB258_311.out
  have hnb95 := NB311_259.out
  have hnc95 := NB259_311.out
  have hnb96 := NB311_285.out
  have hnc96 := NB285_311.out
  have hnb97 := NB311_296.out
  have hnc97 := NB296_311.out
  have hcz98_0 : w90.cell? ⟨gb311, 0, none⟩ = some (.int .i64 t300) := bc_ BK311.out 0
  have hcz98_1 : w90.cell? ⟨gb311, 1, none⟩ = some (.int .i64 t301) := bc_ BK311.out 1
  have hcz98_2 : w90.cell? ⟨gb311, 2, none⟩ = some (.slice Ao56 t302.length co56) := bc_ BK311.out 2
  have hcz98_3 : w90.cell? ⟨gb311, 3, none⟩ = some (.int .i64 t305) := bc_ BK311.out 3
  have hcz98_4 : w90.cell? ⟨gb311, 4, none⟩ = some (.int .i64 t306) := bc_ BK311.out 4
  have hcz98_5 : w90.cell? ⟨gb311, 5, none⟩ = some (.slice Ao60 t307.length co60) := bc_ BK311.out 5
  have hfz98_0 := blk_frozen BK311.out 0
  have hfz98_1 := blk_frozen BK311.out 1
  have hfz98_2 := blk_frozen BK311.out 2
  have hfz98_3 := blk_frozen BK311.out 3
  have hfz98_4 := blk_frozen BK311.out 4
  have hfz98_5 := blk_frozen BK311.out 5
  have hnb99 := NB285_258.out
  have hnc99 := NB258_285.out
  have hnb100 := NB285_259.out
  have hnc100 := NB259_285.out
  have hnb101 := NB285_296.out
  have hnc101 := NB296_285.out
  have hcz102_0 : w90.cell? ⟨gb285, 0, none⟩ = some (.int .i64 t274) := bc_ BK285.out 0
  have hcz102_1 : w90.cell? ⟨gb285, 1, none⟩ = some (.int .i64 t275) := bc_ BK285.out 1
  have hcz102_2 : w90.cell? ⟨gb285, 2, none⟩ = some (.slice Ao32 t276.length co32) := bc_ BK285.out 2
  have hcz102_3 : w90.cell? ⟨gb285, 3, none⟩ = some (.int .i64 t279) := bc_ BK285.out 3
  have hcz102_4 : w90.cell? ⟨gb285, 4, none⟩ = some (.int .i64 t280) := bc_ BK285.out 4
  have hcz102_5 : w90.cell? ⟨gb285, 5, none⟩ = some (.slice Ao36 t281.length co36) := bc_ BK285.out 5
  have hfz102_0 := blk_frozen BK285.out 0
  have hfz102_1 := blk_frozen BK285.out 1
  have hfz102_2 := blk_frozen BK285.out 2
  have hfz102_3 := blk_frozen BK285.out 3
  have hfz102_4 := blk_frozen BK285.out 4
  have hfz102_5 := blk_frozen BK285.out 5
  go_wp2_with (first | (go_at_call 14; (with_reducible refine (laws_eqLeases.calls kj15 t300 t301 _ _ t302 t305 t306 _ _ t307 t274 t275 _ _ t276 t279 t280 _ _ t281 true _ ?side1 ?side2 ?side3 ?side4 ?side5 ?side6 ?side7 ?side8 A92.out).mono ?_); (case side1 => exact kc_ (Kd.R_reads' HO_312002.out).2.2); (case side2 => exact (Kd.R_reads' HO_312002.out).2.1); (case side3 => exact kc_ (Kd.R_reads' HO_312005.out).2.2); (case side4 => exact (Kd.R_reads' HO_312005.out).2.1); (case side5 => exact kc_ (Kd.R_reads' HO_286002.out).2.2); (case side6 => exact (Kd.R_reads' HO_286002.out).2.1); (case side7 => exact kc_ (Kd.R_reads' HO_286005.out).2.2); (case side8 => exact (Kd.R_reads' HO_286005.out).2.1); rintro e w103 ⟨rfl, hb⟩; replace HO_286002 := rb_ HO_286002 hb; replace HO_286005 := rb_ HO_286005 hb; replace HO_297002 := rb_ HO_297002 hb; replace HO_297005 := rb_ HO_297005 hb; replace HO_312002 := rb_ HO_312002 hb; replace HO_312005 := rb_ HO_312005 hb; replace HO317 := rb_ HO317 hb; replace HO322 := rb_ HO322 hb; replace BK258 := bb_ BK258 hb; replace BK259 := bb_ BK259 hb; replace BK285 := bb_ BK285 hb; replace BK296 := bb_ BK296 hb; replace BK311 := bb_ BK311 hb; replace HB := Aside0.mk (below_step bl_ hb); clear hb))
  go_meet
  case rel => exact ⟨_, ((t310 != t284)), (by first | rfl | (simp; done) | (simp [*]; done)), H', ⟨by have := HJ15.out; first | omega | exact Nat.le_refl _⟩, ⟨kp_ HO_286002.out⟩, ⟨kp_ HO_286005.out⟩, ⟨kp_ HO_297002.out⟩, ⟨kp_ HO_297005.out⟩, ⟨kp_ HO_312002.out⟩, ⟨kp_ HO_312005.out⟩, ⟨by exact kb_ BK258.out⟩, ⟨by exact kb_ BK259.out⟩, ⟨by exact kb_ BK285.out⟩, ⟨by exact kb_ BK296.out⟩, ⟨by exact kb_ BK311.out⟩, ⟨bl_⟩⟩
 clear HC79
 try clear c1
 try clear c2
 try clear p2
 try clear c3
 try clear c6
 try clear c7
 try clear c8
 try clear c9
 try clear c10
 try clear c14
 try clear c15
 try clear c19
 try clear c29
 try clear c30
 try clear c63
 try clear c64
 try clear c65
 try clear c66
 try clear c67
 try clear c69
 try clear c70
 try clear c71
 try clear c74
 try clear c77
 try clear c85
 try clear c86
 try clear c87
 try clear c88
 try clear c91
 try clear c91b0
 try clear c93
 try clear c94
 try clear c95
 try clear c96
 try clear c97
 try clear c99
 try clear c100
 try clear c101
 try clear hcz102_0
 try clear hcz102_1
 try clear hcz102_2
 try clear hcz102_3
 try clear hcz102_4
 try clear hcz102_5
 try clear hcz68_0
 try clear hcz68_1
 try clear hcz68_2
 try clear hcz68_3
 try clear hcz68_4
 try clear hcz68_5
 try clear hcz72_0
 try clear hcz72_1
 try clear hcz72_2
 try clear hcz72_3
 try clear hcz72_4
 try clear hcz72_5
 try clear hcz89_0
 try clear hcz89_1
 try clear hcz89_2
 try clear hcz89_3
 try clear hcz89_4
 try clear hcz89_5
 try clear hcz98_0
 try clear hcz98_1
 try clear hcz98_2
 try clear hcz98_3
 try clear hcz98_4
 try clear hcz98_5
 try clear hfz102_0
 try clear hfz102_1
 try clear hfz102_2
 try clear hfz102_3
 try clear hfz102_4
 try clear hfz102_5
 try clear hfz68_0
 try clear hfz68_1
 try clear hfz68_2
 try clear hfz68_3
 try clear hfz68_4
 try clear hfz68_5
 try clear hfz72_0
 try clear hfz72_1
 try clear hfz72_2
 try clear hfz72_3
 try clear hfz72_4
 try clear hfz72_5
 try clear hfz89_0
 try clear hfz89_1
 try clear hfz89_2
 try clear hfz89_3
 try clear hfz89_4
 try clear hfz89_5
 try clear hfz98_0
 try clear hfz98_1
 try clear hfz98_2
 try clear hfz98_3
 try clear hfz98_4
 try clear hfz98_5
 try clear p2
 obtain ⟨kq, x67_78, rfl, HA, HJ78, HO_286002, HO_286005, HO_297002, HO_297005, HO_312002, HO_312005, BK258, BK259, BK285, BK296, BK311, HB⟩ := hcut
 have hl297002_78 := (Kd.R_reads' HO_297002.out).1
 rw [hl297002_78] at HO_297002
 (try simp only [hl297002_78])
 (try simp only [hl297002_78] at BK258)
 (try simp only [hl297002_78] at BK259)
 (try simp only [hl297002_78] at BK285)
 (try simp only [hl297002_78] at BK296)
 (try simp only [hl297002_78] at BK311)
 (try simp only [hl297002_78] at HO_286002)
 (try simp only [hl297002_78] at HO_286005)
 (try simp only [hl297002_78] at HO_297005)
 (try simp only [hl297002_78] at HO_312002)
 (try simp only [hl297002_78] at HO_312005)
 have hl297005_78 := (Kd.R_reads' HO_297005.out).1
 rw [hl297005_78] at HO_297005
 (try simp only [hl297005_78])
 (try simp only [hl297005_78] at BK258)
 (try simp only [hl297005_78] at BK259)
 (try simp only [hl297005_78] at BK285)
 (try simp only [hl297005_78] at BK296)
 (try simp only [hl297005_78] at BK311)
 (try simp only [hl297005_78] at HO_286002)
 (try simp only [hl297005_78] at HO_286005)
 (try simp only [hl297005_78] at HO_297002)
 (try simp only [hl297005_78] at HO_312002)
 (try simp only [hl297005_78] at HO_312005)
 cases kq with
 | zero => exact absurd HA.out (by simp [laws_FnExactStepLease.j1])
 | succ kj78 => ?_
 have H := HA.out
 clear HA
 simp only [laws_FnExactStepLease.j1] at H
 by_cases c104 : x67_78 = true
 ·subst c104
  have H1 : (none) = some r := by rw [if_pos rfl] at H; exact H
  clear H
  have H := H1
  clear H1
  exact absurd H (by simp)
 replace c104 := Bool.eq_false_iff.mpr c104
 subst c104
 have H1 : ((laws_markLeases.f kj78 t300 t301 t302 t305 t306 t307 1).bind fun bt328 => ((laws_heldLeases.f kj78 t300 t301 bt328.2.1 t305 t306 bt328.2.2 1).bind fun t331 => (if t331 < 0 then (none) else (if t331 = bt328.1 then ((laws_toLeases.f kj78 a0_0 a0_1 l0_2 a0_3 a0_4 l0_5).bind fun bt332 => ((laws_toLeaseStep.f a1_0 a1_1 a1_2).bind fun bt342 => ((impl_StepLease.f kj78 bt332.1 bt332.2.1 bt332.2.2.1 bt332.2.2.2.1 bt332.2.2.2.2.1 bt332.2.2.2.2.2 bt342.1 bt342.2.1 bt342.2.2).bind fun bt345 => ((laws_eqLeases.f kj78 bt345.1 bt345.2.1 bt345.2.2.1 bt345.2.2.2.1 bt345.2.2.2.2.1 bt345.2.2.2.2.2.1 t274 t275 t276 t279 t280 t281).bind fun t357 => (if t357 = true then (laws_FnExactStepLease.j2 kj78 bt328.1 (bt345.2.2.2.2.2.2 != t284) t300 t301 bt328.2.1 t305 t306 bt328.2.2) else (none)))))) else (none))))) = some r := by rw [if_neg (show ¬ (false = true) by decide)] at H; exact H
 clear H
 have H := H1
 clear H1
 replace H := Option.bind_eq_some_iff.mp H
 obtain ⟨⟨t328, t329, t330⟩, A1050, H⟩ := H
 replace H : ((laws_heldLeases.f kj78 t300 t301 t329 t305 t306 t330 1).bind fun t331 => (if t331 < 0 then (none) else (if t331 = t328 then ((laws_toLeases.f kj78 a0_0 a0_1 l0_2 a0_3 a0_4 l0_5).bind fun bt332 => ((laws_toLeaseStep.f a1_0 a1_1 a1_2).bind fun bt342 => ((impl_StepLease.f kj78 bt332.1 bt332.2.1 bt332.2.2.1 bt332.2.2.2.1 bt332.2.2.2.2.1 bt332.2.2.2.2.2 bt342.1 bt342.2.1 bt342.2.2).bind fun bt345 => ((laws_eqLeases.f kj78 bt345.1 bt345.2.1 bt345.2.2.1 bt345.2.2.2.1 bt345.2.2.2.2.1 bt345.2.2.2.2.2.1 t274 t275 t276 t279 t280 t281).bind fun t357 => (if t357 = true then (laws_FnExactStepLease.j2 kj78 t328 (bt345.2.2.2.2.2.2 != t284) t300 t301 t329 t305 t306 t330) else (none)))))) else (none)))) = some r := H
 have A105 := Aside0.mk A1050
 clear A1050
 replace H := Option.bind_eq_some_iff.mp H
 obtain ⟨t331, A1060, H⟩ := H
 replace H : (if t331 < 0 then (none) else (if t331 = t328 then ((laws_toLeases.f kj78 a0_0 a0_1 l0_2 a0_3 a0_4 l0_5).bind fun bt332 => ((laws_toLeaseStep.f a1_0 a1_1 a1_2).bind fun bt342 => ((impl_StepLease.f kj78 bt332.1 bt332.2.1 bt332.2.2.1 bt332.2.2.2.1 bt332.2.2.2.2.1 bt332.2.2.2.2.2 bt342.1 bt342.2.1 bt342.2.2).bind fun bt345 => ((laws_eqLeases.f kj78 bt345.1 bt345.2.1 bt345.2.2.1 bt345.2.2.2.1 bt345.2.2.2.2.1 bt345.2.2.2.2.2.1 t274 t275 t276 t279 t280 t281).bind fun t357 => (if t357 = true then (laws_FnExactStepLease.j2 kj78 t328 (bt345.2.2.2.2.2.2 != t284) t300 t301 t329 t305 t306 t330) else (none)))))) else (none))) = some r := H
 have A106 := Aside0.mk A1060
 clear A1060
 by_cases c107 : t331 < 0
 ·rw [if_pos c107] at H
  exact absurd H (by simp)
 rw [if_neg c107] at H
 have c107b0 : decide (t331 < 0) = false := decide_eq_false c107
 clear c107
 by_cases c108 : t331 = t328
 rotate_left
 ·rw [if_neg c108] at H
  exact absurd H (by simp)
 rw [if_pos c108] at H
 have c108b0 : (t331 == t328) = true := beq_iff_eq.mpr c108
 have c108b1 : (t331 != t328) = false := bne_eq_false_iff_eq.mpr c108
 clear c108
 replace H := Option.bind_eq_some_iff.mp H
 obtain ⟨⟨t332, t333, t334, t337, t338, t339⟩, A1090, H⟩ := H
 replace H : ((laws_toLeaseStep.f a1_0 a1_1 a1_2).bind fun bt342 => ((impl_StepLease.f kj78 t332 t333 t334 t337 t338 t339 bt342.1 bt342.2.1 bt342.2.2).bind fun bt345 => ((laws_eqLeases.f kj78 bt345.1 bt345.2.1 bt345.2.2.1 bt345.2.2.2.1 bt345.2.2.2.2.1 bt345.2.2.2.2.2.1 t274 t275 t276 t279 t280 t281).bind fun t357 => (if t357 = true then (laws_FnExactStepLease.j2 kj78 t328 (bt345.2.2.2.2.2.2 != t284) t300 t301 t329 t305 t306 t330) else (none))))) = some r := H
 have A109 := Aside0.mk A1090
 clear A1090
 replace H := Option.bind_eq_some_iff.mp H
 obtain ⟨⟨t342, t343, t344⟩, A1100, H⟩ := H
 replace H : ((impl_StepLease.f kj78 t332 t333 t334 t337 t338 t339 t342 t343 t344).bind fun bt345 => ((laws_eqLeases.f kj78 bt345.1 bt345.2.1 bt345.2.2.1 bt345.2.2.2.1 bt345.2.2.2.2.1 bt345.2.2.2.2.2.1 t274 t275 t276 t279 t280 t281).bind fun t357 => (if t357 = true then (laws_FnExactStepLease.j2 kj78 t328 (bt345.2.2.2.2.2.2 != t284) t300 t301 t329 t305 t306 t330) else (none)))) = some r := H
 have A110 := Aside0.mk A1100
 clear A1100
 replace H := Option.bind_eq_some_iff.mp H
 obtain ⟨⟨t345, t346, t347, t350, t351, t352, t355⟩, A1110, H⟩ := H
 replace H : ((laws_eqLeases.f kj78 t345 t346 t347 t350 t351 t352 t274 t275 t276 t279 t280 t281).bind fun t357 => (if t357 = true then (laws_FnExactStepLease.j2 kj78 t328 (t355 != t284) t300 t301 t329 t305 t306 t330) else (none))) = some r := H
 have A111 := Aside0.mk A1110
 clear A1110
 have HC112 := Aside0.mk H
 clear H
 have hnb113 := NB311_258.out
 have hnc113 := NB258_311.out
 have hnb114 := NB311_259.out
 have hnc114 := NB259_311.out
 have hnb115 := NB311_285.out
 have hnc115 := NB285_311.out
 have hnb116 := NB311_296.out
 have hnc116 := NB296_311.out
 have hcz117_0 : wc.cell? ⟨gb311, 0, none⟩ = some (.int .i64 t300) := bc_ BK311.out 0
 have hcz117_1 : wc.cell? ⟨gb311, 1, none⟩ = some (.int .i64 t301) := bc_ BK311.out 1
 have hcz117_2 : wc.cell? ⟨gb311, 2, none⟩ = some (.slice Ao56 t302.length co56) := bc_ BK311.out 2
 have hcz117_3 : wc.cell? ⟨gb311, 3, none⟩ = some (.int .i64 t305) := bc_ BK311.out 3
 have hcz117_4 : wc.cell? ⟨gb311, 4, none⟩ = some (.int .i64 t306) := bc_ BK311.out 4
 have hcz117_5 : wc.cell? ⟨gb311, 5, none⟩ = some (.slice Ao60 t307.length co60) := bc_ BK311.out 5
 have hfz117_0 := blk_frozen BK311.out 0
 have hfz117_1 := blk_frozen BK311.out 1
 have hfz117_2 := blk_frozen BK311.out 2
 have hfz117_3 := blk_frozen BK311.out 3
 have hfz117_4 := blk_frozen BK311.out 4
 have hfz117_5 := blk_frozen BK311.out 5
 try go_wp2_with (first | ((with_reducible refine gate_callee (f := 15) rfl ?_); refine goesL_ (some 70) rfl rfl Try.func15 (by kernel_rfl) rfl #[.agg #[.int .i64 t300, .int .i64 t301, .slice Ao56 t302.length co56, .int .i64 t305, .int .i64 t306, .slice Ao60 t307.length co60], .int .i64 1] rfl nc_ ?_; (with_reducible refine (laws_markLeases.calls kj78 t300 t301 (fun k_ => some k_ = (.slice Ao56 t302.length co56 : Value).ownBlock) (.slice Ao56 t302.length co56) t302 t305 t306 (fun k_ => some k_ = (.slice Ao60 t307.length co60 : Value).ownBlock) (.slice Ao60 t307.length co60) t307 1 t328 t329 t330 w _ ?side1 ?side2 ?side3 ?side4 ?side5 A105.out).mono ?_); (case side1 => repeat (first | (with_reducible first | exact HB.out | apply below_alloc | apply pw_below_drewN | apply below_drew1 | refine below_set ?_ GE258.out | refine below_set ?_ GE259.out | refine below_set ?_ GE285.out | refine below_set ?_ GE296.out | refine below_set ?_ GE311.out) | exact HB.out)); (case side2 => exact Kd.R_tight rfl HO_312002.out); (case side3 => exact fun k_ e_ => (HO_312002.out.1 k_ e_.symm).2.2.2.2); (case side4 => exact Kd.R_tight rfl HO_312005.out); (case side5 => exact fun k_ e_ => (HO_312005.out.1 k_ e_.symm).2.2.2.2); rintro e w118 ⟨rfl, hy0, hy1, hb, hkp⟩; refine ⟨_, rfl, ?_⟩; replace HO_286002 := Aside0.mk (Kd.R_mono (ok' := fun k_ => some k_ ≠ (.slice Ao36 t281.length co36 : Value).ownBlock ∧ some k_ ≠ (.slice Ao46 t325.length co46 : Value).ownBlock ∧ some k_ ≠ (.slice Ao47 t326.length co47 : Value).ownBlock ∧ some k_ ≠ (.slice Ao56 t302.length co56 : Value).ownBlock ∧ some k_ ≠ (.slice Ao60 t307.length co60 : Value).ownBlock) (Kd.R_keptB (HO_286002.out) hkp (fun k_ hk_ hs_ => Or.elim hs_ (fun e_ => (hk_.2.2.2.1) e_) (fun e_ => (hk_.2.2.2.2) e_))) (fun k_ hk_ => ⟨hk_.1.1, hk_.1.2.1, hk_.1.2.2.1, hk_.1.2.2.2.1, hk_.1.2.2.2.2⟩)); replace HO_286005 := Aside0.mk (Kd.R_mono (ok' := fun k_ => some k_ ≠ (.slice Ao32 t276.length co32 : Value).ownBlock ∧ some k_ ≠ (.slice Ao46 t325.length co46 : Value).ownBlock ∧ some k_ ≠ (.slice Ao47 t326.length co47 : Value).ownBlock ∧ some k_ ≠ (.slice Ao56 t302.length co56 : Value).ownBlock ∧ some k_ ≠ (.slice Ao60 t307.length co60 : Value).ownBlock) (Kd.R_keptB (HO_286005.out) hkp (fun k_ hk_ hs_ => Or.elim hs_ (fun e_ => (hk_.2.2.2.1) e_) (fun e_ => (hk_.2.2.2.2) e_))) (fun k_ hk_ => ⟨hk_.1.1, hk_.1.2.1, hk_.1.2.2.1, hk_.1.2.2.2.1, hk_.1.2.2.2.2⟩)); replace HO_297002 := Aside0.mk (Kd.R_mono (ok' := fun k_ => some k_ ≠ (.slice Ao32 t276.length co32 : Value).ownBlock ∧ some k_ ≠ (.slice Ao36 t281.length co36 : Value).ownBlock ∧ some k_ ≠ (.slice Ao47 t326.length co47 : Value).ownBlock ∧ some k_ ≠ (.slice Ao56 t302.length co56 : Value).ownBlock ∧ some k_ ≠ (.slice Ao60 t307.length co60 : Value).ownBlock) (Kd.R_keptB (HO_297002.out) hkp (fun k_ hk_ hs_ => Or.elim hs_ (fun e_ => (hk_.2.2.2.1) e_) (fun e_ => (hk_.2.2.2.2) e_))) (fun k_ hk_ => ⟨hk_.1.1, hk_.1.2.1, hk_.1.2.2.1, hk_.1.2.2.2.1, hk_.1.2.2.2.2⟩)); replace HO_297005 := Aside0.mk (Kd.R_mono (ok' := fun k_ => some k_ ≠ (.slice Ao32 t276.length co32 : Value).ownBlock ∧ some k_ ≠ (.slice Ao36 t281.length co36 : Value).ownBlock ∧ some k_ ≠ (.slice Ao46 t325.length co46 : Value).ownBlock ∧ some k_ ≠ (.slice Ao56 t302.length co56 : Value).ownBlock ∧ some k_ ≠ (.slice Ao60 t307.length co60 : Value).ownBlock) (Kd.R_keptB (HO_297005.out) hkp (fun k_ hk_ hs_ => Or.elim hs_ (fun e_ => (hk_.2.2.2.1) e_) (fun e_ => (hk_.2.2.2.2) e_))) (fun k_ hk_ => ⟨hk_.1.1, hk_.1.2.1, hk_.1.2.2.1, hk_.1.2.2.2.1, hk_.1.2.2.2.2⟩)); replace BK258 := Aside0.mk (blk_kept (kb_ BK258.out) hkp (fun hs_ => Or.elim hs_ (fun e_ => (fun e_ => (Kd.R_ne HO_312002.out BK258.out (by decide)) e_) e_) (fun e_ => (fun e_ => (Kd.R_ne HO_312005.out BK258.out (by decide)) e_) e_))); replace BK259 := Aside0.mk (blk_kept (kb_ BK259.out) hkp (fun hs_ => Or.elim hs_ (fun e_ => (fun e_ => (Kd.R_ne HO_312002.out BK259.out (by decide)) e_) e_) (fun e_ => (fun e_ => (Kd.R_ne HO_312005.out BK259.out (by decide)) e_) e_))); replace BK285 := Aside0.mk (blk_kept (kb_ BK285.out) hkp (fun hs_ => Or.elim hs_ (fun e_ => (fun e_ => (Kd.R_ne HO_312002.out BK285.out (by decide)) e_) e_) (fun e_ => (fun e_ => (Kd.R_ne HO_312005.out BK285.out (by decide)) e_) e_))); replace BK296 := Aside0.mk (blk_kept (kb_ BK296.out) hkp (fun hs_ => Or.elim hs_ (fun e_ => (fun e_ => (Kd.R_ne HO_312002.out BK296.out (by decide)) e_) e_) (fun e_ => (fun e_ => (Kd.R_ne HO_312005.out BK296.out (by decide)) e_) e_))); replace BK311 := Aside0.mk (blk_kept (kb_ BK311.out) hkp (fun hs_ => Or.elim hs_ (fun e_ => (fun e_ => (Kd.R_ne HO_312002.out BK311.out (by decide)) e_) e_) (fun e_ => (fun e_ => (Kd.R_ne HO_312005.out BK311.out (by decide)) e_) e_))); replace HO_312002 := Aside0.mk (Kd.R_reok rfl hy0 (fun k_ e_ => HO_312002.out.1 k_ e_)); replace HO_312005 := Aside0.mk (Kd.R_reok rfl hy1 (fun k_ e_ => HO_312005.out.1 k_ e_)); replace HB := Aside0.mk (hb); clear hb; have hcz119_0 : w118.cell? ⟨gb311, 0, none⟩ = some (.int .i64 t300) := bc_ BK311.out 0; have hcz119_1 : w118.cell? ⟨gb311, 1, none⟩ = some (.int .i64 t301) := bc_ BK311.out 1; have hcz119_2 : w118.cell? ⟨gb311, 2, none⟩ = some (.slice Ao56 t302.length co56) := bc_ BK311.out 2; have hcz119_3 : w118.cell? ⟨gb311, 3, none⟩ = some (.int .i64 t305) := bc_ BK311.out 3; have hcz119_4 : w118.cell? ⟨gb311, 4, none⟩ = some (.int .i64 t306) := bc_ BK311.out 4; have hcz119_5 : w118.cell? ⟨gb311, 5, none⟩ = some (.slice Ao60 t307.length co60) := bc_ BK311.out 5; have hfz119_0 := blk_frozen BK311.out 0; have hfz119_1 := blk_frozen BK311.out 1; have hfz119_2 := blk_frozen BK311.out 2; have hfz119_3 := blk_frozen BK311.out 3; have hfz119_4 := blk_frozen BK311.out 4; have hfz119_5 := blk_frozen BK311.out 5) | ((with_reducible refine gate_callee (f := 16) rfl ?_); refine goesL_ (some 73) rfl rfl Try.func16 (by kernel_rfl) rfl #[.agg #[.int .i64 t300, .int .i64 t301, .slice Ao56 t329.length co56, .int .i64 t305, .int .i64 t306, .slice Ao60 t330.length co60], .int .i64 1] rfl (by (try simp only [List.map_toArray, List.map_cons, List.map_nil]); first | done | (rw [show t329.length = t302.length from (Kd.R_reads' HO_312002.out).1.symm, show t330.length = t307.length from (Kd.R_reads' HO_312005.out).1.symm] <;> rfl) | rfl | (simp only [List.length_drop, List.length_take]; rfl)) ?_; (with_reducible refine (laws_heldLeases.calls kj78 t300 t301 _ _ t329 t305 t306 _ _ t330 1 t331 _ ?side1 ?side2 ?side3 ?side4 A106.out).mono ?_); (case side1 => exact kc_ (Kd.R_reads' HO_312002.out).2.2); (case side2 => rw [show t329.length = t302.length from (Kd.R_reads' HO_312002.out).1.symm]; exact (Kd.R_reads' HO_312002.out).2.1); (case side3 => exact kc_ (Kd.R_reads' HO_312005.out).2.2); (case side4 => rw [show t330.length = t307.length from (Kd.R_reads' HO_312005.out).1.symm]; exact (Kd.R_reads' HO_312005.out).2.1); rintro e w120 ⟨rfl, hb⟩; refine ⟨_, rfl, ?_⟩; replace HO_286002 := rb_ HO_286002 hb; replace HO_286005 := rb_ HO_286005 hb; replace HO_297002 := rb_ HO_297002 hb; replace HO_297005 := rb_ HO_297005 hb; replace HO_312002 := rb_ HO_312002 hb; replace HO_312005 := rb_ HO_312005 hb; replace BK258 := bb_ BK258 hb; replace BK259 := bb_ BK259 hb; replace BK285 := bb_ BK285 hb; replace BK296 := bb_ BK296 hb; replace BK311 := bb_ BK311 hb; replace HB := Aside0.mk (below_step bl_ hb); clear hb))
 replace HO_286002 := Aside0.mk (Kd.R_drew HO_286002.out)
 replace HO_286005 := Aside0.mk (Kd.R_drew HO_286005.out)
 replace HO_297002 := Aside0.mk (Kd.R_drew HO_297002.out)
 replace HO_297005 := Aside0.mk (Kd.R_drew HO_297005.out)
 replace HO_312002 := Aside0.mk (Kd.R_drew HO_312002.out)
 replace HO_312005 := Aside0.mk (Kd.R_drew HO_312005.out)
 replace BK258 := Aside0.mk (blk_drew BK258.out)
 replace BK259 := Aside0.mk (blk_drew BK259.out)
 replace BK285 := Aside0.mk (blk_drew BK285.out)
 replace BK296 := Aside0.mk (blk_drew BK296.out)
 replace BK311 := Aside0.mk (blk_drew BK311.out)
 replace HB := Aside0.mk (below_drew1 HB.out)
 refine start_ (n := 11) (S := fun w' => w'.cell? ⟨gb258, 0, none⟩ = some (.int .i64 a0_0) ∧ w'.cell? ⟨gb258, 1, none⟩ = some (.int .i64 a0_1) ∧ w'.cell? ⟨gb258, 2, none⟩ = some (.slice A0_2 l0_2.length c0_2) ∧ w'.cell? ⟨gb258, 3, none⟩ = some (.int .i64 a0_3) ∧ w'.cell? ⟨gb258, 4, none⟩ = some (.int .i64 a0_4) ∧ w'.cell? ⟨gb258, 5, none⟩ = some (.slice A0_5 l0_5.length c0_5) ∧ w'.cell? ⟨gb259, 0, none⟩ = some (.int .i64 a1_0) ∧ w'.cell? ⟨gb259, 1, none⟩ = some (.int .i64 a1_1) ∧ w'.cell? ⟨gb259, 2, none⟩ = some (.int .i64 a1_2)) (ds := []) #[false, false, false, false, false, false, false, false, false, false, false] (by kernel_rfl) rfl rfl ⟨bc_ BK258.out 0, bc_ BK258.out 1, bc_ BK258.out 2, bc_ BK258.out 3, bc_ BK258.out 4, bc_ BK258.out 5, bc_ BK259.out 0, bc_ BK259.out 1, bc_ BK259.out 2⟩ (fun hHeld => ?_); refine with_tabW laws_FnExactStepLease.tab24 laws_FnExactStepLease.bits24 (fun HT_ HW_ => ?_)
 generalize w120.drew = w121 at HO_286002 HO_286005 HO_297002 HO_297005 HO_312002 HO_312005 BK258 BK259 BK285 BK296 BK311 HB hHeld ⊢
 refine tk9_ 0 (some 80) (h := ?_)
 refine tk9_ 2 (some 82) (h := ?_)
 refine join_ (σ := Value × Value × Value × Value × Nat) 2 #[true, true, true, true, true, true, true, true, true, false, false] (fun s_ => [(81, .agg #[.int .i64 t332, .int .i64 t333, s_.1, .int .i64 t337, .int .i64 t338, s_.2.1]), (83, .agg #[.int .i64 t342, .int .i64 t343, .int .i64 t344]), (84, .tuple #[.agg #[.int .i64 t345, .int .i64 t346, s_.2.2.1, .int .i64 t350, .int .i64 t351, s_.2.2.2.1], .bool t355]), (14, .pointer (some ⟨s_.2.2.2.2, 0, none⟩)), (79, .tuple #[.agg #[.int .i64 t345, .int .i64 t346, s_.2.2.1, .int .i64 t350, .int .i64 t351, s_.2.2.2.1], .bool t355]), (85, .agg #[.int .i64 t345, .int .i64 t346, s_.2.2.1, .int .i64 t350, .int .i64 t351, s_.2.2.2.1]), (86, .bool t355)]) (fun s_ w' => (w'.cell? ⟨gb258, 0, none⟩ = some (.int .i64 a0_0) ∧ w'.cell? ⟨gb258, 1, none⟩ = some (.int .i64 a0_1) ∧ w'.cell? ⟨gb258, 2, none⟩ = some (.slice A0_2 l0_2.length c0_2) ∧ w'.cell? ⟨gb258, 3, none⟩ = some (.int .i64 a0_3) ∧ w'.cell? ⟨gb258, 4, none⟩ = some (.int .i64 a0_4) ∧ w'.cell? ⟨gb258, 5, none⟩ = some (.slice A0_5 l0_5.length c0_5) ∧ w'.cell? ⟨gb259, 0, none⟩ = some (.int .i64 a1_0) ∧ w'.cell? ⟨gb259, 1, none⟩ = some (.int .i64 a1_1) ∧ w'.cell? ⟨gb259, 2, none⟩ = some (.int .i64 a1_2)) ∧ (Kd.R (Kd.int .i64) 3 w' w.heap.size (fun k_ => some k_ ≠ (s_.2.1 : Value).ownBlock ∧ some k_ ≠ (s_.2.2.1 : Value).ownBlock ∧ some k_ ≠ (s_.2.2.2.1 : Value).ownBlock ∧ some k_ ≠ (.slice Ao32 t276.length co32 : Value).ownBlock ∧ some k_ ≠ (.slice Ao36 t281.length co36 : Value).ownBlock ∧ some k_ ≠ (.slice Ao46 t325.length co46 : Value).ownBlock ∧ some k_ ≠ (.slice Ao47 t326.length co47 : Value).ownBlock ∧ some k_ ≠ (.slice Ao56 t302.length co56 : Value).ownBlock ∧ some k_ ≠ (.slice Ao60 t307.length co60 : Value).ownBlock) s_.1 t334) ∧ (Kd.R (Kd.int .i64) 3 w' w.heap.size (fun k_ => some k_ ≠ (s_.1 : Value).ownBlock ∧ some k_ ≠ (s_.2.2.1 : Value).ownBlock ∧ some k_ ≠ (s_.2.2.2.1 : Value).ownBlock ∧ some k_ ≠ (.slice Ao32 t276.length co32 : Value).ownBlock ∧ some k_ ≠ (.slice Ao36 t281.length co36 : Value).ownBlock ∧ some k_ ≠ (.slice Ao46 t325.length co46 : Value).ownBlock ∧ some k_ ≠ (.slice Ao47 t326.length co47 : Value).ownBlock ∧ some k_ ≠ (.slice Ao56 t302.length co56 : Value).ownBlock ∧ some k_ ≠ (.slice Ao60 t307.length co60 : Value).ownBlock) s_.2.1 t339) ∧ (Kd.R (Kd.int .i64) 3 w' w.heap.size (fun k_ => some k_ ≠ (s_.1 : Value).ownBlock ∧ some k_ ≠ (s_.2.1 : Value).ownBlock ∧ some k_ ≠ (s_.2.2.2.1 : Value).ownBlock ∧ some k_ ≠ (.slice Ao32 t276.length co32 : Value).ownBlock ∧ some k_ ≠ (.slice Ao36 t281.length co36 : Value).ownBlock ∧ some k_ ≠ (.slice Ao46 t325.length co46 : Value).ownBlock ∧ some k_ ≠ (.slice Ao47 t326.length co47 : Value).ownBlock ∧ some k_ ≠ (.slice Ao56 t302.length co56 : Value).ownBlock ∧ some k_ ≠ (.slice Ao60 t307.length co60 : Value).ownBlock) s_.2.2.1 t347) ∧ (Kd.R (Kd.int .i64) 3 w' w.heap.size (fun k_ => some k_ ≠ (s_.1 : Value).ownBlock ∧ some k_ ≠ (s_.2.1 : Value).ownBlock ∧ some k_ ≠ (s_.2.2.1 : Value).ownBlock ∧ some k_ ≠ (.slice Ao32 t276.length co32 : Value).ownBlock ∧ some k_ ≠ (.slice Ao36 t281.length co36 : Value).ownBlock ∧ some k_ ≠ (.slice Ao46 t325.length co46 : Value).ownBlock ∧ some k_ ≠ (.slice Ao47 t326.length co47 : Value).ownBlock ∧ some k_ ≠ (.slice Ao56 t302.length co56 : Value).ownBlock ∧ some k_ ≠ (.slice Ao60 t307.length co60 : Value).ownBlock) s_.2.2.2.1 t352) ∧ (Kd.R (Kd.int .i64) 3 w' w.heap.size (fun k_ => some k_ ≠ (s_.1 : Value).ownBlock ∧ some k_ ≠ (s_.2.1 : Value).ownBlock ∧ some k_ ≠ (s_.2.2.1 : Value).ownBlock ∧ some k_ ≠ (s_.2.2.2.1 : Value).ownBlock ∧ some k_ ≠ (.slice Ao36 t281.length co36 : Value).ownBlock ∧ some k_ ≠ (.slice Ao46 t325.length co46 : Value).ownBlock ∧ some k_ ≠ (.slice Ao47 t326.length co47 : Value).ownBlock ∧ some k_ ≠ (.slice Ao56 t302.length co56 : Value).ownBlock ∧ some k_ ≠ (.slice Ao60 t307.length co60 : Value).ownBlock) (.slice Ao32 t276.length co32) t276) ∧ (Kd.R (Kd.int .i64) 3 w' w.heap.size (fun k_ => some k_ ≠ (s_.1 : Value).ownBlock ∧ some k_ ≠ (s_.2.1 : Value).ownBlock ∧ some k_ ≠ (s_.2.2.1 : Value).ownBlock ∧ some k_ ≠ (s_.2.2.2.1 : Value).ownBlock ∧ some k_ ≠ (.slice Ao32 t276.length co32 : Value).ownBlock ∧ some k_ ≠ (.slice Ao46 t325.length co46 : Value).ownBlock ∧ some k_ ≠ (.slice Ao47 t326.length co47 : Value).ownBlock ∧ some k_ ≠ (.slice Ao56 t302.length co56 : Value).ownBlock ∧ some k_ ≠ (.slice Ao60 t307.length co60 : Value).ownBlock) (.slice Ao36 t281.length co36) t281) ∧ (Kd.R (Kd.int .i64) 3 w' w.heap.size (fun k_ => some k_ ≠ (s_.1 : Value).ownBlock ∧ some k_ ≠ (s_.2.1 : Value).ownBlock ∧ some k_ ≠ (s_.2.2.1 : Value).ownBlock ∧ some k_ ≠ (s_.2.2.2.1 : Value).ownBlock ∧ some k_ ≠ (.slice Ao32 t276.length co32 : Value).ownBlock ∧ some k_ ≠ (.slice Ao36 t281.length co36 : Value).ownBlock ∧ some k_ ≠ (.slice Ao47 t326.length co47 : Value).ownBlock ∧ some k_ ≠ (.slice Ao56 t302.length co56 : Value).ownBlock ∧ some k_ ≠ (.slice Ao60 t307.length co60 : Value).ownBlock) (.slice Ao46 t325.length co46) t325) ∧ (Kd.R (Kd.int .i64) 3 w' w.heap.size (fun k_ => some k_ ≠ (s_.1 : Value).ownBlock ∧ some k_ ≠ (s_.2.1 : Value).ownBlock ∧ some k_ ≠ (s_.2.2.1 : Value).ownBlock ∧ some k_ ≠ (s_.2.2.2.1 : Value).ownBlock ∧ some k_ ≠ (.slice Ao32 t276.length co32 : Value).ownBlock ∧ some k_ ≠ (.slice Ao36 t281.length co36 : Value).ownBlock ∧ some k_ ≠ (.slice Ao46 t325.length co46 : Value).ownBlock ∧ some k_ ≠ (.slice Ao56 t302.length co56 : Value).ownBlock ∧ some k_ ≠ (.slice Ao60 t307.length co60 : Value).ownBlock) (.slice Ao47 t326.length co47) t326) ∧ (Kd.R (Kd.int .i64) 3 w' w.heap.size (fun k_ => some k_ ≠ (s_.1 : Value).ownBlock ∧ some k_ ≠ (s_.2.1 : Value).ownBlock ∧ some k_ ≠ (s_.2.2.1 : Value).ownBlock ∧ some k_ ≠ (s_.2.2.2.1 : Value).ownBlock ∧ some k_ ≠ (.slice Ao32 t276.length co32 : Value).ownBlock ∧ some k_ ≠ (.slice Ao36 t281.length co36 : Value).ownBlock ∧ some k_ ≠ (.slice Ao46 t325.length co46 : Value).ownBlock ∧ some k_ ≠ (.slice Ao47 t326.length co47 : Value).ownBlock ∧ some k_ ≠ (.slice Ao60 t307.length co60 : Value).ownBlock) (.slice Ao56 t302.length co56) t329) ∧ (Kd.R (Kd.int .i64) 3 w' w.heap.size (fun k_ => some k_ ≠ (s_.1 : Value).ownBlock ∧ some k_ ≠ (s_.2.1 : Value).ownBlock ∧ some k_ ≠ (s_.2.2.1 : Value).ownBlock ∧ some k_ ≠ (s_.2.2.2.1 : Value).ownBlock ∧ some k_ ≠ (.slice Ao32 t276.length co32 : Value).ownBlock ∧ some k_ ≠ (.slice Ao36 t281.length co36 : Value).ownBlock ∧ some k_ ≠ (.slice Ao46 t325.length co46 : Value).ownBlock ∧ some k_ ≠ (.slice Ao47 t326.length co47 : Value).ownBlock ∧ some k_ ≠ (.slice Ao56 t302.length co56 : Value).ownBlock) (.slice Ao60 t307.length co60) t330) ∧ (w'.heap[gb258]? = some (.cells #[.int .i64 a0_0, .int .i64 a0_1, .slice A0_2 l0_2.length c0_2, .int .i64 a0_3, .int .i64 a0_4, .slice A0_5 l0_5.length c0_5] 30 (0, 0))) ∧ (w'.heap[gb259]? = some (.cells #[.int .i64 a1_0, .int .i64 a1_1, .int .i64 a1_2] 43 (0, 0))) ∧ (w'.heap[gb285]? = some (.cells #[.int .i64 t274, .int .i64 t275, .slice Ao32 t276.length co32, .int .i64 t279, .int .i64 t280, .slice Ao36 t281.length co36] 24 (0, 0))) ∧ (w'.heap[gb296]? = some (.cells #[.int .i64 t286, .int .i64 t287, .slice Ao46 t325.length co46, .int .i64 t291, .int .i64 t292, .slice Ao47 t326.length co47] 24 (0, 0))) ∧ (w'.heap[gb311]? = some (.cells #[.int .i64 t300, .int .i64 t301, .slice Ao56 t302.length co56, .int .i64 t305, .int .i64 t306, .slice Ao60 t307.length co60] 24 (0, 0))) ∧ (w'.heap[s_.2.2.2.2]? = some (.cells #[.int .i64 0, .int .i64 0, .slice none 0 0, .int .i64 0, .int .i64 0, .slice none 0 0] 24 (0, 0))) ∧ (w.heap.size ≤ s_.2.2.2.2) ∧ (w.heap.size ≤ s_.2.2.2.2) ∧ (gb258 ≠ s_.2.2.2.2) ∧ (s_.2.2.2.2 ≠ gb258) ∧ (gb259 ≠ s_.2.2.2.2) ∧ (s_.2.2.2.2 ≠ gb259) ∧ (gb285 ≠ s_.2.2.2.2) ∧ (s_.2.2.2.2 ≠ gb285) ∧ (gb296 ≠ s_.2.2.2.2) ∧ (s_.2.2.2.2 ≠ gb296) ∧ (gb311 ≠ s_.2.2.2.2) ∧ (s_.2.2.2.2 ≠ gb311) ∧ (Below w.heap.size w w')) ?_ ?_
 rotate_left
 ·intro hCont
  refine tw_ 1 8 (some 81) (some 14) (h1 := fun K hK => ?_) (h2 := fun K hK => ?_)
  ·skip
   refine goes_ Try.func19 (by kernel_rfl) rfl #[.agg #[.int .i64 a0_0, .int .i64 a0_1, .slice A0_2 l0_2.length c0_2, .int .i64 a0_3, .int .i64 a0_4, .slice A0_5 l0_5.length c0_5]] (by rfl) rfl rfl nc_ ?_
   with_reducible refine (laws_toLeases.calls kj78 a0_0 a0_1 _ _ l0_2 a0_3 a0_4 _ _ l0_5 t332 t333 t334 t337 t338 t339 _ ?side1 ?side2 ?side3 ?side4 A109.out).mono ?_
   (case side1 => exact kc_ (Kd.C_below HR0_2.out HB.out))
   (case side2 => exact HC0_2.out)
   (case side3 => exact kc_ (Kd.C_below HR0_5.out HB.out))
   (case side4 => exact HC0_5.out)
   rintro e w122 ⟨v335, v340, rfl, ho0, ho1, hb⟩
   refine ⟨_, rfl, ?_⟩
   have HO336 := Aside0.mk (Kd.R_lower (rn_ (rn_ (rn_ (rn_ (rn_ (rn_ ho0 HO_286002.out) HO_286005.out) HO_297002.out) HO_297005.out) HO_312002.out) HO_312005.out) bz_)
   have HO341 := Aside0.mk (Kd.R_lower (rn_ (rn_ (rn_ (rn_ (rn_ (rn_ ho1 HO_286002.out) HO_286005.out) HO_297002.out) HO_297005.out) HO_312002.out) HO_312005.out) bz_)
   replace HO_286002 := rp2_ HO_286002 hb ho0 ho1
   replace HO_286005 := rp2_ HO_286005 hb ho0 ho1
   replace HO_297002 := rp2_ HO_297002 hb ho0 ho1
   replace HO_297005 := rp2_ HO_297005 hb ho0 ho1
   replace HO_312002 := rp2_ HO_312002 hb ho0 ho1
   replace HO_312005 := rp2_ HO_312005 hb ho0 ho1
   replace BK258 := bb_ BK258 hb
   replace BK259 := bb_ BK259 hb
   replace BK285 := bb_ BK285 hb
   replace BK296 := bb_ BK296 hb
   replace BK311 := bb_ BK311 hb
   replace HB := Aside0.mk (below_step bl_ hb)
   clear hb ho0 ho1
   refine hK.out _ _ ⟨bc_ BK258.out 0, bc_ BK258.out 1, bc_ BK258.out 2, bc_ BK258.out 3, bc_ BK258.out 4, bc_ BK258.out 5, bc_ BK259.out 0, bc_ BK259.out 1, bc_ BK259.out 2⟩ (fun hHeld => ?_)
   clear hK K
   refine norm_ nn_ ?_
   refine tw_ 3 8 (some 83) (some 14) (h1 := fun K hK => ?_) (h2 := fun K hK => ?_)
   ·skip
    refine goes_ Try.func29 (by kernel_rfl) rfl #[.agg #[.int .i64 a1_0, .int .i64 a1_1, .int .i64 a1_2]] (by rfl) rfl rfl nc_ ?_
    with_reducible refine (laws_toLeaseStep.calls a1_0 a1_1 a1_2 t342 t343 t344 _ A110.out).mono ?_
    rintro e w123 ⟨rfl, hb⟩
    refine ⟨_, rfl, ?_⟩
    replace HO_286002 := rb_ HO_286002 hb
    replace HO_286005 := rb_ HO_286005 hb
    replace HO_297002 := rb_ HO_297002 hb
    replace HO_297005 := rb_ HO_297005 hb
    replace HO_312002 := rb_ HO_312002 hb
    replace HO_312005 := rb_ HO_312005 hb
    replace HO336 := rb_ HO336 hb
    replace HO341 := rb_ HO341 hb
    replace BK258 := bb_ BK258 hb
    replace BK259 := bb_ BK259 hb
    replace BK285 := bb_ BK285 hb
    replace BK296 := bb_ BK296 hb
    replace BK311 := bb_ BK311 hb
    replace HB := Aside0.mk (below_step bl_ hb)
    clear hb
    obtain ⟨Ao124, co124, eo124⟩ := Kd.R_slice HO336.out
    (first | subst eo124 | (injection eo124 with f1_ f2_ f3_; have f4_ := f1_.symm; have f5_ := f3_.symm; clear f1_ f2_ f3_; subst f4_; subst f5_))
    obtain ⟨Ao125, co125, eo125⟩ := Kd.R_slice HO341.out
    (first | subst eo125 | (injection eo125 with f1_ f2_ f3_; have f4_ := f1_.symm; have f5_ := f3_.symm; clear f1_ f2_ f3_; subst f4_; subst f5_))
    refine hK.out _ _ ⟨bc_ BK258.out 0, bc_ BK258.out 1, bc_ BK258.out 2, bc_ BK258.out 3, bc_ BK258.out 4, bc_ BK258.out 5, bc_ BK259.out 0, bc_ BK259.out 1, bc_ BK259.out 2⟩ (fun hHeld => ?_)
    clear hK K
    refine norm_ nn_ ?_
    refine tw_ 4 8 (some 84) (some 14) (h1 := fun K hK => ?_) (h2 := fun K hK => ?_)
    ·skip
     refine goes_ Try.func30 (by kernel_rfl) rfl #[.agg #[.int .i64 t332, .int .i64 t333, .slice Ao124 t334.length co124, .int .i64 t337, .int .i64 t338, .slice Ao125 t339.length co125], .agg #[.int .i64 t342, .int .i64 t343, .int .i64 t344]] (by rfl) rfl rfl nc_ ?_
     with_reducible refine (impl_StepLease.calls kj78 t332 t333 _ _ t334 t337 t338 _ _ t339 t342 t343 t344 t345 t346 t347 t350 t351 t352 t355 _ ?side1 ?side2 ?side3 ?side4 A111.out).mono ?_
     (case side1 => exact kc_ (Kd.R_reads' HO336.out).2.2)
     (case side2 => exact (Kd.R_reads' HO336.out).2.1)
     (case side3 => exact kc_ (Kd.R_reads' HO341.out).2.2)
     (case side4 => exact (Kd.R_reads' HO341.out).2.1)
     rintro e w126 ⟨v348, v353, rfl, ho0, ho1, hb⟩
     refine ⟨_, rfl, ?_⟩
     have HO349 := Aside0.mk (Kd.R_lower (rn_ (rn_ (rn_ (rn_ (rn_ (rn_ (rn_ (rn_ ho0 HO_286002.out) HO_286005.out) HO_297002.out) HO_297005.out) HO_312002.out) HO_312005.out) HO336.out) HO341.out) bz_)
     have HO354 := Aside0.mk (Kd.R_lower (rn_ (rn_ (rn_ (rn_ (rn_ (rn_ (rn_ (rn_ ho1 HO_286002.out) HO_286005.out) HO_297002.out) HO_297005.out) HO_312002.out) HO_312005.out) HO336.out) HO341.out) bz_)
     replace HO_286002 := rp2_ HO_286002 hb ho0 ho1
     replace HO_286005 := rp2_ HO_286005 hb ho0 ho1
     replace HO_297002 := rp2_ HO_297002 hb ho0 ho1
     replace HO_297005 := rp2_ HO_297005 hb ho0 ho1
     replace HO_312002 := rp2_ HO_312002 hb ho0 ho1
     replace HO_312005 := rp2_ HO_312005 hb ho0 ho1
     replace HO336 := rp2_ HO336 hb ho0 ho1
     replace HO341 := rp2_ HO341 hb ho0 ho1
     replace BK258 := bb_ BK258 hb
     replace BK259 := bb_ BK259 hb
     replace BK285 := bb_ BK285 hb
     replace BK296 := bb_ BK296 hb
     replace BK311 := bb_ BK311 hb
     replace HB := Aside0.mk (below_step bl_ hb)
     clear hb ho0 ho1
     refine hK.out _ _ ⟨bc_ BK258.out 0, bc_ BK258.out 1, bc_ BK258.out 2, bc_ BK258.out 3, bc_ BK258.out 4, bc_ BK258.out 5, bc_ BK259.out 0, bc_ BK259.out 1, bc_ BK259.out 2⟩ (fun hHeld => ?_)
     clear hK K
     refine norm_ nn_ ?_
     refine pu_ 5 (some 79) (h := ?_)
     refine pu_ 6 (some 85) (h := ?_)
     refine pu_ 7 (some 86) (h := ?_)
     refine on_ 8 (some 14) (h := fun K hK => ?_)
     refine box_step rfl (N := 14) rfl (cs := #[.int .i64 0, .int .i64 0, .slice none 0 0, .int .i64 0, .int .i64 0, .slice none 0 0]) (t := 24) gs_ ?_
     intro gb356 hg w127 hbox hb
     replace HO_286002 := rb_ HO_286002 hb
     replace HO_286005 := rb_ HO_286005 hb
     replace HO_297002 := rb_ HO_297002 hb
     replace HO_297005 := rb_ HO_297005 hb
     replace HO_312002 := rb_ HO_312002 hb
     replace HO_312005 := rb_ HO_312005 hb
     replace HO336 := rb_ HO336 hb
     replace HO341 := rb_ HO341 hb
     replace HO349 := rb_ HO349 hb
     replace HO354 := rb_ HO354 hb
     have BK356 := Aside0.mk (hbox)
     have GW356 := Aside0.mk ((by rw [hg]; exact bz_ : w.heap.size ≤ gb356))
     have GE356 := GW356
     replace HB := Aside0.mk (below_step bl_ hb)
     have NB258_356 := nl_ hg BK258
     have NB356_258 := nm_ hg BK258
     replace BK258 := bb_ BK258 hb
     have NB259_356 := nl_ hg BK259
     have NB356_259 := nm_ hg BK259
     replace BK259 := bb_ BK259 hb
     have NB285_356 := nl_ hg BK285
     have NB356_285 := nm_ hg BK285
     replace BK285 := bb_ BK285 hb
     have NB296_356 := nl_ hg BK296
     have NB356_296 := nm_ hg BK296
     replace BK296 := bb_ BK296 hb
     have NB311_356 := nl_ hg BK311
     have NB356_311 := nm_ hg BK311
     replace BK311 := bb_ BK311 hb
     clear hb hbox hg
     refine hK.out _ _ ⟨bc_ BK258.out 0, bc_ BK258.out 1, bc_ BK258.out 2, bc_ BK258.out 3, bc_ BK258.out 4, bc_ BK258.out 5, bc_ BK259.out 0, bc_ BK259.out 1, bc_ BK259.out 2⟩ (fun hHeld => ?_)
     clear hK K
     refine norm_ nn_ ?_
     exact norm_ (by simp only [putAll, Act.put, List.setIfInBounds_toArray, List.set_cons_zero, List.set_cons_succ]) (hCont (.slice Ao124 t334.length co124, .slice Ao125 t339.length co125, v348, v353, gb356) _ ⟨hHeld, kp_ HO336.out, kp_ HO341.out, kp_ HO349.out, kp_ HO354.out, kp_ HO_286002.out, kp_ HO_286005.out, kp_ HO_297002.out, kp_ HO_297005.out, kp_ HO_312002.out, kp_ HO_312005.out, kb_ BK258.out, kb_ BK259.out, kb_ BK285.out, kb_ BK296.out, kb_ BK311.out, kb_ BK356.out, GW356.out, GE356.out, NB258_356.out, NB356_258.out, NB259_356.out, NB356_259.out, NB285_356.out, NB356_285.out, NB296_356.out, NB356_296.out, NB311_356.out, NB356_311.out, bl_⟩)
    ·skip
     refine box_step rfl (N := 14) rfl (cs := #[.int .i64 0, .int .i64 0, .slice none 0 0, .int .i64 0, .int .i64 0, .slice none 0 0]) (t := 24) gs_ ?_
     intro gb356 hg w124 hbox hb
     replace HO_286002 := rb_ HO_286002 hb
     replace HO_286005 := rb_ HO_286005 hb
     replace HO_297002 := rb_ HO_297002 hb
     replace HO_297005 := rb_ HO_297005 hb
     replace HO_312002 := rb_ HO_312002 hb
     replace HO_312005 := rb_ HO_312005 hb
     replace HO336 := rb_ HO336 hb
     replace HO341 := rb_ HO341 hb
     have BK356 := Aside0.mk (hbox)
     have GW356 := Aside0.mk ((by rw [hg]; exact bz_ : w.heap.size ≤ gb356))
     have GE356 := GW356
     replace HB := Aside0.mk (below_step bl_ hb)
     have NB258_356 := nl_ hg BK258
     have NB356_258 := nm_ hg BK258
     replace BK258 := bb_ BK258 hb
     have NB259_356 := nl_ hg BK259
     have NB356_259 := nm_ hg BK259
     replace BK259 := bb_ BK259 hb
     have NB285_356 := nl_ hg BK285
     have NB356_285 := nm_ hg BK285
     replace BK285 := bb_ BK285 hb
     have NB296_356 := nl_ hg BK296
     have NB356_296 := nm_ hg BK296
     replace BK296 := bb_ BK296 hb
     have NB311_356 := nl_ hg BK311
     have NB356_311 := nm_ hg BK311
     replace BK311 := bb_ BK311 hb
     clear hb hbox hg
     obtain ⟨Ao125, co125, eo125⟩ := Kd.R_slice HO336.out
     (first | subst eo125 | (injection eo125 with f1_ f2_ f3_; have f4_ := f1_.symm; have f5_ := f3_.symm; clear f1_ f2_ f3_; subst f4_; subst f5_))
     obtain ⟨Ao126, co126, eo126⟩ := Kd.R_slice HO341.out
     (first | subst eo126 | (injection eo126 with f1_ f2_ f3_; have f4_ := f1_.symm; have f5_ := f3_.symm; clear f1_ f2_ f3_; subst f4_; subst f5_))
     refine hK.out _ _ ⟨bc_ BK258.out 0, bc_ BK258.out 1, bc_ BK258.out 2, bc_ BK258.out 3, bc_ BK258.out 4, bc_ BK258.out 5, bc_ BK259.out 0, bc_ BK259.out 1, bc_ BK259.out 2⟩ (fun hHeld => ?_)
     clear hK K
     refine norm_ nn_ ?_
     refine on_ 4 (some 84) (h := fun K hK => ?_)
     refine goes_ Try.func30 (by kernel_rfl) rfl #[.agg #[.int .i64 t332, .int .i64 t333, .slice Ao125 t334.length co125, .int .i64 t337, .int .i64 t338, .slice Ao126 t339.length co126], .agg #[.int .i64 t342, .int .i64 t343, .int .i64 t344]] (by rfl) rfl rfl nc_ ?_
     with_reducible refine (impl_StepLease.calls kj78 t332 t333 _ _ t334 t337 t338 _ _ t339 t342 t343 t344 t345 t346 t347 t350 t351 t352 t355 _ ?side1 ?side2 ?side3 ?side4 A111.out).mono ?_
     (case side1 => exact kc_ (Kd.R_reads' HO336.out).2.2)
     (case side2 => exact (Kd.R_reads' HO336.out).2.1)
     (case side3 => exact kc_ (Kd.R_reads' HO341.out).2.2)
     (case side4 => exact (Kd.R_reads' HO341.out).2.1)
     rintro e w127 ⟨v348, v353, rfl, ho0, ho1, hb⟩
     refine ⟨_, rfl, ?_⟩
     have HO349 := Aside0.mk (Kd.R_lower (rn_ (rn_ (rn_ (rn_ (rn_ (rn_ (rn_ (rn_ ho0 HO_286002.out) HO_286005.out) HO_297002.out) HO_297005.out) HO_312002.out) HO_312005.out) HO336.out) HO341.out) bz_)
     have HO354 := Aside0.mk (Kd.R_lower (rn_ (rn_ (rn_ (rn_ (rn_ (rn_ (rn_ (rn_ ho1 HO_286002.out) HO_286005.out) HO_297002.out) HO_297005.out) HO_312002.out) HO_312005.out) HO336.out) HO341.out) bz_)
     replace HO_286002 := rp2_ HO_286002 hb ho0 ho1
     replace HO_286005 := rp2_ HO_286005 hb ho0 ho1
     replace HO_297002 := rp2_ HO_297002 hb ho0 ho1
     replace HO_297005 := rp2_ HO_297005 hb ho0 ho1
     replace HO_312002 := rp2_ HO_312002 hb ho0 ho1
     replace HO_312005 := rp2_ HO_312005 hb ho0 ho1
     replace HO336 := rp2_ HO336 hb ho0 ho1
     replace HO341 := rp2_ HO341 hb ho0 ho1
     replace BK258 := bb_ BK258 hb
     replace BK259 := bb_ BK259 hb
     replace BK285 := bb_ BK285 hb
     replace BK296 := bb_ BK296 hb
     replace BK311 := bb_ BK311 hb
     replace BK356 := bb_ BK356 hb
     replace HB := Aside0.mk (below_step bl_ hb)
     clear hb ho0 ho1
     refine hK.out _ _ ⟨bc_ BK258.out 0, bc_ BK258.out 1, bc_ BK258.out 2, bc_ BK258.out 3, bc_ BK258.out 4, bc_ BK258.out 5, bc_ BK259.out 0, bc_ BK259.out 1, bc_ BK259.out 2⟩ (fun hHeld => ?_)
     clear hK K
     refine norm_ nn_ ?_
     refine pu_ 5 (some 79) (h := ?_)
     refine pu_ 6 (some 85) (h := ?_)
     refine pu_ 7 (some 86) (h := ?_)
     exact norm_ (by simp only [putAll, Act.put, List.setIfInBounds_toArray, List.set_cons_zero, List.set_cons_succ]) (hCont (.slice Ao125 t334.length co125, .slice Ao126 t339.length co126, v348, v353, gb356) _ ⟨hHeld, kp_ HO336.out, kp_ HO341.out, kp_ HO349.out, kp_ HO354.out, kp_ HO_286002.out, kp_ HO_286005.out, kp_ HO_297002.out, kp_ HO_297005.out, kp_ HO_312002.out, kp_ HO_312005.out, kb_ BK258.out, kb_ BK259.out, kb_ BK285.out, kb_ BK296.out, kb_ BK311.out, kb_ BK356.out, GW356.out, GE356.out, NB258_356.out, NB356_258.out, NB259_356.out, NB356_259.out, NB285_356.out, NB356_285.out, NB296_356.out, NB356_296.out, NB311_356.out, NB356_311.out, bl_⟩)
   ·skip
    refine box_step rfl (N := 14) rfl (cs := #[.int .i64 0, .int .i64 0, .slice none 0 0, .int .i64 0, .int .i64 0, .slice none 0 0]) (t := 24) gs_ ?_
    intro gb356 hg w123 hbox hb
    replace HO_286002 := rb_ HO_286002 hb
    replace HO_286005 := rb_ HO_286005 hb
    replace HO_297002 := rb_ HO_297002 hb
    replace HO_297005 := rb_ HO_297005 hb
    replace HO_312002 := rb_ HO_312002 hb
    replace HO_312005 := rb_ HO_312005 hb
    replace HO336 := rb_ HO336 hb
    replace HO341 := rb_ HO341 hb
    have BK356 := Aside0.mk (hbox)
    have GW356 := Aside0.mk ((by rw [hg]; exact bz_ : w.heap.size ≤ gb356))
    have GE356 := GW356
    replace HB := Aside0.mk (below_step bl_ hb)
    have NB258_356 := nl_ hg BK258
    have NB356_258 := nm_ hg BK258
    replace BK258 := bb_ BK258 hb
    have NB259_356 := nl_ hg BK259
    have NB356_259 := nm_ hg BK259
    replace BK259 := bb_ BK259 hb
    have NB285_356 := nl_ hg BK285
    have NB356_285 := nm_ hg BK285
    replace BK285 := bb_ BK285 hb
    have NB296_356 := nl_ hg BK296
    have NB356_296 := nm_ hg BK296
    replace BK296 := bb_ BK296 hb
    have NB311_356 := nl_ hg BK311
    have NB356_311 := nm_ hg BK311
    replace BK311 := bb_ BK311 hb
    clear hb hbox hg
    refine hK.out _ _ ⟨bc_ BK258.out 0, bc_ BK258.out 1, bc_ BK258.out 2, bc_ BK258.out 3, bc_ BK258.out 4, bc_ BK258.out 5, bc_ BK259.out 0, bc_ BK259.out 1, bc_ BK259.out 2⟩ (fun hHeld => ?_)
    clear hK K
    refine norm_ nn_ ?_
    refine on_ 3 (some 83) (h := fun K hK => ?_)
    refine goes_ Try.func29 (by kernel_rfl) rfl #[.agg #[.int .i64 a1_0, .int .i64 a1_1, .int .i64 a1_2]] (by rfl) rfl rfl nc_ ?_
    with_reducible refine (laws_toLeaseStep.calls a1_0 a1_1 a1_2 t342 t343 t344 _ A110.out).mono ?_
    rintro e w124 ⟨rfl, hb⟩
    refine ⟨_, rfl, ?_⟩
    replace HO_286002 := rb_ HO_286002 hb
    replace HO_286005 := rb_ HO_286005 hb
    replace HO_297002 := rb_ HO_297002 hb
    replace HO_297005 := rb_ HO_297005 hb
    replace HO_312002 := rb_ HO_312002 hb
    replace HO_312005 := rb_ HO_312005 hb
    replace HO336 := rb_ HO336 hb
    replace HO341 := rb_ HO341 hb
    replace BK258 := bb_ BK258 hb
    replace BK259 := bb_ BK259 hb
    replace BK285 := bb_ BK285 hb
    replace BK296 := bb_ BK296 hb
    replace BK311 := bb_ BK311 hb
    replace BK356 := bb_ BK356 hb
    replace HB := Aside0.mk (below_step bl_ hb)
    clear hb
    obtain ⟨Ao125, co125, eo125⟩ := Kd.R_slice HO336.out
    (first | subst eo125 | (injection eo125 with f1_ f2_ f3_; have f4_ := f1_.symm; have f5_ := f3_.symm; clear f1_ f2_ f3_; subst f4_; subst f5_))
    obtain ⟨Ao126, co126, eo126⟩ := Kd.R_slice HO341.out
    (first | subst eo126 | (injection eo126 with f1_ f2_ f3_; have f4_ := f1_.symm; have f5_ := f3_.symm; clear f1_ f2_ f3_; subst f4_; subst f5_))
    refine hK.out _ _ ⟨bc_ BK258.out 0, bc_ BK258.out 1, bc_ BK258.out 2, bc_ BK258.out 3, bc_ BK258.out 4, bc_ BK258.out 5, bc_ BK259.out 0, bc_ BK259.out 1, bc_ BK259.out 2⟩ (fun hHeld => ?_)
    clear hK K
    refine norm_ nn_ ?_
    refine on_ 4 (some 84) (h := fun K hK => ?_)
    refine goes_ Try.func30 (by kernel_rfl) rfl #[.agg #[.int .i64 t332, .int .i64 t333, .slice Ao125 t334.length co125, .int .i64 t337, .int .i64 t338, .slice Ao126 t339.length co126], .agg #[.int .i64 t342, .int .i64 t343, .int .i64 t344]] (by rfl) rfl rfl nc_ ?_
    with_reducible refine (impl_StepLease.calls kj78 t332 t333 _ _ t334 t337 t338 _ _ t339 t342 t343 t344 t345 t346 t347 t350 t351 t352 t355 _ ?side1 ?side2 ?side3 ?side4 A111.out).mono ?_
    (case side1 => exact kc_ (Kd.R_reads' HO336.out).2.2)
    (case side2 => exact (Kd.R_reads' HO336.out).2.1)
    (case side3 => exact kc_ (Kd.R_reads' HO341.out).2.2)
    (case side4 => exact (Kd.R_reads' HO341.out).2.1)
    rintro e w127 ⟨v348, v353, rfl, ho0, ho1, hb⟩
    refine ⟨_, rfl, ?_⟩
    have HO349 := Aside0.mk (Kd.R_lower (rn_ (rn_ (rn_ (rn_ (rn_ (rn_ (rn_ (rn_ ho0 HO_286002.out) HO_286005.out) HO_297002.out) HO_297005.out) HO_312002.out) HO_312005.out) HO336.out) HO341.out) bz_)
    have HO354 := Aside0.mk (Kd.R_lower (rn_ (rn_ (rn_ (rn_ (rn_ (rn_ (rn_ (rn_ ho1 HO_286002.out) HO_286005.out) HO_297002.out) HO_297005.out) HO_312002.out) HO_312005.out) HO336.out) HO341.out) bz_)
    replace HO_286002 := rp2_ HO_286002 hb ho0 ho1
    replace HO_286005 := rp2_ HO_286005 hb ho0 ho1
    replace HO_297002 := rp2_ HO_297002 hb ho0 ho1
    replace HO_297005 := rp2_ HO_297005 hb ho0 ho1
    replace HO_312002 := rp2_ HO_312002 hb ho0 ho1
    replace HO_312005 := rp2_ HO_312005 hb ho0 ho1
    replace HO336 := rp2_ HO336 hb ho0 ho1
    replace HO341 := rp2_ HO341 hb ho0 ho1
    replace BK258 := bb_ BK258 hb
    replace BK259 := bb_ BK259 hb
    replace BK285 := bb_ BK285 hb
    replace BK296 := bb_ BK296 hb
    replace BK311 := bb_ BK311 hb
    replace BK356 := bb_ BK356 hb
    replace HB := Aside0.mk (below_step bl_ hb)
    clear hb ho0 ho1
    refine hK.out _ _ ⟨bc_ BK258.out 0, bc_ BK258.out 1, bc_ BK258.out 2, bc_ BK258.out 3, bc_ BK258.out 4, bc_ BK258.out 5, bc_ BK259.out 0, bc_ BK259.out 1, bc_ BK259.out 2⟩ (fun hHeld => ?_)
    clear hK K
    refine norm_ nn_ ?_
    refine pu_ 5 (some 79) (h := ?_)
    refine pu_ 6 (some 85) (h := ?_)
    refine pu_ 7 (some 86) (h := ?_)
    exact norm_ (by simp only [putAll, Act.put, List.setIfInBounds_toArray, List.set_cons_zero, List.set_cons_succ]) (hCont (.slice Ao125 t334.length co125, .slice Ao126 t339.length co126, v348, v353, gb356) _ ⟨hHeld, kp_ HO336.out, kp_ HO341.out, kp_ HO349.out, kp_ HO354.out, kp_ HO_286002.out, kp_ HO_286005.out, kp_ HO_297002.out, kp_ HO_297005.out, kp_ HO_312002.out, kp_ HO_312005.out, kb_ BK258.out, kb_ BK259.out, kb_ BK285.out, kb_ BK296.out, kb_ BK311.out, kb_ BK356.out, GW356.out, GE356.out, NB258_356.out, NB356_258.out, NB259_356.out, NB356_259.out, NB285_356.out, NB356_285.out, NB296_356.out, NB356_296.out, NB311_356.out, NB356_311.out, bl_⟩)
  ·skip
   refine box_step rfl (N := 14) rfl (cs := #[.int .i64 0, .int .i64 0, .slice none 0 0, .int .i64 0, .int .i64 0, .slice none 0 0]) (t := 24) gs_ ?_
   intro gb356 hg w122 hbox hb
   replace HO_286002 := rb_ HO_286002 hb
   replace HO_286005 := rb_ HO_286005 hb
   replace HO_297002 := rb_ HO_297002 hb
   replace HO_297005 := rb_ HO_297005 hb
   replace HO_312002 := rb_ HO_312002 hb
   replace HO_312005 := rb_ HO_312005 hb
   have BK356 := Aside0.mk (hbox)
   have GW356 := Aside0.mk ((by rw [hg]; exact bz_ : w.heap.size ≤ gb356))
   have GE356 := GW356
   replace HB := Aside0.mk (below_step bl_ hb)
   have NB258_356 := nl_ hg BK258
   have NB356_258 := nm_ hg BK258
   replace BK258 := bb_ BK258 hb
   have NB259_356 := nl_ hg BK259
   have NB356_259 := nm_ hg BK259
   replace BK259 := bb_ BK259 hb
   have NB285_356 := nl_ hg BK285
   have NB356_285 := nm_ hg BK285
   replace BK285 := bb_ BK285 hb
   have NB296_356 := nl_ hg BK296
   have NB356_296 := nm_ hg BK296
   replace BK296 := bb_ BK296 hb
   have NB311_356 := nl_ hg BK311
   have NB356_311 := nm_ hg BK311
   replace BK311 := bb_ BK311 hb
   clear hb hbox hg
   refine hK.out _ _ ⟨bc_ BK258.out 0, bc_ BK258.out 1, bc_ BK258.out 2, bc_ BK258.out 3, bc_ BK258.out 4, bc_ BK258.out 5, bc_ BK259.out 0, bc_ BK259.out 1, bc_ BK259.out 2⟩ (fun hHeld => ?_)
   clear hK K
   refine norm_ nn_ ?_
   refine on_ 1 (some 81) (h := fun K hK => ?_)
   refine goes_ Try.func19 (by kernel_rfl) rfl #[.agg #[.int .i64 a0_0, .int .i64 a0_1, .slice A0_2 l0_2.length c0_2, .int .i64 a0_3, .int .i64 a0_4, .slice A0_5 l0_5.length c0_5]] (by rfl) rfl rfl nc_ ?_
   with_reducible refine (laws_toLeases.calls kj78 a0_0 a0_1 _ _ l0_2 a0_3 a0_4 _ _ l0_5 t332 t333 t334 t337 t338 t339 _ ?side1 ?side2 ?side3 ?side4 A109.out).mono ?_
   (case side1 => exact kc_ (Kd.C_below HR0_2.out HB.out))
   (case side2 => exact HC0_2.out)
   (case side3 => exact kc_ (Kd.C_below HR0_5.out HB.out))
   (case side4 => exact HC0_5.out)
   rintro e w123 ⟨v335, v340, rfl, ho0, ho1, hb⟩
   refine ⟨_, rfl, ?_⟩
   have HO336 := Aside0.mk (Kd.R_lower (rn_ (rn_ (rn_ (rn_ (rn_ (rn_ ho0 HO_286002.out) HO_286005.out) HO_297002.out) HO_297005.out) HO_312002.out) HO_312005.out) bz_)
   have HO341 := Aside0.mk (Kd.R_lower (rn_ (rn_ (rn_ (rn_ (rn_ (rn_ ho1 HO_286002.out) HO_286005.out) HO_297002.out) HO_297005.out) HO_312002.out) HO_312005.out) bz_)
   replace HO_286002 := rp2_ HO_286002 hb ho0 ho1
   replace HO_286005 := rp2_ HO_286005 hb ho0 ho1
   replace HO_297002 := rp2_ HO_297002 hb ho0 ho1
   replace HO_297005 := rp2_ HO_297005 hb ho0 ho1
   replace HO_312002 := rp2_ HO_312002 hb ho0 ho1
   replace HO_312005 := rp2_ HO_312005 hb ho0 ho1
   replace BK258 := bb_ BK258 hb
   replace BK259 := bb_ BK259 hb
   replace BK285 := bb_ BK285 hb
   replace BK296 := bb_ BK296 hb
   replace BK311 := bb_ BK311 hb
   replace BK356 := bb_ BK356 hb
   replace HB := Aside0.mk (below_step bl_ hb)
   clear hb ho0 ho1
   refine hK.out _ _ ⟨bc_ BK258.out 0, bc_ BK258.out 1, bc_ BK258.out 2, bc_ BK258.out 3, bc_ BK258.out 4, bc_ BK258.out 5, bc_ BK259.out 0, bc_ BK259.out 1, bc_ BK259.out 2⟩ (fun hHeld => ?_)
   clear hK K
   refine norm_ nn_ ?_
   refine on_ 3 (some 83) (h := fun K hK => ?_)
   refine goes_ Try.func29 (by kernel_rfl) rfl #[.agg #[.int .i64 a1_0, .int .i64 a1_1, .int .i64 a1_2]] (by rfl) rfl rfl nc_ ?_
   with_reducible refine (laws_toLeaseStep.calls a1_0 a1_1 a1_2 t342 t343 t344 _ A110.out).mono ?_
   rintro e w124 ⟨rfl, hb⟩
   refine ⟨_, rfl, ?_⟩
   replace HO_286002 := rb_ HO_286002 hb
   replace HO_286005 := rb_ HO_286005 hb
   replace HO_297002 := rb_ HO_297002 hb
   replace HO_297005 := rb_ HO_297005 hb
   replace HO_312002 := rb_ HO_312002 hb
   replace HO_312005 := rb_ HO_312005 hb
   replace HO336 := rb_ HO336 hb
   replace HO341 := rb_ HO341 hb
   replace BK258 := bb_ BK258 hb
   replace BK259 := bb_ BK259 hb
   replace BK285 := bb_ BK285 hb
   replace BK296 := bb_ BK296 hb
   replace BK311 := bb_ BK311 hb
   replace BK356 := bb_ BK356 hb
   replace HB := Aside0.mk (below_step bl_ hb)
   clear hb
   obtain ⟨Ao125, co125, eo125⟩ := Kd.R_slice HO336.out
   (first | subst eo125 | (injection eo125 with f1_ f2_ f3_; have f4_ := f1_.symm; have f5_ := f3_.symm; clear f1_ f2_ f3_; subst f4_; subst f5_))
   obtain ⟨Ao126, co126, eo126⟩ := Kd.R_slice HO341.out
   (first | subst eo126 | (injection eo126 with f1_ f2_ f3_; have f4_ := f1_.symm; have f5_ := f3_.symm; clear f1_ f2_ f3_; subst f4_; subst f5_))
   refine hK.out _ _ ⟨bc_ BK258.out 0, bc_ BK258.out 1, bc_ BK258.out 2, bc_ BK258.out 3, bc_ BK258.out 4, bc_ BK258.out 5, bc_ BK259.out 0, bc_ BK259.out 1, bc_ BK259.out 2⟩ (fun hHeld => ?_)
   clear hK K
   refine norm_ nn_ ?_
   refine on_ 4 (some 84) (h := fun K hK => ?_)
   refine goes_ Try.func30 (by kernel_rfl) rfl #[.agg #[.int .i64 t332, .int .i64 t333, .slice Ao125 t334.length co125, .int .i64 t337, .int .i64 t338, .slice Ao126 t339.length co126], .agg #[.int .i64 t342, .int .i64 t343, .int .i64 t344]] (by rfl) rfl rfl nc_ ?_
   with_reducible refine (impl_StepLease.calls kj78 t332 t333 _ _ t334 t337 t338 _ _ t339 t342 t343 t344 t345 t346 t347 t350 t351 t352 t355 _ ?side1 ?side2 ?side3 ?side4 A111.out).mono ?_
   (case side1 => exact kc_ (Kd.R_reads' HO336.out).2.2)
   (case side2 => exact (Kd.R_reads' HO336.out).2.1)
   (case side3 => exact kc_ (Kd.R_reads' HO341.out).2.2)
   (case side4 => exact (Kd.R_reads' HO341.out).2.1)
   rintro e w127 ⟨v348, v353, rfl, ho0, ho1, hb⟩
   refine ⟨_, rfl, ?_⟩
   have HO349 := Aside0.mk (Kd.R_lower (rn_ (rn_ (rn_ (rn_ (rn_ (rn_ (rn_ (rn_ ho0 HO_286002.out) HO_286005.out) HO_297002.out) HO_297005.out) HO_312002.out) HO_312005.out) HO336.out) HO341.out) bz_)
   have HO354 := Aside0.mk (Kd.R_lower (rn_ (rn_ (rn_ (rn_ (rn_ (rn_ (rn_ (rn_ ho1 HO_286002.out) HO_286005.out) HO_297002.out) HO_297005.out) HO_312002.out) HO_312005.out) HO336.out) HO341.out) bz_)
   replace HO_286002 := rp2_ HO_286002 hb ho0 ho1
   replace HO_286005 := rp2_ HO_286005 hb ho0 ho1
   replace HO_297002 := rp2_ HO_297002 hb ho0 ho1
   replace HO_297005 := rp2_ HO_297005 hb ho0 ho1
   replace HO_312002 := rp2_ HO_312002 hb ho0 ho1
   replace HO_312005 := rp2_ HO_312005 hb ho0 ho1
   replace HO336 := rp2_ HO336 hb ho0 ho1
   replace HO341 := rp2_ HO341 hb ho0 ho1
   replace BK258 := bb_ BK258 hb
   replace BK259 := bb_ BK259 hb
   replace BK285 := bb_ BK285 hb
   replace BK296 := bb_ BK296 hb
   replace BK311 := bb_ BK311 hb
   replace BK356 := bb_ BK356 hb
   replace HB := Aside0.mk (below_step bl_ hb)
   clear hb ho0 ho1
   refine hK.out _ _ ⟨bc_ BK258.out 0, bc_ BK258.out 1, bc_ BK258.out 2, bc_ BK258.out 3, bc_ BK258.out 4, bc_ BK258.out 5, bc_ BK259.out 0, bc_ BK259.out 1, bc_ BK259.out 2⟩ (fun hHeld => ?_)
   clear hK K
   refine norm_ nn_ ?_
   refine pu_ 5 (some 79) (h := ?_)
   refine pu_ 6 (some 85) (h := ?_)
   refine pu_ 7 (some 86) (h := ?_)
   exact norm_ (by simp only [putAll, Act.put, List.setIfInBounds_toArray, List.set_cons_zero, List.set_cons_succ]) (hCont (.slice Ao125 t334.length co125, .slice Ao126 t339.length co126, v348, v353, gb356) _ ⟨hHeld, kp_ HO336.out, kp_ HO341.out, kp_ HO349.out, kp_ HO354.out, kp_ HO_286002.out, kp_ HO_286005.out, kp_ HO_297002.out, kp_ HO_297005.out, kp_ HO_312002.out, kp_ HO_312005.out, kb_ BK258.out, kb_ BK259.out, kb_ BK285.out, kb_ BK296.out, kb_ BK311.out, kb_ BK356.out, GW356.out, GE356.out, NB258_356.out, NB356_258.out, NB259_356.out, NB356_259.out, NB285_356.out, NB356_285.out, NB296_356.out, NB356_296.out, NB311_356.out, NB356_311.out, bl_⟩)
 rintro ⟨v335, v340, v348, v353, gb356⟩ w128 ⟨hS_, h0_, h1_, h2_, h3_, h4_, h5_, h6_, h7_, h8_, h9_, h10_, h11_, h12_, h13_, h14_, h15_, h16_, h17_, h18_, h19_, h20_, h21_, h22_, h23_, h24_, h25_, h26_, h27_, h28_⟩
 dsimp only at h0_ h1_ h2_ h3_ h4_ h5_ h6_ h7_ h8_ h9_ h10_ h11_ h12_ h13_ h14_ h15_ h16_ h17_ h18_ h19_ h20_ h21_ h22_ h23_ h24_ h25_ h26_ h27_ h28_
 have HO336 := Aside0.mk h0_
 have HO341 := Aside0.mk h1_
 have HO349 := Aside0.mk h2_
 have HO354 := Aside0.mk h3_
 replace HO_286002 := Aside0.mk h4_
 replace HO_286005 := Aside0.mk h5_
 replace HO_297002 := Aside0.mk h6_
 replace HO_297005 := Aside0.mk h7_
 replace HO_312002 := Aside0.mk h8_
 replace HO_312005 := Aside0.mk h9_
 replace BK258 := Aside0.mk h10_
 replace BK259 := Aside0.mk h11_
 replace BK285 := Aside0.mk h12_
 replace BK296 := Aside0.mk h13_
 replace BK311 := Aside0.mk h14_
 have BK356 := Aside0.mk h15_
 have GW356 := Aside0.mk h16_
 have GE356 := Aside0.mk h17_
 have NB258_356 := Aside0.mk h18_
 have NB356_258 := Aside0.mk h19_
 have NB259_356 := Aside0.mk h20_
 have NB356_259 := Aside0.mk h21_
 have NB285_356 := Aside0.mk h22_
 have NB356_285 := Aside0.mk h23_
 have NB296_356 := Aside0.mk h24_
 have NB356_296 := Aside0.mk h25_
 have NB311_356 := Aside0.mk h26_
 have NB356_311 := Aside0.mk h27_
 replace HB := Aside0.mk h28_
 clear h0_ h1_ h2_ h3_ h4_ h5_ h6_ h7_ h8_ h9_ h10_ h11_ h12_ h13_ h14_ h15_ h16_ h17_ h18_ h19_ h20_ h21_ h22_ h23_ h24_ h25_ h26_ h27_ h28_
 try dsimp only at hS_
 have hHeld := hS_
 obtain ⟨Ao131, co131, eo131⟩ := Kd.R_slice HO349.out
 (first | subst eo131 | (injection eo131 with f1_ f2_ f3_; have f4_ := f1_.symm; have f5_ := f3_.symm; clear f1_ f2_ f3_; subst f4_; subst f5_))
 obtain ⟨Ao135, co135, eo135⟩ := Kd.R_slice HO354.out
 (first | subst eo135 | (injection eo135 with f1_ f2_ f3_; have f4_ := f1_.symm; have f5_ := f3_.symm; clear f1_ f2_ f3_; subst f4_; subst f5_))
 refine norm_ np_ ?_
 refine on_ 9 none (h := fun K hK => ?_)
 have hs129 : w128.cell? ⟨gb356, 0, none⟩ = some (.int .i64 0) := bc_ BK356.out 0
 have hfs129 := blk_frozen BK356.out 0
 have hns129_0 := NB258_356.out
 have hns129_1 := NB259_356.out
 have hns129_2 := NB285_356.out
 have hns129_3 := NB296_356.out
 have hns129_4 := NB311_356.out
 have hms129_0 := NB356_258.out
 have hms129_1 := NB356_259.out
 have hms129_2 := NB356_285.out
 have hms129_3 := NB356_296.out
 have hms129_4 := NB356_311.out
 have hs130 : w128.cell? ⟨gb356, 1, none⟩ = some (.int .i64 0) := bc_ BK356.out 1
 have hfs130 := blk_frozen BK356.out 1
 have hns130_0 := NB258_356.out
 have hns130_1 := NB259_356.out
 have hns130_2 := NB285_356.out
 have hns130_3 := NB296_356.out
 have hns130_4 := NB311_356.out
 have hms130_0 := NB356_258.out
 have hms130_1 := NB356_259.out
 have hms130_2 := NB356_285.out
 have hms130_3 := NB356_296.out
 have hms130_4 := NB356_311.out
 have hs132 : w128.cell? ⟨gb356, 2, none⟩ = some (.slice none 0 0) := bc_ BK356.out 2
 have hfs132 := blk_frozen BK356.out 2
 have hns132_0 := NB258_356.out
 have hns132_1 := NB259_356.out
 have hns132_2 := NB285_356.out
 have hns132_3 := NB296_356.out
 have hns132_4 := NB311_356.out
 have hms132_0 := NB356_258.out
 have hms132_1 := NB356_259.out
 have hms132_2 := NB356_285.out
 have hms132_3 := NB356_296.out
 have hms132_4 := NB356_311.out
 have hs133 : w128.cell? ⟨gb356, 3, none⟩ = some (.int .i64 0) := bc_ BK356.out 3
 have hfs133 := blk_frozen BK356.out 3
 have hns133_0 := NB258_356.out
 have hns133_1 := NB259_356.out
 have hns133_2 := NB285_356.out
 have hns133_3 := NB296_356.out
 have hns133_4 := NB311_356.out
 have hms133_0 := NB356_258.out
 have hms133_1 := NB356_259.out
 have hms133_2 := NB356_285.out
 have hms133_3 := NB356_296.out
 have hms133_4 := NB356_311.out
 have hs134 : w128.cell? ⟨gb356, 4, none⟩ = some (.int .i64 0) := bc_ BK356.out 4
 have hfs134 := blk_frozen BK356.out 4
 have hns134_0 := NB258_356.out
 have hns134_1 := NB259_356.out
 have hns134_2 := NB285_356.out
 have hns134_3 := NB296_356.out
 have hns134_4 := NB311_356.out
 have hms134_0 := NB356_258.out
 have hms134_1 := NB356_259.out
 have hms134_2 := NB356_285.out
 have hms134_3 := NB356_296.out
 have hms134_4 := NB356_311.out
 have hs136 : w128.cell? ⟨gb356, 5, none⟩ = some (.slice none 0 0) := bc_ BK356.out 5
 have hfs136 := blk_frozen BK356.out 5
 have hns136_0 := NB258_356.out
 have hns136_1 := NB259_356.out
 have hns136_2 := NB285_356.out
 have hns136_3 := NB296_356.out
 have hns136_4 := NB311_356.out
 have hms136_0 := NB356_258.out
 have hms136_1 := NB356_259.out
 have hms136_2 := NB356_285.out
 have hms136_3 := NB356_296.out
 have hms136_4 := NB356_311.out
 refine skip_ (w1 := ?_) (by rfl) rfl ?_ ?_
 rotate_left
 ·go_simp
  rfl
 refine hK.out _ _ ⟨((cell_far (p := ⟨gb356, _, none⟩) NB258_356.out _).trans (((cell_far (p := ⟨gb356, _, none⟩) NB258_356.out _).trans (((cell_far (p := ⟨gb356, _, none⟩) NB258_356.out _).trans (((cell_far (p := ⟨gb356, _, none⟩) NB258_356.out _).trans (((cell_far (p := ⟨gb356, _, none⟩) NB258_356.out _).trans (((cell_far (p := ⟨gb356, _, none⟩) NB258_356.out _).trans (hHeld.1)))))))))))), ((cell_far (p := ⟨gb356, _, none⟩) NB258_356.out _).trans (((cell_far (p := ⟨gb356, _, none⟩) NB258_356.out _).trans (((cell_far (p := ⟨gb356, _, none⟩) NB258_356.out _).trans (((cell_far (p := ⟨gb356, _, none⟩) NB258_356.out _).trans (((cell_far (p := ⟨gb356, _, none⟩) NB258_356.out _).trans (((cell_far (p := ⟨gb356, _, none⟩) NB258_356.out _).trans (hHeld.2.1)))))))))))), ((cell_far (p := ⟨gb356, _, none⟩) NB258_356.out _).trans (((cell_far (p := ⟨gb356, _, none⟩) NB258_356.out _).trans (((cell_far (p := ⟨gb356, _, none⟩) NB258_356.out _).trans (((cell_far (p := ⟨gb356, _, none⟩) NB258_356.out _).trans (((cell_far (p := ⟨gb356, _, none⟩) NB258_356.out _).trans (((cell_far (p := ⟨gb356, _, none⟩) NB258_356.out _).trans (hHeld.2.2.1)))))))))))), ((cell_far (p := ⟨gb356, _, none⟩) NB258_356.out _).trans (((cell_far (p := ⟨gb356, _, none⟩) NB258_356.out _).trans (((cell_far (p := ⟨gb356, _, none⟩) NB258_356.out _).trans (((cell_far (p := ⟨gb356, _, none⟩) NB258_356.out _).trans (((cell_far (p := ⟨gb356, _, none⟩) NB258_356.out _).trans (((cell_far (p := ⟨gb356, _, none⟩) NB258_356.out _).trans (hHeld.2.2.2.1)))))))))))), ((cell_far (p := ⟨gb356, _, none⟩) NB258_356.out _).trans (((cell_far (p := ⟨gb356, _, none⟩) NB258_356.out _).trans (((cell_far (p := ⟨gb356, _, none⟩) NB258_356.out _).trans (((cell_far (p := ⟨gb356, _, none⟩) NB258_356.out _).trans (((cell_far (p := ⟨gb356, _, none⟩) NB258_356.out _).trans (((cell_far (p := ⟨gb356, _, none⟩) NB258_356.out _).trans (hHeld.2.2.2.2.1)))))))))))), ((cell_far (p := ⟨gb356, _, none⟩) NB258_356.out _).trans (((cell_far (p := ⟨gb356, _, none⟩) NB258_356.out _).trans (((cell_far (p := ⟨gb356, _, none⟩) NB258_356.out _).trans (((cell_far (p := ⟨gb356, _, none⟩) NB258_356.out _).trans (((cell_far (p := ⟨gb356, _, none⟩) NB258_356.out _).trans (((cell_far (p := ⟨gb356, _, none⟩) NB258_356.out _).trans (hHeld.2.2.2.2.2.1)))))))))))), ((cell_far (p := ⟨gb356, _, none⟩) NB259_356.out _).trans (((cell_far (p := ⟨gb356, _, none⟩) NB259_356.out _).trans (((cell_far (p := ⟨gb356, _, none⟩) NB259_356.out _).trans (((cell_far (p := ⟨gb356, _, none⟩) NB259_356.out _).trans (((cell_far (p := ⟨gb356, _, none⟩) NB259_356.out _).trans (((cell_far (p := ⟨gb356, _, none⟩) NB259_356.out _).trans (hHeld.2.2.2.2.2.2.1)))))))))))), ((cell_far (p := ⟨gb356, _, none⟩) NB259_356.out _).trans (((cell_far (p := ⟨gb356, _, none⟩) NB259_356.out _).trans (((cell_far (p := ⟨gb356, _, none⟩) NB259_356.out _).trans (((cell_far (p := ⟨gb356, _, none⟩) NB259_356.out _).trans (((cell_far (p := ⟨gb356, _, none⟩) NB259_356.out _).trans (((cell_far (p := ⟨gb356, _, none⟩) NB259_356.out _).trans (hHeld.2.2.2.2.2.2.2.1)))))))))))), ((cell_far (p := ⟨gb356, _, none⟩) NB259_356.out _).trans (((cell_far (p := ⟨gb356, _, none⟩) NB259_356.out _).trans (((cell_far (p := ⟨gb356, _, none⟩) NB259_356.out _).trans (((cell_far (p := ⟨gb356, _, none⟩) NB259_356.out _).trans (((cell_far (p := ⟨gb356, _, none⟩) NB259_356.out _).trans (((cell_far (p := ⟨gb356, _, none⟩) NB259_356.out _).trans (hHeld.2.2.2.2.2.2.2.2))))))))))))⟩ (fun hHeld => ?_)
 clear hK K
 refine pu_ 10 (some 15) (h := ?_)
 refine done_ (done_of HT_.out (by kernel_rfl)) ?_
 go_upto_region 25 with (fail)
 go_cut [95] (fun v95 wc => ∃ (kq : Nat) (x95_111 : Bool), v95 = .bool x95_111 ∧ Aside0 (laws_FnExactStepLease.j2 kq t328 x95_111 t300 t301 t329 t305 t306 t330 = some r) ∧ Aside0 (kq ≤ kj78) ∧ Aside0 (Kd.R (Kd.int .i64) 3 wc w.heap.size (fun k_ => some k_ ≠ ((.slice Ao36 t281.length co36) : Value).ownBlock ∧ some k_ ≠ ((.slice Ao46 t325.length co46) : Value).ownBlock ∧ some k_ ≠ ((.slice Ao47 t326.length co47) : Value).ownBlock ∧ some k_ ≠ ((.slice Ao56 t302.length co56) : Value).ownBlock ∧ some k_ ≠ ((.slice Ao60 t307.length co60) : Value).ownBlock ∧ some k_ ≠ ((.slice Ao131 t347.length co131) : Value).ownBlock ∧ some k_ ≠ ((.slice Ao135 t352.length co135) : Value).ownBlock) (.slice Ao32 t276.length co32) t276) ∧ Aside0 (Kd.R (Kd.int .i64) 3 wc w.heap.size (fun k_ => some k_ ≠ ((.slice Ao32 t276.length co32) : Value).ownBlock ∧ some k_ ≠ ((.slice Ao46 t325.length co46) : Value).ownBlock ∧ some k_ ≠ ((.slice Ao47 t326.length co47) : Value).ownBlock ∧ some k_ ≠ ((.slice Ao56 t302.length co56) : Value).ownBlock ∧ some k_ ≠ ((.slice Ao60 t307.length co60) : Value).ownBlock ∧ some k_ ≠ ((.slice Ao131 t347.length co131) : Value).ownBlock ∧ some k_ ≠ ((.slice Ao135 t352.length co135) : Value).ownBlock) (.slice Ao36 t281.length co36) t281) ∧ Aside0 (Kd.R (Kd.int .i64) 3 wc w.heap.size (fun k_ => some k_ ≠ ((.slice Ao32 t276.length co32) : Value).ownBlock ∧ some k_ ≠ ((.slice Ao36 t281.length co36) : Value).ownBlock ∧ some k_ ≠ ((.slice Ao47 t326.length co47) : Value).ownBlock ∧ some k_ ≠ ((.slice Ao56 t302.length co56) : Value).ownBlock ∧ some k_ ≠ ((.slice Ao60 t307.length co60) : Value).ownBlock ∧ some k_ ≠ ((.slice Ao131 t347.length co131) : Value).ownBlock ∧ some k_ ≠ ((.slice Ao135 t352.length co135) : Value).ownBlock) (.slice Ao46 t325.length co46) t325) ∧ Aside0 (Kd.R (Kd.int .i64) 3 wc w.heap.size (fun k_ => some k_ ≠ ((.slice Ao32 t276.length co32) : Value).ownBlock ∧ some k_ ≠ ((.slice Ao36 t281.length co36) : Value).ownBlock ∧ some k_ ≠ ((.slice Ao46 t325.length co46) : Value).ownBlock ∧ some k_ ≠ ((.slice Ao56 t302.length co56) : Value).ownBlock ∧ some k_ ≠ ((.slice Ao60 t307.length co60) : Value).ownBlock ∧ some k_ ≠ ((.slice Ao131 t347.length co131) : Value).ownBlock ∧ some k_ ≠ ((.slice Ao135 t352.length co135) : Value).ownBlock) (.slice Ao47 t326.length co47) t326) ∧ Aside0 (Kd.R (Kd.int .i64) 3 wc w.heap.size (fun k_ => some k_ ≠ ((.slice Ao32 t276.length co32) : Value).ownBlock ∧ some k_ ≠ ((.slice Ao36 t281.length co36) : Value).ownBlock ∧ some k_ ≠ ((.slice Ao46 t325.length co46) : Value).ownBlock ∧ some k_ ≠ ((.slice Ao47 t326.length co47) : Value).ownBlock ∧ some k_ ≠ ((.slice Ao60 t307.length co60) : Value).ownBlock ∧ some k_ ≠ ((.slice Ao131 t347.length co131) : Value).ownBlock ∧ some k_ ≠ ((.slice Ao135 t352.length co135) : Value).ownBlock) (.slice Ao56 t302.length co56) t329) ∧ Aside0 (Kd.R (Kd.int .i64) 3 wc w.heap.size (fun k_ => some k_ ≠ ((.slice Ao32 t276.length co32) : Value).ownBlock ∧ some k_ ≠ ((.slice Ao36 t281.length co36) : Value).ownBlock ∧ some k_ ≠ ((.slice Ao46 t325.length co46) : Value).ownBlock ∧ some k_ ≠ ((.slice Ao47 t326.length co47) : Value).ownBlock ∧ some k_ ≠ ((.slice Ao56 t302.length co56) : Value).ownBlock ∧ some k_ ≠ ((.slice Ao131 t347.length co131) : Value).ownBlock ∧ some k_ ≠ ((.slice Ao135 t352.length co135) : Value).ownBlock) (.slice Ao60 t307.length co60) t330) ∧ Aside0 (Kd.R (Kd.int .i64) 3 wc w.heap.size (fun k_ => some k_ ≠ ((.slice Ao32 t276.length co32) : Value).ownBlock ∧ some k_ ≠ ((.slice Ao36 t281.length co36) : Value).ownBlock ∧ some k_ ≠ ((.slice Ao46 t325.length co46) : Value).ownBlock ∧ some k_ ≠ ((.slice Ao47 t326.length co47) : Value).ownBlock ∧ some k_ ≠ ((.slice Ao56 t302.length co56) : Value).ownBlock ∧ some k_ ≠ ((.slice Ao60 t307.length co60) : Value).ownBlock ∧ some k_ ≠ ((.slice Ao135 t352.length co135) : Value).ownBlock) (.slice Ao131 t347.length co131) t347) ∧ Aside0 (Kd.R (Kd.int .i64) 3 wc w.heap.size (fun k_ => some k_ ≠ ((.slice Ao32 t276.length co32) : Value).ownBlock ∧ some k_ ≠ ((.slice Ao36 t281.length co36) : Value).ownBlock ∧ some k_ ≠ ((.slice Ao46 t325.length co46) : Value).ownBlock ∧ some k_ ≠ ((.slice Ao47 t326.length co47) : Value).ownBlock ∧ some k_ ≠ ((.slice Ao56 t302.length co56) : Value).ownBlock ∧ some k_ ≠ ((.slice Ao60 t307.length co60) : Value).ownBlock ∧ some k_ ≠ ((.slice Ao131 t347.length co131) : Value).ownBlock) (.slice Ao135 t352.length co135) t352) ∧ Aside0 (wc.heap[gb258]? = some (.cells #[.int .i64 a0_0, .int .i64 a0_1, (.slice A0_2 l0_2.length c0_2), .int .i64 a0_3, .int .i64 a0_4, (.slice A0_5 l0_5.length c0_5)] 30 (0, 0))) ∧ Aside0 (wc.heap[gb259]? = some (.cells #[.int .i64 a1_0, .int .i64 a1_1, .int .i64 a1_2] 43 (0, 0))) ∧ Aside0 (wc.heap[gb285]? = some (.cells #[.int .i64 t274, .int .i64 t275, (.slice Ao32 t276.length co32), .int .i64 t279, .int .i64 t280, (.slice Ao36 t281.length co36)] 24 (0, 0))) ∧ Aside0 (wc.heap[gb296]? = some (.cells #[.int .i64 t286, .int .i64 t287, (.slice Ao46 t325.length co46), .int .i64 t291, .int .i64 t292, (.slice Ao47 t326.length co47)] 24 (0, 0))) ∧ Aside0 (wc.heap[gb311]? = some (.cells #[.int .i64 t300, .int .i64 t301, (.slice Ao56 t302.length co56), .int .i64 t305, .int .i64 t306, (.slice Ao60 t307.length co60)] 24 (0, 0))) ∧ Aside0 (wc.heap[gb356]? = some (.cells #[.int .i64 t345, .int .i64 t346, (.slice Ao131 t347.length co131), .int .i64 t350, .int .i64 t351, (.slice Ao135 t352.length co135)] 24 (0, 0))) ∧ Aside0 (Below w.heap.size w wc))
 case first =>
  have H := HC112.out
  clear HC112
  replace H := Option.bind_eq_some_iff.mp H
  obtain ⟨t357, A1370, H⟩ := H
  replace H : (if t357 = true then (laws_FnExactStepLease.j2 kj78 t328 (t355 != t284) t300 t301 t329 t305 t306 t330) else (none)) = some r := H
  have A137 := Aside0.mk A1370
  clear A1370
  by_cases c138 : t357 = true
  rotate_left
  ·replace c138 := Bool.eq_false_iff.mpr c138
   subst c138
   have H1 : (none) = some r := by rw [if_neg (show ¬ (false = true) by decide)] at H; exact H
   clear H
   have H := H1
   clear H1
   exact absurd H (by simp)
  subst c138
  have H1 : (laws_FnExactStepLease.j2 kj78 t328 (t355 != t284) t300 t301 t329 t305 t306 t330) = some r := by rw [if_pos rfl] at H; exact H
  clear H
  have H := H1
  clear H1
  have H' := Aside0.mk H
  clear H
  have hnb139 := NB356_258.out
  have hnc139 := NB258_356.out
  have hnb140 := NB356_259.out
  have hnc140 := NB259_356.out
  have hnb141 := NB356_285.out
  have hnc141 := NB285_356.out
  have hnb142 := NB356_296.out
  have hnc142 := NB296_356.out
  have hnb143 := NB356_311.out
  have hnc143 := NB311_356.out
  have hcz144_0 : w128.cell? ⟨gb356, 0, none⟩ = some (.int .i64 0) := bc_ BK356.out 0
  have hcz144_1 : w128.cell? ⟨gb356, 1, none⟩ = some (.int .i64 0) := bc_ BK356.out 1
  have hcz144_2 : w128.cell? ⟨gb356, 2, none⟩ = some (.slice none 0 0) := bc_ BK356.out 2
  have hcz144_3 : w128.cell? ⟨gb356, 3, none⟩ = some (.int .i64 0) := bc_ BK356.out 3
  have hcz144_4 : w128.cell? ⟨gb356, 4, none⟩ = some (.int .i64 0) := bc_ BK356.out 4
  have hcz144_5 : w128.cell? ⟨gb356, 5, none⟩ = some (.slice none 0 0) := bc_ BK356.out 5
  have hfz144_0 := blk_frozen BK356.out 0
  have hfz144_1 := blk_frozen BK356.out 1
  have hfz144_2 := blk_frozen BK356.out 2
  have hfz144_3 := blk_frozen BK356.out 3
  have hfz144_4 := blk_frozen BK356.out 4
  have hfz144_5 := blk_frozen BK356.out 5
  have hnb145 := NB285_258.out
  have hnc145 := NB258_285.out
  have hnb146 := NB285_259.out
  have hnc146 := NB259_285.out
  have hnb147 := NB285_296.out
  have hnc147 := NB296_285.out
  have hnb148 := NB285_311.out
  have hnc148 := NB311_285.out
  have hcz149_0 : w128.cell? ⟨gb285, 0, none⟩ = some (.int .i64 t274) := bc_ BK285.out 0
  have hcz149_1 : w128.cell? ⟨gb285, 1, none⟩ = some (.int .i64 t275) := bc_ BK285.out 1
  have hcz149_2 : w128.cell? ⟨gb285, 2, none⟩ = some (.slice Ao32 t276.length co32) := bc_ BK285.out 2
  have hcz149_3 : w128.cell? ⟨gb285, 3, none⟩ = some (.int .i64 t279) := bc_ BK285.out 3
  have hcz149_4 : w128.cell? ⟨gb285, 4, none⟩ = some (.int .i64 t280) := bc_ BK285.out 4
  have hcz149_5 : w128.cell? ⟨gb285, 5, none⟩ = some (.slice Ao36 t281.length co36) := bc_ BK285.out 5
  have hfz149_0 := blk_frozen BK285.out 0
  have hfz149_1 := blk_frozen BK285.out 1
  have hfz149_2 := blk_frozen BK285.out 2
  have hfz149_3 := blk_frozen BK285.out 3
  have hfz149_4 := blk_frozen BK285.out 4
  have hfz149_5 := blk_frozen BK285.out 5
  go_wp2_with (first | ((with_reducible refine gate_callee (f := 14) rfl ?_); refine goesL_ (some 89) rfl rfl Try.func14 (by kernel_rfl) rfl #[.agg #[.int .i64 t345, .int .i64 t346, .slice Ao131 t347.length co131, .int .i64 t350, .int .i64 t351, .slice Ao135 t352.length co135], .agg #[.int .i64 t274, .int .i64 t275, .slice Ao32 t276.length co32, .int .i64 t279, .int .i64 t280, .slice Ao36 t281.length co36]] rfl nc_ ?_; (with_reducible refine (laws_eqLeases.calls kj78 t345 t346 _ _ t347 t350 t351 _ _ t352 t274 t275 _ _ t276 t279 t280 _ _ t281 true _ ?side1 ?side2 ?side3 ?side4 ?side5 ?side6 ?side7 ?side8 A137.out).mono ?_); (case side1 => refine (Kd.R_reads' (e := 3) (base := w.heap.size) (ok := fun k_ => (some k_ ≠ (v335 : Value).ownBlock ∧ (some k_ ≠ (v340 : Value).ownBlock ∧ (some k_ ≠ (.slice Ao135 t352.length co135 : Value).ownBlock ∧ (some k_ ≠ (.slice Ao32 t276.length co32 : Value).ownBlock ∧ (some k_ ≠ (.slice Ao36 t281.length co36 : Value).ownBlock ∧ (some k_ ≠ (.slice Ao46 t325.length co46 : Value).ownBlock ∧ (some k_ ≠ (.slice Ao47 t326.length co47 : Value).ownBlock ∧ (some k_ ≠ (.slice Ao56 t302.length co56 : Value).ownBlock ∧ some k_ ≠ (.slice Ao60 t307.length co60 : Value).ownBlock))))))))) (n := t347.length) (c := co131) ?_).2.2; exact (by exact kr_ ((Kd.R_mono (Kd.R_far (p := ⟨gb356, 5, none⟩) (Kd.R_far (p := ⟨gb356, 4, none⟩) (Kd.R_far (p := ⟨gb356, 3, none⟩) (Kd.R_far (p := ⟨gb356, 2, none⟩) (Kd.R_far (p := ⟨gb356, 1, none⟩) (Kd.R_far (p := ⟨gb356, 0, none⟩) (Kd.R_types HO349.out BK356.out (by decide)) (fun _ hk => hk.2) (.int .i64 t345)) (fun _ hk => hk.2) (.int .i64 t346)) (fun _ hk => hk.2) (.slice Ao131 t347.length co131)) (fun _ hk => hk.2) (.int .i64 t350)) (fun _ hk => hk.2) (.int .i64 t351)) (fun _ hk => hk.2) (.slice Ao135 t352.length co135)) (fun _ h_ => h_.1))))); (case side2 => exact (Kd.R_reads' HO349.out).2.1); (case side3 => refine (Kd.R_reads' (e := 3) (base := w.heap.size) (ok := fun k_ => (some k_ ≠ (v335 : Value).ownBlock ∧ (some k_ ≠ (v340 : Value).ownBlock ∧ (some k_ ≠ (.slice Ao131 t347.length co131 : Value).ownBlock ∧ (some k_ ≠ (.slice Ao32 t276.length co32 : Value).ownBlock ∧ (some k_ ≠ (.slice Ao36 t281.length co36 : Value).ownBlock ∧ (some k_ ≠ (.slice Ao46 t325.length co46 : Value).ownBlock ∧ (some k_ ≠ (.slice Ao47 t326.length co47 : Value).ownBlock ∧ (some k_ ≠ (.slice Ao56 t302.length co56 : Value).ownBlock ∧ some k_ ≠ (.slice Ao60 t307.length co60 : Value).ownBlock))))))))) (n := t352.length) (c := co135) ?_).2.2; exact (by exact kr_ ((Kd.R_mono (Kd.R_far (p := ⟨gb356, 5, none⟩) (Kd.R_far (p := ⟨gb356, 4, none⟩) (Kd.R_far (p := ⟨gb356, 3, none⟩) (Kd.R_far (p := ⟨gb356, 2, none⟩) (Kd.R_far (p := ⟨gb356, 1, none⟩) (Kd.R_far (p := ⟨gb356, 0, none⟩) (Kd.R_types HO354.out BK356.out (by decide)) (fun _ hk => hk.2) (.int .i64 t345)) (fun _ hk => hk.2) (.int .i64 t346)) (fun _ hk => hk.2) (.slice Ao131 t347.length co131)) (fun _ hk => hk.2) (.int .i64 t350)) (fun _ hk => hk.2) (.int .i64 t351)) (fun _ hk => hk.2) (.slice Ao135 t352.length co135)) (fun _ h_ => h_.1))))); (case side4 => exact (Kd.R_reads' HO354.out).2.1); (case side5 => refine (Kd.R_reads' (e := 3) (base := w.heap.size) (ok := fun k_ => (some k_ ≠ (v335 : Value).ownBlock ∧ (some k_ ≠ (v340 : Value).ownBlock ∧ (some k_ ≠ (.slice Ao131 t347.length co131 : Value).ownBlock ∧ (some k_ ≠ (.slice Ao135 t352.length co135 : Value).ownBlock ∧ (some k_ ≠ (.slice Ao36 t281.length co36 : Value).ownBlock ∧ (some k_ ≠ (.slice Ao46 t325.length co46 : Value).ownBlock ∧ (some k_ ≠ (.slice Ao47 t326.length co47 : Value).ownBlock ∧ (some k_ ≠ (.slice Ao56 t302.length co56 : Value).ownBlock ∧ some k_ ≠ (.slice Ao60 t307.length co60 : Value).ownBlock))))))))) (n := t276.length) (c := co32) ?_).2.2; exact (by exact kr_ ((Kd.R_mono (Kd.R_far (p := ⟨gb356, 5, none⟩) (Kd.R_far (p := ⟨gb356, 4, none⟩) (Kd.R_far (p := ⟨gb356, 3, none⟩) (Kd.R_far (p := ⟨gb356, 2, none⟩) (Kd.R_far (p := ⟨gb356, 1, none⟩) (Kd.R_far (p := ⟨gb356, 0, none⟩) (Kd.R_types HO_286002.out BK356.out (by decide)) (fun _ hk => hk.2) (.int .i64 t345)) (fun _ hk => hk.2) (.int .i64 t346)) (fun _ hk => hk.2) (.slice Ao131 t347.length co131)) (fun _ hk => hk.2) (.int .i64 t350)) (fun _ hk => hk.2) (.int .i64 t351)) (fun _ hk => hk.2) (.slice Ao135 t352.length co135)) (fun _ h_ => h_.1))))); (case side6 => exact (Kd.R_reads' HO_286002.out).2.1); (case side7 => refine (Kd.R_reads' (e := 3) (base := w.heap.size) (ok := fun k_ => (some k_ ≠ (v335 : Value).ownBlock ∧ (some k_ ≠ (v340 : Value).ownBlock ∧ (some k_ ≠ (.slice Ao131 t347.length co131 : Value).ownBlock ∧ (some k_ ≠ (.slice Ao135 t352.length co135 : Value).ownBlock ∧ (some k_ ≠ (.slice Ao32 t276.length co32 : Value).ownBlock ∧ (some k_ ≠ (.slice Ao46 t325.length co46 : Value).ownBlock ∧ (some k_ ≠ (.slice Ao47 t326.length co47 : Value).ownBlock ∧ (some k_ ≠ (.slice Ao56 t302.length co56 : Value).ownBlock ∧ some k_ ≠ (.slice Ao60 t307.length co60 : Value).ownBlock))))))))) (n := t281.length) (c := co36) ?_).2.2; exact (by exact kr_ ((Kd.R_mono (Kd.R_far (p := ⟨gb356, 5, none⟩) (Kd.R_far (p := ⟨gb356, 4, none⟩) (Kd.R_far (p := ⟨gb356, 3, none⟩) (Kd.R_far (p := ⟨gb356, 2, none⟩) (Kd.R_far (p := ⟨gb356, 1, none⟩) (Kd.R_far (p := ⟨gb356, 0, none⟩) (Kd.R_types HO_286005.out BK356.out (by decide)) (fun _ hk => hk.2) (.int .i64 t345)) (fun _ hk => hk.2) (.int .i64 t346)) (fun _ hk => hk.2) (.slice Ao131 t347.length co131)) (fun _ hk => hk.2) (.int .i64 t350)) (fun _ hk => hk.2) (.int .i64 t351)) (fun _ hk => hk.2) (.slice Ao135 t352.length co135)) (fun _ h_ => h_.1))))); (case side8 => exact (Kd.R_reads' HO_286005.out).2.1); rintro e w150 ⟨rfl, hb⟩; refine ⟨_, rfl, ?_⟩; replace HO_286002 := Aside0.mk (Kd.R_below (by exact kr_ ((Kd.R_mono (Kd.R_far (p := ⟨gb356, 5, none⟩) (Kd.R_far (p := ⟨gb356, 4, none⟩) (Kd.R_far (p := ⟨gb356, 3, none⟩) (Kd.R_far (p := ⟨gb356, 2, none⟩) (Kd.R_far (p := ⟨gb356, 1, none⟩) (Kd.R_far (p := ⟨gb356, 0, none⟩) (Kd.R_types HO_286002.out BK356.out (by decide)) (fun _ hk => hk.2) (.int .i64 t345)) (fun _ hk => hk.2) (.int .i64 t346)) (fun _ hk => hk.2) (.slice Ao131 t347.length co131)) (fun _ hk => hk.2) (.int .i64 t350)) (fun _ hk => hk.2) (.int .i64 t351)) (fun _ hk => hk.2) (.slice Ao135 t352.length co135)) (fun _ h_ => h_.1)))) hb); replace HO_286005 := Aside0.mk (Kd.R_below (by exact kr_ ((Kd.R_mono (Kd.R_far (p := ⟨gb356, 5, none⟩) (Kd.R_far (p := ⟨gb356, 4, none⟩) (Kd.R_far (p := ⟨gb356, 3, none⟩) (Kd.R_far (p := ⟨gb356, 2, none⟩) (Kd.R_far (p := ⟨gb356, 1, none⟩) (Kd.R_far (p := ⟨gb356, 0, none⟩) (Kd.R_types HO_286005.out BK356.out (by decide)) (fun _ hk => hk.2) (.int .i64 t345)) (fun _ hk => hk.2) (.int .i64 t346)) (fun _ hk => hk.2) (.slice Ao131 t347.length co131)) (fun _ hk => hk.2) (.int .i64 t350)) (fun _ hk => hk.2) (.int .i64 t351)) (fun _ hk => hk.2) (.slice Ao135 t352.length co135)) (fun _ h_ => h_.1)))) hb); replace HO_297002 := Aside0.mk (Kd.R_below (by exact kr_ ((Kd.R_mono (Kd.R_far (p := ⟨gb356, 5, none⟩) (Kd.R_far (p := ⟨gb356, 4, none⟩) (Kd.R_far (p := ⟨gb356, 3, none⟩) (Kd.R_far (p := ⟨gb356, 2, none⟩) (Kd.R_far (p := ⟨gb356, 1, none⟩) (Kd.R_far (p := ⟨gb356, 0, none⟩) (Kd.R_types HO_297002.out BK356.out (by decide)) (fun _ hk => hk.2) (.int .i64 t345)) (fun _ hk => hk.2) (.int .i64 t346)) (fun _ hk => hk.2) (.slice Ao131 t347.length co131)) (fun _ hk => hk.2) (.int .i64 t350)) (fun _ hk => hk.2) (.int .i64 t351)) (fun _ hk => hk.2) (.slice Ao135 t352.length co135)) (fun _ h_ => h_.1)))) hb); replace HO_297005 := Aside0.mk (Kd.R_below (by exact kr_ ((Kd.R_mono (Kd.R_far (p := ⟨gb356, 5, none⟩) (Kd.R_far (p := ⟨gb356, 4, none⟩) (Kd.R_far (p := ⟨gb356, 3, none⟩) (Kd.R_far (p := ⟨gb356, 2, none⟩) (Kd.R_far (p := ⟨gb356, 1, none⟩) (Kd.R_far (p := ⟨gb356, 0, none⟩) (Kd.R_types HO_297005.out BK356.out (by decide)) (fun _ hk => hk.2) (.int .i64 t345)) (fun _ hk => hk.2) (.int .i64 t346)) (fun _ hk => hk.2) (.slice Ao131 t347.length co131)) (fun _ hk => hk.2) (.int .i64 t350)) (fun _ hk => hk.2) (.int .i64 t351)) (fun _ hk => hk.2) (.slice Ao135 t352.length co135)) (fun _ h_ => h_.1)))) hb); replace HO_312002 := Aside0.mk (Kd.R_below (by exact kr_ ((Kd.R_mono (Kd.R_far (p := ⟨gb356, 5, none⟩) (Kd.R_far (p := ⟨gb356, 4, none⟩) (Kd.R_far (p := ⟨gb356, 3, none⟩) (Kd.R_far (p := ⟨gb356, 2, none⟩) (Kd.R_far (p := ⟨gb356, 1, none⟩) (Kd.R_far (p := ⟨gb356, 0, none⟩) (Kd.R_types HO_312002.out BK356.out (by decide)) (fun _ hk => hk.2) (.int .i64 t345)) (fun _ hk => hk.2) (.int .i64 t346)) (fun _ hk => hk.2) (.slice Ao131 t347.length co131)) (fun _ hk => hk.2) (.int .i64 t350)) (fun _ hk => hk.2) (.int .i64 t351)) (fun _ hk => hk.2) (.slice Ao135 t352.length co135)) (fun _ h_ => h_.1)))) hb); replace HO_312005 := Aside0.mk (Kd.R_below (by exact kr_ ((Kd.R_mono (Kd.R_far (p := ⟨gb356, 5, none⟩) (Kd.R_far (p := ⟨gb356, 4, none⟩) (Kd.R_far (p := ⟨gb356, 3, none⟩) (Kd.R_far (p := ⟨gb356, 2, none⟩) (Kd.R_far (p := ⟨gb356, 1, none⟩) (Kd.R_far (p := ⟨gb356, 0, none⟩) (Kd.R_types HO_312005.out BK356.out (by decide)) (fun _ hk => hk.2) (.int .i64 t345)) (fun _ hk => hk.2) (.int .i64 t346)) (fun _ hk => hk.2) (.slice Ao131 t347.length co131)) (fun _ hk => hk.2) (.int .i64 t350)) (fun _ hk => hk.2) (.int .i64 t351)) (fun _ hk => hk.2) (.slice Ao135 t352.length co135)) (fun _ h_ => h_.1)))) hb); replace HO336 := Aside0.mk (Kd.R_below (by exact kr_ ((Kd.R_mono (Kd.R_far (p := ⟨gb356, 5, none⟩) (Kd.R_far (p := ⟨gb356, 4, none⟩) (Kd.R_far (p := ⟨gb356, 3, none⟩) (Kd.R_far (p := ⟨gb356, 2, none⟩) (Kd.R_far (p := ⟨gb356, 1, none⟩) (Kd.R_far (p := ⟨gb356, 0, none⟩) (Kd.R_types HO336.out BK356.out (by decide)) (fun _ hk => hk.2) (.int .i64 t345)) (fun _ hk => hk.2) (.int .i64 t346)) (fun _ hk => hk.2) (.slice Ao131 t347.length co131)) (fun _ hk => hk.2) (.int .i64 t350)) (fun _ hk => hk.2) (.int .i64 t351)) (fun _ hk => hk.2) (.slice Ao135 t352.length co135)) (fun _ h_ => h_.1)))) hb); replace HO341 := Aside0.mk (Kd.R_below (by exact kr_ ((Kd.R_mono (Kd.R_far (p := ⟨gb356, 5, none⟩) (Kd.R_far (p := ⟨gb356, 4, none⟩) (Kd.R_far (p := ⟨gb356, 3, none⟩) (Kd.R_far (p := ⟨gb356, 2, none⟩) (Kd.R_far (p := ⟨gb356, 1, none⟩) (Kd.R_far (p := ⟨gb356, 0, none⟩) (Kd.R_types HO341.out BK356.out (by decide)) (fun _ hk => hk.2) (.int .i64 t345)) (fun _ hk => hk.2) (.int .i64 t346)) (fun _ hk => hk.2) (.slice Ao131 t347.length co131)) (fun _ hk => hk.2) (.int .i64 t350)) (fun _ hk => hk.2) (.int .i64 t351)) (fun _ hk => hk.2) (.slice Ao135 t352.length co135)) (fun _ h_ => h_.1)))) hb); replace HO349 := Aside0.mk (Kd.R_below (by exact kr_ ((Kd.R_mono (Kd.R_far (p := ⟨gb356, 5, none⟩) (Kd.R_far (p := ⟨gb356, 4, none⟩) (Kd.R_far (p := ⟨gb356, 3, none⟩) (Kd.R_far (p := ⟨gb356, 2, none⟩) (Kd.R_far (p := ⟨gb356, 1, none⟩) (Kd.R_far (p := ⟨gb356, 0, none⟩) (Kd.R_types HO349.out BK356.out (by decide)) (fun _ hk => hk.2) (.int .i64 t345)) (fun _ hk => hk.2) (.int .i64 t346)) (fun _ hk => hk.2) (.slice Ao131 t347.length co131)) (fun _ hk => hk.2) (.int .i64 t350)) (fun _ hk => hk.2) (.int .i64 t351)) (fun _ hk => hk.2) (.slice Ao135 t352.length co135)) (fun _ h_ => h_.1)))) hb); replace HO354 := Aside0.mk (Kd.R_below (by exact kr_ ((Kd.R_mono (Kd.R_far (p := ⟨gb356, 5, none⟩) (Kd.R_far (p := ⟨gb356, 4, none⟩) (Kd.R_far (p := ⟨gb356, 3, none⟩) (Kd.R_far (p := ⟨gb356, 2, none⟩) (Kd.R_far (p := ⟨gb356, 1, none⟩) (Kd.R_far (p := ⟨gb356, 0, none⟩) (Kd.R_types HO354.out BK356.out (by decide)) (fun _ hk => hk.2) (.int .i64 t345)) (fun _ hk => hk.2) (.int .i64 t346)) (fun _ hk => hk.2) (.slice Ao131 t347.length co131)) (fun _ hk => hk.2) (.int .i64 t350)) (fun _ hk => hk.2) (.int .i64 t351)) (fun _ hk => hk.2) (.slice Ao135 t352.length co135)) (fun _ h_ => h_.1)))) hb); replace BK258 := Aside0.mk (blk_below (g := gb258) (o := .cells #[.int .i64 a0_0, .int .i64 a0_1, .slice A0_2 l0_2.length c0_2, .int .i64 a0_3, .int .i64 a0_4, .slice A0_5 l0_5.length c0_5] 30 (0, 0)) kz_ hb); replace BK259 := Aside0.mk (blk_below (g := gb259) (o := .cells #[.int .i64 a1_0, .int .i64 a1_1, .int .i64 a1_2] 43 (0, 0)) kz_ hb); replace BK285 := Aside0.mk (blk_below (g := gb285) (o := .cells #[.int .i64 t274, .int .i64 t275, .slice Ao32 t276.length co32, .int .i64 t279, .int .i64 t280, .slice Ao36 t281.length co36] 24 (0, 0)) kz_ hb); replace BK296 := Aside0.mk (blk_below (g := gb296) (o := .cells #[.int .i64 t286, .int .i64 t287, .slice Ao46 t325.length co46, .int .i64 t291, .int .i64 t292, .slice Ao47 t326.length co47] 24 (0, 0)) kz_ hb); replace BK311 := Aside0.mk (blk_below (g := gb311) (o := .cells #[.int .i64 t300, .int .i64 t301, .slice Ao56 t302.length co56, .int .i64 t305, .int .i64 t306, .slice Ao60 t307.length co60] 24 (0, 0)) kz_ hb); replace BK356 := Aside0.mk (blk_below (g := gb356) (o := .cells #[.int .i64 t345, .int .i64 t346, .slice Ao131 t347.length co131, .int .i64 t350, .int .i64 t351, .slice Ao135 t352.length co135] 24 (0, 0)) (by (with_reducible repeat (first | refine blk_drewN ?_ _ | refine blk_drew ?_ | refine blk_alloc ?_ _)); refine blk_put (cs := #[.int .i64 t345, .int .i64 t346, .slice Ao131 t347.length co131, .int .i64 t350, .int .i64 t351, .slice none 0 0]) ?_ 5 _ rfl; (with_reducible repeat (first | refine blk_drewN ?_ _ | refine blk_drew ?_ | refine blk_alloc ?_ _)); refine blk_put (cs := #[.int .i64 t345, .int .i64 t346, .slice Ao131 t347.length co131, .int .i64 t350, .int .i64 0, .slice none 0 0]) ?_ 4 _ rfl; (with_reducible repeat (first | refine blk_drewN ?_ _ | refine blk_drew ?_ | refine blk_alloc ?_ _)); refine blk_put (cs := #[.int .i64 t345, .int .i64 t346, .slice Ao131 t347.length co131, .int .i64 0, .int .i64 0, .slice none 0 0]) ?_ 3 _ rfl; (with_reducible repeat (first | refine blk_drewN ?_ _ | refine blk_drew ?_ | refine blk_alloc ?_ _)); refine blk_put (cs := #[.int .i64 t345, .int .i64 t346, .slice none 0 0, .int .i64 0, .int .i64 0, .slice none 0 0]) ?_ 2 _ rfl; (with_reducible repeat (first | refine blk_drewN ?_ _ | refine blk_drew ?_ | refine blk_alloc ?_ _)); refine blk_put (cs := #[.int .i64 t345, .int .i64 0, .slice none 0 0, .int .i64 0, .int .i64 0, .slice none 0 0]) ?_ 1 _ rfl; (with_reducible repeat (first | refine blk_drewN ?_ _ | refine blk_drew ?_ | refine blk_alloc ?_ _)); refine blk_put (cs := #[.int .i64 0, .int .i64 0, .slice none 0 0, .int .i64 0, .int .i64 0, .slice none 0 0]) ?_ 0 _ rfl; exact kb_ BK356.out) hb); replace HB := Aside0.mk (below_step bl_ hb); clear hb))
  go_meet
  case rel => exact ⟨_, ((t355 != t284)), (by first | rfl | (simp; done) | (simp [*]; done)), H', ⟨by have := HJ15.out; have := HJ78.out; first | omega | exact Nat.le_refl _⟩, ⟨by (try simp only [hl297002_78]); (try simp only [hl297005_78]); exact kr_ (Kd.R_mono HO_286002.out (fun _ hk => ⟨hk.2.2.2.2.1, ⟨hk.2.2.2.2.2.1, ⟨hk.2.2.2.2.2.2.1, ⟨hk.2.2.2.2.2.2.2.1, ⟨hk.2.2.2.2.2.2.2.2, ⟨hk.2.2.1, hk.2.2.2.1⟩⟩⟩⟩⟩⟩))⟩, ⟨by (try simp only [hl297002_78]); (try simp only [hl297005_78]); exact kr_ (Kd.R_mono HO_286005.out (fun _ hk => ⟨hk.2.2.2.2.1, ⟨hk.2.2.2.2.2.1, ⟨hk.2.2.2.2.2.2.1, ⟨hk.2.2.2.2.2.2.2.1, ⟨hk.2.2.2.2.2.2.2.2, ⟨hk.2.2.1, hk.2.2.2.1⟩⟩⟩⟩⟩⟩))⟩, ⟨by (try simp only [hl297002_78]); (try simp only [hl297005_78]); exact kr_ (Kd.R_mono HO_297002.out (fun _ hk => ⟨hk.2.2.2.2.1, ⟨hk.2.2.2.2.2.1, ⟨hk.2.2.2.2.2.2.1, ⟨hk.2.2.2.2.2.2.2.1, ⟨hk.2.2.2.2.2.2.2.2, ⟨hk.2.2.1, hk.2.2.2.1⟩⟩⟩⟩⟩⟩))⟩, ⟨by (try simp only [hl297002_78]); (try simp only [hl297005_78]); exact kr_ (Kd.R_mono HO_297005.out (fun _ hk => ⟨hk.2.2.2.2.1, ⟨hk.2.2.2.2.2.1, ⟨hk.2.2.2.2.2.2.1, ⟨hk.2.2.2.2.2.2.2.1, ⟨hk.2.2.2.2.2.2.2.2, ⟨hk.2.2.1, hk.2.2.2.1⟩⟩⟩⟩⟩⟩))⟩, ⟨by (try simp only [hl297002_78]); (try simp only [hl297005_78]); exact kr_ (Kd.R_mono HO_312002.out (fun _ hk => ⟨hk.2.2.2.2.1, ⟨hk.2.2.2.2.2.1, ⟨hk.2.2.2.2.2.2.1, ⟨hk.2.2.2.2.2.2.2.1, ⟨hk.2.2.2.2.2.2.2.2, ⟨hk.2.2.1, hk.2.2.2.1⟩⟩⟩⟩⟩⟩))⟩, ⟨by (try simp only [hl297002_78]); (try simp only [hl297005_78]); exact kr_ (Kd.R_mono HO_312005.out (fun _ hk => ⟨hk.2.2.2.2.1, ⟨hk.2.2.2.2.2.1, ⟨hk.2.2.2.2.2.2.1, ⟨hk.2.2.2.2.2.2.2.1, ⟨hk.2.2.2.2.2.2.2.2, ⟨hk.2.2.1, hk.2.2.2.1⟩⟩⟩⟩⟩⟩))⟩, ⟨by (try simp only [hl297002_78]); (try simp only [hl297005_78]); exact kr_ (Kd.R_mono HO349.out (fun _ hk => ⟨hk.2.2.2.1, ⟨hk.2.2.2.2.1, ⟨hk.2.2.2.2.2.1, ⟨hk.2.2.2.2.2.2.1, ⟨hk.2.2.2.2.2.2.2.1, ⟨hk.2.2.2.2.2.2.2.2, hk.2.2.1⟩⟩⟩⟩⟩⟩))⟩, ⟨by (try simp only [hl297002_78]); (try simp only [hl297005_78]); exact kr_ (Kd.R_mono HO354.out (fun _ hk => ⟨hk.2.2.2.1, ⟨hk.2.2.2.2.1, ⟨hk.2.2.2.2.2.1, ⟨hk.2.2.2.2.2.2.1, ⟨hk.2.2.2.2.2.2.2.1, ⟨hk.2.2.2.2.2.2.2.2, hk.2.2.1⟩⟩⟩⟩⟩⟩))⟩, ⟨by (try simp only [hl297002_78]); (try simp only [hl297005_78]); exact kb_ BK258.out⟩, ⟨by (try simp only [hl297002_78]); (try simp only [hl297005_78]); exact kb_ BK259.out⟩, ⟨by (try simp only [hl297002_78]); (try simp only [hl297005_78]); exact kb_ BK285.out⟩, ⟨by (try simp only [hl297002_78]); (try simp only [hl297005_78]); exact kb_ BK296.out⟩, ⟨by (try simp only [hl297002_78]); (try simp only [hl297005_78]); exact kb_ BK311.out⟩, ⟨by (try simp only [hl297002_78]); (try simp only [hl297005_78]); exact kb_ BK356.out⟩, ⟨bl_⟩⟩
 clear HC112
 try clear c1
 try clear c2
 try clear p2
 try clear c3
 try clear c13
 try clear c14
 try clear c19
 try clear c29
 try clear c30
 try clear c138
 try clear c139
 try clear c140
 try clear c141
 try clear c142
 try clear c143
 try clear c145
 try clear c146
 try clear c147
 try clear c148
 try clear hcz144_0
 try clear hcz144_1
 try clear hcz144_2
 try clear hcz144_3
 try clear hcz144_4
 try clear hcz144_5
 try clear hcz149_0
 try clear hcz149_1
 try clear hcz149_2
 try clear hcz149_3
 try clear hcz149_4
 try clear hcz149_5
 try clear hfz144_0
 try clear hfz144_1
 try clear hfz144_2
 try clear hfz144_3
 try clear hfz144_4
 try clear hfz144_5
 try clear hfz149_0
 try clear hfz149_1
 try clear hfz149_2
 try clear hfz149_3
 try clear hfz149_4
 try clear hfz149_5
 obtain ⟨kq, x95_111, rfl, HA, HJ111, HO_286002, HO_286005, HO_297002, HO_297005, HO_312002, HO_312005, HO_357002, HO_357005, BK258, BK259, BK285, BK296, BK311, BK356, HB⟩ := hcut
 have hl312002_111 := (Kd.R_reads' HO_312002.out).1
 rw [hl312002_111] at HO_312002
 (try simp only [hl312002_111])
 (try simp only [hl312002_111] at BK258)
 (try simp only [hl312002_111] at BK259)
 (try simp only [hl312002_111] at BK285)
 (try simp only [hl312002_111] at BK296)
 (try simp only [hl312002_111] at BK311)
 (try simp only [hl312002_111] at BK356)
 (try simp only [hl312002_111] at HO_286002)
 (try simp only [hl312002_111] at HO_286005)
 (try simp only [hl312002_111] at HO_297002)
 (try simp only [hl312002_111] at HO_297005)
 (try simp only [hl312002_111] at HO_312005)
 (try simp only [hl312002_111] at HO_357002)
 (try simp only [hl312002_111] at HO_357005)
 have hl312005_111 := (Kd.R_reads' HO_312005.out).1
 rw [hl312005_111] at HO_312005
 (try simp only [hl312005_111])
 (try simp only [hl312005_111] at BK258)
 (try simp only [hl312005_111] at BK259)
 (try simp only [hl312005_111] at BK285)
 (try simp only [hl312005_111] at BK296)
 (try simp only [hl312005_111] at BK311)
 (try simp only [hl312005_111] at BK356)
 (try simp only [hl312005_111] at HO_286002)
 (try simp only [hl312005_111] at HO_286005)
 (try simp only [hl312005_111] at HO_297002)
 (try simp only [hl312005_111] at HO_297005)
 (try simp only [hl312005_111] at HO_312002)
 (try simp only [hl312005_111] at HO_357002)
 (try simp only [hl312005_111] at HO_357005)
 cases kq with
 | zero => exact absurd HA.out (by simp [laws_FnExactStepLease.j2])
 | succ kj111 => ?_
 have H := HA.out
 clear HA
 simp only [laws_FnExactStepLease.j2] at H
 by_cases c151 : x95_111 = true
 ·subst c151
  have H1 : (none) = some r := by rw [if_pos rfl] at H; exact H
  clear H
  have H := H1
  clear H1
  exact absurd H (by simp)
 replace c151 := Bool.eq_false_iff.mpr c151
 subst c151
 have H1 : ((laws_heldLeases.f kj111 t300 t301 t329 t305 t306 t330 1).bind fun t358 => (if t358 < 0 then (none) else (if t358 = t328 then (some true) else (none)))) = some r := by rw [if_neg (show ¬ (false = true) by decide)] at H; exact H
 clear H
 have H := H1
 clear H1
 replace H := Option.bind_eq_some_iff.mp H
 obtain ⟨t358, A1520, H⟩ := H
 replace H : (if t358 < 0 then (none) else (if t358 = t328 then (some true) else (none))) = some r := H
 have A152 := Aside0.mk A1520
 clear A1520
 by_cases c153 : t358 < 0
 ·rw [if_pos c153] at H
  exact absurd H (by simp)
 rw [if_neg c153] at H
 have c153b0 : decide (t358 < 0) = false := decide_eq_false c153
 clear c153
 by_cases c154 : t358 = t328
 rotate_left
 ·rw [if_neg c154] at H
  exact absurd H (by simp)
 rw [if_pos c154] at H
 have c154b0 : (t358 == t328) = true := beq_iff_eq.mpr c154
 have c154b1 : (t358 != t328) = false := bne_eq_false_iff_eq.mpr c154
 clear c154
 obtain rfl := Option.some.inj H
 have hnb155 := NB311_258.out
 have hnc155 := NB258_311.out
 have hnb156 := NB311_259.out
 have hnc156 := NB259_311.out
 have hnb157 := NB311_285.out
 have hnc157 := NB285_311.out
 have hnb158 := NB311_296.out
 have hnc158 := NB296_311.out
 have hnb159 := NB311_356.out
 have hnc159 := NB356_311.out
 have hcz160_0 : wc.cell? ⟨gb311, 0, none⟩ = some (.int .i64 t300) := bc_ BK311.out 0
 have hcz160_1 : wc.cell? ⟨gb311, 1, none⟩ = some (.int .i64 t301) := bc_ BK311.out 1
 have hcz160_2 : wc.cell? ⟨gb311, 2, none⟩ = some (.slice Ao56 t329.length co56) := bc_ BK311.out 2
 have hcz160_3 : wc.cell? ⟨gb311, 3, none⟩ = some (.int .i64 t305) := bc_ BK311.out 3
 have hcz160_4 : wc.cell? ⟨gb311, 4, none⟩ = some (.int .i64 t306) := bc_ BK311.out 4
 have hcz160_5 : wc.cell? ⟨gb311, 5, none⟩ = some (.slice Ao60 t330.length co60) := bc_ BK311.out 5
 have hfz160_0 := blk_frozen BK311.out 0
 have hfz160_1 := blk_frozen BK311.out 1
 have hfz160_2 := blk_frozen BK311.out 2
 have hfz160_3 := blk_frozen BK311.out 3
 have hfz160_4 := blk_frozen BK311.out 4
 have hfz160_5 := blk_frozen BK311.out 5
 go_wp2_with (first | ((with_reducible refine gate_callee (f := 16) rfl ?_); refine goesL_ (some 98) rfl rfl Try.func16 (by kernel_rfl) rfl #[.agg #[.int .i64 t300, .int .i64 t301, .slice Ao56 t329.length co56, .int .i64 t305, .int .i64 t306, .slice Ao60 t330.length co60], .int .i64 1] rfl nc_ ?_; (with_reducible refine (laws_heldLeases.calls kj111 t300 t301 _ _ t329 t305 t306 _ _ t330 1 t358 _ ?side1 ?side2 ?side3 ?side4 A152.out).mono ?_); (case side1 => exact kc_ (Kd.R_reads' HO_312002.out).2.2); (case side2 => exact (Kd.R_reads' HO_312002.out).2.1); (case side3 => exact kc_ (Kd.R_reads' HO_312005.out).2.2); (case side4 => exact (Kd.R_reads' HO_312005.out).2.1); rintro e w161 ⟨rfl, hb⟩; refine ⟨_, rfl, ?_⟩; replace HO_286002 := rb_ HO_286002 hb; replace HO_286005 := rb_ HO_286005 hb; replace HO_297002 := rb_ HO_297002 hb; replace HO_297005 := rb_ HO_297005 hb; replace HO_312002 := rb_ HO_312002 hb; replace HO_312005 := rb_ HO_312005 hb; replace HO_357002 := rb_ HO_357002 hb; replace HO_357005 := rb_ HO_357005 hb; replace BK258 := bb_ BK258 hb; replace BK259 := bb_ BK259 hb; replace BK285 := bb_ BK285 hb; replace BK296 := bb_ BK296 hb; replace BK311 := bb_ BK311 hb; replace BK356 := bb_ BK356 hb; replace HB := Aside0.mk (below_step bl_ hb); clear hb))
 go_ret
 exact ⟨ng_, bl_⟩

end Go.Proofs.Ytbnadnfggpnbgaa.PSL
