/- What this text proves: the machine calls of these functions return what the plain functions say. Conditions: as each theorem says. Printed by a program of this session out of the translation. -/
import Derived.Test.YtgdcooiaeeajmaaPLAx0
import Derived.Test.YtgdcooiaeeajmaaPLAx2
import Derived.Test.YtgdcooiaeeajmaaPLAx3
import Derived.Test.YtgdcooiaeeajmaaPLAx4
import Derived.Test.YtgdcooiaeeajmaaPLAx5
import Derived.Test.YtgdcooiaeeajmaaPLAx21
import Derived.Test.YtgdcooiaeeajmaaPLAx6
namespace Go.Proofs.Ytgdcooiaeeajmaa.PLA
open Go.RowKit Go.Proofs.YtgdcooiaeeajmaaW.PrintWords Go.Proofs.YtgdcooiaeeajmaaW.PrintLast Go.Proofs.YtgdcooiaeeajmaaW.PrintMore
attribute [local go_sem] max2_int min2_int max_two min_two max_three min_three max_four min_four   -- for this text's walks alone
set_option linter.unusedVariables false
set_option linter.unusedSimpArgs false

/-! ### spec_AheadOf: function 21 -/
def spec_AheadOf.f (k : Nat) (l0 : List (S68)) (a1 : Int) (a2 : Int) : Option (Bool × Bool) := (spec_GoodEvents.f k l0).bind fun t301 => (if t301 = true then ((spec_l1In.f a1 0 (wrap64 ((l0.length : Int) - 1))).bind fun t302 => (if t302 = true then ((spec_l1In.f a2 0 (wrap64 ((l0.length : Int) - 1))).bind fun t303 => (if t303 = true then ((spec_l2Before.f k l0 a2).bind fun t304 => (if 0 ≤ a1 then (if a1 < (t304.length : Int) then (some (rdOf false t304 a1, true)) else (none)) else (none))) else (some (false, false)))) else (some (false, false)))) else (some (false, false)))
theorem spec_AheadOf.mono : ∀ a0 a1 a2 k, LeO (spec_AheadOf.f k a0 a1 a2) (spec_AheadOf.f (k + 1) a0 a1 a2) := by
 intro a0 a1 a2 k
 unfold spec_AheadOf.f
 repeat' first
   | (with_reducible exact spec_GoodEvents.mono _ _)
   | (with_reducible exact spec_l2Before.mono _ _ _)
   | (with_reducible exact LeO.refl _)
   | (with_reducible exact LeO.none _)
   | (with_reducible refine LeO.ite ?_ ?_)
   | (with_reducible refine LeO.bind ?_ (fun _ => ?_))
   | exact spec_GoodEvents.mono _ _
   | exact spec_l2Before.mono _ _ _
   | exact LeO.none _
   | refine LeO.ite ?_ ?_
   | refine LeO.bind ?_ (fun _ => ?_)
set_option maxHeartbeats 8000000 in
set_option maxRecDepth 100000 in
theorem spec_AheadOf.calls (k : Nat) (A0 : Option Addr) (c0 : Nat) (l0 : List (S68)) (a1 : Int) (a2 : Int) (r1 : Bool) (r2 : Bool) (w : World) (hr0 : Kd.C k68 w A0 l0.length l0) (hc0 : l0.length ≤ c0) (h : spec_AheadOf.f k l0 a1 a2 = some (r1, r2)) :
  Calls Try.prog 21 #[.slice A0 l0.length c0, .int .i64 a1, .int .i64 a2] w fun e w' => e = .returned (.tuple #[.bool r1, .bool r2]) ∧ Below w.heap.size w w' := by
 have HR0 := Aside0.mk hr0
 have HC0 := Aside0.mk hc0
 clear hr0 hc0
 have HB := Aside0.mk (Below.refl w.heap.size w)
 have H : ((spec_GoodEvents.f k l0).bind fun t301 => (if t301 = true then ((spec_l1In.f a1 0 (wrap64 ((l0.length : Int) - 1))).bind fun t302 => (if t302 = true then ((spec_l1In.f a2 0 (wrap64 ((l0.length : Int) - 1))).bind fun t303 => (if t303 = true then ((spec_l2Before.f k l0 a2).bind fun t304 => (if 0 ≤ a1 then (if a1 < (t304.length : Int) then (some (rdOf false t304 a1, true)) else (none)) else (none))) else (some (false, false)))) else (some (false, false)))) else (some (false, false)))) = some (r1, r2) := h
 clear h
 replace H := Option.bind_eq_some_iff.mp H
 obtain ⟨t301, A40, H⟩ := H
 replace H : (if t301 = true then ((spec_l1In.f a1 0 (wrap64 ((l0.length : Int) - 1))).bind fun t302 => (if t302 = true then ((spec_l1In.f a2 0 (wrap64 ((l0.length : Int) - 1))).bind fun t303 => (if t303 = true then ((spec_l2Before.f k l0 a2).bind fun t304 => (if 0 ≤ a1 then (if a1 < (t304.length : Int) then (some (rdOf false t304 a1, true)) else (none)) else (none))) else (some (false, false)))) else (some (false, false)))) else (some (false, false))) = some (r1, r2) := H
 have A4 := Aside0.mk A40
 clear A40
 by_cases c5 : t301 = true
 rotate_left
 ·replace c5 := Bool.eq_false_iff.mpr c5
  subst c5
  have H1 : (some (false, false)) = some (r1, r2) := by rw [if_neg (show ¬ (false = true) by decide)] at H; exact H
  clear H
  have H := H1
  clear H1
  simp only [Option.some.injEq, Prod.mk.injEq] at H
  obtain ⟨rfl, rfl⟩ := H
  go_enter Try.func21, Try.ntmps21
  go_wp2_with (first | ((with_reducible refine gate_callee (f := 38) rfl ?_); refine goesL_ (some 9) rfl rfl Try.func38 (by kernel_rfl) rfl #[.slice A0 l0.length c0] rfl nc_ ?_; (with_reducible refine (spec_GoodEvents.calls k _ _ l0 false _ ?side1 ?side2 A4.out).mono ?_); (case side1 => exact kc_ HR0.out); (case side2 => exact HC0.out); rintro e w18 ⟨rfl, hb⟩; refine ⟨_, rfl, ?_⟩; replace HB := Aside0.mk (below_step bl_ hb); clear hb))
  go_ret2
  exact ⟨ng_, bl_⟩
 subst c5
 have H1 : ((spec_l1In.f a1 0 (wrap64 ((l0.length : Int) - 1))).bind fun t302 => (if t302 = true then ((spec_l1In.f a2 0 (wrap64 ((l0.length : Int) - 1))).bind fun t303 => (if t303 = true then ((spec_l2Before.f k l0 a2).bind fun t304 => (if 0 ≤ a1 then (if a1 < (t304.length : Int) then (some (rdOf false t304 a1, true)) else (none)) else (none))) else (some (false, false)))) else (some (false, false)))) = some (r1, r2) := by rw [if_pos rfl] at H; exact H
 clear H
 have H := H1
 clear H1
 replace H := Option.bind_eq_some_iff.mp H
 obtain ⟨t302, A60, H⟩ := H
 replace H : (if t302 = true then ((spec_l1In.f a2 0 (wrap64 ((l0.length : Int) - 1))).bind fun t303 => (if t303 = true then ((spec_l2Before.f k l0 a2).bind fun t304 => (if 0 ≤ a1 then (if a1 < (t304.length : Int) then (some (rdOf false t304 a1, true)) else (none)) else (none))) else (some (false, false)))) else (some (false, false))) = some (r1, r2) := H
 have A6 := Aside0.mk A60
 clear A60
 by_cases c7 : t302 = true
 rotate_left
 ·replace c7 := Bool.eq_false_iff.mpr c7
  subst c7
  have H1 : (some (false, false)) = some (r1, r2) := by rw [if_neg (show ¬ (false = true) by decide)] at H; exact H
  clear H
  have H := H1
  clear H1
  simp only [Option.some.injEq, Prod.mk.injEq] at H
  obtain ⟨rfl, rfl⟩ := H
  go_enter Try.func21, Try.ntmps21
  go_wp2_with (first | ((with_reducible refine gate_callee (f := 38) rfl ?_); refine goesL_ (some 9) rfl rfl Try.func38 (by kernel_rfl) rfl #[.slice A0 l0.length c0] rfl nc_ ?_; (with_reducible refine (spec_GoodEvents.calls k _ _ l0 true _ ?side1 ?side2 A4.out).mono ?_); (case side1 => exact kc_ HR0.out); (case side2 => exact HC0.out); rintro e w17 ⟨rfl, hb⟩; refine ⟨_, rfl, ?_⟩; replace HB := Aside0.mk (below_step bl_ hb); clear hb) | (go_at_call 27; (with_reducible refine (spec_l1In.calls a1 0 (wrap64 ((l0.length : Int) - 1)) false _ A6.out).mono ?_); rintro e w' ⟨rfl, ⟨nd, rfl⟩⟩))
  go_ret2
  exact ⟨ng_, bl_⟩
 subst c7
 have H1 : ((spec_l1In.f a2 0 (wrap64 ((l0.length : Int) - 1))).bind fun t303 => (if t303 = true then ((spec_l2Before.f k l0 a2).bind fun t304 => (if 0 ≤ a1 then (if a1 < (t304.length : Int) then (some (rdOf false t304 a1, true)) else (none)) else (none))) else (some (false, false)))) = some (r1, r2) := by rw [if_pos rfl] at H; exact H
 clear H
 have H := H1
 clear H1
 replace H := Option.bind_eq_some_iff.mp H
 obtain ⟨t303, A80, H⟩ := H
 replace H : (if t303 = true then ((spec_l2Before.f k l0 a2).bind fun t304 => (if 0 ≤ a1 then (if a1 < (t304.length : Int) then (some (rdOf false t304 a1, true)) else (none)) else (none))) else (some (false, false))) = some (r1, r2) := H
 have A8 := Aside0.mk A80
 clear A80
 by_cases c9 : t303 = true
 rotate_left
 ·replace c9 := Bool.eq_false_iff.mpr c9
  subst c9
  have H1 : (some (false, false)) = some (r1, r2) := by rw [if_neg (show ¬ (false = true) by decide)] at H; exact H
  clear H
  have H := H1
  clear H1
  simp only [Option.some.injEq, Prod.mk.injEq] at H
  obtain ⟨rfl, rfl⟩ := H
  go_enter Try.func21, Try.ntmps21
  go_wp2_with (first | ((with_reducible refine gate_callee (f := 38) rfl ?_); refine goesL_ (some 9) rfl rfl Try.func38 (by kernel_rfl) rfl #[.slice A0 l0.length c0] rfl nc_ ?_; (with_reducible refine (spec_GoodEvents.calls k _ _ l0 true _ ?side1 ?side2 A4.out).mono ?_); (case side1 => exact kc_ HR0.out); (case side2 => exact HC0.out); rintro e w16 ⟨rfl, hb⟩; refine ⟨_, rfl, ?_⟩; replace HB := Aside0.mk (below_step bl_ hb); clear hb) | (go_at_call 27; (with_reducible refine (spec_l1In.calls a1 0 (wrap64 ((l0.length : Int) - 1)) true _ A6.out).mono ?_); rintro e w' ⟨rfl, ⟨nd, rfl⟩⟩) | (go_at_call 27; (with_reducible refine (spec_l1In.calls a2 0 (wrap64 ((l0.length : Int) - 1)) false _ A8.out).mono ?_); rintro e w' ⟨rfl, ⟨nd, rfl⟩⟩))
  go_ret2
  exact ⟨ng_, bl_⟩
 subst c9
 have H1 : ((spec_l2Before.f k l0 a2).bind fun t304 => (if 0 ≤ a1 then (if a1 < (t304.length : Int) then (some (rdOf false t304 a1, true)) else (none)) else (none))) = some (r1, r2) := by rw [if_pos rfl] at H; exact H
 clear H
 have H := H1
 clear H1
 replace H := Option.bind_eq_some_iff.mp H
 obtain ⟨t304, A100, H⟩ := H
 replace H : (if 0 ≤ a1 then (if a1 < (t304.length : Int) then (some (rdOf false t304 a1, true)) else (none)) else (none)) = some (r1, r2) := H
 have A10 := Aside0.mk A100
 clear A100
 by_cases c11 : 0 ≤ a1
 rotate_left
 ·rw [if_neg c11] at H
  exact absurd H (by simp)
 rw [if_pos c11] at H
 have c11b0 : decide (0 ≤ a1) = true := decide_eq_true c11
 clear c11
 by_cases c12 : a1 < (t304.length : Int)
 rotate_left
 ·rw [if_neg c12] at H
  exact absurd H (by simp)
 rw [if_pos c12] at H
 have c12b0 : decide (a1 < (t304.length : Int)) = true := decide_eq_true c12
 clear c12
 simp only [Option.some.injEq, Prod.mk.injEq] at H
 obtain ⟨rfl, rfl⟩ := H
 go_enter Try.func21, Try.ntmps21
 go_wp2_with (first | ((with_reducible refine gate_callee (f := 38) rfl ?_); refine goesL_ (some 9) rfl rfl Try.func38 (by kernel_rfl) rfl #[.slice A0 l0.length c0] rfl nc_ ?_; (with_reducible refine (spec_GoodEvents.calls k _ _ l0 true _ ?side1 ?side2 A4.out).mono ?_); (case side1 => exact kc_ HR0.out); (case side2 => exact HC0.out); rintro e w13 ⟨rfl, hb⟩; refine ⟨_, rfl, ?_⟩; replace HB := Aside0.mk (below_step bl_ hb); clear hb) | (go_at_call 27; (with_reducible refine (spec_l1In.calls a1 0 (wrap64 ((l0.length : Int) - 1)) true _ A6.out).mono ?_); rintro e w' ⟨rfl, ⟨nd, rfl⟩⟩) | (go_at_call 27; (with_reducible refine (spec_l1In.calls a2 0 (wrap64 ((l0.length : Int) - 1)) true _ A8.out).mono ?_); rintro e w' ⟨rfl, ⟨nd, rfl⟩⟩) | ((with_reducible refine gate_callee (f := 41) rfl ?_); refine goesL_ (some 29) rfl rfl Try.func41 (by kernel_rfl) rfl #[.slice A0 l0.length c0, .int .i64 a2] rfl nc_ ?_; (with_reducible refine (spec_l2Before.calls k _ _ l0 a2 t304 _ ?side1 ?side2 A10.out).mono ?_); (case side1 => exact kc_ (Kd.C_below HR0.out bl_)); (case side2 => exact HC0.out); rintro e w14 ⟨v305, rfl, ho0, hb⟩; refine ⟨_, rfl, ?_⟩; have HO306 := Aside0.mk (Kd.R_lower ho0 bz_); replace HB := Aside0.mk (below_step bl_ hb); clear hb ho0; obtain ⟨Ao15, co15, eo15⟩ := Kd.R_slice HO306.out; subst eo15; have p307 : 0 ≤ (a1 : Int) := of_decide_eq_true (by first | (with_reducible assumption) | assumption); have q307 : a1 < (t304.length : Int) := of_decide_eq_true (by first | (with_reducible assumption) | assumption); obtain ⟨ad307, e307, hx307_0⟩ := Kd.at_bool (Kd.R_reads' HO306.out).2.2 a1 p307 q307; cases e307; replace p307 := eq_true p307; replace q307 := eq_true q307))
 go_ret2
 exact ⟨ng_, bl_⟩

/-! ### laws_FnLamport: function 5 -/
mutual
def laws_FnLamport.j0 : Nat → List (S68) → List Int → Bool → Option (Bool)
 | 0, _, _, _ => none
 | k + 1, x3, x4, x37 => if x37 = true then (none) else (if (x3.length : Int) > 20 then (some true) else (laws_FnLamport.l0 k x3 x4 (x4.length : Int) 0))
def laws_FnLamport.l0 : Nat → List (S68) → List Int → Int → Int → Option (Bool)
 | 0, _, _, _, _ => none
 | k + 1, x3, x4, x42, x43 => if x43 < x42 then (laws_FnLamport.l1 k x3 x4 x43 x42 x43 (x4.length : Int) 0) else (some true)
def laws_FnLamport.l1 : Nat → List (S68) → List Int → Int → Int → Int → Int → Int → Option (Bool)
 | 0, _, _, _, _, _, _, _ => none
 | k + 1, x3, x4, x8, x42, x43, x47, x48 => if x48 < x47 then ((impl_AheadOf.f k x3 x8 x48).bind fun bt320 => ((spec_AheadOf.f k x3 x8 x48).bind fun bt322 => (if (bt320.2 != bt322.2) = true then (none) else (if (bt320.1 != bt322.1) = true then (none) else (if bt320.1 = true then (if 0 ≤ x8 then (if x8 < (x4.length : Int) then (if 0 ≤ x48 then (if x48 < (x4.length : Int) then (if (rd x4 x8) ≥ (rd x4 x48) then (none) else (laws_FnLamport.l1 k x3 x4 x8 x42 x43 x47 (wrap64 (x48 + 1)))) else (none)) else (none)) else (none)) else (none)) else (laws_FnLamport.l1 k x3 x4 x8 x42 x43 x47 (wrap64 (x48 + 1)))))))) else (laws_FnLamport.l0 k x3 x4 x42 (wrap64 (x43 + 1)))
end
def laws_FnLamport.f (k : Nat) (l0 : List Int) : Option (Bool) := if (l0.length : Int) > 1048576 then (some true) else ((spec_DrawLamportOf.f k l0).bind fun t308 => ((impl_LamportOf.f k t308).bind fun bt311 => ((spec_LamportOf.f k t308).bind fun bt315 => (if (bt311.2 != bt315.2) = true then (none) else ((laws_sameInts.f k bt311.1 bt315.1).bind fun t319 => (laws_FnLamport.j0 k t308 bt311.1 (!t319)))))))
theorem laws_FnLamport.mono_l : ∀ k, (∀ y0 y1 y2, LeO (laws_FnLamport.j0 k y0 y1 y2) (laws_FnLamport.j0 (k + 1) y0 y1 y2)) ∧ (∀ y0 y1 y2 y3, LeO (laws_FnLamport.l0 k y0 y1 y2 y3) (laws_FnLamport.l0 (k + 1) y0 y1 y2 y3)) ∧ (∀ y0 y1 y2 y3 y4 y5 y6, LeO (laws_FnLamport.l1 k y0 y1 y2 y3 y4 y5 y6) (laws_FnLamport.l1 (k + 1) y0 y1 y2 y3 y4 y5 y6))
 | 0 => ⟨fun _ _ _ r h => by simp [laws_FnLamport.j0] at h, fun _ _ _ _ r h => by simp [laws_FnLamport.l0] at h, fun _ _ _ _ _ _ _ r h => by simp [laws_FnLamport.l1] at h⟩
 | k + 1 => by
  obtain ⟨ih0, ih1, ih2⟩ := laws_FnLamport.mono_l k
  refine ⟨?_, ?_, ?_⟩
  ·intro y0 y1 y2
   unfold laws_FnLamport.j0
   repeat' first
   | (with_reducible exact ih0 _ _ _)
   | (with_reducible exact ih1 _ _ _ _)
   | (with_reducible exact ih2 _ _ _ _ _ _ _)
   | (with_reducible exact impl_AheadOf.mono _ _ _ _)
   | (with_reducible exact impl_LamportOf.mono _ _)
   | (with_reducible exact laws_sameInts.mono _ _ _)
   | (with_reducible exact spec_AheadOf.mono _ _ _ _)
   | (with_reducible exact spec_DrawLamportOf.mono _ _)
   | (with_reducible exact spec_LamportOf.mono _ _)
   | (with_reducible exact LeO.refl _)
   | (with_reducible exact LeO.none _)
   | (with_reducible refine LeO.ite ?_ ?_)
   | (with_reducible refine LeO.bind ?_ (fun _ => ?_))
   | exact ih0 _ _ _
   | exact ih1 _ _ _ _
   | exact ih2 _ _ _ _ _ _ _
   | exact impl_AheadOf.mono _ _ _ _
   | exact impl_LamportOf.mono _ _
   | exact laws_sameInts.mono _ _ _
   | exact spec_AheadOf.mono _ _ _ _
   | exact spec_DrawLamportOf.mono _ _
   | exact spec_LamportOf.mono _ _
   | exact LeO.none _
   | refine LeO.ite ?_ ?_
   | refine LeO.bind ?_ (fun _ => ?_)
  ·intro y0 y1 y2 y3
   unfold laws_FnLamport.l0
   repeat' first
   | (with_reducible exact ih0 _ _ _)
   | (with_reducible exact ih1 _ _ _ _)
   | (with_reducible exact ih2 _ _ _ _ _ _ _)
   | (with_reducible exact impl_AheadOf.mono _ _ _ _)
   | (with_reducible exact impl_LamportOf.mono _ _)
   | (with_reducible exact laws_sameInts.mono _ _ _)
   | (with_reducible exact spec_AheadOf.mono _ _ _ _)
   | (with_reducible exact spec_DrawLamportOf.mono _ _)
   | (with_reducible exact spec_LamportOf.mono _ _)
   | (with_reducible exact LeO.refl _)
   | (with_reducible exact LeO.none _)
   | (with_reducible refine LeO.ite ?_ ?_)
   | (with_reducible refine LeO.bind ?_ (fun _ => ?_))
   | exact ih0 _ _ _
   | exact ih1 _ _ _ _
   | exact ih2 _ _ _ _ _ _ _
   | exact impl_AheadOf.mono _ _ _ _
   | exact impl_LamportOf.mono _ _
   | exact laws_sameInts.mono _ _ _
   | exact spec_AheadOf.mono _ _ _ _
   | exact spec_DrawLamportOf.mono _ _
   | exact spec_LamportOf.mono _ _
   | exact LeO.none _
   | refine LeO.ite ?_ ?_
   | refine LeO.bind ?_ (fun _ => ?_)
  ·intro y0 y1 y2 y3 y4 y5 y6
   unfold laws_FnLamport.l1
   repeat' first
   | (with_reducible exact ih0 _ _ _)
   | (with_reducible exact ih1 _ _ _ _)
   | (with_reducible exact ih2 _ _ _ _ _ _ _)
   | (with_reducible exact impl_AheadOf.mono _ _ _ _)
   | (with_reducible exact impl_LamportOf.mono _ _)
   | (with_reducible exact laws_sameInts.mono _ _ _)
   | (with_reducible exact spec_AheadOf.mono _ _ _ _)
   | (with_reducible exact spec_DrawLamportOf.mono _ _)
   | (with_reducible exact spec_LamportOf.mono _ _)
   | (with_reducible exact LeO.refl _)
   | (with_reducible exact LeO.none _)
   | (with_reducible refine LeO.ite ?_ ?_)
   | (with_reducible refine LeO.bind ?_ (fun _ => ?_))
   | exact ih0 _ _ _
   | exact ih1 _ _ _ _
   | exact ih2 _ _ _ _ _ _ _
   | exact impl_AheadOf.mono _ _ _ _
   | exact impl_LamportOf.mono _ _
   | exact laws_sameInts.mono _ _ _
   | exact spec_AheadOf.mono _ _ _ _
   | exact spec_DrawLamportOf.mono _ _
   | exact spec_LamportOf.mono _ _
   | exact LeO.none _
   | refine LeO.ite ?_ ?_
   | refine LeO.bind ?_ (fun _ => ?_)
theorem laws_FnLamport.mono : ∀ a0 k, LeO (laws_FnLamport.f k a0) (laws_FnLamport.f (k + 1) a0) := by
 intro a0 k
 obtain ⟨ih0, ih1, ih2⟩ := laws_FnLamport.mono_l k
 unfold laws_FnLamport.f
 repeat' first
   | (with_reducible exact ih0 _ _ _)
   | (with_reducible exact ih1 _ _ _ _)
   | (with_reducible exact ih2 _ _ _ _ _ _ _)
   | (with_reducible exact impl_AheadOf.mono _ _ _ _)
   | (with_reducible exact impl_LamportOf.mono _ _)
   | (with_reducible exact laws_sameInts.mono _ _ _)
   | (with_reducible exact spec_AheadOf.mono _ _ _ _)
   | (with_reducible exact spec_DrawLamportOf.mono _ _)
   | (with_reducible exact spec_LamportOf.mono _ _)
   | (with_reducible exact LeO.refl _)
   | (with_reducible exact LeO.none _)
   | (with_reducible refine LeO.ite ?_ ?_)
   | (with_reducible refine LeO.bind ?_ (fun _ => ?_))
   | exact ih0 _ _ _
   | exact ih1 _ _ _ _
   | exact ih2 _ _ _ _ _ _ _
   | exact impl_AheadOf.mono _ _ _ _
   | exact impl_LamportOf.mono _ _
   | exact laws_sameInts.mono _ _ _
   | exact spec_AheadOf.mono _ _ _ _
   | exact spec_DrawLamportOf.mono _ _
   | exact spec_LamportOf.mono _ _
   | exact LeO.none _
   | refine LeO.ite ?_ ?_
   | refine LeO.bind ?_ (fun _ => ?_)
set_option maxHeartbeats 8000000 in
set_option maxRecDepth 100000 in
theorem laws_FnLamport.calls (k : Nat) (A0 : Option Addr) (c0 : Nat) (l0 : List Int) (r : Bool) (w : World) (hr0 : Kd.C (Kd.int .u8) w A0 l0.length l0) (hc0 : l0.length ≤ c0) (h : laws_FnLamport.f k l0 = some r) :
  Calls Try.prog 5 #[.slice A0 l0.length c0] w fun e w' => e = .returned (.bool r) ∧ Below w.heap.size w w' := by
 have HR0 := Aside0.mk hr0
 have HC0 := Aside0.mk hc0
 clear hr0 hc0
 have HB := Aside0.mk (Below.refl w.heap.size w)
 have H : (if (l0.length : Int) > 1048576 then (some true) else ((spec_DrawLamportOf.f k l0).bind fun t308 => ((impl_LamportOf.f k t308).bind fun bt311 => ((spec_LamportOf.f k t308).bind fun bt315 => (if (bt311.2 != bt315.2) = true then (none) else ((laws_sameInts.f k bt311.1 bt315.1).bind fun t319 => (laws_FnLamport.j0 k t308 bt311.1 (!t319)))))))) = some r := h
 clear h
 by_cases c2 : (l0.length : Int) > 1048576
 ·rw [if_pos c2] at H
  have c2b0 : decide (1048576 < (l0.length : Int)) = true := decide_eq_true c2
  have c2b1 : decide (1048576 < l0.length) = true := decide_eq_true (by omega)
  clear c2
  obtain rfl := Option.some.inj H
  go_enter Try.func5, Try.ntmps5
  go_wp2
  repeat (go_quiet (fail); try go_wp2)
  go_ret
  exact ⟨ng_, bl_⟩
 rw [if_neg c2] at H
 have c2b0 : decide (1048576 < (l0.length : Int)) = false := decide_eq_false c2
 have c2b1 : decide (1048576 < l0.length) = false := decide_eq_false (by omega)
 clear c2
 replace H := Option.bind_eq_some_iff.mp H
 obtain ⟨t308, A30, H⟩ := H
 replace H : ((impl_LamportOf.f k t308).bind fun bt311 => ((spec_LamportOf.f k t308).bind fun bt315 => (if (bt311.2 != bt315.2) = true then (none) else ((laws_sameInts.f k bt311.1 bt315.1).bind fun t319 => (laws_FnLamport.j0 k t308 bt311.1 (!t319)))))) = some r := H
 have A3 := Aside0.mk A30
 clear A30
 replace H := Option.bind_eq_some_iff.mp H
 obtain ⟨⟨t311, t312⟩, A40, H⟩ := H
 replace H : ((spec_LamportOf.f k t308).bind fun bt315 => (if (t312 != bt315.2) = true then (none) else ((laws_sameInts.f k t311 bt315.1).bind fun t319 => (laws_FnLamport.j0 k t308 t311 (!t319))))) = some r := H
 have A4 := Aside0.mk A40
 clear A40
 replace H := Option.bind_eq_some_iff.mp H
 obtain ⟨⟨t315, t316⟩, A50, H⟩ := H
 replace H : (if (t312 != t316) = true then (none) else ((laws_sameInts.f k t311 t315).bind fun t319 => (laws_FnLamport.j0 k t308 t311 (!t319)))) = some r := H
 have A5 := Aside0.mk A50
 clear A50
 have HC6 := Aside0.mk H
 clear H
 go_enter Try.func5, Try.ntmps5
 go_upto_region 6 with (first | (go_at_call 16; (with_reducible refine (spec_DrawLamportOf.calls k _ _ l0 t308 _ ?side1 ?side2 A3.out).mono ?_); (case side1 => exact kc_ HR0.out); (case side2 => exact HC0.out); rintro e w7 ⟨v309, rfl, ho0, hb⟩; have HO310 := Aside0.mk (Kd.R_lower ho0 bz_); replace HB := Aside0.mk (below_step bl_ hb); clear hb ho0; obtain ⟨Ao8, co8, eo8⟩ := Kd.R_slice HO310.out; subst eo8) | (go_at_call 17; (with_reducible refine (impl_LamportOf.calls k _ _ t308 t311 t312 _ ?side1 ?side2 A4.out).mono ?_); (case side1 => exact kc_ (Kd.R_reads' HO310.out).2.2); (case side2 => exact (Kd.R_reads' HO310.out).2.1); rintro e w9 ⟨v313, rfl, ho0, hb⟩; replace HO310 := rb_ HO310 hb; have HO314 := Aside0.mk (Kd.R_lower ho0 bz_); replace HB := Aside0.mk (below_step bl_ hb); clear hb ho0) | (go_at_call 18; (with_reducible refine (spec_LamportOf.calls k _ _ t308 t315 t316 _ ?side1 ?side2 A5.out).mono ?_); (case side1 => exact kc_ (Kd.R_reads' HO310.out).2.2); (case side2 => exact (Kd.R_reads' HO310.out).2.1); rintro e w10 ⟨v317, rfl, ho0, hb⟩; replace HO310 := rb_ HO310 hb; have HO318 := Aside0.mk (Kd.R_lower (rn_ ho0 HO314.out) bz_); replace HO314 := Aside0.mk (Kd.R_elder' (kr_ HO314.out) (Kd.R_base ho0) hb); replace HB := Aside0.mk (below_step bl_ hb); clear hb ho0))
 repeat (go_quiet (first | (go_at_call 16; (with_reducible refine (spec_DrawLamportOf.calls k _ _ l0 t308 _ ?side1 ?side2 A3.out).mono ?_); (case side1 => exact kc_ HR0.out); (case side2 => exact HC0.out); rintro e w7 ⟨v309, rfl, ho0, hb⟩; have HO310 := Aside0.mk (Kd.R_lower ho0 bz_); replace HB := Aside0.mk (below_step bl_ hb); clear hb ho0; obtain ⟨Ao8, co8, eo8⟩ := Kd.R_slice HO310.out; subst eo8) | (go_at_call 17; (with_reducible refine (impl_LamportOf.calls k _ _ t308 t311 t312 _ ?side1 ?side2 A4.out).mono ?_); (case side1 => exact kc_ (Kd.R_reads' HO310.out).2.2); (case side2 => exact (Kd.R_reads' HO310.out).2.1); rintro e w9 ⟨v313, rfl, ho0, hb⟩; replace HO310 := rb_ HO310 hb; have HO314 := Aside0.mk (Kd.R_lower ho0 bz_); replace HB := Aside0.mk (below_step bl_ hb); clear hb ho0) | (go_at_call 18; (with_reducible refine (spec_LamportOf.calls k _ _ t308 t315 t316 _ ?side1 ?side2 A5.out).mono ?_); (case side1 => exact kc_ (Kd.R_reads' HO310.out).2.2); (case side2 => exact (Kd.R_reads' HO310.out).2.1); rintro e w10 ⟨v317, rfl, ho0, hb⟩; replace HO310 := rb_ HO310 hb; have HO318 := Aside0.mk (Kd.R_lower (rn_ ho0 HO314.out) bz_); replace HO314 := Aside0.mk (Kd.R_elder' (kr_ HO314.out) (Kd.R_base ho0) hb); replace HB := Aside0.mk (below_step bl_ hb); clear hb ho0)); go_upto_region 6 with (first | (go_at_call 16; (with_reducible refine (spec_DrawLamportOf.calls k _ _ l0 t308 _ ?side1 ?side2 A3.out).mono ?_); (case side1 => exact kc_ HR0.out); (case side2 => exact HC0.out); rintro e w7 ⟨v309, rfl, ho0, hb⟩; have HO310 := Aside0.mk (Kd.R_lower ho0 bz_); replace HB := Aside0.mk (below_step bl_ hb); clear hb ho0; obtain ⟨Ao8, co8, eo8⟩ := Kd.R_slice HO310.out; subst eo8) | (go_at_call 17; (with_reducible refine (impl_LamportOf.calls k _ _ t308 t311 t312 _ ?side1 ?side2 A4.out).mono ?_); (case side1 => exact kc_ (Kd.R_reads' HO310.out).2.2); (case side2 => exact (Kd.R_reads' HO310.out).2.1); rintro e w9 ⟨v313, rfl, ho0, hb⟩; replace HO310 := rb_ HO310 hb; have HO314 := Aside0.mk (Kd.R_lower ho0 bz_); replace HB := Aside0.mk (below_step bl_ hb); clear hb ho0) | (go_at_call 18; (with_reducible refine (spec_LamportOf.calls k _ _ t308 t315 t316 _ ?side1 ?side2 A5.out).mono ?_); (case side1 => exact kc_ (Kd.R_reads' HO310.out).2.2); (case side2 => exact (Kd.R_reads' HO310.out).2.1); rintro e w10 ⟨v317, rfl, ho0, hb⟩; replace HO310 := rb_ HO310 hb; have HO318 := Aside0.mk (Kd.R_lower (rn_ ho0 HO314.out) bz_); replace HO314 := Aside0.mk (Kd.R_elder' (kr_ HO314.out) (Kd.R_base ho0) hb); replace HB := Aside0.mk (below_step bl_ hb); clear hb ho0)))
 (try simp only [Act.put, List.setIfInBounds_toArray, List.set_cons_zero, List.set_cons_succ])
 go_cut [37] (fun v37 wc => ∃ (kq : Nat) (x37_5 : Bool), v37 = .bool x37_5 ∧ Aside0 (laws_FnLamport.j0 kq t308 t311 x37_5 = some r) ∧ Aside0 (kq ≤ k) ∧ Aside0 (Kd.R k68 68 wc w.heap.size (fun _ => True) (.slice Ao8 t308.length co8) t308) ∧ Aside0 (Kd.R (Kd.int .i64) 3 wc w.heap.size (fun _ => True) v313 t311) ∧ Aside0 (Below w.heap.size w wc))
 case first =>
  have H := HC6.out
  clear HC6
  by_cases c11 : (t312 != t316) = true
  ·rw [if_pos c11] at H
   exact absurd H (by simp)
  rw [if_neg c11] at H
  have c11b0 : (t312 != t316) = false := by simpa using c11
  (try (have c11b1 : decide (t312 = t316) = true := by simpa using c11))
  (try (have c11b2 : (t312 == t316) = true := by simpa using c11))
  clear c11
  (first | rw [c11b0] | (simp only [i64_w, i32_w]; rw [c11b0]) | skip)
  replace H := Option.bind_eq_some_iff.mp H
  obtain ⟨t319, A120, H⟩ := H
  replace H : (laws_FnLamport.j0 k t308 t311 (!t319)) = some r := H
  have A12 := Aside0.mk A120
  clear A120
  have H' := Aside0.mk H
  clear H
  obtain ⟨Ao13, co13, eo13⟩ := Kd.R_slice HO314.out
  subst eo13
  obtain ⟨Ao14, co14, eo14⟩ := Kd.R_slice HO318.out
  subst eo14
  go_wp2_with (first | (go_at_call 19; (with_reducible refine (laws_sameInts.calls k _ _ t311 _ _ t315 t319 _ ?side1 ?side2 ?side3 ?side4 A12.out).mono ?_); (case side1 => exact kc_ (Kd.R_reads' HO314.out).2.2); (case side2 => exact (Kd.R_reads' HO314.out).2.1); (case side3 => exact kc_ (Kd.R_reads' HO318.out).2.2); (case side4 => exact (Kd.R_reads' HO318.out).2.1); rintro e w' ⟨rfl, ⟨nd, rfl⟩⟩; (try first | exact ⟨rfl, _, World.drewN_drewN _ _ _⟩ | exact ⟨rfl, _, Eq.trans (World.drewN_drewN _ _ _) (congrArg (World.drewN _) (Nat.add_assoc _ _ _))⟩)))
  repeat (go_quiet (first | (go_at_call 19; (with_reducible refine (laws_sameInts.calls k _ _ t311 _ _ t315 t319 _ ?side1 ?side2 ?side3 ?side4 A12.out).mono ?_); (case side1 => exact kc_ (Kd.R_reads' HO314.out).2.2); (case side2 => exact (Kd.R_reads' HO314.out).2.1); (case side3 => exact kc_ (Kd.R_reads' HO318.out).2.2); (case side4 => exact (Kd.R_reads' HO318.out).2.1); rintro e w' ⟨rfl, ⟨nd, rfl⟩⟩; (try first | exact ⟨rfl, _, World.drewN_drewN _ _ _⟩ | exact ⟨rfl, _, Eq.trans (World.drewN_drewN _ _ _) (congrArg (World.drewN _) (Nat.add_assoc _ _ _))⟩))); try go_wp2_with (first | (go_at_call 19; (with_reducible refine (laws_sameInts.calls k _ _ t311 _ _ t315 t319 _ ?side1 ?side2 ?side3 ?side4 A12.out).mono ?_); (case side1 => exact kc_ (Kd.R_reads' HO314.out).2.2); (case side2 => exact (Kd.R_reads' HO314.out).2.1); (case side3 => exact kc_ (Kd.R_reads' HO318.out).2.2); (case side4 => exact (Kd.R_reads' HO318.out).2.1); rintro e w' ⟨rfl, ⟨nd, rfl⟩⟩; (try first | exact ⟨rfl, _, World.drewN_drewN _ _ _⟩ | exact ⟨rfl, _, Eq.trans (World.drewN_drewN _ _ _) (congrArg (World.drewN _) (Nat.add_assoc _ _ _))⟩))))
  go_meet
  case rel => exact ⟨_, (!t319), (by first | rfl | (simp; done) | (simp [*]; done)), H', ⟨by first | omega | exact Nat.le_refl _⟩, ⟨by exact kr_ HO310.out⟩, ⟨by exact kr_ (Kd.R_mono HO314.out (fun _ hk => trivial))⟩, ⟨bl_⟩⟩
 clear HC6
 try clear c1
 try clear c2
 try clear c2b0
 try clear c2b1
 try clear p2
 try clear c5
 try clear c11
 try clear c11b0
 try clear c11b1
 try clear c11b2
 obtain ⟨kq, x37_5, rfl, HA, HJ5, HO_3, HO_4, HB⟩ := hcut
 cases kq with
 | zero => exact absurd HA.out (by simp [laws_FnLamport.j0])
 | succ kj5 => ?_
 have H := HA.out
 clear HA
 simp only [laws_FnLamport.j0] at H
 by_cases c15 : x37_5 = true
 ·subst c15
  have H1 : (none) = some r := by rw [if_pos rfl] at H; exact H
  clear H
  have H := H1
  clear H1
  exact absurd H (by simp)
 replace c15 := Bool.eq_false_iff.mpr c15
 subst c15
 have H1 : (if (t308.length : Int) > 20 then (some true) else (laws_FnLamport.l0 kj5 t308 t311 (t311.length : Int) 0)) = some r := by rw [if_neg (show ¬ (false = true) by decide)] at H; exact H
 clear H
 have H := H1
 clear H1
 by_cases c16 : (t308.length : Int) > 20
 ·rw [if_pos c16] at H
  have c16b0 : decide (20 < (t308.length : Int)) = true := decide_eq_true c16
  have c16b1 : decide (20 < t308.length) = true := decide_eq_true (by omega)
  clear c16
  obtain rfl := Option.some.inj H
  go_wp2
  repeat (go_quiet (fail); try go_wp2)
  go_ret
  exact ⟨ng_, bl_⟩
 rw [if_neg c16] at H
 have c16b0 : decide (20 < (t308.length : Int)) = false := decide_eq_false c16
 have c16b1 : decide (20 < t308.length) = false := decide_eq_false (by omega)
 clear c16
 have H' := Aside0.mk H
 clear H
 obtain ⟨Ao17, co17, eo17⟩ := Kd.R_slice HO_4.out
 subst eo17
 go_wp2
 repeat (go_quiet (fail); try go_wp2)
 go_loopg [43] kj5 (fun kq v43 w' => ∃ (x43_2 : Int), v43 = .int .i64 x43_2 ∧ Aside0 (laws_FnLamport.l0 kq t308 t311 (t311.length : Int) x43_2 = some r) ∧ Aside0 (kq ≤ kj5) ∧ Aside0 (Kd.R k68 68 w' w.heap.size (fun _ => True) (.slice Ao8 t308.length co8) t308) ∧ Aside0 (Kd.R (Kd.int .i64) 3 w' w.heap.size (fun _ => True) (.slice Ao17 t311.length co17) t311) ∧ Aside0 (Below w.heap.size w w'))
 case atStart => exact ⟨(0), (by first | rfl | (simp; done) | (simp [*]; done)), H', ⟨Nat.le_refl _⟩, ⟨by exact kr_ HO_3.out⟩, ⟨by exact kr_ HO_4.out⟩, ⟨bl_⟩⟩
 clear H'
 try clear c1
 try clear c2
 try clear c2b0
 try clear c2b1
 try clear p2
 try clear c5
 try clear c11
 try clear c11b0
 try clear c11b1
 try clear c11b2
 try clear c15
 try clear c16
 try clear c16b0
 try clear c16b1
 try clear p2
 obtain ⟨x43_2, rfl, HA, HK2, HO_3, HO_4, HB⟩ := hrel
 cases gk with
 | zero => exact absurd HA.out (by simp [laws_FnLamport.l0])
 | succ k2 => ?_
 have H := HA.out
 clear HA
 simp only [laws_FnLamport.l0] at H
 by_cases c18 : x43_2 < (t311.length : Int)
 rotate_left
 ·rw [if_neg c18] at H
  have c18b0 : decide (x43_2 < (t311.length : Int)) = false := decide_eq_false c18
  clear c18
  obtain rfl := Option.some.inj H
  go_wp2
  repeat (go_quiet (fail); try go_wp2)
  go_ret
  exact ⟨ng_, bl_⟩
 rw [if_pos c18] at H
 have c18b0 : decide (x43_2 < (t311.length : Int)) = true := decide_eq_true c18
 clear c18
 have H' := Aside0.mk H
 clear H
 go_wp2
 repeat (go_quiet (fail); try go_wp2)
 go_loopg [48] k2 (fun kq v48 w' => ∃ (x48_3 : Int), v48 = .int .i64 x48_3 ∧ Aside0 (laws_FnLamport.l1 kq t308 t311 x43_2 (t311.length : Int) x43_2 (t311.length : Int) x48_3 = some r) ∧ Aside0 (kq ≤ k2) ∧ Aside0 (Kd.R k68 68 w' w.heap.size (fun _ => True) (.slice Ao8 t308.length co8) t308) ∧ Aside0 (Kd.R (Kd.int .i64) 3 w' w.heap.size (fun _ => True) (.slice Ao17 t311.length co17) t311) ∧ Aside0 (Below w.heap.size w w'))
 case atStart => exact ⟨(0), (by first | rfl | (simp; done) | (simp [*]; done)), H', ⟨Nat.le_refl _⟩, ⟨by exact kr_ HO_3.out⟩, ⟨by exact kr_ HO_4.out⟩, ⟨bl_⟩⟩
 clear H'
 try clear c1
 try clear c2
 try clear c2b0
 try clear c2b1
 try clear p2
 try clear c5
 try clear c11
 try clear c11b0
 try clear c11b1
 try clear c11b2
 try clear c15
 try clear c16
 try clear c16b0
 try clear c16b1
 try clear c18
 try clear c18b0
 try clear p2
 obtain ⟨x48_3, rfl, HA, HK3, HO_3, HO_4, HB⟩ := hrel
 cases gk with
 | zero => exact absurd HA.out (by simp [laws_FnLamport.l1])
 | succ k3 => ?_
 have H := HA.out
 clear HA
 simp only [laws_FnLamport.l1] at H
 by_cases c19 : x48_3 < (t311.length : Int)
 rotate_left
 ·rw [if_neg c19] at H
  have c19b0 : decide (x48_3 < (t311.length : Int)) = false := decide_eq_false c19
  clear c19
  have H' := Aside0.mk H
  clear H
  go_wp2
  repeat (go_quiet (fail); try go_wp2)
  go_roundg k3
  case measure => have := HJ5.out; have := HK2.out; have := HK3.out; omega
  case rel => exact ⟨(wrap64 (x43_2 + 1)), (by first | rfl | (simp; done) | (simp [*]; done)), H', ⟨by have := HJ5.out; have := HK2.out; have := HK3.out; omega⟩, ⟨by exact kr_ HO_3.out⟩, ⟨by exact kr_ HO_4.out⟩, ⟨bl_⟩⟩
 rw [if_pos c19] at H
 have c19b0 : decide (x48_3 < (t311.length : Int)) = true := decide_eq_true c19
 clear c19
 replace H := Option.bind_eq_some_iff.mp H
 obtain ⟨⟨t320, t321⟩, A200, H⟩ := H
 replace H : ((spec_AheadOf.f k3 t308 x43_2 x48_3).bind fun bt322 => (if (t321 != bt322.2) = true then (none) else (if (t320 != bt322.1) = true then (none) else (if t320 = true then (if 0 ≤ x43_2 then (if x43_2 < (t311.length : Int) then (if 0 ≤ x48_3 then (if x48_3 < (t311.length : Int) then (if (rd t311 x43_2) ≥ (rd t311 x48_3) then (none) else (laws_FnLamport.l1 k3 t308 t311 x43_2 (t311.length : Int) x43_2 (t311.length : Int) (wrap64 (x48_3 + 1)))) else (none)) else (none)) else (none)) else (none)) else (laws_FnLamport.l1 k3 t308 t311 x43_2 (t311.length : Int) x43_2 (t311.length : Int) (wrap64 (x48_3 + 1))))))) = some r := H
 have A20 := Aside0.mk A200
 clear A200
 replace H := Option.bind_eq_some_iff.mp H
 obtain ⟨⟨t322, t323⟩, A210, H⟩ := H
 replace H : (if (t321 != t323) = true then (none) else (if (t320 != t322) = true then (none) else (if t320 = true then (if 0 ≤ x43_2 then (if x43_2 < (t311.length : Int) then (if 0 ≤ x48_3 then (if x48_3 < (t311.length : Int) then (if (rd t311 x43_2) ≥ (rd t311 x48_3) then (none) else (laws_FnLamport.l1 k3 t308 t311 x43_2 (t311.length : Int) x43_2 (t311.length : Int) (wrap64 (x48_3 + 1)))) else (none)) else (none)) else (none)) else (none)) else (laws_FnLamport.l1 k3 t308 t311 x43_2 (t311.length : Int) x43_2 (t311.length : Int) (wrap64 (x48_3 + 1)))))) = some r := H
 have A21 := Aside0.mk A210
 clear A210
 by_cases c22 : (t321 != t323) = true
 ·rw [if_pos c22] at H
  exact absurd H (by simp)
 rw [if_neg c22] at H
 have c22b0 : (t321 != t323) = false := by simpa using c22
 (try (have c22b1 : decide (t321 = t323) = true := by simpa using c22))
 (try (have c22b2 : (t321 == t323) = true := by simpa using c22))
 clear c22
 by_cases c23 : (t320 != t322) = true
 ·rw [if_pos c23] at H
  exact absurd H (by simp)
 rw [if_neg c23] at H
 have c23b0 : (t320 != t322) = false := by simpa using c23
 (try (have c23b1 : decide (t320 = t322) = true := by simpa using c23))
 (try (have c23b2 : (t320 == t322) = true := by simpa using c23))
 clear c23
 by_cases c24 : t320 = true
 rotate_left
 ·replace c24 := Bool.eq_false_iff.mpr c24
  subst c24
  have H1 : (laws_FnLamport.l1 k3 t308 t311 x43_2 (t311.length : Int) x43_2 (t311.length : Int) (wrap64 (x48_3 + 1))) = some r := by rw [if_neg (show ¬ (false = true) by decide)] at H; exact H
  clear H
  have H := H1
  clear H1
  have H' := Aside0.mk H
  clear H
  go_wp2_with (first | (go_at_call 20; (with_reducible refine (impl_AheadOf.calls k3 _ _ t308 x43_2 x48_3 false t321 _ ?side1 ?side2 A20.out).mono ?_); (case side1 => exact kc_ (Kd.R_reads' HO_3.out).2.2); (case side2 => exact (Kd.R_reads' HO_3.out).2.1); rintro e w32 ⟨rfl, hb⟩; replace HO_3 := rb_ HO_3 hb; replace HO_4 := rb_ HO_4 hb; replace HB := Aside0.mk (below_step bl_ hb); clear hb) | (go_at_call 21; (with_reducible refine (spec_AheadOf.calls k3 _ _ t308 x43_2 x48_3 t322 t323 _ ?side1 ?side2 A21.out).mono ?_); (case side1 => exact kc_ (Kd.R_reads' HO_3.out).2.2); (case side2 => exact (Kd.R_reads' HO_3.out).2.1); rintro e w33 ⟨rfl, hb⟩; replace HO_3 := rb_ HO_3 hb; replace HO_4 := rb_ HO_4 hb; replace HB := Aside0.mk (below_step bl_ hb); clear hb))
  repeat (go_quiet (first | (go_at_call 20; (with_reducible refine (impl_AheadOf.calls k3 _ _ t308 x43_2 x48_3 false t321 _ ?side1 ?side2 A20.out).mono ?_); (case side1 => exact kc_ (Kd.R_reads' HO_3.out).2.2); (case side2 => exact (Kd.R_reads' HO_3.out).2.1); rintro e w32 ⟨rfl, hb⟩; replace HO_3 := rb_ HO_3 hb; replace HO_4 := rb_ HO_4 hb; replace HB := Aside0.mk (below_step bl_ hb); clear hb) | (go_at_call 21; (with_reducible refine (spec_AheadOf.calls k3 _ _ t308 x43_2 x48_3 t322 t323 _ ?side1 ?side2 A21.out).mono ?_); (case side1 => exact kc_ (Kd.R_reads' HO_3.out).2.2); (case side2 => exact (Kd.R_reads' HO_3.out).2.1); rintro e w33 ⟨rfl, hb⟩; replace HO_3 := rb_ HO_3 hb; replace HO_4 := rb_ HO_4 hb; replace HB := Aside0.mk (below_step bl_ hb); clear hb)); try go_wp2_with (first | (go_at_call 20; (with_reducible refine (impl_AheadOf.calls k3 _ _ t308 x43_2 x48_3 false t321 _ ?side1 ?side2 A20.out).mono ?_); (case side1 => exact kc_ (Kd.R_reads' HO_3.out).2.2); (case side2 => exact (Kd.R_reads' HO_3.out).2.1); rintro e w32 ⟨rfl, hb⟩; replace HO_3 := rb_ HO_3 hb; replace HO_4 := rb_ HO_4 hb; replace HB := Aside0.mk (below_step bl_ hb); clear hb) | (go_at_call 21; (with_reducible refine (spec_AheadOf.calls k3 _ _ t308 x43_2 x48_3 t322 t323 _ ?side1 ?side2 A21.out).mono ?_); (case side1 => exact kc_ (Kd.R_reads' HO_3.out).2.2); (case side2 => exact (Kd.R_reads' HO_3.out).2.1); rintro e w33 ⟨rfl, hb⟩; replace HO_3 := rb_ HO_3 hb; replace HO_4 := rb_ HO_4 hb; replace HB := Aside0.mk (below_step bl_ hb); clear hb)))
  go_roundg k3
  case measure => have := HJ5.out; have := HK2.out; have := HK3.out; omega
  case rel => exact ⟨(wrap64 (x48_3 + 1)), (by first | rfl | (simp; done) | (simp [*]; done)), H', ⟨by have := HJ5.out; have := HK2.out; have := HK3.out; omega⟩, ⟨by exact kr_ HO_3.out⟩, ⟨by exact kr_ HO_4.out⟩, ⟨bl_⟩⟩
 subst c24
 have H1 : (if 0 ≤ x43_2 then (if x43_2 < (t311.length : Int) then (if 0 ≤ x48_3 then (if x48_3 < (t311.length : Int) then (if (rd t311 x43_2) ≥ (rd t311 x48_3) then (none) else (laws_FnLamport.l1 k3 t308 t311 x43_2 (t311.length : Int) x43_2 (t311.length : Int) (wrap64 (x48_3 + 1)))) else (none)) else (none)) else (none)) else (none)) = some r := by rw [if_pos rfl] at H; exact H
 clear H
 have H := H1
 clear H1
 by_cases c25 : 0 ≤ x43_2
 rotate_left
 ·rw [if_neg c25] at H
  exact absurd H (by simp)
 rw [if_pos c25] at H
 have c25b0 : decide (0 ≤ x43_2) = true := decide_eq_true c25
 clear c25
 by_cases c26 : x43_2 < (t311.length : Int)
 rotate_left
 ·rw [if_neg c26] at H
  exact absurd H (by simp)
 rw [if_pos c26] at H
 have c26b0 : decide (x43_2 < (t311.length : Int)) = true := decide_eq_true c26
 clear c26
 by_cases c27 : 0 ≤ x48_3
 rotate_left
 ·rw [if_neg c27] at H
  exact absurd H (by simp)
 rw [if_pos c27] at H
 have c27b0 : decide (0 ≤ x48_3) = true := decide_eq_true c27
 clear c27
 by_cases c28 : x48_3 < (t311.length : Int)
 rotate_left
 ·rw [if_neg c28] at H
  exact absurd H (by simp)
 rw [if_pos c28] at H
 have c28b0 : decide (x48_3 < (t311.length : Int)) = true := decide_eq_true c28
 clear c28
 by_cases c29 : (rd t311 x43_2) ≥ (rd t311 x48_3)
 ·rw [if_pos c29] at H
  exact absurd H (by simp)
 rw [if_neg c29] at H
 have c29b0 : decide ((rd t311 x48_3) ≤ (rd t311 x43_2)) = false := decide_eq_false c29
 clear c29
 have H' := Aside0.mk H
 clear H
 go_wp2_with (first | (go_at_call 20; (with_reducible refine (impl_AheadOf.calls k3 _ _ t308 x43_2 x48_3 true t321 _ ?side1 ?side2 A20.out).mono ?_); (case side1 => exact kc_ (Kd.R_reads' HO_3.out).2.2); (case side2 => exact (Kd.R_reads' HO_3.out).2.1); rintro e w30 ⟨rfl, hb⟩; replace HO_3 := rb_ HO_3 hb; replace HO_4 := rb_ HO_4 hb; replace HB := Aside0.mk (below_step bl_ hb); clear hb) | (go_at_call 21; (with_reducible refine (spec_AheadOf.calls k3 _ _ t308 x43_2 x48_3 t322 t323 _ ?side1 ?side2 A21.out).mono ?_); (case side1 => exact kc_ (Kd.R_reads' HO_3.out).2.2); (case side2 => exact (Kd.R_reads' HO_3.out).2.1); rintro e w31 ⟨rfl, hb⟩; replace HO_3 := rb_ HO_3 hb; replace HO_4 := rb_ HO_4 hb; replace HB := Aside0.mk (below_step bl_ hb); clear hb; have p324 : 0 ≤ (x43_2 : Int) := of_decide_eq_true (by first | (with_reducible assumption) | assumption); have q324 : x43_2 < (t311.length : Int) := of_decide_eq_true (by first | (with_reducible assumption) | assumption); obtain ⟨ad324, e324, hx324_0⟩ := Kd.at_int (Kd.R_reads' HO_4.out).2.2 x43_2 p324 q324; cases e324; replace p324 := eq_true p324; replace q324 := eq_true q324; have p325 : 0 ≤ (x48_3 : Int) := of_decide_eq_true (by first | (with_reducible assumption) | assumption); have q325 : x48_3 < (t311.length : Int) := of_decide_eq_true (by first | (with_reducible assumption) | assumption); obtain ⟨ad325, e325, hx325_0⟩ := Kd.at_int (Kd.R_reads' HO_4.out).2.2 x48_3 p325 q325; obtain rfl : ad324 = ad325 := (by injection e325); replace p325 := eq_true p325; replace q325 := eq_true q325))
 repeat (go_quiet (first | (go_at_call 20; (with_reducible refine (impl_AheadOf.calls k3 _ _ t308 x43_2 x48_3 true t321 _ ?side1 ?side2 A20.out).mono ?_); (case side1 => exact kc_ (Kd.R_reads' HO_3.out).2.2); (case side2 => exact (Kd.R_reads' HO_3.out).2.1); rintro e w30 ⟨rfl, hb⟩; replace HO_3 := rb_ HO_3 hb; replace HO_4 := rb_ HO_4 hb; replace HB := Aside0.mk (below_step bl_ hb); clear hb) | (go_at_call 21; (with_reducible refine (spec_AheadOf.calls k3 _ _ t308 x43_2 x48_3 t322 t323 _ ?side1 ?side2 A21.out).mono ?_); (case side1 => exact kc_ (Kd.R_reads' HO_3.out).2.2); (case side2 => exact (Kd.R_reads' HO_3.out).2.1); rintro e w31 ⟨rfl, hb⟩; replace HO_3 := rb_ HO_3 hb; replace HO_4 := rb_ HO_4 hb; replace HB := Aside0.mk (below_step bl_ hb); clear hb; have p324 : 0 ≤ (x43_2 : Int) := of_decide_eq_true (by first | (with_reducible assumption) | assumption); have q324 : x43_2 < (t311.length : Int) := of_decide_eq_true (by first | (with_reducible assumption) | assumption); obtain ⟨ad324, e324, hx324_0⟩ := Kd.at_int (Kd.R_reads' HO_4.out).2.2 x43_2 p324 q324; cases e324; replace p324 := eq_true p324; replace q324 := eq_true q324; have p325 : 0 ≤ (x48_3 : Int) := of_decide_eq_true (by first | (with_reducible assumption) | assumption); have q325 : x48_3 < (t311.length : Int) := of_decide_eq_true (by first | (with_reducible assumption) | assumption); obtain ⟨ad325, e325, hx325_0⟩ := Kd.at_int (Kd.R_reads' HO_4.out).2.2 x48_3 p325 q325; obtain rfl : ad324 = ad325 := (by injection e325); replace p325 := eq_true p325; replace q325 := eq_true q325)); try go_wp2_with (first | (go_at_call 20; (with_reducible refine (impl_AheadOf.calls k3 _ _ t308 x43_2 x48_3 true t321 _ ?side1 ?side2 A20.out).mono ?_); (case side1 => exact kc_ (Kd.R_reads' HO_3.out).2.2); (case side2 => exact (Kd.R_reads' HO_3.out).2.1); rintro e w30 ⟨rfl, hb⟩; replace HO_3 := rb_ HO_3 hb; replace HO_4 := rb_ HO_4 hb; replace HB := Aside0.mk (below_step bl_ hb); clear hb) | (go_at_call 21; (with_reducible refine (spec_AheadOf.calls k3 _ _ t308 x43_2 x48_3 t322 t323 _ ?side1 ?side2 A21.out).mono ?_); (case side1 => exact kc_ (Kd.R_reads' HO_3.out).2.2); (case side2 => exact (Kd.R_reads' HO_3.out).2.1); rintro e w31 ⟨rfl, hb⟩; replace HO_3 := rb_ HO_3 hb; replace HO_4 := rb_ HO_4 hb; replace HB := Aside0.mk (below_step bl_ hb); clear hb; have p324 : 0 ≤ (x43_2 : Int) := of_decide_eq_true (by first | (with_reducible assumption) | assumption); have q324 : x43_2 < (t311.length : Int) := of_decide_eq_true (by first | (with_reducible assumption) | assumption); obtain ⟨ad324, e324, hx324_0⟩ := Kd.at_int (Kd.R_reads' HO_4.out).2.2 x43_2 p324 q324; cases e324; replace p324 := eq_true p324; replace q324 := eq_true q324; have p325 : 0 ≤ (x48_3 : Int) := of_decide_eq_true (by first | (with_reducible assumption) | assumption); have q325 : x48_3 < (t311.length : Int) := of_decide_eq_true (by first | (with_reducible assumption) | assumption); obtain ⟨ad325, e325, hx325_0⟩ := Kd.at_int (Kd.R_reads' HO_4.out).2.2 x48_3 p325 q325; obtain rfl : ad324 = ad325 := (by injection e325); replace p325 := eq_true p325; replace q325 := eq_true q325)))
 go_roundg k3
 case measure => have := HJ5.out; have := HK2.out; have := HK3.out; omega
 case rel => exact ⟨(wrap64 (x48_3 + 1)), (by first | rfl | (simp; done) | (simp [*]; done)), H', ⟨by have := HJ5.out; have := HK2.out; have := HK3.out; omega⟩, ⟨by exact kr_ HO_3.out⟩, ⟨by exact kr_ HO_4.out⟩, ⟨bl_⟩⟩

/-- THE ONE PURE STATEMENT of laws_FnLamport: yours. -/
def laws_FnLamport.Pure : Prop := ∀ (l0 : List Int), l0.length ≤ maxLen → l0.length * 1 ≤ 140737488351232 → (∀ x ∈ l0, (Lit.int .u8 x).wf = true) → ∃ k, laws_FnLamport.f k l0 = some true
theorem laws_FnLamport.walk (P : laws_FnLamport.Pure) (a0 : Option Addr) (len0 cap0 : Nat) (z0 : List Int) (w : World) (w0 : (a0 = none ∧ len0 = 0 ∧ cap0 = 0 ∧ z0 = []) ∨ ∃ x, a0 = some x ∧ len0 ≤ cap0 ∧ cap0 ≤ maxLen ∧ z0.length = cap0 ∧ (∀ i, i < z0.length → w.cell? (x.add i) = some (.int .u8 (z0.getD i 0))) ∧ ∀ n ∈ z0, (Lit.int .u8 n).wf = true) (y0 : len0 * 1 ≤ 140737488351232) :
  Calls Try.prog 5 #[.slice a0 len0 cap0] w fun e w' => e = .returned (.bool true) ∧ Below w.heap.size w w' := by
 obtain ⟨l0, rfl, hr0, hm0, hw0, hc0⟩ := ReadsInt.ofRowC w0
 obtain ⟨k, h⟩ := P l0 hm0 y0 hw0
 refine (laws_FnLamport.calls k _ _ l0 true w (Kd.C_of_reads (d := (0 : Int)) (h1 := fun _ => rfl) hr0) hc0 h).mono ?_
 rintro e w' ⟨rfl, hd⟩
 exact ⟨rfl, hd⟩

end Go.Proofs.Ytgdcooiaeeajmaa.PLA
