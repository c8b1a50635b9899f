/- What this text proves: the machine calls of these functions return what the plain functions say. Conditions: as each theorem says. Printed by a program of this session out of the translation. -/
import Derived.Test.YtcloilddgimamaaPFCx0
import Derived.Test.YtcloilddgimamaaPFCx1
import Derived.Test.YtcloilddgimamaaPFCx2
import Derived.Test.YtcloilddgimamaaPFCx3
import Derived.Test.YtcloilddgimamaaPFCx4
import Derived.Test.YtcloilddgimamaaPFCx5
import Derived.Test.YtcloilddgimamaaPFCx8
namespace Go.Proofs.Ytcloilddgimamaa.PFC
open Go.RowKit Go.Proofs.YtcloilddgimamaaW.PrintWords Go.Proofs.YtcloilddgimamaaW.PrintLast Go.Proofs.YtcloilddgimamaaW.PrintMore
attribute [local go_sem] max2_int min2_int max_two min_two max_three min_three max_four min_four   -- for this text's walks alone
set_option linter.unusedVariables false
set_option linter.unusedSimpArgs false

/-! ### laws_FnCounters: function 9 -/
mutual
def laws_FnCounters.j0 : Nat → Int → Int → Bool → Bool → List Int → List Int → List Int → List Int → List Int → List Int → List Int → List Int → Option (Bool)
 | 0, _, _, _, _, _, _, _, _, _, _, _, _ => none
 | k + 1, x8, x9, x11, x71, x304000, x304001, x305000, x305001, x314000, x314001, x322000, x322001 => if x71 = true then (none) else ((impl_CountBy.f k x314000 x314001 x8 x9).bind fun bt331 => ((spec_CountBy.f k x314000 x314001 x8 x9).bind fun bt339 => (if (bt331.2.2 != bt339.2.2) = true then (none) else ((laws_sameCounters.f k bt331.1 bt331.2.1 bt339.1 bt339.2.1).bind fun t347 => (laws_FnCounters.j1 k x9 x11 bt331.2.2 (!t347) x304000 x304001 x305000 x305001 x314000 x314001 x322000 x322001 bt331.1 bt331.2.1)))))
def laws_FnCounters.j1 : Nat → Int → Bool → Bool → Bool → List Int → List Int → List Int → List Int → List Int → List Int → List Int → List Int → List Int → List Int → Option (Bool)
 | 0, _, _, _, _, _, _, _, _, _, _, _, _, _, _ => none
 | k + 1, x9, x11, x15, x94, x304000, x304001, x305000, x305001, x314000, x314001, x322000, x322001, x339000, x339001 => if x94 = true then (none) else (if x15 = true then ((impl_ValueOf.f k x314000 x314001).bind fun bt348 => ((impl_ValueOf.f k x339000 x339001).bind fun bt350 => ((impl_MergeCounter.f k x314000 x314001 x339000 x339001).bind fun bt352 => (if bt348.2 = true then (if bt350.2 = true then (if bt352.2.2 = true then (if bt350.1 = (wrap64 (bt348.1 + x9)) then ((laws_sameCounters.f k bt352.1 bt352.2.1 x339000 x339001).bind fun t360 => (if t360 = true then (laws_FnCounters.j2 k x11 x304000 x304001 x305000 x305001 x314000 x314001 x322000 x322001) else (none))) else (none)) else (none)) else (none)) else (none))))) else (laws_FnCounters.j2 k x11 x304000 x304001 x305000 x305001 x314000 x314001 x322000 x322001))
def laws_FnCounters.j2 : Nat → Bool → List Int → List Int → List Int → List Int → List Int → List Int → List Int → List Int → Option (Bool)
 | 0, _, _, _, _, _, _, _, _, _ => none
 | k + 1, x11, x304000, x304001, x305000, x305001, x314000, x314001, x322000, x322001 => if x11 = true then ((spec_GoodCounter.f k x314000 x314001).bind fun t361 => (laws_FnCounters.j3 k (!t361) x304000 x304001 x305000 x305001 x314000 x314001 x322000 x322001)) else (laws_FnCounters.j3 k true x304000 x304001 x305000 x305001 x314000 x314001 x322000 x322001)
def laws_FnCounters.j3 : Nat → Bool → List Int → List Int → List Int → List Int → List Int → List Int → List Int → List Int → Option (Bool)
 | 0, _, _, _, _, _, _, _, _, _ => none
 | k + 1, x141, x304000, x304001, x305000, x305001, x314000, x314001, x322000, x322001 => if x141 = true then (some true) else ((impl_MergeCounter.f k x305000 x305001 x304000 x304001).bind fun bt362 => ((impl_MergeCounter.f k x322000 x322001 x322000 x322001).bind fun bt370 => ((impl_MergeCounter.f k x322000 x322001 x314000 x314001).bind fun bt378 => ((impl_MergeCounter.f k x305000 x305001 x314000 x314001).bind fun bt386 => ((impl_MergeCounter.f k x304000 x304001 bt386.1 bt386.2.1).bind fun bt394 => (if bt362.2.2 = true then (if bt370.2.2 = true then (if bt378.2.2 = true then (if bt386.2.2 = true then (if bt394.2.2 = true then ((laws_sameCounters.f k bt362.1 bt362.2.1 x322000 x322001).bind fun t402 => (if t402 = true then ((laws_sameCounters.f k bt370.1 bt370.2.1 x322000 x322001).bind fun t403 => (if t403 = true then ((laws_sameCounters.f k bt378.1 bt378.2.1 bt394.1 bt394.2.1).bind fun t404 => (some t404)) else (none))) else (none))) else (none)) else (none)) else (none)) else (none)) else (none)))))))
end
def laws_FnCounters.f (k : Nat) (l0 : List Int) (l1 : List Int) : Option (Bool) := if (wrap64 ((l0.length : Int) + (l1.length : Int))) > 1048576 then (some true) else ((spec_DrawMergeCounter.f k l0).bind fun bt291 => ((spec_DrawCountBy.f k l1).bind fun bt305 => ((impl_MergeCounter.f k bt291.1 bt291.2.1 bt291.2.2.1 bt291.2.2.2).bind fun bt314 => ((spec_MergeCounter.f k bt291.1 bt291.2.1 bt291.2.2.1 bt291.2.2.2).bind fun bt322 => (if (bt314.2.2 != bt322.2.2) = true then (none) else ((laws_sameCounters.f k bt314.1 bt314.2.1 bt322.1 bt322.2.1).bind fun t330 => (laws_FnCounters.j0 k bt305.2.2.1 bt305.2.2.2 bt314.2.2 (!t330) bt291.1 bt291.2.1 bt291.2.2.1 bt291.2.2.2 bt305.1 bt305.2.1 bt314.1 bt314.2.1)))))))
theorem laws_FnCounters.mono_l : ∀ k, (∀ y0 y1 y2 y3 y4 y5 y6 y7 y8 y9 y10 y11, LeO (laws_FnCounters.j0 k y0 y1 y2 y3 y4 y5 y6 y7 y8 y9 y10 y11) (laws_FnCounters.j0 (k + 1) y0 y1 y2 y3 y4 y5 y6 y7 y8 y9 y10 y11)) ∧ (∀ y0 y1 y2 y3 y4 y5 y6 y7 y8 y9 y10 y11 y12 y13, LeO (laws_FnCounters.j1 k y0 y1 y2 y3 y4 y5 y6 y7 y8 y9 y10 y11 y12 y13) (laws_FnCounters.j1 (k + 1) y0 y1 y2 y3 y4 y5 y6 y7 y8 y9 y10 y11 y12 y13)) ∧ (∀ y0 y1 y2 y3 y4 y5 y6 y7 y8, LeO (laws_FnCounters.j2 k y0 y1 y2 y3 y4 y5 y6 y7 y8) (laws_FnCounters.j2 (k + 1) y0 y1 y2 y3 y4 y5 y6 y7 y8)) ∧ (∀ y0 y1 y2 y3 y4 y5 y6 y7 y8, LeO (laws_FnCounters.j3 k y0 y1 y2 y3 y4 y5 y6 y7 y8) (laws_FnCounters.j3 (k + 1) y0 y1 y2 y3 y4 y5 y6 y7 y8))
 | 0 => ⟨fun _ _ _ _ _ _ _ _ _ _ _ _ r h => by simp [laws_FnCounters.j0] at h, fun _ _ _ _ _ _ _ _ _ _ _ _ _ _ r h => by simp [laws_FnCounters.j1] at h, fun _ _ _ _ _ _ _ _ _ r h => by simp [laws_FnCounters.j2] at h, fun _ _ _ _ _ _ _ _ _ r h => by simp [laws_FnCounters.j3] at h⟩
 | k + 1 => by
  obtain ⟨ih0, ih1, ih2, ih3⟩ := laws_FnCounters.mono_l k
  refine ⟨?_, ?_, ?_, ?_⟩
  ·intro y0 y1 y2 y3 y4 y5 y6 y7 y8 y9 y10 y11
   unfold laws_FnCounters.j0
   repeat' first
   | (with_reducible exact ih0 _ _ _ _ _ _ _ _ _ _ _ _)
   | (with_reducible exact ih1 _ _ _ _ _ _ _ _ _ _ _ _ _ _)
   | (with_reducible exact ih2 _ _ _ _ _ _ _ _ _)
   | (with_reducible exact ih3 _ _ _ _ _ _ _ _ _)
   | (with_reducible exact impl_CountBy.mono _ _ _ _ _)
   | (with_reducible exact impl_MergeCounter.mono _ _ _ _ _)
   | (with_reducible exact impl_ValueOf.mono _ _ _)
   | (with_reducible exact laws_sameCounters.mono _ _ _ _ _)
   | (with_reducible exact spec_CountBy.mono _ _ _ _ _)
   | (with_reducible exact spec_DrawCountBy.mono _ _)
   | (with_reducible exact spec_DrawMergeCounter.mono _ _)
   | (with_reducible exact spec_GoodCounter.mono _ _ _)
   | (with_reducible exact spec_MergeCounter.mono _ _ _ _ _)
   | (with_reducible exact LeO.refl _)
   | (with_reducible exact LeO.none _)
   | (with_reducible refine LeO.ite ?_ ?_)
   | (with_reducible refine LeO.bind ?_ (fun _ => ?_))
   | exact ih0 _ _ _ _ _ _ _ _ _ _ _ _
   | exact ih1 _ _ _ _ _ _ _ _ _ _ _ _ _ _
   | exact ih2 _ _ _ _ _ _ _ _ _
   | exact ih3 _ _ _ _ _ _ _ _ _
   | exact impl_CountBy.mono _ _ _ _ _
   | exact impl_MergeCounter.mono _ _ _ _ _
   | exact impl_ValueOf.mono _ _ _
   | exact laws_sameCounters.mono _ _ _ _ _
   | exact spec_CountBy.mono _ _ _ _ _
   | exact spec_DrawCountBy.mono _ _
   | exact spec_DrawMergeCounter.mono _ _
   | exact spec_GoodCounter.mono _ _ _
   | exact spec_MergeCounter.mono _ _ _ _ _
   | exact LeO.none _
   | refine LeO.ite ?_ ?_
   | refine LeO.bind ?_ (fun _ => ?_)
  ·intro y0 y1 y2 y3 y4 y5 y6 y7 y8 y9 y10 y11 y12 y13
   unfold laws_FnCounters.j1
   repeat' first
   | (with_reducible exact ih0 _ _ _ _ _ _ _ _ _ _ _ _)
   | (with_reducible exact ih1 _ _ _ _ _ _ _ _ _ _ _ _ _ _)
   | (with_reducible exact ih2 _ _ _ _ _ _ _ _ _)
   | (with_reducible exact ih3 _ _ _ _ _ _ _ _ _)
   | (with_reducible exact impl_CountBy.mono _ _ _ _ _)
   | (with_reducible exact impl_MergeCounter.mono _ _ _ _ _)
   | (with_reducible exact impl_ValueOf.mono _ _ _)
   | (with_reducible exact laws_sameCounters.mono _ _ _ _ _)
   | (with_reducible exact spec_CountBy.mono _ _ _ _ _)
   | (with_reducible exact spec_DrawCountBy.mono _ _)
   | (with_reducible exact spec_DrawMergeCounter.mono _ _)
   | (with_reducible exact spec_GoodCounter.mono _ _ _)
   | (with_reducible exact spec_MergeCounter.mono _ _ _ _ _)
   | (with_reducible exact LeO.refl _)
   | (with_reducible exact LeO.none _)
   | (with_reducible refine LeO.ite ?_ ?_)
   | (with_reducible refine LeO.bind ?_ (fun _ => ?_))
   | exact ih0 _ _ _ _ _ _ _ _ _ _ _ _
   | exact ih1 _ _ _ _ _ _ _ _ _ _ _ _ _ _
   | exact ih2 _ _ _ _ _ _ _ _ _
   | exact ih3 _ _ _ _ _ _ _ _ _
   | exact impl_CountBy.mono _ _ _ _ _
   | exact impl_MergeCounter.mono _ _ _ _ _
   | exact impl_ValueOf.mono _ _ _
   | exact laws_sameCounters.mono _ _ _ _ _
   | exact spec_CountBy.mono _ _ _ _ _
   | exact spec_DrawCountBy.mono _ _
   | exact spec_DrawMergeCounter.mono _ _
   | exact spec_GoodCounter.mono _ _ _
   | exact spec_MergeCounter.mono _ _ _ _ _
   | exact LeO.none _
   | refine LeO.ite ?_ ?_
   | refine LeO.bind ?_ (fun _ => ?_)
  ·intro y0 y1 y2 y3 y4 y5 y6 y7 y8
   unfold laws_FnCounters.j2
   repeat' first
   | (with_reducible exact ih0 _ _ _ _ _ _ _ _ _ _ _ _)
   | (with_reducible exact ih1 _ _ _ _ _ _ _ _ _ _ _ _ _ _)
   | (with_reducible exact ih2 _ _ _ _ _ _ _ _ _)
   | (with_reducible exact ih3 _ _ _ _ _ _ _ _ _)
   | (with_reducible exact impl_CountBy.mono _ _ _ _ _)
   | (with_reducible exact impl_MergeCounter.mono _ _ _ _ _)
   | (with_reducible exact impl_ValueOf.mono _ _ _)
   | (with_reducible exact laws_sameCounters.mono _ _ _ _ _)
   | (with_reducible exact spec_CountBy.mono _ _ _ _ _)
   | (with_reducible exact spec_DrawCountBy.mono _ _)
   | (with_reducible exact spec_DrawMergeCounter.mono _ _)
   | (with_reducible exact spec_GoodCounter.mono _ _ _)
   | (with_reducible exact spec_MergeCounter.mono _ _ _ _ _)
   | (with_reducible exact LeO.refl _)
   | (with_reducible exact LeO.none _)
   | (with_reducible refine LeO.ite ?_ ?_)
   | (with_reducible refine LeO.bind ?_ (fun _ => ?_))
   | exact ih0 _ _ _ _ _ _ _ _ _ _ _ _
   | exact ih1 _ _ _ _ _ _ _ _ _ _ _ _ _ _
   | exact ih2 _ _ _ _ _ _ _ _ _
   | exact ih3 _ _ _ _ _ _ _ _ _
   | exact impl_CountBy.mono _ _ _ _ _
   | exact impl_MergeCounter.mono _ _ _ _ _
   | exact impl_ValueOf.mono _ _ _
   | exact laws_sameCounters.mono _ _ _ _ _
   | exact spec_CountBy.mono _ _ _ _ _
   | exact spec_DrawCountBy.mono _ _
   | exact spec_DrawMergeCounter.mono _ _
   | exact spec_GoodCounter.mono _ _ _
   | exact spec_MergeCounter.mono _ _ _ _ _
   | exact LeO.none _
   | refine LeO.ite ?_ ?_
   | refine LeO.bind ?_ (fun _ => ?_)
  ·intro y0 y1 y2 y3 y4 y5 y6 y7 y8
   unfold laws_FnCounters.j3
   repeat' first
   | (with_reducible exact ih0 _ _ _ _ _ _ _ _ _ _ _ _)
   | (with_reducible exact ih1 _ _ _ _ _ _ _ _ _ _ _ _ _ _)
   | (with_reducible exact ih2 _ _ _ _ _ _ _ _ _)
   | (with_reducible exact ih3 _ _ _ _ _ _ _ _ _)
   | (with_reducible exact impl_CountBy.mono _ _ _ _ _)
   | (with_reducible exact impl_MergeCounter.mono _ _ _ _ _)
   | (with_reducible exact impl_ValueOf.mono _ _ _)
   | (with_reducible exact laws_sameCounters.mono _ _ _ _ _)
   | (with_reducible exact spec_CountBy.mono _ _ _ _ _)
   | (with_reducible exact spec_DrawCountBy.mono _ _)
   | (with_reducible exact spec_DrawMergeCounter.mono _ _)
   | (with_reducible exact spec_GoodCounter.mono _ _ _)
   | (with_reducible exact spec_MergeCounter.mono _ _ _ _ _)
   | (with_reducible exact LeO.refl _)
   | (with_reducible exact LeO.none _)
   | (with_reducible refine LeO.ite ?_ ?_)
   | (with_reducible refine LeO.bind ?_ (fun _ => ?_))
   | exact ih0 _ _ _ _ _ _ _ _ _ _ _ _
   | exact ih1 _ _ _ _ _ _ _ _ _ _ _ _ _ _
   | exact ih2 _ _ _ _ _ _ _ _ _
   | exact ih3 _ _ _ _ _ _ _ _ _
   | exact impl_CountBy.mono _ _ _ _ _
   | exact impl_MergeCounter.mono _ _ _ _ _
   | exact impl_ValueOf.mono _ _ _
   | exact laws_sameCounters.mono _ _ _ _ _
   | exact spec_CountBy.mono _ _ _ _ _
   | exact spec_DrawCountBy.mono _ _
   | exact spec_DrawMergeCounter.mono _ _
   | exact spec_GoodCounter.mono _ _ _
   | exact spec_MergeCounter.mono _ _ _ _ _
   | exact LeO.none _
   | refine LeO.ite ?_ ?_
   | refine LeO.bind ?_ (fun _ => ?_)
theorem laws_FnCounters.mono : ∀ a0 a1 k, LeO (laws_FnCounters.f k a0 a1) (laws_FnCounters.f (k + 1) a0 a1) := by
 intro a0 a1 k
 obtain ⟨ih0, ih1, ih2, ih3⟩ := laws_FnCounters.mono_l k
 unfold laws_FnCounters.f
 repeat' first
   | (with_reducible exact ih0 _ _ _ _ _ _ _ _ _ _ _ _)
   | (with_reducible exact ih1 _ _ _ _ _ _ _ _ _ _ _ _ _ _)
   | (with_reducible exact ih2 _ _ _ _ _ _ _ _ _)
   | (with_reducible exact ih3 _ _ _ _ _ _ _ _ _)
   | (with_reducible exact impl_CountBy.mono _ _ _ _ _)
   | (with_reducible exact impl_MergeCounter.mono _ _ _ _ _)
   | (with_reducible exact impl_ValueOf.mono _ _ _)
   | (with_reducible exact laws_sameCounters.mono _ _ _ _ _)
   | (with_reducible exact spec_CountBy.mono _ _ _ _ _)
   | (with_reducible exact spec_DrawCountBy.mono _ _)
   | (with_reducible exact spec_DrawMergeCounter.mono _ _)
   | (with_reducible exact spec_GoodCounter.mono _ _ _)
   | (with_reducible exact spec_MergeCounter.mono _ _ _ _ _)
   | (with_reducible exact LeO.refl _)
   | (with_reducible exact LeO.none _)
   | (with_reducible refine LeO.ite ?_ ?_)
   | (with_reducible refine LeO.bind ?_ (fun _ => ?_))
   | exact ih0 _ _ _ _ _ _ _ _ _ _ _ _
   | exact ih1 _ _ _ _ _ _ _ _ _ _ _ _ _ _
   | exact ih2 _ _ _ _ _ _ _ _ _
   | exact ih3 _ _ _ _ _ _ _ _ _
   | exact impl_CountBy.mono _ _ _ _ _
   | exact impl_MergeCounter.mono _ _ _ _ _
   | exact impl_ValueOf.mono _ _ _
   | exact laws_sameCounters.mono _ _ _ _ _
   | exact spec_CountBy.mono _ _ _ _ _
   | exact spec_DrawCountBy.mono _ _
   | exact spec_DrawMergeCounter.mono _ _
   | exact spec_GoodCounter.mono _ _ _
   | exact spec_MergeCounter.mono _ _ _ _ _
   | exact LeO.none _
   | refine LeO.ite ?_ ?_
   | refine LeO.bind ?_ (fun _ => ?_)
set_option maxHeartbeats 8000000 in
set_option maxRecDepth 100000 in
theorem laws_FnCounters.calls (k : Nat) (A0 : Option Addr) (c0 : Nat) (l0 : List Int) (A1 : Option Addr) (c1 : Nat) (l1 : List Int) (r : Bool) (w : World) (hr0 : Kd.C (Kd.int .u8) w A0 l0.length l0) (hc0 : l0.length ≤ c0) (hr1 : Kd.C (Kd.int .u8) w A1 l1.length l1) (hc1 : l1.length ≤ c1) (h : laws_FnCounters.f k l0 l1 = some r) :
  Calls Try.prog 9 #[.slice A0 l0.length c0, .slice A1 l1.length c1] w fun e w' => e = .returned (.bool r) ∧ Below w.heap.size w w' := by
 have hu27 := Try.underlying27
 have HR0 := Aside0.mk hr0
 have HC0 := Aside0.mk hc0
 clear hr0 hc0
 have HR1 := Aside0.mk hr1
 have HC1 := Aside0.mk hc1
 clear hr1 hc1
 have HB := Aside0.mk (Below.refl w.heap.size w)
 have H : (if (wrap64 ((l0.length : Int) + (l1.length : Int))) > 1048576 then (some true) else ((spec_DrawMergeCounter.f k l0).bind fun bt291 => ((spec_DrawCountBy.f k l1).bind fun bt305 => ((impl_MergeCounter.f k bt291.1 bt291.2.1 bt291.2.2.1 bt291.2.2.2).bind fun bt314 => ((spec_MergeCounter.f k bt291.1 bt291.2.1 bt291.2.2.1 bt291.2.2.2).bind fun bt322 => (if (bt314.2.2 != bt322.2.2) = true then (none) else ((laws_sameCounters.f k bt314.1 bt314.2.1 bt322.1 bt322.2.1).bind fun t330 => (laws_FnCounters.j0 k bt305.2.2.1 bt305.2.2.2 bt314.2.2 (!t330) bt291.1 bt291.2.1 bt291.2.2.1 bt291.2.2.2 bt305.1 bt305.2.1 bt314.1 bt314.2.1)))))))) = some r := h
 clear h
 by_cases c3 : (wrap64 ((l0.length : Int) + (l1.length : Int))) > 1048576
 ·rw [if_pos c3] at H
  have c3b0 : decide (1048576 < (wrap64 ((l0.length : Int) + (l1.length : Int)))) = true := decide_eq_true c3
  clear c3
  obtain rfl := Option.some.inj H
  go_enter Try.func9, Try.ntmps9
  go_wp2
  go_ret
  exact ⟨ng_, bl_⟩
 rw [if_neg c3] at H
 have c3b0 : decide (1048576 < (wrap64 ((l0.length : Int) + (l1.length : Int)))) = false := decide_eq_false c3
 clear c3
 replace H := Option.bind_eq_some_iff.mp H
 obtain ⟨⟨t291, t294, t297, t300⟩, A40, H⟩ := H
 replace H : ((spec_DrawCountBy.f k l1).bind fun bt305 => ((impl_MergeCounter.f k t291 t294 t297 t300).bind fun bt314 => ((spec_MergeCounter.f k t291 t294 t297 t300).bind fun bt322 => (if (bt314.2.2 != bt322.2.2) = true then (none) else ((laws_sameCounters.f k bt314.1 bt314.2.1 bt322.1 bt322.2.1).bind fun t330 => (laws_FnCounters.j0 k bt305.2.2.1 bt305.2.2.2 bt314.2.2 (!t330) t291 t294 t297 t300 bt305.1 bt305.2.1 bt314.1 bt314.2.1)))))) = some r := H
 have A4 := Aside0.mk A40
 clear A40
 replace H := Option.bind_eq_some_iff.mp H
 obtain ⟨⟨t305, t308, t311, t312⟩, A50, H⟩ := H
 replace H : ((impl_MergeCounter.f k t291 t294 t297 t300).bind fun bt314 => ((spec_MergeCounter.f k t291 t294 t297 t300).bind fun bt322 => (if (bt314.2.2 != bt322.2.2) = true then (none) else ((laws_sameCounters.f k bt314.1 bt314.2.1 bt322.1 bt322.2.1).bind fun t330 => (laws_FnCounters.j0 k t311 t312 bt314.2.2 (!t330) t291 t294 t297 t300 t305 t308 bt314.1 bt314.2.1))))) = some r := H
 have A5 := Aside0.mk A50
 clear A50
 replace H := Option.bind_eq_some_iff.mp H
 obtain ⟨⟨t314, t317, t320⟩, A60, H⟩ := H
 replace H : ((spec_MergeCounter.f k t291 t294 t297 t300).bind fun bt322 => (if (t320 != bt322.2.2) = true then (none) else ((laws_sameCounters.f k t314 t317 bt322.1 bt322.2.1).bind fun t330 => (laws_FnCounters.j0 k t311 t312 t320 (!t330) t291 t294 t297 t300 t305 t308 t314 t317)))) = some r := H
 have A6 := Aside0.mk A60
 clear A60
 replace H := Option.bind_eq_some_iff.mp H
 obtain ⟨⟨t322, t325, t328⟩, A70, H⟩ := H
 replace H : (if (t320 != t328) = true then (none) else ((laws_sameCounters.f k t314 t317 t322 t325).bind fun t330 => (laws_FnCounters.j0 k t311 t312 t320 (!t330) t291 t294 t297 t300 t305 t308 t314 t317))) = some r := H
 have A7 := Aside0.mk A70
 clear A70
 have HC8 := Aside0.mk H
 clear H
 go_enter Try.func9, Try.ntmps9
 go_upto_region 7 with (first | ((with_reducible refine gate_callee (f := 29) rfl ?_); refine goesL_ (some 42) rfl rfl Try.func29 (by kernel_rfl) rfl #[.slice A0 l0.length c0] rfl nc_ ?_; (with_reducible refine (spec_DrawMergeCounter.calls k _ _ l0 t291 t294 t297 t300 _ ?side1 ?side2 A4.out).mono ?_); (case side1 => exact kc_ HR0.out); (case side2 => exact HC0.out); rintro e w9 ⟨v292, v295, v298, v301, rfl, ho0, ho1, ho2, ho3, hb⟩; refine ⟨_, rfl, ?_⟩; have HO293 := Aside0.mk (Kd.R_lower ho0 bz_); have HO296 := Aside0.mk (Kd.Q_lower ho1 bz_); have HO299 := Aside0.mk (Kd.R_lower ho2 bz_); have HO302 := Aside0.mk (Kd.Q_lower ho3 bz_); replace HB := Aside0.mk (below_step bl_ hb); clear hb ho0 ho1 ho2 ho3) | ((with_reducible refine gate_dst (N := 5) rfl ?_); refine box_event rfl (N := 5) rfl (cs := #[.slice none 0 0, .slice none 0 0]) (t := 27) gs_ ?_; intro gb303 hg w10 hbox hb; replace HO293 := rb_ HO293 hb; replace HO296 := qb_ HO296 hb; replace HO299 := rb_ HO299 hb; replace HO302 := qb_ HO302 hb; have BK303 := Aside0.mk (hbox); have GW303 := Aside0.mk ((by rw [hg]; exact bz_ : w.heap.size ≤ gb303)); have GE303 := GW303; replace HB := Aside0.mk (below_step bl_ hb); clear hb hbox hg) | ((with_reducible refine gate_dst (N := 6) rfl ?_); refine box_event rfl (N := 6) rfl (cs := #[.slice none 0 0, .slice none 0 0]) (t := 27) gs_ ?_; intro gb304 hg w11 hbox hb; replace HO293 := rb_ HO293 hb; replace HO296 := qb_ HO296 hb; replace HO299 := rb_ HO299 hb; replace HO302 := qb_ HO302 hb; have BK304 := Aside0.mk (hbox); have GW304 := Aside0.mk ((by rw [hg]; exact bz_ : w.heap.size ≤ gb304)); have GE304 := GW304; replace HB := Aside0.mk (below_step bl_ hb); have NB303_304 := nl_ hg BK303; have NB304_303 := nm_ hg BK303; replace BK303 := bb_ BK303 hb; clear hb hbox hg; obtain ⟨Ao12, co12, eo12⟩ := Kd.R_slice HO293.out; subst eo12; have hnb13 := NB303_304.out; have hnc13 := NB304_303.out; have hcz14_0 : w11.cell? ⟨gb303, 0, none⟩ = some (.slice none 0 0) := bc_ BK303.out 0; have hcz14_1 : w11.cell? ⟨gb303, 1, none⟩ = some (.slice none 0 0) := bc_ BK303.out 1; have hfz14_0 := blk_frozen BK303.out 0; have hfz14_1 := blk_frozen BK303.out 1; obtain ⟨Ao15, co15, eo15, _⟩ := Kd.Q_slice HO296.out; subst eo15; obtain ⟨Ao16, co16, eo16⟩ := Kd.R_slice HO299.out; subst eo16; have hcz17_0 : w11.cell? ⟨gb304, 0, none⟩ = some (.slice none 0 0) := bc_ BK304.out 0; have hcz17_1 : w11.cell? ⟨gb304, 1, none⟩ = some (.slice none 0 0) := bc_ BK304.out 1; have hfz17_0 := blk_frozen BK304.out 0; have hfz17_1 := blk_frozen BK304.out 1; obtain ⟨Ao18, co18, eo18, _⟩ := Kd.Q_slice HO302.out; subst eo18) | ((with_reducible refine gate_callee (f := 30) rfl ?_); refine goesL_ (some 47) rfl rfl Try.func30 (by kernel_rfl) rfl #[.slice A1 l1.length c1] rfl nc_ ?_; (with_reducible refine (spec_DrawCountBy.calls k _ _ l1 t305 t308 t311 t312 _ ?side1 ?side2 A5.out).mono ?_); (case side1 => exact Kd.C_below HR1.out bl_); (case side2 => exact HC1.out); rintro e w19 ⟨v306, v309, rfl, ho0, ho1, hb⟩; refine ⟨_, rfl, ?_⟩; have HO307 := Aside0.mk (Kd.R_lower (Kd.R_new' (Kd.R_new' (Kd.R_new' (Kd.R_new' ho0 (Kd.R_lt (by exact kr_ ((Kd.R_mono (Kd.R_mono (Kd.R_far (p := ⟨gb304, 1, none⟩) (Kd.R_far (p := ⟨gb304, 0, none⟩) (Kd.R_far (p := ⟨gb303, 1, none⟩) (Kd.R_far (p := ⟨gb303, 0, none⟩) (Kd.R_types (Kd.R_types HO293.out BK303.out (by decide)) BK304.out (by decide)) (fun _ hk => hk.1.2) (.slice Ao12 t291.length co12)) (fun _ hk => hk.1.2) (.slice Ao15 t294.length co15)) (fun _ hk => hk.2) (.slice Ao16 t297.length co16)) (fun _ hk => hk.2) (.slice Ao18 t300.length co18)) (fun _ h_ => h_.1)) (fun _ h_ => h_.1)))))) (Kd.Q_lt (by exact kq_ ((Kd.Q_mono (Kd.Q_mono (Kd.Q_far (p := ⟨gb304, 1, none⟩) (Kd.Q_far (p := ⟨gb304, 0, none⟩) (Kd.Q_far (p := ⟨gb303, 1, none⟩) (Kd.Q_far (p := ⟨gb303, 0, none⟩) (Kd.Q_types (Kd.Q_types HO296.out BK303.out (by decide)) BK304.out (by decide)) (fun _ hk => hk.1.2) (.slice Ao12 t291.length co12)) (fun _ hk => hk.1.2) (.slice Ao15 t294.length co15)) (fun _ hk => hk.2) (.slice Ao16 t297.length co16)) (fun _ hk => hk.2) (.slice Ao18 t300.length co18)) (fun _ h_ => h_.1)) (fun _ h_ => h_.1)))))) (Kd.R_lt (by exact kr_ ((Kd.R_mono (Kd.R_mono (Kd.R_far (p := ⟨gb304, 1, none⟩) (Kd.R_far (p := ⟨gb304, 0, none⟩) (Kd.R_far (p := ⟨gb303, 1, none⟩) (Kd.R_far (p := ⟨gb303, 0, none⟩) (Kd.R_types (Kd.R_types HO299.out BK303.out (by decide)) BK304.out (by decide)) (fun _ hk => hk.1.2) (.slice Ao12 t291.length co12)) (fun _ hk => hk.1.2) (.slice Ao15 t294.length co15)) (fun _ hk => hk.2) (.slice Ao16 t297.length co16)) (fun _ hk => hk.2) (.slice Ao18 t300.length co18)) (fun _ h_ => h_.1)) (fun _ h_ => h_.1)))))) (Kd.Q_lt (by exact kq_ ((Kd.Q_mono (Kd.Q_mono (Kd.Q_far (p := ⟨gb304, 1, none⟩) (Kd.Q_far (p := ⟨gb304, 0, none⟩) (Kd.Q_far (p := ⟨gb303, 1, none⟩) (Kd.Q_far (p := ⟨gb303, 0, none⟩) (Kd.Q_types (Kd.Q_types HO302.out BK303.out (by decide)) BK304.out (by decide)) (fun _ hk => hk.1.2) (.slice Ao12 t291.length co12)) (fun _ hk => hk.1.2) (.slice Ao15 t294.length co15)) (fun _ hk => hk.2) (.slice Ao16 t297.length co16)) (fun _ hk => hk.2) (.slice Ao18 t300.length co18)) (fun _ h_ => h_.1)) (fun _ h_ => h_.1)))))) bz_); have HO310 := Aside0.mk (Kd.Q_lower (Kd.Q_new' (Kd.Q_new' (Kd.Q_new' (Kd.Q_new' ho1 (Kd.R_lt (by exact kr_ ((Kd.R_mono (Kd.R_mono (Kd.R_far (p := ⟨gb304, 1, none⟩) (Kd.R_far (p := ⟨gb304, 0, none⟩) (Kd.R_far (p := ⟨gb303, 1, none⟩) (Kd.R_far (p := ⟨gb303, 0, none⟩) (Kd.R_types (Kd.R_types HO293.out BK303.out (by decide)) BK304.out (by decide)) (fun _ hk => hk.1.2) (.slice Ao12 t291.length co12)) (fun _ hk => hk.1.2) (.slice Ao15 t294.length co15)) (fun _ hk => hk.2) (.slice Ao16 t297.length co16)) (fun _ hk => hk.2) (.slice Ao18 t300.length co18)) (fun _ h_ => h_.1)) (fun _ h_ => h_.1)))))) (Kd.Q_lt (by exact kq_ ((Kd.Q_mono (Kd.Q_mono (Kd.Q_far (p := ⟨gb304, 1, none⟩) (Kd.Q_far (p := ⟨gb304, 0, none⟩) (Kd.Q_far (p := ⟨gb303, 1, none⟩) (Kd.Q_far (p := ⟨gb303, 0, none⟩) (Kd.Q_types (Kd.Q_types HO296.out BK303.out (by decide)) BK304.out (by decide)) (fun _ hk => hk.1.2) (.slice Ao12 t291.length co12)) (fun _ hk => hk.1.2) (.slice Ao15 t294.length co15)) (fun _ hk => hk.2) (.slice Ao16 t297.length co16)) (fun _ hk => hk.2) (.slice Ao18 t300.length co18)) (fun _ h_ => h_.1)) (fun _ h_ => h_.1)))))) (Kd.R_lt (by exact kr_ ((Kd.R_mono (Kd.R_mono (Kd.R_far (p := ⟨gb304, 1, none⟩) (Kd.R_far (p := ⟨gb304, 0, none⟩) (Kd.R_far (p := ⟨gb303, 1, none⟩) (Kd.R_far (p := ⟨gb303, 0, none⟩) (Kd.R_types (Kd.R_types HO299.out BK303.out (by decide)) BK304.out (by decide)) (fun _ hk => hk.1.2) (.slice Ao12 t291.length co12)) (fun _ hk => hk.1.2) (.slice Ao15 t294.length co15)) (fun _ hk => hk.2) (.slice Ao16 t297.length co16)) (fun _ hk => hk.2) (.slice Ao18 t300.length co18)) (fun _ h_ => h_.1)) (fun _ h_ => h_.1)))))) (Kd.Q_lt (by exact kq_ ((Kd.Q_mono (Kd.Q_mono (Kd.Q_far (p := ⟨gb304, 1, none⟩) (Kd.Q_far (p := ⟨gb304, 0, none⟩) (Kd.Q_far (p := ⟨gb303, 1, none⟩) (Kd.Q_far (p := ⟨gb303, 0, none⟩) (Kd.Q_types (Kd.Q_types HO302.out BK303.out (by decide)) BK304.out (by decide)) (fun _ hk => hk.1.2) (.slice Ao12 t291.length co12)) (fun _ hk => hk.1.2) (.slice Ao15 t294.length co15)) (fun _ hk => hk.2) (.slice Ao16 t297.length co16)) (fun _ hk => hk.2) (.slice Ao18 t300.length co18)) (fun _ h_ => h_.1)) (fun _ h_ => h_.1)))))) bz_); replace HO293 := Aside0.mk (Kd.R_mono (Kd.R_told (Kd.R_told (Kd.R_old (by exact kr_ ((Kd.R_mono (Kd.R_mono (Kd.R_far (p := ⟨gb304, 1, none⟩) (Kd.R_far (p := ⟨gb304, 0, none⟩) (Kd.R_far (p := ⟨gb303, 1, none⟩) (Kd.R_far (p := ⟨gb303, 0, none⟩) (Kd.R_types (Kd.R_types HO293.out BK303.out (by decide)) BK304.out (by decide)) (fun _ hk => hk.1.2) (.slice Ao12 t291.length co12)) (fun _ hk => hk.1.2) (.slice Ao15 t294.length co15)) (fun _ hk => hk.2) (.slice Ao16 t297.length co16)) (fun _ hk => hk.2) (.slice Ao18 t300.length co18)) (fun _ h_ => h_.1)) (fun _ h_ => h_.1)))) hb) (Kd.R_base ho0)) (Kd.Q_base ho1)) (fun _ h_ => h_.1)); replace HO296 := Aside0.mk (Kd.Q_mono (Kd.Q_told (Kd.Q_told (Kd.Q_old (by exact kq_ ((Kd.Q_mono (Kd.Q_mono (Kd.Q_far (p := ⟨gb304, 1, none⟩) (Kd.Q_far (p := ⟨gb304, 0, none⟩) (Kd.Q_far (p := ⟨gb303, 1, none⟩) (Kd.Q_far (p := ⟨gb303, 0, none⟩) (Kd.Q_types (Kd.Q_types HO296.out BK303.out (by decide)) BK304.out (by decide)) (fun _ hk => hk.1.2) (.slice Ao12 t291.length co12)) (fun _ hk => hk.1.2) (.slice Ao15 t294.length co15)) (fun _ hk => hk.2) (.slice Ao16 t297.length co16)) (fun _ hk => hk.2) (.slice Ao18 t300.length co18)) (fun _ h_ => h_.1)) (fun _ h_ => h_.1)))) hb) (Kd.R_base ho0)) (Kd.Q_base ho1)) (fun _ h_ => h_.1)); replace HO299 := Aside0.mk (Kd.R_mono (Kd.R_told (Kd.R_told (Kd.R_old (by exact kr_ ((Kd.R_mono (Kd.R_mono (Kd.R_far (p := ⟨gb304, 1, none⟩) (Kd.R_far (p := ⟨gb304, 0, none⟩) (Kd.R_far (p := ⟨gb303, 1, none⟩) (Kd.R_far (p := ⟨gb303, 0, none⟩) (Kd.R_types (Kd.R_types HO299.out BK303.out (by decide)) BK304.out (by decide)) (fun _ hk => hk.1.2) (.slice Ao12 t291.length co12)) (fun _ hk => hk.1.2) (.slice Ao15 t294.length co15)) (fun _ hk => hk.2) (.slice Ao16 t297.length co16)) (fun _ hk => hk.2) (.slice Ao18 t300.length co18)) (fun _ h_ => h_.1)) (fun _ h_ => h_.1)))) hb) (Kd.R_base ho0)) (Kd.Q_base ho1)) (fun _ h_ => h_.1)); replace HO302 := Aside0.mk (Kd.Q_mono (Kd.Q_told (Kd.Q_told (Kd.Q_old (by exact kq_ ((Kd.Q_mono (Kd.Q_mono (Kd.Q_far (p := ⟨gb304, 1, none⟩) (Kd.Q_far (p := ⟨gb304, 0, none⟩) (Kd.Q_far (p := ⟨gb303, 1, none⟩) (Kd.Q_far (p := ⟨gb303, 0, none⟩) (Kd.Q_types (Kd.Q_types HO302.out BK303.out (by decide)) BK304.out (by decide)) (fun _ hk => hk.1.2) (.slice Ao12 t291.length co12)) (fun _ hk => hk.1.2) (.slice Ao15 t294.length co15)) (fun _ hk => hk.2) (.slice Ao16 t297.length co16)) (fun _ hk => hk.2) (.slice Ao18 t300.length co18)) (fun _ h_ => h_.1)) (fun _ h_ => h_.1)))) hb) (Kd.R_base ho0)) (Kd.Q_base ho1)) (fun _ h_ => h_.1)); replace BK303 := Aside0.mk (blk_below (g := gb303) (o := .cells #[.slice Ao12 t291.length co12, .slice Ao15 t294.length co15] 27 (0, 0)) (by (with_reducible repeat (first | refine blk_drewN ?_ _ | refine blk_drew ?_ | refine blk_alloc ?_ _)); refine blk_far ?_ NB303_304.out _; (with_reducible repeat (first | refine blk_drewN ?_ _ | refine blk_drew ?_ | refine blk_alloc ?_ _)); refine blk_far ?_ NB303_304.out _; (with_reducible repeat (first | refine blk_drewN ?_ _ | refine blk_drew ?_ | refine blk_alloc ?_ _)); refine blk_put (cs := #[.slice Ao12 t291.length co12, .slice none 0 0]) ?_ 1 _ rfl; (with_reducible repeat (first | refine blk_drewN ?_ _ | refine blk_drew ?_ | refine blk_alloc ?_ _)); refine blk_put (cs := #[.slice none 0 0, .slice none 0 0]) ?_ 0 _ rfl; exact kb_ BK303.out) hb); replace BK304 := Aside0.mk (blk_below (g := gb304) (o := .cells #[.slice Ao16 t297.length co16, .slice Ao18 t300.length co18] 27 (0, 0)) (by (with_reducible repeat (first | refine blk_drewN ?_ _ | refine blk_drew ?_ | refine blk_alloc ?_ _)); refine blk_put (cs := #[.slice Ao16 t297.length co16, .slice none 0 0]) ?_ 1 _ rfl; (with_reducible repeat (first | refine blk_drewN ?_ _ | refine blk_drew ?_ | refine blk_alloc ?_ _)); refine blk_put (cs := #[.slice none 0 0, .slice none 0 0]) ?_ 0 _ rfl; (with_reducible repeat (first | refine blk_drewN ?_ _ | refine blk_drew ?_ | refine blk_alloc ?_ _)); refine blk_far ?_ NB304_303.out _; (with_reducible repeat (first | refine blk_drewN ?_ _ | refine blk_drew ?_ | refine blk_alloc ?_ _)); refine blk_far ?_ NB304_303.out _; exact kb_ BK304.out) hb); replace HB := Aside0.mk (below_step bl_ hb); clear hb ho0 ho1) | ((with_reducible refine gate_dst (N := 7) rfl ?_); refine box_event rfl (N := 7) rfl (cs := #[.slice none 0 0, .slice none 0 0]) (t := 27) gs_ ?_; intro gb313 hg w20 hbox hb; replace HO293 := rb_ HO293 hb; replace HO296 := qb_ HO296 hb; replace HO299 := rb_ HO299 hb; replace HO302 := qb_ HO302 hb; replace HO307 := rb_ HO307 hb; replace HO310 := qb_ HO310 hb; have BK313 := Aside0.mk (hbox); have GW313 := Aside0.mk ((by rw [hg]; exact bz_ : w.heap.size ≤ gb313)); have GE313 := GW313; replace HB := Aside0.mk (below_step bl_ hb); have NB303_313 := nl_ hg BK303; have NB313_303 := nm_ hg BK303; replace BK303 := bb_ BK303 hb; have NB304_313 := nl_ hg BK304; have NB313_304 := nm_ hg BK304; replace BK304 := bb_ BK304 hb; clear hb hbox hg; obtain ⟨Ao21, co21, eo21⟩ := Kd.R_slice HO307.out; subst eo21; have hnb22 := NB313_303.out; have hnc22 := NB303_313.out; have hnb23 := NB313_304.out; have hnc23 := NB304_313.out; have hcz24_0 : w20.cell? ⟨gb313, 0, none⟩ = some (.slice none 0 0) := bc_ BK313.out 0; have hcz24_1 : w20.cell? ⟨gb313, 1, none⟩ = some (.slice none 0 0) := bc_ BK313.out 1; have hfz24_0 := blk_frozen BK313.out 0; have hfz24_1 := blk_frozen BK313.out 1; obtain ⟨Ao25, co25, eo25, _⟩ := Kd.Q_slice HO310.out; subst eo25; have hcz26_0 : w20.cell? ⟨gb303, 0, none⟩ = some (.slice Ao12 t291.length co12) := bc_ BK303.out 0; have hcz26_1 : w20.cell? ⟨gb303, 1, none⟩ = some (.slice Ao15 t294.length co15) := bc_ BK303.out 1; have hfz26_0 := blk_frozen BK303.out 0; have hfz26_1 := blk_frozen BK303.out 1; have hcz27_0 : w20.cell? ⟨gb304, 0, none⟩ = some (.slice Ao16 t297.length co16) := bc_ BK304.out 0; have hcz27_1 : w20.cell? ⟨gb304, 1, none⟩ = some (.slice Ao18 t300.length co18) := bc_ BK304.out 1; have hfz27_0 := blk_frozen BK304.out 0; have hfz27_1 := blk_frozen BK304.out 1) | ((with_reducible refine gate_callee (f := 24) rfl ?_); refine goesL_ (some 54) rfl rfl Try.func24 (by kernel_rfl) rfl #[.agg #[.slice Ao12 t291.length co12, .slice Ao15 t294.length co15], .agg #[.slice Ao16 t297.length co16, .slice Ao18 t300.length co18]] rfl nc_ ?_; (with_reducible refine (impl_MergeCounter.calls k _ _ t291 _ _ t294 _ _ t297 _ _ t300 t314 t317 t320 _ ?side1 ?side2 ?side3 ?side4 ?side5 ?side6 ?side7 ?side8 A6.out).mono ?_); (case side1 => exact (Kd.R_reads' (kr_ (rs2_ HO293.out BK313.out (.slice Ao21 t305.length co21) (.slice Ao25 t308.length co25)))).2.2); (case side2 => exact (Kd.R_reads' HO293.out).2.1); (case side3 => exact (Kd.Q_reads' (kq_ (qs2_ HO296.out BK313.out (.slice Ao21 t305.length co21) (.slice Ao25 t308.length co25)))).2.2); (case side4 => exact (Kd.Q_reads' HO296.out).2.1); (case side5 => exact (Kd.R_reads' (kr_ (rs2_ HO299.out BK313.out (.slice Ao21 t305.length co21) (.slice Ao25 t308.length co25)))).2.2); (case side6 => exact (Kd.R_reads' HO299.out).2.1); (case side7 => exact (Kd.Q_reads' (kq_ (qs2_ HO302.out BK313.out (.slice Ao21 t305.length co21) (.slice Ao25 t308.length co25)))).2.2); (case side8 => exact (Kd.Q_reads' HO302.out).2.1); rintro e w28 ⟨v315, v318, rfl, ho0, ho1, hb⟩; refine ⟨_, rfl, ?_⟩; have HO316 := Aside0.mk (Kd.R_lower (rnq_ (rn_ (rnq_ (rn_ (rnq_ (rn_ ho0 (rs2_ HO293.out BK313.out (.slice Ao21 t305.length co21) (.slice Ao25 t308.length co25))) (qs2_ HO296.out BK313.out (.slice Ao21 t305.length co21) (.slice Ao25 t308.length co25))) (rs2_ HO299.out BK313.out (.slice Ao21 t305.length co21) (.slice Ao25 t308.length co25))) (qs2_ HO302.out BK313.out (.slice Ao21 t305.length co21) (.slice Ao25 t308.length co25))) (rs2_ HO307.out BK313.out (.slice Ao21 t305.length co21) (.slice Ao25 t308.length co25))) (qs2_ HO310.out BK313.out (.slice Ao21 t305.length co21) (.slice Ao25 t308.length co25))) bz_); have HO319 := Aside0.mk (Kd.R_lower (rnq_ (rn_ (rnq_ (rn_ (rnq_ (rn_ ho1 (rs2_ HO293.out BK313.out (.slice Ao21 t305.length co21) (.slice Ao25 t308.length co25))) (qs2_ HO296.out BK313.out (.slice Ao21 t305.length co21) (.slice Ao25 t308.length co25))) (rs2_ HO299.out BK313.out (.slice Ao21 t305.length co21) (.slice Ao25 t308.length co25))) (qs2_ HO302.out BK313.out (.slice Ao21 t305.length co21) (.slice Ao25 t308.length co25))) (rs2_ HO307.out BK313.out (.slice Ao21 t305.length co21) (.slice Ao25 t308.length co25))) (qs2_ HO310.out BK313.out (.slice Ao21 t305.length co21) (.slice Ao25 t308.length co25))) bz_); replace HO293 := Aside0.mk (ro2_ (rs2_ HO293.out BK313.out (.slice Ao21 t305.length co21) (.slice Ao25 t308.length co25)) hb (Kd.R_base ho0) (Kd.R_base ho1)); replace HO296 := Aside0.mk (qo2_ (qs2_ HO296.out BK313.out (.slice Ao21 t305.length co21) (.slice Ao25 t308.length co25)) hb (Kd.R_base ho0) (Kd.R_base ho1)); replace HO299 := Aside0.mk (ro2_ (rs2_ HO299.out BK313.out (.slice Ao21 t305.length co21) (.slice Ao25 t308.length co25)) hb (Kd.R_base ho0) (Kd.R_base ho1)); replace HO302 := Aside0.mk (qo2_ (qs2_ HO302.out BK313.out (.slice Ao21 t305.length co21) (.slice Ao25 t308.length co25)) hb (Kd.R_base ho0) (Kd.R_base ho1)); replace HO307 := Aside0.mk (ro2_ (rs2_ HO307.out BK313.out (.slice Ao21 t305.length co21) (.slice Ao25 t308.length co25)) hb (Kd.R_base ho0) (Kd.R_base ho1)); replace HO310 := Aside0.mk (qo2_ (qs2_ HO310.out BK313.out (.slice Ao21 t305.length co21) (.slice Ao25 t308.length co25)) hb (Kd.R_base ho0) (Kd.R_base ho1)); replace BK303 := Aside0.mk (blk_below (g := gb303) (o := .cells #[.slice Ao12 t291.length co12, .slice Ao15 t294.length co15] 27 (0, 0)) kz_ hb); replace BK304 := Aside0.mk (blk_below (g := gb304) (o := .cells #[.slice Ao16 t297.length co16, .slice Ao18 t300.length co18] 27 (0, 0)) kz_ hb); replace BK313 := Aside0.mk (blk_below (g := gb313) (o := .cells #[.slice Ao21 t305.length co21, .slice Ao25 t308.length co25] 27 (0, 0)) (by (with_reducible repeat (first | refine blk_drewN ?_ _ | refine blk_drew ?_ | refine blk_alloc ?_ _)); refine blk_put (cs := #[.slice Ao21 t305.length co21, .slice none 0 0]) ?_ 1 _ rfl; (with_reducible repeat (first | refine blk_drewN ?_ _ | refine blk_drew ?_ | refine blk_alloc ?_ _)); refine blk_put (cs := #[.slice none 0 0, .slice none 0 0]) ?_ 0 _ rfl; exact kb_ BK313.out) hb); replace HB := Aside0.mk (below_step bl_ hb); clear hb ho0 ho1) | ((with_reducible refine gate_dst (N := 10) rfl ?_); refine box_event rfl (N := 10) rfl (cs := #[.slice none 0 0, .slice none 0 0]) (t := 27) gs_ ?_; intro gb321 hg w29 hbox hb; replace HO293 := rb_ HO293 hb; replace HO296 := qb_ HO296 hb; replace HO299 := rb_ HO299 hb; replace HO302 := qb_ HO302 hb; replace HO307 := rb_ HO307 hb; replace HO310 := qb_ HO310 hb; replace HO316 := rb_ HO316 hb; replace HO319 := rb_ HO319 hb; have BK321 := Aside0.mk (hbox); have GW321 := Aside0.mk ((by rw [hg]; exact bz_ : w.heap.size ≤ gb321)); have GE321 := GW321; replace HB := Aside0.mk (below_step bl_ hb); have NB303_321 := nl_ hg BK303; have NB321_303 := nm_ hg BK303; replace BK303 := bb_ BK303 hb; have NB304_321 := nl_ hg BK304; have NB321_304 := nm_ hg BK304; replace BK304 := bb_ BK304 hb; have NB313_321 := nl_ hg BK313; have NB321_313 := nm_ hg BK313; replace BK313 := bb_ BK313 hb; clear hb hbox hg; obtain ⟨Ao30, co30, eo30⟩ := Kd.R_slice HO316.out; subst eo30; have hnb31 := NB321_303.out; have hnc31 := NB303_321.out; have hnb32 := NB321_304.out; have hnc32 := NB304_321.out; have hnb33 := NB321_313.out; have hnc33 := NB313_321.out; have hcz34_0 : w29.cell? ⟨gb321, 0, none⟩ = some (.slice none 0 0) := bc_ BK321.out 0; have hcz34_1 : w29.cell? ⟨gb321, 1, none⟩ = some (.slice none 0 0) := bc_ BK321.out 1; have hfz34_0 := blk_frozen BK321.out 0; have hfz34_1 := blk_frozen BK321.out 1; obtain ⟨Ao35, co35, eo35⟩ := Kd.R_slice HO319.out; subst eo35; have hcz36_0 : w29.cell? ⟨gb303, 0, none⟩ = some (.slice Ao12 t291.length co12) := bc_ BK303.out 0; have hcz36_1 : w29.cell? ⟨gb303, 1, none⟩ = some (.slice Ao15 t294.length co15) := bc_ BK303.out 1; have hfz36_0 := blk_frozen BK303.out 0; have hfz36_1 := blk_frozen BK303.out 1; have hcz37_0 : w29.cell? ⟨gb304, 0, none⟩ = some (.slice Ao16 t297.length co16) := bc_ BK304.out 0; have hcz37_1 : w29.cell? ⟨gb304, 1, none⟩ = some (.slice Ao18 t300.length co18) := bc_ BK304.out 1; have hfz37_0 := blk_frozen BK304.out 0; have hfz37_1 := blk_frozen BK304.out 1) | ((with_reducible refine gate_callee (f := 23) rfl ?_); refine goesL_ (some 60) rfl rfl Try.func23 (by kernel_rfl) rfl #[.agg #[.slice Ao12 t291.length co12, .slice Ao15 t294.length co15], .agg #[.slice Ao16 t297.length co16, .slice Ao18 t300.length co18]] rfl nc_ ?_; (with_reducible refine (spec_MergeCounter.calls k _ _ t291 _ _ t294 _ _ t297 _ _ t300 t322 t325 t328 _ ?side1 ?side2 ?side3 ?side4 ?side5 ?side6 ?side7 ?side8 A7.out).mono ?_); (case side1 => exact (Kd.R_reads' (kr_ (rs2_ HO293.out BK321.out (.slice Ao30 t314.length co30) (.slice Ao35 t317.length co35)))).2.2); (case side2 => exact (Kd.R_reads' HO293.out).2.1); (case side3 => exact (Kd.Q_reads' (kq_ (qs2_ HO296.out BK321.out (.slice Ao30 t314.length co30) (.slice Ao35 t317.length co35)))).2.2); (case side4 => exact (Kd.Q_reads' HO296.out).2.1); (case side5 => exact (Kd.R_reads' (kr_ (rs2_ HO299.out BK321.out (.slice Ao30 t314.length co30) (.slice Ao35 t317.length co35)))).2.2); (case side6 => exact (Kd.R_reads' HO299.out).2.1); (case side7 => exact (Kd.Q_reads' (kq_ (qs2_ HO302.out BK321.out (.slice Ao30 t314.length co30) (.slice Ao35 t317.length co35)))).2.2); (case side8 => exact (Kd.Q_reads' HO302.out).2.1); rintro e w38 ⟨v323, v326, rfl, ho0, ho1, hb⟩; refine ⟨_, rfl, ?_⟩; have HO324 := Aside0.mk (Kd.R_lower (rn_ (rn_ (rnq_ (rn_ (rnq_ (rn_ (rnq_ (rn_ ho0 (rs2_ HO293.out BK321.out (.slice Ao30 t314.length co30) (.slice Ao35 t317.length co35))) (qs2_ HO296.out BK321.out (.slice Ao30 t314.length co30) (.slice Ao35 t317.length co35))) (rs2_ HO299.out BK321.out (.slice Ao30 t314.length co30) (.slice Ao35 t317.length co35))) (qs2_ HO302.out BK321.out (.slice Ao30 t314.length co30) (.slice Ao35 t317.length co35))) (rs2_ HO307.out BK321.out (.slice Ao30 t314.length co30) (.slice Ao35 t317.length co35))) (qs2_ HO310.out BK321.out (.slice Ao30 t314.length co30) (.slice Ao35 t317.length co35))) (rs2_ HO316.out BK321.out (.slice Ao30 t314.length co30) (.slice Ao35 t317.length co35))) (rs2_ HO319.out BK321.out (.slice Ao30 t314.length co30) (.slice Ao35 t317.length co35))) bz_); have HO327 := Aside0.mk (Kd.R_lower (rn_ (rn_ (rnq_ (rn_ (rnq_ (rn_ (rnq_ (rn_ ho1 (rs2_ HO293.out BK321.out (.slice Ao30 t314.length co30) (.slice Ao35 t317.length co35))) (qs2_ HO296.out BK321.out (.slice Ao30 t314.length co30) (.slice Ao35 t317.length co35))) (rs2_ HO299.out BK321.out (.slice Ao30 t314.length co30) (.slice Ao35 t317.length co35))) (qs2_ HO302.out BK321.out (.slice Ao30 t314.length co30) (.slice Ao35 t317.length co35))) (rs2_ HO307.out BK321.out (.slice Ao30 t314.length co30) (.slice Ao35 t317.length co35))) (qs2_ HO310.out BK321.out (.slice Ao30 t314.length co30) (.slice Ao35 t317.length co35))) (rs2_ HO316.out BK321.out (.slice Ao30 t314.length co30) (.slice Ao35 t317.length co35))) (rs2_ HO319.out BK321.out (.slice Ao30 t314.length co30) (.slice Ao35 t317.length co35))) bz_); replace HO293 := Aside0.mk (ro2_ (rs2_ HO293.out BK321.out (.slice Ao30 t314.length co30) (.slice Ao35 t317.length co35)) hb (Kd.R_base ho0) (Kd.R_base ho1)); replace HO296 := Aside0.mk (qo2_ (qs2_ HO296.out BK321.out (.slice Ao30 t314.length co30) (.slice Ao35 t317.length co35)) hb (Kd.R_base ho0) (Kd.R_base ho1)); replace HO299 := Aside0.mk (ro2_ (rs2_ HO299.out BK321.out (.slice Ao30 t314.length co30) (.slice Ao35 t317.length co35)) hb (Kd.R_base ho0) (Kd.R_base ho1)); replace HO302 := Aside0.mk (qo2_ (qs2_ HO302.out BK321.out (.slice Ao30 t314.length co30) (.slice Ao35 t317.length co35)) hb (Kd.R_base ho0) (Kd.R_base ho1)); replace HO307 := Aside0.mk (ro2_ (rs2_ HO307.out BK321.out (.slice Ao30 t314.length co30) (.slice Ao35 t317.length co35)) hb (Kd.R_base ho0) (Kd.R_base ho1)); replace HO310 := Aside0.mk (qo2_ (qs2_ HO310.out BK321.out (.slice Ao30 t314.length co30) (.slice Ao35 t317.length co35)) hb (Kd.R_base ho0) (Kd.R_base ho1)); replace HO316 := Aside0.mk (ro2_ (rs2_ HO316.out BK321.out (.slice Ao30 t314.length co30) (.slice Ao35 t317.length co35)) hb (Kd.R_base ho0) (Kd.R_base ho1)); replace HO319 := Aside0.mk (ro2_ (rs2_ HO319.out BK321.out (.slice Ao30 t314.length co30) (.slice Ao35 t317.length co35)) hb (Kd.R_base ho0) (Kd.R_base ho1)); replace BK303 := Aside0.mk (blk_below (g := gb303) (o := .cells #[.slice Ao12 t291.length co12, .slice Ao15 t294.length co15] 27 (0, 0)) kz_ hb); replace BK304 := Aside0.mk (blk_below (g := gb304) (o := .cells #[.slice Ao16 t297.length co16, .slice Ao18 t300.length co18] 27 (0, 0)) kz_ hb); replace BK313 := Aside0.mk (blk_below (g := gb313) (o := .cells #[.slice Ao21 t305.length co21, .slice Ao25 t308.length co25] 27 (0, 0)) kz_ hb); replace BK321 := Aside0.mk (blk_below (g := gb321) (o := .cells #[.slice Ao30 t314.length co30, .slice Ao35 t317.length co35] 27 (0, 0)) (by (with_reducible repeat (first | refine blk_drewN ?_ _ | refine blk_drew ?_ | refine blk_alloc ?_ _)); refine blk_put (cs := #[.slice Ao30 t314.length co30, .slice none 0 0]) ?_ 1 _ rfl; (with_reducible repeat (first | refine blk_drewN ?_ _ | refine blk_drew ?_ | refine blk_alloc ?_ _)); refine blk_put (cs := #[.slice none 0 0, .slice none 0 0]) ?_ 0 _ rfl; exact kb_ BK321.out) hb); replace HB := Aside0.mk (below_step bl_ hb); clear hb ho0 ho1) | ((with_reducible refine gate_dst (N := 12) rfl ?_); refine box_event rfl (N := 12) rfl (cs := #[.slice none 0 0, .slice none 0 0]) (t := 27) gs_ ?_; intro gb329 hg w39 hbox hb; replace HO293 := rb_ HO293 hb; replace HO296 := qb_ HO296 hb; replace HO299 := rb_ HO299 hb; replace HO302 := qb_ HO302 hb; replace HO307 := rb_ HO307 hb; replace HO310 := qb_ HO310 hb; replace HO316 := rb_ HO316 hb; replace HO319 := rb_ HO319 hb; replace HO324 := rb_ HO324 hb; replace HO327 := rb_ HO327 hb; have BK329 := Aside0.mk (hbox); have GW329 := Aside0.mk ((by rw [hg]; exact bz_ : w.heap.size ≤ gb329)); have GE329 := GW329; replace HB := Aside0.mk (below_step bl_ hb); have NB303_329 := nl_ hg BK303; have NB329_303 := nm_ hg BK303; replace BK303 := bb_ BK303 hb; have NB304_329 := nl_ hg BK304; have NB329_304 := nm_ hg BK304; replace BK304 := bb_ BK304 hb; have NB313_329 := nl_ hg BK313; have NB329_313 := nm_ hg BK313; replace BK313 := bb_ BK313 hb; have NB321_329 := nl_ hg BK321; have NB329_321 := nm_ hg BK321; replace BK321 := bb_ BK321 hb; clear hb hbox hg; obtain ⟨Ao40, co40, eo40⟩ := Kd.R_slice HO324.out; subst eo40; have hnb41 := NB329_303.out; have hnc41 := NB303_329.out; have hnb42 := NB329_304.out; have hnc42 := NB304_329.out; have hnb43 := NB329_313.out; have hnc43 := NB313_329.out; have hnb44 := NB329_321.out; have hnc44 := NB321_329.out; have hcz45_0 : w39.cell? ⟨gb329, 0, none⟩ = some (.slice none 0 0) := bc_ BK329.out 0; have hcz45_1 : w39.cell? ⟨gb329, 1, none⟩ = some (.slice none 0 0) := bc_ BK329.out 1; have hfz45_0 := blk_frozen BK329.out 0; have hfz45_1 := blk_frozen BK329.out 1; obtain ⟨Ao46, co46, eo46⟩ := Kd.R_slice HO327.out; subst eo46))
 (try simp only [Act.put, List.setIfInBounds_toArray, List.set_cons_zero, List.set_cons_succ])
 go_cut [71] (fun v71 wc => ∃ (kq : Nat) (x71_7 : Bool), v71 = .bool x71_7 ∧ Aside0 (laws_FnCounters.j0 kq t311 t312 t320 x71_7 t291 t294 t297 t300 t305 t308 t314 t317 = some r) ∧ Aside0 (kq ≤ k) ∧ Aside0 (Kd.R (Kd.int .i64) 3 wc w.heap.size (fun k_ => some k_ ≠ ((.slice Ao15 t294.length co15) : Value).ownBlock ∧ some k_ ≠ ((.slice Ao16 t297.length co16) : Value).ownBlock ∧ some k_ ≠ ((.slice Ao18 t300.length co18) : Value).ownBlock ∧ some k_ ≠ ((.slice Ao21 t305.length co21) : Value).ownBlock ∧ some k_ ≠ ((.slice Ao25 t308.length co25) : Value).ownBlock ∧ some k_ ≠ ((.slice Ao30 t314.length co30) : Value).ownBlock ∧ some k_ ≠ ((.slice Ao35 t317.length co35) : Value).ownBlock ∧ some k_ ≠ ((.slice Ao40 t322.length co40) : Value).ownBlock ∧ some k_ ≠ ((.slice Ao46 t325.length co46) : Value).ownBlock) (.slice Ao12 t291.length co12) t291) ∧ Aside0 (Kd.Q (Kd.int .i64) 3 wc w.heap.size (fun k_ => some k_ ≠ ((.slice Ao12 t291.length co12) : Value).ownBlock ∧ some k_ ≠ ((.slice Ao16 t297.length co16) : Value).ownBlock ∧ some k_ ≠ ((.slice Ao18 t300.length co18) : Value).ownBlock ∧ some k_ ≠ ((.slice Ao21 t305.length co21) : Value).ownBlock ∧ some k_ ≠ ((.slice Ao25 t308.length co25) : Value).ownBlock ∧ some k_ ≠ ((.slice Ao30 t314.length co30) : Value).ownBlock ∧ some k_ ≠ ((.slice Ao35 t317.length co35) : Value).ownBlock ∧ some k_ ≠ ((.slice Ao40 t322.length co40) : Value).ownBlock ∧ some k_ ≠ ((.slice Ao46 t325.length co46) : Value).ownBlock) (.slice Ao15 t294.length co15) t294) ∧ Aside0 (Kd.R (Kd.int .i64) 3 wc w.heap.size (fun k_ => some k_ ≠ ((.slice Ao12 t291.length co12) : Value).ownBlock ∧ some k_ ≠ ((.slice Ao15 t294.length co15) : Value).ownBlock ∧ some k_ ≠ ((.slice Ao18 t300.length co18) : Value).ownBlock ∧ some k_ ≠ ((.slice Ao21 t305.length co21) : Value).ownBlock ∧ some k_ ≠ ((.slice Ao25 t308.length co25) : Value).ownBlock ∧ some k_ ≠ ((.slice Ao30 t314.length co30) : Value).ownBlock ∧ some k_ ≠ ((.slice Ao35 t317.length co35) : Value).ownBlock ∧ some k_ ≠ ((.slice Ao40 t322.length co40) : Value).ownBlock ∧ some k_ ≠ ((.slice Ao46 t325.length co46) : Value).ownBlock) (.slice Ao16 t297.length co16) t297) ∧ Aside0 (Kd.Q (Kd.int .i64) 3 wc w.heap.size (fun k_ => some k_ ≠ ((.slice Ao12 t291.length co12) : Value).ownBlock ∧ some k_ ≠ ((.slice Ao15 t294.length co15) : Value).ownBlock ∧ some k_ ≠ ((.slice Ao16 t297.length co16) : Value).ownBlock ∧ some k_ ≠ ((.slice Ao21 t305.length co21) : Value).ownBlock ∧ some k_ ≠ ((.slice Ao25 t308.length co25) : Value).ownBlock ∧ some k_ ≠ ((.slice Ao30 t314.length co30) : Value).ownBlock ∧ some k_ ≠ ((.slice Ao35 t317.length co35) : Value).ownBlock ∧ some k_ ≠ ((.slice Ao40 t322.length co40) : Value).ownBlock ∧ some k_ ≠ ((.slice Ao46 t325.length co46) : Value).ownBlock) (.slice Ao18 t300.length co18) t300) ∧ Aside0 (Kd.R (Kd.int .i64) 3 wc w.heap.size (fun k_ => some k_ ≠ ((.slice Ao12 t291.length co12) : Value).ownBlock ∧ some k_ ≠ ((.slice Ao15 t294.length co15) : Value).ownBlock ∧ some k_ ≠ ((.slice Ao16 t297.length co16) : Value).ownBlock ∧ some k_ ≠ ((.slice Ao18 t300.length co18) : Value).ownBlock ∧ some k_ ≠ ((.slice Ao25 t308.length co25) : Value).ownBlock ∧ some k_ ≠ ((.slice Ao30 t314.length co30) : Value).ownBlock ∧ some k_ ≠ ((.slice Ao35 t317.length co35) : Value).ownBlock ∧ some k_ ≠ ((.slice Ao40 t322.length co40) : Value).ownBlock ∧ some k_ ≠ ((.slice Ao46 t325.length co46) : Value).ownBlock) (.slice Ao21 t305.length co21) t305) ∧ Aside0 (Kd.Q (Kd.int .i64) 3 wc w.heap.size (fun k_ => some k_ ≠ ((.slice Ao12 t291.length co12) : Value).ownBlock ∧ some k_ ≠ ((.slice Ao15 t294.length co15) : Value).ownBlock ∧ some k_ ≠ ((.slice Ao16 t297.length co16) : Value).ownBlock ∧ some k_ ≠ ((.slice Ao18 t300.length co18) : Value).ownBlock ∧ some k_ ≠ ((.slice Ao21 t305.length co21) : Value).ownBlock ∧ some k_ ≠ ((.slice Ao30 t314.length co30) : Value).ownBlock ∧ some k_ ≠ ((.slice Ao35 t317.length co35) : Value).ownBlock ∧ some k_ ≠ ((.slice Ao40 t322.length co40) : Value).ownBlock ∧ some k_ ≠ ((.slice Ao46 t325.length co46) : Value).ownBlock) (.slice Ao25 t308.length co25) t308) ∧ Aside0 (Kd.R (Kd.int .i64) 3 wc w.heap.size (fun k_ => some k_ ≠ ((.slice Ao12 t291.length co12) : Value).ownBlock ∧ some k_ ≠ ((.slice Ao15 t294.length co15) : Value).ownBlock ∧ some k_ ≠ ((.slice Ao16 t297.length co16) : Value).ownBlock ∧ some k_ ≠ ((.slice Ao18 t300.length co18) : Value).ownBlock ∧ some k_ ≠ ((.slice Ao21 t305.length co21) : Value).ownBlock ∧ some k_ ≠ ((.slice Ao25 t308.length co25) : Value).ownBlock ∧ some k_ ≠ ((.slice Ao35 t317.length co35) : Value).ownBlock ∧ some k_ ≠ ((.slice Ao40 t322.length co40) : Value).ownBlock ∧ some k_ ≠ ((.slice Ao46 t325.length co46) : Value).ownBlock) (.slice Ao30 t314.length co30) t314) ∧ Aside0 (Kd.Q (Kd.int .i64) 3 wc w.heap.size (fun k_ => some k_ ≠ ((.slice Ao12 t291.length co12) : Value).ownBlock ∧ some k_ ≠ ((.slice Ao15 t294.length co15) : Value).ownBlock ∧ some k_ ≠ ((.slice Ao16 t297.length co16) : Value).ownBlock ∧ some k_ ≠ ((.slice Ao18 t300.length co18) : Value).ownBlock ∧ some k_ ≠ ((.slice Ao21 t305.length co21) : Value).ownBlock ∧ some k_ ≠ ((.slice Ao25 t308.length co25) : Value).ownBlock ∧ some k_ ≠ ((.slice Ao30 t314.length co30) : Value).ownBlock ∧ some k_ ≠ ((.slice Ao40 t322.length co40) : Value).ownBlock ∧ some k_ ≠ ((.slice Ao46 t325.length co46) : Value).ownBlock) (.slice Ao35 t317.length co35) t317) ∧ Aside0 (Kd.R (Kd.int .i64) 3 wc w.heap.size (fun k_ => some k_ ≠ ((.slice Ao12 t291.length co12) : Value).ownBlock ∧ some k_ ≠ ((.slice Ao15 t294.length co15) : Value).ownBlock ∧ some k_ ≠ ((.slice Ao16 t297.length co16) : Value).ownBlock ∧ some k_ ≠ ((.slice Ao18 t300.length co18) : Value).ownBlock ∧ some k_ ≠ ((.slice Ao21 t305.length co21) : Value).ownBlock ∧ some k_ ≠ ((.slice Ao25 t308.length co25) : Value).ownBlock ∧ some k_ ≠ ((.slice Ao30 t314.length co30) : Value).ownBlock ∧ some k_ ≠ ((.slice Ao35 t317.length co35) : Value).ownBlock ∧ some k_ ≠ ((.slice Ao46 t325.length co46) : Value).ownBlock) (.slice Ao40 t322.length co40) t322) ∧ Aside0 (Kd.Q (Kd.int .i64) 3 wc w.heap.size (fun k_ => some k_ ≠ ((.slice Ao12 t291.length co12) : Value).ownBlock ∧ some k_ ≠ ((.slice Ao15 t294.length co15) : Value).ownBlock ∧ some k_ ≠ ((.slice Ao16 t297.length co16) : Value).ownBlock ∧ some k_ ≠ ((.slice Ao18 t300.length co18) : Value).ownBlock ∧ some k_ ≠ ((.slice Ao21 t305.length co21) : Value).ownBlock ∧ some k_ ≠ ((.slice Ao25 t308.length co25) : Value).ownBlock ∧ some k_ ≠ ((.slice Ao30 t314.length co30) : Value).ownBlock ∧ some k_ ≠ ((.slice Ao35 t317.length co35) : Value).ownBlock ∧ some k_ ≠ ((.slice Ao40 t322.length co40) : Value).ownBlock) (.slice Ao46 t325.length co46) t325) ∧ Aside0 (wc.heap[gb303]? = some (.cells #[(.slice Ao12 t291.length co12), (.slice Ao15 t294.length co15)] 27 (0, 0))) ∧ Aside0 (wc.heap[gb304]? = some (.cells #[(.slice Ao16 t297.length co16), (.slice Ao18 t300.length co18)] 27 (0, 0))) ∧ Aside0 (wc.heap[gb313]? = some (.cells #[(.slice Ao21 t305.length co21), (.slice Ao25 t308.length co25)] 27 (0, 0))) ∧ Aside0 (wc.heap[gb321]? = some (.cells #[(.slice Ao30 t314.length co30), (.slice Ao35 t317.length co35)] 27 (0, 0))) ∧ Aside0 (wc.heap[gb329]? = some (.cells #[(.slice Ao40 t322.length co40), (.slice Ao46 t325.length co46)] 27 (0, 0))) ∧ Aside0 (Below w.heap.size w wc))
 case first =>
  have H := HC8.out
  clear HC8
  by_cases c47 : (t320 != t328) = true
  ·rw [if_pos c47] at H
   exact absurd H (by simp)
  rw [if_neg c47] at H
  have c47b0 : (t320 != t328) = false := by simpa using c47
  (try (have c47b1 : decide (t320 = t328) = true := by simpa using c47))
  (try (have c47b2 : (t320 == t328) = true := by simpa using c47))
  clear c47
  (first | rw [c47b0] | (simp only [i64_w, i32_w]; rw [c47b0]) | skip)
  replace H := Option.bind_eq_some_iff.mp H
  obtain ⟨t330, A480, H⟩ := H
  replace H : (laws_FnCounters.j0 k t311 t312 t320 (!t330) t291 t294 t297 t300 t305 t308 t314 t317) = some r := H
  have A48 := Aside0.mk A480
  clear A480
  have H' := Aside0.mk H
  clear H
  have hnb49 := NB321_303.out
  have hnc49 := NB303_321.out
  have hnb50 := NB321_304.out
  have hnc50 := NB304_321.out
  have hnb51 := NB321_313.out
  have hnc51 := NB313_321.out
  have hnb52 := NB321_329.out
  have hnc52 := NB329_321.out
  have hcz53_0 : w39.cell? ⟨gb321, 0, none⟩ = some (.slice Ao30 t314.length co30) := bc_ BK321.out 0
  have hcz53_1 : w39.cell? ⟨gb321, 1, none⟩ = some (.slice Ao35 t317.length co35) := bc_ BK321.out 1
  have hfz53_0 := blk_frozen BK321.out 0
  have hfz53_1 := blk_frozen BK321.out 1
  have hnb54 := NB329_303.out
  have hnc54 := NB303_329.out
  have hnb55 := NB329_304.out
  have hnc55 := NB304_329.out
  have hnb56 := NB329_313.out
  have hnc56 := NB313_329.out
  have hcz57_0 : w39.cell? ⟨gb329, 0, none⟩ = some (.slice none 0 0) := bc_ BK329.out 0
  have hcz57_1 : w39.cell? ⟨gb329, 1, none⟩ = some (.slice none 0 0) := bc_ BK329.out 1
  have hfz57_0 := blk_frozen BK329.out 0
  have hfz57_1 := blk_frozen BK329.out 1
  go_wp2_with (first | (go_at_call 31; (with_reducible refine (laws_sameCounters.calls k _ _ t314 _ _ t317 _ _ t322 _ _ t325 t330 _ ?side1 ?side2 ?side3 ?side4 ?side5 ?side6 ?side7 ?side8 A48.out).mono ?_); (case side1 => exact (Kd.R_reads' (kr_ (rs2_ HO316.out BK329.out (.slice Ao40 t322.length co40) (.slice Ao46 t325.length co46)))).2.2); (case side2 => exact (Kd.R_reads' HO316.out).2.1); (case side3 => exact (Kd.R_reads' (kr_ (rs2_ HO319.out BK329.out (.slice Ao40 t322.length co40) (.slice Ao46 t325.length co46)))).2.2); (case side4 => exact (Kd.R_reads' HO319.out).2.1); (case side5 => exact (Kd.R_reads' (kr_ (rs2_ HO324.out BK329.out (.slice Ao40 t322.length co40) (.slice Ao46 t325.length co46)))).2.2); (case side6 => exact (Kd.R_reads' HO324.out).2.1); (case side7 => exact (Kd.R_reads' (kr_ (rs2_ HO327.out BK329.out (.slice Ao40 t322.length co40) (.slice Ao46 t325.length co46)))).2.2); (case side8 => exact (Kd.R_reads' HO327.out).2.1); rintro e w58 ⟨rfl, hb⟩; replace HO293 := Aside0.mk (Kd.R_below (kr_ (rs2_ HO293.out BK329.out (.slice Ao40 t322.length co40) (.slice Ao46 t325.length co46))) hb); replace HO296 := Aside0.mk (Kd.Q_below (kq_ (qs2_ HO296.out BK329.out (.slice Ao40 t322.length co40) (.slice Ao46 t325.length co46))) hb); replace HO299 := Aside0.mk (Kd.R_below (kr_ (rs2_ HO299.out BK329.out (.slice Ao40 t322.length co40) (.slice Ao46 t325.length co46))) hb); replace HO302 := Aside0.mk (Kd.Q_below (kq_ (qs2_ HO302.out BK329.out (.slice Ao40 t322.length co40) (.slice Ao46 t325.length co46))) hb); replace HO307 := Aside0.mk (Kd.R_below (kr_ (rs2_ HO307.out BK329.out (.slice Ao40 t322.length co40) (.slice Ao46 t325.length co46))) hb); replace HO310 := Aside0.mk (Kd.Q_below (kq_ (qs2_ HO310.out BK329.out (.slice Ao40 t322.length co40) (.slice Ao46 t325.length co46))) hb); replace HO316 := Aside0.mk (Kd.R_below (kr_ (rs2_ HO316.out BK329.out (.slice Ao40 t322.length co40) (.slice Ao46 t325.length co46))) hb); replace HO319 := Aside0.mk (Kd.R_below (kr_ (rs2_ HO319.out BK329.out (.slice Ao40 t322.length co40) (.slice Ao46 t325.length co46))) hb); replace HO324 := Aside0.mk (Kd.R_below (kr_ (rs2_ HO324.out BK329.out (.slice Ao40 t322.length co40) (.slice Ao46 t325.length co46))) hb); replace HO327 := Aside0.mk (Kd.R_below (kr_ (rs2_ HO327.out BK329.out (.slice Ao40 t322.length co40) (.slice Ao46 t325.length co46))) hb); replace BK303 := Aside0.mk (blk_below (g := gb303) (o := .cells #[.slice Ao12 t291.length co12, .slice Ao15 t294.length co15] 27 (0, 0)) kz_ hb); replace BK304 := Aside0.mk (blk_below (g := gb304) (o := .cells #[.slice Ao16 t297.length co16, .slice Ao18 t300.length co18] 27 (0, 0)) kz_ hb); replace BK313 := Aside0.mk (blk_below (g := gb313) (o := .cells #[.slice Ao21 t305.length co21, .slice Ao25 t308.length co25] 27 (0, 0)) kz_ hb); replace BK321 := Aside0.mk (blk_below (g := gb321) (o := .cells #[.slice Ao30 t314.length co30, .slice Ao35 t317.length co35] 27 (0, 0)) kz_ hb); replace BK329 := Aside0.mk (blk_below (g := gb329) (o := .cells #[.slice Ao40 t322.length co40, .slice Ao46 t325.length co46] 27 (0, 0)) (by (with_reducible repeat (first | refine blk_drewN ?_ _ | refine blk_drew ?_ | refine blk_alloc ?_ _)); refine blk_put (cs := #[.slice Ao40 t322.length co40, .slice none 0 0]) ?_ 1 _ rfl; (with_reducible repeat (first | refine blk_drewN ?_ _ | refine blk_drew ?_ | refine blk_alloc ?_ _)); refine blk_put (cs := #[.slice none 0 0, .slice none 0 0]) ?_ 0 _ rfl; exact kb_ BK329.out) hb); replace HB := Aside0.mk (below_step bl_ hb); clear hb))
  go_meet
  case rel => exact ⟨_, (!t330), (by first | rfl | (simp; done) | (simp [*]; done)), H', ⟨by first | omega | exact Nat.le_refl _⟩, ⟨kp_ HO293.out⟩, ⟨kpq_ HO296.out⟩, ⟨kp_ HO299.out⟩, ⟨kpq_ HO302.out⟩, ⟨kp_ HO307.out⟩, ⟨kpq_ HO310.out⟩, ⟨kp_ HO316.out⟩, ⟨Kd.Q_of_R (kp_ HO319.out)⟩, ⟨kp_ HO324.out⟩, ⟨Kd.Q_of_R (kp_ HO327.out)⟩, ⟨by exact kb_ BK303.out⟩, ⟨by exact kb_ BK304.out⟩, ⟨by exact kb_ BK313.out⟩, ⟨by exact kb_ BK321.out⟩, ⟨by exact kb_ BK329.out⟩, ⟨bl_⟩⟩
 clear HC8
 try clear c1
 try clear c2
 try clear p2
 try clear c3
 try clear c3b0
 try clear c4
 try clear c5
 try clear p6
 try clear c9
 try clear c13
 try clear c22
 try clear c23
 try clear c24
 try clear c29
 try clear c30
 try clear c31
 try clear c32
 try clear c33
 try clear c41
 try clear c42
 try clear c43
 try clear c44
 try clear c47
 try clear c47b0
 try clear c47b1
 try clear c47b2
 try clear c49
 try clear c50
 try clear c51
 try clear c52
 try clear c54
 try clear c55
 try clear c56
 try clear hcz14_0
 try clear hcz14_1
 try clear hcz17_0
 try clear hcz17_1
 try clear hcz24_0
 try clear hcz24_1
 try clear hcz26_0
 try clear hcz26_1
 try clear hcz27_0
 try clear hcz27_1
 try clear hcz34_0
 try clear hcz34_1
 try clear hcz36_0
 try clear hcz36_1
 try clear hcz37_0
 try clear hcz37_1
 try clear hcz45_0
 try clear hcz45_1
 try clear hcz53_0
 try clear hcz53_1
 try clear hcz57_0
 try clear hcz57_1
 try clear hfz14_0
 try clear hfz14_1
 try clear hfz17_0
 try clear hfz17_1
 try clear hfz24_0
 try clear hfz24_1
 try clear hfz26_0
 try clear hfz26_1
 try clear hfz27_0
 try clear hfz27_1
 try clear hfz34_0
 try clear hfz34_1
 try clear hfz36_0
 try clear hfz36_1
 try clear hfz37_0
 try clear hfz37_1
 try clear hfz45_0
 try clear hfz45_1
 try clear hfz53_0
 try clear hfz53_1
 try clear hfz57_0
 try clear hfz57_1
 obtain ⟨kq, x71_7, rfl, HA, HJ7, HO_304000, HO_304001, HO_305000, HO_305001, HO_314000, HO_314001, HO_322000, HO_322001, HO_330000, HO_330001, BK303, BK304, BK313, BK321, BK329, HB⟩ := hcut
 cases kq with
 | zero => exact absurd HA.out (by simp [laws_FnCounters.j0])
 | succ kj7 => ?_
 have H := HA.out
 clear HA
 simp only [laws_FnCounters.j0] at H
 by_cases c59 : x71_7 = true
 ·subst c59
  have H1 : (none) = some r := by rw [if_pos rfl] at H; exact H
  clear H
  have H := H1
  clear H1
  exact absurd H (by simp)
 replace c59 := Bool.eq_false_iff.mpr c59
 subst c59
 have H1 : ((impl_CountBy.f kj7 t305 t308 t311 t312).bind fun bt331 => ((spec_CountBy.f kj7 t305 t308 t311 t312).bind fun bt339 => (if (bt331.2.2 != bt339.2.2) = true then (none) else ((laws_sameCounters.f kj7 bt331.1 bt331.2.1 bt339.1 bt339.2.1).bind fun t347 => (laws_FnCounters.j1 kj7 t312 t320 bt331.2.2 (!t347) t291 t294 t297 t300 t305 t308 t314 t317 bt331.1 bt331.2.1))))) = some r := by rw [if_neg (show ¬ (false = true) by decide)] at H; exact H
 clear H
 have H := H1
 clear H1
 replace H := Option.bind_eq_some_iff.mp H
 obtain ⟨⟨t331, t334, t337⟩, A600, H⟩ := H
 replace H : ((spec_CountBy.f kj7 t305 t308 t311 t312).bind fun bt339 => (if (t337 != bt339.2.2) = true then (none) else ((laws_sameCounters.f kj7 t331 t334 bt339.1 bt339.2.1).bind fun t347 => (laws_FnCounters.j1 kj7 t312 t320 t337 (!t347) t291 t294 t297 t300 t305 t308 t314 t317 t331 t334)))) = some r := H
 have A60 := Aside0.mk A600
 clear A600
 replace H := Option.bind_eq_some_iff.mp H
 obtain ⟨⟨t339, t342, t345⟩, A610, H⟩ := H
 replace H : (if (t337 != t345) = true then (none) else ((laws_sameCounters.f kj7 t331 t334 t339 t342).bind fun t347 => (laws_FnCounters.j1 kj7 t312 t320 t337 (!t347) t291 t294 t297 t300 t305 t308 t314 t317 t331 t334))) = some r := H
 have A61 := Aside0.mk A610
 clear A610
 have HC62 := Aside0.mk H
 clear H
 have hnb63 := NB313_303.out
 have hnc63 := NB303_313.out
 have hnb64 := NB313_304.out
 have hnc64 := NB304_313.out
 have hnb65 := NB313_321.out
 have hnc65 := NB321_313.out
 have hnb66 := NB313_329.out
 have hnc66 := NB329_313.out
 have hcz67_0 : wc.cell? ⟨gb313, 0, none⟩ = some (.slice Ao21 t305.length co21) := bc_ BK313.out 0
 have hcz67_1 : wc.cell? ⟨gb313, 1, none⟩ = some (.slice Ao25 t308.length co25) := bc_ BK313.out 1
 have hfz67_0 := blk_frozen BK313.out 0
 have hfz67_1 := blk_frozen BK313.out 1
 go_upto_region 11 with (first | ((with_reducible refine gate_callee (f := 28) rfl ?_); refine goesL_ (some 76) rfl rfl Try.func28 (by kernel_rfl) rfl #[.agg #[.slice Ao21 t305.length co21, .slice Ao25 t308.length co25], .int .i64 t311, .int .i64 t312] rfl nc_ ?_; (with_reducible refine (impl_CountBy.calls kj7 _ _ t305 _ _ t308 t311 t312 t331 t334 t337 _ ?side1 ?side2 ?side3 ?side4 A60.out).mono ?_); (case side1 => exact kc_ (Kd.R_reads' HO_314000.out).2.2); (case side2 => exact (Kd.R_reads' HO_314000.out).2.1); (case side3 => exact kc_ (Kd.Q_reads' HO_314001.out).2.2); (case side4 => exact (Kd.Q_reads' HO_314001.out).2.1); rintro e w68 ⟨v332, v335, rfl, ho0, ho1, hb⟩; refine ⟨_, rfl, ?_⟩; have HO333 := Aside0.mk (Kd.R_lower (rnq_ (rn_ (rnq_ (rn_ (rnq_ (rn_ (rnq_ (rn_ (rnq_ (rn_ ho0 HO_304000.out) HO_304001.out) HO_305000.out) HO_305001.out) HO_314000.out) HO_314001.out) HO_322000.out) HO_322001.out) HO_330000.out) HO_330001.out) bz_); have HO336 := Aside0.mk (Kd.R_lower (rnq_ (rn_ (rnq_ (rn_ (rnq_ (rn_ (rnq_ (rn_ (rnq_ (rn_ ho1 HO_304000.out) HO_304001.out) HO_305000.out) HO_305001.out) HO_314000.out) HO_314001.out) HO_322000.out) HO_322001.out) HO_330000.out) HO_330001.out) bz_); replace HO_304000 := rp2_ HO_304000 hb ho0 ho1; replace HO_304001 := qp2_ HO_304001 hb ho0 ho1; replace HO_305000 := rp2_ HO_305000 hb ho0 ho1; replace HO_305001 := qp2_ HO_305001 hb ho0 ho1; replace HO_314000 := rp2_ HO_314000 hb ho0 ho1; replace HO_314001 := qp2_ HO_314001 hb ho0 ho1; replace HO_322000 := rp2_ HO_322000 hb ho0 ho1; replace HO_322001 := qp2_ HO_322001 hb ho0 ho1; replace HO_330000 := rp2_ HO_330000 hb ho0 ho1; replace HO_330001 := qp2_ HO_330001 hb ho0 ho1; replace BK303 := bb_ BK303 hb; replace BK304 := bb_ BK304 hb; replace BK313 := bb_ BK313 hb; replace BK321 := bb_ BK321 hb; replace BK329 := bb_ BK329 hb; replace HB := Aside0.mk (below_step bl_ hb); clear hb ho0 ho1) | ((with_reducible refine gate_dst (N := 14) rfl ?_); refine box_event rfl (N := 14) rfl (cs := #[.slice none 0 0, .slice none 0 0]) (t := 27) gs_ ?_; intro gb338 hg w69 hbox hb; replace HO_304000 := rb_ HO_304000 hb; replace HO_304001 := qb_ HO_304001 hb; replace HO_305000 := rb_ HO_305000 hb; replace HO_305001 := qb_ HO_305001 hb; replace HO_314000 := rb_ HO_314000 hb; replace HO_314001 := qb_ HO_314001 hb; replace HO_322000 := rb_ HO_322000 hb; replace HO_322001 := qb_ HO_322001 hb; replace HO_330000 := rb_ HO_330000 hb; replace HO_330001 := qb_ HO_330001 hb; replace HO333 := rb_ HO333 hb; replace HO336 := rb_ HO336 hb; have BK338 := Aside0.mk (hbox); have GW338 := Aside0.mk ((by rw [hg]; exact bz_ : w.heap.size ≤ gb338)); have GE338 := GW338; replace HB := Aside0.mk (below_step bl_ hb); have NB303_338 := nl_ hg BK303; have NB338_303 := nm_ hg BK303; replace BK303 := bb_ BK303 hb; have NB304_338 := nl_ hg BK304; have NB338_304 := nm_ hg BK304; replace BK304 := bb_ BK304 hb; have NB313_338 := nl_ hg BK313; have NB338_313 := nm_ hg BK313; replace BK313 := bb_ BK313 hb; have NB321_338 := nl_ hg BK321; have NB338_321 := nm_ hg BK321; replace BK321 := bb_ BK321 hb; have NB329_338 := nl_ hg BK329; have NB338_329 := nm_ hg BK329; replace BK329 := bb_ BK329 hb; clear hb hbox hg; obtain ⟨Ao70, co70, eo70⟩ := Kd.R_slice HO333.out; subst eo70; have hnb71 := NB338_303.out; have hnc71 := NB303_338.out; have hnb72 := NB338_304.out; have hnc72 := NB304_338.out; have hnb73 := NB338_313.out; have hnc73 := NB313_338.out; have hnb74 := NB338_321.out; have hnc74 := NB321_338.out; have hnb75 := NB338_329.out; have hnc75 := NB329_338.out; have hcz76_0 : w69.cell? ⟨gb338, 0, none⟩ = some (.slice none 0 0) := bc_ BK338.out 0; have hcz76_1 : w69.cell? ⟨gb338, 1, none⟩ = some (.slice none 0 0) := bc_ BK338.out 1; have hfz76_0 := blk_frozen BK338.out 0; have hfz76_1 := blk_frozen BK338.out 1; obtain ⟨Ao77, co77, eo77⟩ := Kd.R_slice HO336.out; subst eo77; have hcz78_0 : w69.cell? ⟨gb313, 0, none⟩ = some (.slice Ao21 t305.length co21) := bc_ BK313.out 0; have hcz78_1 : w69.cell? ⟨gb313, 1, none⟩ = some (.slice Ao25 t308.length co25) := bc_ BK313.out 1; have hfz78_0 := blk_frozen BK313.out 0; have hfz78_1 := blk_frozen BK313.out 1) | ((with_reducible refine gate_callee (f := 27) rfl ?_); refine goesL_ (some 83) rfl rfl Try.func27 (by kernel_rfl) rfl #[.agg #[.slice Ao21 t305.length co21, .slice Ao25 t308.length co25], .int .i64 t311, .int .i64 t312] rfl nc_ ?_; (with_reducible refine (spec_CountBy.calls kj7 _ _ t305 _ _ t308 t311 t312 t339 t342 t345 _ ?side1 ?side2 ?side3 ?side4 A61.out).mono ?_); (case side1 => exact (Kd.R_reads' (kr_ (rs2_ HO_314000.out BK338.out (.slice Ao70 t331.length co70) (.slice Ao77 t334.length co77)))).2.2); (case side2 => exact (Kd.R_reads' HO_314000.out).2.1); (case side3 => exact (Kd.Q_reads' (kq_ (qs2_ HO_314001.out BK338.out (.slice Ao70 t331.length co70) (.slice Ao77 t334.length co77)))).2.2); (case side4 => exact (Kd.Q_reads' HO_314001.out).2.1); rintro e w79 ⟨v340, v343, rfl, ho0, ho1, hb⟩; refine ⟨_, rfl, ?_⟩; have HO341 := Aside0.mk (Kd.R_lower (rn_ (rn_ (rnq_ (rn_ (rnq_ (rn_ (rnq_ (rn_ (rnq_ (rn_ (rnq_ (rn_ ho0 (rs2_ HO_304000.out BK338.out (.slice Ao70 t331.length co70) (.slice Ao77 t334.length co77))) (qs2_ HO_304001.out BK338.out (.slice Ao70 t331.length co70) (.slice Ao77 t334.length co77))) (rs2_ HO_305000.out BK338.out (.slice Ao70 t331.length co70) (.slice Ao77 t334.length co77))) (qs2_ HO_305001.out BK338.out (.slice Ao70 t331.length co70) (.slice Ao77 t334.length co77))) (rs2_ HO_314000.out BK338.out (.slice Ao70 t331.length co70) (.slice Ao77 t334.length co77))) (qs2_ HO_314001.out BK338.out (.slice Ao70 t331.length co70) (.slice Ao77 t334.length co77))) (rs2_ HO_322000.out BK338.out (.slice Ao70 t331.length co70) (.slice Ao77 t334.length co77))) (qs2_ HO_322001.out BK338.out (.slice Ao70 t331.length co70) (.slice Ao77 t334.length co77))) (rs2_ HO_330000.out BK338.out (.slice Ao70 t331.length co70) (.slice Ao77 t334.length co77))) (qs2_ HO_330001.out BK338.out (.slice Ao70 t331.length co70) (.slice Ao77 t334.length co77))) (rs2_ HO333.out BK338.out (.slice Ao70 t331.length co70) (.slice Ao77 t334.length co77))) (rs2_ HO336.out BK338.out (.slice Ao70 t331.length co70) (.slice Ao77 t334.length co77))) bz_); have HO344 := Aside0.mk (Kd.R_lower (rn_ (rn_ (rnq_ (rn_ (rnq_ (rn_ (rnq_ (rn_ (rnq_ (rn_ (rnq_ (rn_ ho1 (rs2_ HO_304000.out BK338.out (.slice Ao70 t331.length co70) (.slice Ao77 t334.length co77))) (qs2_ HO_304001.out BK338.out (.slice Ao70 t331.length co70) (.slice Ao77 t334.length co77))) (rs2_ HO_305000.out BK338.out (.slice Ao70 t331.length co70) (.slice Ao77 t334.length co77))) (qs2_ HO_305001.out BK338.out (.slice Ao70 t331.length co70) (.slice Ao77 t334.length co77))) (rs2_ HO_314000.out BK338.out (.slice Ao70 t331.length co70) (.slice Ao77 t334.length co77))) (qs2_ HO_314001.out BK338.out (.slice Ao70 t331.length co70) (.slice Ao77 t334.length co77))) (rs2_ HO_322000.out BK338.out (.slice Ao70 t331.length co70) (.slice Ao77 t334.length co77))) (qs2_ HO_322001.out BK338.out (.slice Ao70 t331.length co70) (.slice Ao77 t334.length co77))) (rs2_ HO_330000.out BK338.out (.slice Ao70 t331.length co70) (.slice Ao77 t334.length co77))) (qs2_ HO_330001.out BK338.out (.slice Ao70 t331.length co70) (.slice Ao77 t334.length co77))) (rs2_ HO333.out BK338.out (.slice Ao70 t331.length co70) (.slice Ao77 t334.length co77))) (rs2_ HO336.out BK338.out (.slice Ao70 t331.length co70) (.slice Ao77 t334.length co77))) bz_); replace HO_304000 := Aside0.mk (ro2_ (rs2_ HO_304000.out BK338.out (.slice Ao70 t331.length co70) (.slice Ao77 t334.length co77)) hb (Kd.R_base ho0) (Kd.R_base ho1)); replace HO_304001 := Aside0.mk (qo2_ (qs2_ HO_304001.out BK338.out (.slice Ao70 t331.length co70) (.slice Ao77 t334.length co77)) hb (Kd.R_base ho0) (Kd.R_base ho1)); replace HO_305000 := Aside0.mk (ro2_ (rs2_ HO_305000.out BK338.out (.slice Ao70 t331.length co70) (.slice Ao77 t334.length co77)) hb (Kd.R_base ho0) (Kd.R_base ho1)); replace HO_305001 := Aside0.mk (qo2_ (qs2_ HO_305001.out BK338.out (.slice Ao70 t331.length co70) (.slice Ao77 t334.length co77)) hb (Kd.R_base ho0) (Kd.R_base ho1)); replace HO_314000 := Aside0.mk (ro2_ (rs2_ HO_314000.out BK338.out (.slice Ao70 t331.length co70) (.slice Ao77 t334.length co77)) hb (Kd.R_base ho0) (Kd.R_base ho1)); replace HO_314001 := Aside0.mk (qo2_ (qs2_ HO_314001.out BK338.out (.slice Ao70 t331.length co70) (.slice Ao77 t334.length co77)) hb (Kd.R_base ho0) (Kd.R_base ho1)); replace HO_322000 := Aside0.mk (ro2_ (rs2_ HO_322000.out BK338.out (.slice Ao70 t331.length co70) (.slice Ao77 t334.length co77)) hb (Kd.R_base ho0) (Kd.R_base ho1)); replace HO_322001 := Aside0.mk (qo2_ (qs2_ HO_322001.out BK338.out (.slice Ao70 t331.length co70) (.slice Ao77 t334.length co77)) hb (Kd.R_base ho0) (Kd.R_base ho1)); replace HO_330000 := Aside0.mk (ro2_ (rs2_ HO_330000.out BK338.out (.slice Ao70 t331.length co70) (.slice Ao77 t334.length co77)) hb (Kd.R_base ho0) (Kd.R_base ho1)); replace HO_330001 := Aside0.mk (qo2_ (qs2_ HO_330001.out BK338.out (.slice Ao70 t331.length co70) (.slice Ao77 t334.length co77)) hb (Kd.R_base ho0) (Kd.R_base ho1)); replace HO333 := Aside0.mk (ro2_ (rs2_ HO333.out BK338.out (.slice Ao70 t331.length co70) (.slice Ao77 t334.length co77)) hb (Kd.R_base ho0) (Kd.R_base ho1)); replace HO336 := Aside0.mk (ro2_ (rs2_ HO336.out BK338.out (.slice Ao70 t331.length co70) (.slice Ao77 t334.length co77)) hb (Kd.R_base ho0) (Kd.R_base ho1)); replace BK303 := Aside0.mk (blk_below (g := gb303) (o := .cells #[.slice Ao12 t291.length co12, .slice Ao15 t294.length co15] 27 (0, 0)) kz_ hb); replace BK304 := Aside0.mk (blk_below (g := gb304) (o := .cells #[.slice Ao16 t297.length co16, .slice Ao18 t300.length co18] 27 (0, 0)) kz_ hb); replace BK313 := Aside0.mk (blk_below (g := gb313) (o := .cells #[.slice Ao21 t305.length co21, .slice Ao25 t308.length co25] 27 (0, 0)) kz_ hb); replace BK321 := Aside0.mk (blk_below (g := gb321) (o := .cells #[.slice Ao30 t314.length co30, .slice Ao35 t317.length co35] 27 (0, 0)) kz_ hb); replace BK329 := Aside0.mk (blk_below (g := gb329) (o := .cells #[.slice Ao40 t322.length co40, .slice Ao46 t325.length co46] 27 (0, 0)) kz_ hb); replace BK338 := Aside0.mk (blk_below (g := gb338) (o := .cells #[.slice Ao70 t331.length co70, .slice Ao77 t334.length co77] 27 (0, 0)) (by (with_reducible repeat (first | refine blk_drewN ?_ _ | refine blk_drew ?_ | refine blk_alloc ?_ _)); refine blk_put (cs := #[.slice Ao70 t331.length co70, .slice none 0 0]) ?_ 1 _ rfl; (with_reducible repeat (first | refine blk_drewN ?_ _ | refine blk_drew ?_ | refine blk_alloc ?_ _)); refine blk_put (cs := #[.slice none 0 0, .slice none 0 0]) ?_ 0 _ rfl; exact kb_ BK338.out) hb); replace HB := Aside0.mk (below_step bl_ hb); clear hb ho0 ho1) | ((with_reducible refine gate_dst (N := 16) rfl ?_); refine box_event rfl (N := 16) rfl (cs := #[.slice none 0 0, .slice none 0 0]) (t := 27) gs_ ?_; intro gb346 hg w80 hbox hb; replace HO_304000 := rb_ HO_304000 hb; replace HO_304001 := qb_ HO_304001 hb; replace HO_305000 := rb_ HO_305000 hb; replace HO_305001 := qb_ HO_305001 hb; replace HO_314000 := rb_ HO_314000 hb; replace HO_314001 := qb_ HO_314001 hb; replace HO_322000 := rb_ HO_322000 hb; replace HO_322001 := qb_ HO_322001 hb; replace HO_330000 := rb_ HO_330000 hb; replace HO_330001 := qb_ HO_330001 hb; replace HO333 := rb_ HO333 hb; replace HO336 := rb_ HO336 hb; replace HO341 := rb_ HO341 hb; replace HO344 := rb_ HO344 hb; have BK346 := Aside0.mk (hbox); have GW346 := Aside0.mk ((by rw [hg]; exact bz_ : w.heap.size ≤ gb346)); have GE346 := GW346; replace HB := Aside0.mk (below_step bl_ hb); have NB303_346 := nl_ hg BK303; have NB346_303 := nm_ hg BK303; replace BK303 := bb_ BK303 hb; have NB304_346 := nl_ hg BK304; have NB346_304 := nm_ hg BK304; replace BK304 := bb_ BK304 hb; have NB313_346 := nl_ hg BK313; have NB346_313 := nm_ hg BK313; replace BK313 := bb_ BK313 hb; have NB321_346 := nl_ hg BK321; have NB346_321 := nm_ hg BK321; replace BK321 := bb_ BK321 hb; have NB329_346 := nl_ hg BK329; have NB346_329 := nm_ hg BK329; replace BK329 := bb_ BK329 hb; have NB338_346 := nl_ hg BK338; have NB346_338 := nm_ hg BK338; replace BK338 := bb_ BK338 hb; clear hb hbox hg; obtain ⟨Ao81, co81, eo81⟩ := Kd.R_slice HO341.out; subst eo81; have hnb82 := NB346_303.out; have hnc82 := NB303_346.out; have hnb83 := NB346_304.out; have hnc83 := NB304_346.out; have hnb84 := NB346_313.out; have hnc84 := NB313_346.out; have hnb85 := NB346_321.out; have hnc85 := NB321_346.out; have hnb86 := NB346_329.out; have hnc86 := NB329_346.out; have hnb87 := NB346_338.out; have hnc87 := NB338_346.out; have hcz88_0 : w80.cell? ⟨gb346, 0, none⟩ = some (.slice none 0 0) := bc_ BK346.out 0; have hcz88_1 : w80.cell? ⟨gb346, 1, none⟩ = some (.slice none 0 0) := bc_ BK346.out 1; have hfz88_0 := blk_frozen BK346.out 0; have hfz88_1 := blk_frozen BK346.out 1; obtain ⟨Ao89, co89, eo89⟩ := Kd.R_slice HO344.out; subst eo89))
 (try simp only [Act.put, List.setIfInBounds_toArray, List.set_cons_zero, List.set_cons_succ])
 go_cut [94] (fun v94 wc => ∃ (kq : Nat) (x94_61 : Bool), v94 = .bool x94_61 ∧ Aside0 (laws_FnCounters.j1 kq t312 t320 t337 x94_61 t291 t294 t297 t300 t305 t308 t314 t317 t331 t334 = some r) ∧ Aside0 (kq ≤ kj7) ∧ Aside0 (Kd.R (Kd.int .i64) 3 wc w.heap.size (fun k_ => some k_ ≠ ((.slice Ao15 t294.length co15) : Value).ownBlock ∧ some k_ ≠ ((.slice Ao16 t297.length co16) : Value).ownBlock ∧ some k_ ≠ ((.slice Ao18 t300.length co18) : Value).ownBlock ∧ some k_ ≠ ((.slice Ao21 t305.length co21) : Value).ownBlock ∧ some k_ ≠ ((.slice Ao25 t308.length co25) : Value).ownBlock ∧ some k_ ≠ ((.slice Ao30 t314.length co30) : Value).ownBlock ∧ some k_ ≠ ((.slice Ao35 t317.length co35) : Value).ownBlock ∧ some k_ ≠ ((.slice Ao40 t322.length co40) : Value).ownBlock ∧ some k_ ≠ ((.slice Ao46 t325.length co46) : Value).ownBlock ∧ some k_ ≠ ((.slice Ao70 t331.length co70) : Value).ownBlock ∧ some k_ ≠ ((.slice Ao77 t334.length co77) : Value).ownBlock ∧ some k_ ≠ ((.slice Ao81 t339.length co81) : Value).ownBlock ∧ some k_ ≠ ((.slice Ao89 t342.length co89) : Value).ownBlock) (.slice Ao12 t291.length co12) t291) ∧ Aside0 (Kd.Q (Kd.int .i64) 3 wc w.heap.size (fun k_ => some k_ ≠ ((.slice Ao12 t291.length co12) : Value).ownBlock ∧ some k_ ≠ ((.slice Ao16 t297.length co16) : Value).ownBlock ∧ some k_ ≠ ((.slice Ao18 t300.length co18) : Value).ownBlock ∧ some k_ ≠ ((.slice Ao21 t305.length co21) : Value).ownBlock ∧ some k_ ≠ ((.slice Ao25 t308.length co25) : Value).ownBlock ∧ some k_ ≠ ((.slice Ao30 t314.length co30) : Value).ownBlock ∧ some k_ ≠ ((.slice Ao35 t317.length co35) : Value).ownBlock ∧ some k_ ≠ ((.slice Ao40 t322.length co40) : Value).ownBlock ∧ some k_ ≠ ((.slice Ao46 t325.length co46) : Value).ownBlock ∧ some k_ ≠ ((.slice Ao70 t331.length co70) : Value).ownBlock ∧ some k_ ≠ ((.slice Ao77 t334.length co77) : Value).ownBlock ∧ some k_ ≠ ((.slice Ao81 t339.length co81) : Value).ownBlock ∧ some k_ ≠ ((.slice Ao89 t342.length co89) : Value).ownBlock) (.slice Ao15 t294.length co15) t294) ∧ Aside0 (Kd.R (Kd.int .i64) 3 wc w.heap.size (fun k_ => some k_ ≠ ((.slice Ao12 t291.length co12) : Value).ownBlock ∧ some k_ ≠ ((.slice Ao15 t294.length co15) : Value).ownBlock ∧ some k_ ≠ ((.slice Ao18 t300.length co18) : Value).ownBlock ∧ some k_ ≠ ((.slice Ao21 t305.length co21) : Value).ownBlock ∧ some k_ ≠ ((.slice Ao25 t308.length co25) : Value).ownBlock ∧ some k_ ≠ ((.slice Ao30 t314.length co30) : Value).ownBlock ∧ some k_ ≠ ((.slice Ao35 t317.length co35) : Value).ownBlock ∧ some k_ ≠ ((.slice Ao40 t322.length co40) : Value).ownBlock ∧ some k_ ≠ ((.slice Ao46 t325.length co46) : Value).ownBlock ∧ some k_ ≠ ((.slice Ao70 t331.length co70) : Value).ownBlock ∧ some k_ ≠ ((.slice Ao77 t334.length co77) : Value).ownBlock ∧ some k_ ≠ ((.slice Ao81 t339.length co81) : Value).ownBlock ∧ some k_ ≠ ((.slice Ao89 t342.length co89) : Value).ownBlock) (.slice Ao16 t297.length co16) t297) ∧ Aside0 (Kd.Q (Kd.int .i64) 3 wc w.heap.size (fun k_ => some k_ ≠ ((.slice Ao12 t291.length co12) : Value).ownBlock ∧ some k_ ≠ ((.slice Ao15 t294.length co15) : Value).ownBlock ∧ some k_ ≠ ((.slice Ao16 t297.length co16) : Value).ownBlock ∧ some k_ ≠ ((.slice Ao21 t305.length co21) : Value).ownBlock ∧ some k_ ≠ ((.slice Ao25 t308.length co25) : Value).ownBlock ∧ some k_ ≠ ((.slice Ao30 t314.length co30) : Value).ownBlock ∧ some k_ ≠ ((.slice Ao35 t317.length co35) : Value).ownBlock ∧ some k_ ≠ ((.slice Ao40 t322.length co40) : Value).ownBlock ∧ some k_ ≠ ((.slice Ao46 t325.length co46) : Value).ownBlock ∧ some k_ ≠ ((.slice Ao70 t331.length co70) : Value).ownBlock ∧ some k_ ≠ ((.slice Ao77 t334.length co77) : Value).ownBlock ∧ some k_ ≠ ((.slice Ao81 t339.length co81) : Value).ownBlock ∧ some k_ ≠ ((.slice Ao89 t342.length co89) : Value).ownBlock) (.slice Ao18 t300.length co18) t300) ∧ Aside0 (Kd.R (Kd.int .i64) 3 wc w.heap.size (fun k_ => some k_ ≠ ((.slice Ao12 t291.length co12) : Value).ownBlock ∧ some k_ ≠ ((.slice Ao15 t294.length co15) : Value).ownBlock ∧ some k_ ≠ ((.slice Ao16 t297.length co16) : Value).ownBlock ∧ some k_ ≠ ((.slice Ao18 t300.length co18) : Value).ownBlock ∧ some k_ ≠ ((.slice Ao25 t308.length co25) : Value).ownBlock ∧ some k_ ≠ ((.slice Ao30 t314.length co30) : Value).ownBlock ∧ some k_ ≠ ((.slice Ao35 t317.length co35) : Value).ownBlock ∧ some k_ ≠ ((.slice Ao40 t322.length co40) : Value).ownBlock ∧ some k_ ≠ ((.slice Ao46 t325.length co46) : Value).ownBlock ∧ some k_ ≠ ((.slice Ao70 t331.length co70) : Value).ownBlock ∧ some k_ ≠ ((.slice Ao77 t334.length co77) : Value).ownBlock ∧ some k_ ≠ ((.slice Ao81 t339.length co81) : Value).ownBlock ∧ some k_ ≠ ((.slice Ao89 t342.length co89) : Value).ownBlock) (.slice Ao21 t305.length co21) t305) ∧ Aside0 (Kd.Q (Kd.int .i64) 3 wc w.heap.size (fun k_ => some k_ ≠ ((.slice Ao12 t291.length co12) : Value).ownBlock ∧ some k_ ≠ ((.slice Ao15 t294.length co15) : Value).ownBlock ∧ some k_ ≠ ((.slice Ao16 t297.length co16) : Value).ownBlock ∧ some k_ ≠ ((.slice Ao18 t300.length co18) : Value).ownBlock ∧ some k_ ≠ ((.slice Ao21 t305.length co21) : Value).ownBlock ∧ some k_ ≠ ((.slice Ao30 t314.length co30) : Value).ownBlock ∧ some k_ ≠ ((.slice Ao35 t317.length co35) : Value).ownBlock ∧ some k_ ≠ ((.slice Ao40 t322.length co40) : Value).ownBlock ∧ some k_ ≠ ((.slice Ao46 t325.length co46) : Value).ownBlock ∧ some k_ ≠ ((.slice Ao70 t331.length co70) : Value).ownBlock ∧ some k_ ≠ ((.slice Ao77 t334.length co77) : Value).ownBlock ∧ some k_ ≠ ((.slice Ao81 t339.length co81) : Value).ownBlock ∧ some k_ ≠ ((.slice Ao89 t342.length co89) : Value).ownBlock) (.slice Ao25 t308.length co25) t308) ∧ Aside0 (Kd.R (Kd.int .i64) 3 wc w.heap.size (fun k_ => some k_ ≠ ((.slice Ao12 t291.length co12) : Value).ownBlock ∧ some k_ ≠ ((.slice Ao15 t294.length co15) : Value).ownBlock ∧ some k_ ≠ ((.slice Ao16 t297.length co16) : Value).ownBlock ∧ some k_ ≠ ((.slice Ao18 t300.length co18) : Value).ownBlock ∧ some k_ ≠ ((.slice Ao21 t305.length co21) : Value).ownBlock ∧ some k_ ≠ ((.slice Ao25 t308.length co25) : Value).ownBlock ∧ some k_ ≠ ((.slice Ao35 t317.length co35) : Value).ownBlock ∧ some k_ ≠ ((.slice Ao40 t322.length co40) : Value).ownBlock ∧ some k_ ≠ ((.slice Ao46 t325.length co46) : Value).ownBlock ∧ some k_ ≠ ((.slice Ao70 t331.length co70) : Value).ownBlock ∧ some k_ ≠ ((.slice Ao77 t334.length co77) : Value).ownBlock ∧ some k_ ≠ ((.slice Ao81 t339.length co81) : Value).ownBlock ∧ some k_ ≠ ((.slice Ao89 t342.length co89) : Value).ownBlock) (.slice Ao30 t314.length co30) t314) ∧ Aside0 (Kd.Q (Kd.int .i64) 3 wc w.heap.size (fun k_ => some k_ ≠ ((.slice Ao12 t291.length co12) : Value).ownBlock ∧ some k_ ≠ ((.slice Ao15 t294.length co15) : Value).ownBlock ∧ some k_ ≠ ((.slice Ao16 t297.length co16) : Value).ownBlock ∧ some k_ ≠ ((.slice Ao18 t300.length co18) : Value).ownBlock ∧ some k_ ≠ ((.slice Ao21 t305.length co21) : Value).ownBlock ∧ some k_ ≠ ((.slice Ao25 t308.length co25) : Value).ownBlock ∧ some k_ ≠ ((.slice Ao30 t314.length co30) : Value).ownBlock ∧ some k_ ≠ ((.slice Ao40 t322.length co40) : Value).ownBlock ∧ some k_ ≠ ((.slice Ao46 t325.length co46) : Value).ownBlock ∧ some k_ ≠ ((.slice Ao70 t331.length co70) : Value).ownBlock ∧ some k_ ≠ ((.slice Ao77 t334.length co77) : Value).ownBlock ∧ some k_ ≠ ((.slice Ao81 t339.length co81) : Value).ownBlock ∧ some k_ ≠ ((.slice Ao89 t342.length co89) : Value).ownBlock) (.slice Ao35 t317.length co35) t317) ∧ Aside0 (Kd.R (Kd.int .i64) 3 wc w.heap.size (fun k_ => some k_ ≠ ((.slice Ao12 t291.length co12) : Value).ownBlock ∧ some k_ ≠ ((.slice Ao15 t294.length co15) : Value).ownBlock ∧ some k_ ≠ ((.slice Ao16 t297.length co16) : Value).ownBlock ∧ some k_ ≠ ((.slice Ao18 t300.length co18) : Value).ownBlock ∧ some k_ ≠ ((.slice Ao21 t305.length co21) : Value).ownBlock ∧ some k_ ≠ ((.slice Ao25 t308.length co25) : Value).ownBlock ∧ some k_ ≠ ((.slice Ao30 t314.length co30) : Value).ownBlock ∧ some k_ ≠ ((.slice Ao35 t317.length co35) : Value).ownBlock ∧ some k_ ≠ ((.slice Ao46 t325.length co46) : Value).ownBlock ∧ some k_ ≠ ((.slice Ao70 t331.length co70) : Value).ownBlock ∧ some k_ ≠ ((.slice Ao77 t334.length co77) : Value).ownBlock ∧ some k_ ≠ ((.slice Ao81 t339.length co81) : Value).ownBlock ∧ some k_ ≠ ((.slice Ao89 t342.length co89) : Value).ownBlock) (.slice Ao40 t322.length co40) t322) ∧ Aside0 (Kd.Q (Kd.int .i64) 3 wc w.heap.size (fun k_ => some k_ ≠ ((.slice Ao12 t291.length co12) : Value).ownBlock ∧ some k_ ≠ ((.slice Ao15 t294.length co15) : Value).ownBlock ∧ some k_ ≠ ((.slice Ao16 t297.length co16) : Value).ownBlock ∧ some k_ ≠ ((.slice Ao18 t300.length co18) : Value).ownBlock ∧ some k_ ≠ ((.slice Ao21 t305.length co21) : Value).ownBlock ∧ some k_ ≠ ((.slice Ao25 t308.length co25) : Value).ownBlock ∧ some k_ ≠ ((.slice Ao30 t314.length co30) : Value).ownBlock ∧ some k_ ≠ ((.slice Ao35 t317.length co35) : Value).ownBlock ∧ some k_ ≠ ((.slice Ao40 t322.length co40) : Value).ownBlock ∧ some k_ ≠ ((.slice Ao70 t331.length co70) : Value).ownBlock ∧ some k_ ≠ ((.slice Ao77 t334.length co77) : Value).ownBlock ∧ some k_ ≠ ((.slice Ao81 t339.length co81) : Value).ownBlock ∧ some k_ ≠ ((.slice Ao89 t342.length co89) : Value).ownBlock) (.slice Ao46 t325.length co46) t325) ∧ Aside0 (Kd.R (Kd.int .i64) 3 wc w.heap.size (fun k_ => some k_ ≠ ((.slice Ao12 t291.length co12) : Value).ownBlock ∧ some k_ ≠ ((.slice Ao15 t294.length co15) : Value).ownBlock ∧ some k_ ≠ ((.slice Ao16 t297.length co16) : Value).ownBlock ∧ some k_ ≠ ((.slice Ao18 t300.length co18) : Value).ownBlock ∧ some k_ ≠ ((.slice Ao21 t305.length co21) : Value).ownBlock ∧ some k_ ≠ ((.slice Ao25 t308.length co25) : Value).ownBlock ∧ some k_ ≠ ((.slice Ao30 t314.length co30) : Value).ownBlock ∧ some k_ ≠ ((.slice Ao35 t317.length co35) : Value).ownBlock ∧ some k_ ≠ ((.slice Ao40 t322.length co40) : Value).ownBlock ∧ some k_ ≠ ((.slice Ao46 t325.length co46) : Value).ownBlock ∧ some k_ ≠ ((.slice Ao77 t334.length co77) : Value).ownBlock ∧ some k_ ≠ ((.slice Ao81 t339.length co81) : Value).ownBlock ∧ some k_ ≠ ((.slice Ao89 t342.length co89) : Value).ownBlock) (.slice Ao70 t331.length co70) t331) ∧ Aside0 (Kd.Q (Kd.int .i64) 3 wc w.heap.size (fun k_ => some k_ ≠ ((.slice Ao12 t291.length co12) : Value).ownBlock ∧ some k_ ≠ ((.slice Ao15 t294.length co15) : Value).ownBlock ∧ some k_ ≠ ((.slice Ao16 t297.length co16) : Value).ownBlock ∧ some k_ ≠ ((.slice Ao18 t300.length co18) : Value).ownBlock ∧ some k_ ≠ ((.slice Ao21 t305.length co21) : Value).ownBlock ∧ some k_ ≠ ((.slice Ao25 t308.length co25) : Value).ownBlock ∧ some k_ ≠ ((.slice Ao30 t314.length co30) : Value).ownBlock ∧ some k_ ≠ ((.slice Ao35 t317.length co35) : Value).ownBlock ∧ some k_ ≠ ((.slice Ao40 t322.length co40) : Value).ownBlock ∧ some k_ ≠ ((.slice Ao46 t325.length co46) : Value).ownBlock ∧ some k_ ≠ ((.slice Ao70 t331.length co70) : Value).ownBlock ∧ some k_ ≠ ((.slice Ao81 t339.length co81) : Value).ownBlock ∧ some k_ ≠ ((.slice Ao89 t342.length co89) : Value).ownBlock) (.slice Ao77 t334.length co77) t334) ∧ Aside0 (Kd.R (Kd.int .i64) 3 wc w.heap.size (fun k_ => some k_ ≠ ((.slice Ao12 t291.length co12) : Value).ownBlock ∧ some k_ ≠ ((.slice Ao15 t294.length co15) : Value).ownBlock ∧ some k_ ≠ ((.slice Ao16 t297.length co16) : Value).ownBlock ∧ some k_ ≠ ((.slice Ao18 t300.length co18) : Value).ownBlock ∧ some k_ ≠ ((.slice Ao21 t305.length co21) : Value).ownBlock ∧ some k_ ≠ ((.slice Ao25 t308.length co25) : Value).ownBlock ∧ some k_ ≠ ((.slice Ao30 t314.length co30) : Value).ownBlock ∧ some k_ ≠ ((.slice Ao35 t317.length co35) : Value).ownBlock ∧ some k_ ≠ ((.slice Ao40 t322.length co40) : Value).ownBlock ∧ some k_ ≠ ((.slice Ao46 t325.length co46) : Value).ownBlock ∧ some k_ ≠ ((.slice Ao70 t331.length co70) : Value).ownBlock ∧ some k_ ≠ ((.slice Ao77 t334.length co77) : Value).ownBlock ∧ some k_ ≠ ((.slice Ao89 t342.length co89) : Value).ownBlock) (.slice Ao81 t339.length co81) t339) ∧ Aside0 (Kd.Q (Kd.int .i64) 3 wc w.heap.size (fun k_ => some k_ ≠ ((.slice Ao12 t291.length co12) : Value).ownBlock ∧ some k_ ≠ ((.slice Ao15 t294.length co15) : Value).ownBlock ∧ some k_ ≠ ((.slice Ao16 t297.length co16) : Value).ownBlock ∧ some k_ ≠ ((.slice Ao18 t300.length co18) : Value).ownBlock ∧ some k_ ≠ ((.slice Ao21 t305.length co21) : Value).ownBlock ∧ some k_ ≠ ((.slice Ao25 t308.length co25) : Value).ownBlock ∧ some k_ ≠ ((.slice Ao30 t314.length co30) : Value).ownBlock ∧ some k_ ≠ ((.slice Ao35 t317.length co35) : Value).ownBlock ∧ some k_ ≠ ((.slice Ao40 t322.length co40) : Value).ownBlock ∧ some k_ ≠ ((.slice Ao46 t325.length co46) : Value).ownBlock ∧ some k_ ≠ ((.slice Ao70 t331.length co70) : Value).ownBlock ∧ some k_ ≠ ((.slice Ao77 t334.length co77) : Value).ownBlock ∧ some k_ ≠ ((.slice Ao81 t339.length co81) : Value).ownBlock) (.slice Ao89 t342.length co89) t342) ∧ Aside0 (wc.heap[gb303]? = some (.cells #[(.slice Ao12 t291.length co12), (.slice Ao15 t294.length co15)] 27 (0, 0))) ∧ Aside0 (wc.heap[gb304]? = some (.cells #[(.slice Ao16 t297.length co16), (.slice Ao18 t300.length co18)] 27 (0, 0))) ∧ Aside0 (wc.heap[gb313]? = some (.cells #[(.slice Ao21 t305.length co21), (.slice Ao25 t308.length co25)] 27 (0, 0))) ∧ Aside0 (wc.heap[gb321]? = some (.cells #[(.slice Ao30 t314.length co30), (.slice Ao35 t317.length co35)] 27 (0, 0))) ∧ Aside0 (wc.heap[gb329]? = some (.cells #[(.slice Ao40 t322.length co40), (.slice Ao46 t325.length co46)] 27 (0, 0))) ∧ Aside0 (wc.heap[gb338]? = some (.cells #[(.slice Ao70 t331.length co70), (.slice Ao77 t334.length co77)] 27 (0, 0))) ∧ Aside0 (wc.heap[gb346]? = some (.cells #[(.slice Ao81 t339.length co81), (.slice Ao89 t342.length co89)] 27 (0, 0))) ∧ Aside0 (Below w.heap.size w wc))
 case first =>
  have H := HC62.out
  clear HC62
  by_cases c90 : (t337 != t345) = true
  ·rw [if_pos c90] at H
   exact absurd H (by simp)
  rw [if_neg c90] at H
  have c90b0 : (t337 != t345) = false := by simpa using c90
  (try (have c90b1 : decide (t337 = t345) = true := by simpa using c90))
  (try (have c90b2 : (t337 == t345) = true := by simpa using c90))
  clear c90
  (first | rw [c90b0] | (simp only [i64_w, i32_w]; rw [c90b0]) | skip)
  replace H := Option.bind_eq_some_iff.mp H
  obtain ⟨t347, A910, H⟩ := H
  replace H : (laws_FnCounters.j1 kj7 t312 t320 t337 (!t347) t291 t294 t297 t300 t305 t308 t314 t317 t331 t334) = some r := H
  have A91 := Aside0.mk A910
  clear A910
  have H' := Aside0.mk H
  clear H
  have hnb92 := NB338_303.out
  have hnc92 := NB303_338.out
  have hnb93 := NB338_304.out
  have hnc93 := NB304_338.out
  have hnb94 := NB338_313.out
  have hnc94 := NB313_338.out
  have hnb95 := NB338_321.out
  have hnc95 := NB321_338.out
  have hnb96 := NB338_329.out
  have hnc96 := NB329_338.out
  have hnb97 := NB338_346.out
  have hnc97 := NB346_338.out
  have hcz98_0 : w80.cell? ⟨gb338, 0, none⟩ = some (.slice Ao70 t331.length co70) := bc_ BK338.out 0
  have hcz98_1 : w80.cell? ⟨gb338, 1, none⟩ = some (.slice Ao77 t334.length co77) := bc_ BK338.out 1
  have hfz98_0 := blk_frozen BK338.out 0
  have hfz98_1 := blk_frozen BK338.out 1
  have hnb99 := NB346_303.out
  have hnc99 := NB303_346.out
  have hnb100 := NB346_304.out
  have hnc100 := NB304_346.out
  have hnb101 := NB346_313.out
  have hnc101 := NB313_346.out
  have hnb102 := NB346_321.out
  have hnc102 := NB321_346.out
  have hnb103 := NB346_329.out
  have hnc103 := NB329_346.out
  have hcz104_0 : w80.cell? ⟨gb346, 0, none⟩ = some (.slice none 0 0) := bc_ BK346.out 0
  have hcz104_1 : w80.cell? ⟨gb346, 1, none⟩ = some (.slice none 0 0) := bc_ BK346.out 1
  have hfz104_0 := blk_frozen BK346.out 0
  have hfz104_1 := blk_frozen BK346.out 1
  go_wp2_with (first | (go_at_call 31; (with_reducible refine (laws_sameCounters.calls kj7 _ _ t331 _ _ t334 _ _ t339 _ _ t342 t347 _ ?side1 ?side2 ?side3 ?side4 ?side5 ?side6 ?side7 ?side8 A91.out).mono ?_); (case side1 => exact (Kd.R_reads' (kr_ (rs2_ HO333.out BK346.out (.slice Ao81 t339.length co81) (.slice Ao89 t342.length co89)))).2.2); (case side2 => exact (Kd.R_reads' HO333.out).2.1); (case side3 => exact (Kd.R_reads' (kr_ (rs2_ HO336.out BK346.out (.slice Ao81 t339.length co81) (.slice Ao89 t342.length co89)))).2.2); (case side4 => exact (Kd.R_reads' HO336.out).2.1); (case side5 => exact (Kd.R_reads' (kr_ (rs2_ HO341.out BK346.out (.slice Ao81 t339.length co81) (.slice Ao89 t342.length co89)))).2.2); (case side6 => exact (Kd.R_reads' HO341.out).2.1); (case side7 => exact (Kd.R_reads' (kr_ (rs2_ HO344.out BK346.out (.slice Ao81 t339.length co81) (.slice Ao89 t342.length co89)))).2.2); (case side8 => exact (Kd.R_reads' HO344.out).2.1); rintro e w105 ⟨rfl, hb⟩; replace HO_304000 := Aside0.mk (Kd.R_below (kr_ (rs2_ HO_304000.out BK346.out (.slice Ao81 t339.length co81) (.slice Ao89 t342.length co89))) hb); replace HO_304001 := Aside0.mk (Kd.Q_below (kq_ (qs2_ HO_304001.out BK346.out (.slice Ao81 t339.length co81) (.slice Ao89 t342.length co89))) hb); replace HO_305000 := Aside0.mk (Kd.R_below (kr_ (rs2_ HO_305000.out BK346.out (.slice Ao81 t339.length co81) (.slice Ao89 t342.length co89))) hb); replace HO_305001 := Aside0.mk (Kd.Q_below (kq_ (qs2_ HO_305001.out BK346.out (.slice Ao81 t339.length co81) (.slice Ao89 t342.length co89))) hb); replace HO_314000 := Aside0.mk (Kd.R_below (kr_ (rs2_ HO_314000.out BK346.out (.slice Ao81 t339.length co81) (.slice Ao89 t342.length co89))) hb); replace HO_314001 := Aside0.mk (Kd.Q_below (kq_ (qs2_ HO_314001.out BK346.out (.slice Ao81 t339.length co81) (.slice Ao89 t342.length co89))) hb); replace HO_322000 := Aside0.mk (Kd.R_below (kr_ (rs2_ HO_322000.out BK346.out (.slice Ao81 t339.length co81) (.slice Ao89 t342.length co89))) hb); replace HO_322001 := Aside0.mk (Kd.Q_below (kq_ (qs2_ HO_322001.out BK346.out (.slice Ao81 t339.length co81) (.slice Ao89 t342.length co89))) hb); replace HO_330000 := Aside0.mk (Kd.R_below (kr_ (rs2_ HO_330000.out BK346.out (.slice Ao81 t339.length co81) (.slice Ao89 t342.length co89))) hb); replace HO_330001 := Aside0.mk (Kd.Q_below (kq_ (qs2_ HO_330001.out BK346.out (.slice Ao81 t339.length co81) (.slice Ao89 t342.length co89))) hb); replace HO333 := Aside0.mk (Kd.R_below (kr_ (rs2_ HO333.out BK346.out (.slice Ao81 t339.length co81) (.slice Ao89 t342.length co89))) hb); replace HO336 := Aside0.mk (Kd.R_below (kr_ (rs2_ HO336.out BK346.out (.slice Ao81 t339.length co81) (.slice Ao89 t342.length co89))) hb); replace HO341 := Aside0.mk (Kd.R_below (kr_ (rs2_ HO341.out BK346.out (.slice Ao81 t339.length co81) (.slice Ao89 t342.length co89))) hb); replace HO344 := Aside0.mk (Kd.R_below (kr_ (rs2_ HO344.out BK346.out (.slice Ao81 t339.length co81) (.slice Ao89 t342.length co89))) hb); replace BK303 := Aside0.mk (blk_below (g := gb303) (o := .cells #[.slice Ao12 t291.length co12, .slice Ao15 t294.length co15] 27 (0, 0)) kz_ hb); replace BK304 := Aside0.mk (blk_below (g := gb304) (o := .cells #[.slice Ao16 t297.length co16, .slice Ao18 t300.length co18] 27 (0, 0)) kz_ hb); replace BK313 := Aside0.mk (blk_below (g := gb313) (o := .cells #[.slice Ao21 t305.length co21, .slice Ao25 t308.length co25] 27 (0, 0)) kz_ hb); replace BK321 := Aside0.mk (blk_below (g := gb321) (o := .cells #[.slice Ao30 t314.length co30, .slice Ao35 t317.length co35] 27 (0, 0)) kz_ hb); replace BK329 := Aside0.mk (blk_below (g := gb329) (o := .cells #[.slice Ao40 t322.length co40, .slice Ao46 t325.length co46] 27 (0, 0)) kz_ hb); replace BK338 := Aside0.mk (blk_below (g := gb338) (o := .cells #[.slice Ao70 t331.length co70, .slice Ao77 t334.length co77] 27 (0, 0)) kz_ hb); replace BK346 := Aside0.mk (blk_below (g := gb346) (o := .cells #[.slice Ao81 t339.length co81, .slice Ao89 t342.length co89] 27 (0, 0)) (by (with_reducible repeat (first | refine blk_drewN ?_ _ | refine blk_drew ?_ | refine blk_alloc ?_ _)); refine blk_put (cs := #[.slice Ao81 t339.length co81, .slice none 0 0]) ?_ 1 _ rfl; (with_reducible repeat (first | refine blk_drewN ?_ _ | refine blk_drew ?_ | refine blk_alloc ?_ _)); refine blk_put (cs := #[.slice none 0 0, .slice none 0 0]) ?_ 0 _ rfl; exact kb_ BK346.out) hb); replace HB := Aside0.mk (below_step bl_ hb); clear hb))
  go_meet
  case rel => exact ⟨_, (!t347), (by first | rfl | (simp; done) | (simp [*]; done)), H', ⟨by have := HJ7.out; first | omega | exact Nat.le_refl _⟩, ⟨kp_ HO_304000.out⟩, ⟨kpq_ HO_304001.out⟩, ⟨kp_ HO_305000.out⟩, ⟨kpq_ HO_305001.out⟩, ⟨kp_ HO_314000.out⟩, ⟨kpq_ HO_314001.out⟩, ⟨kp_ HO_322000.out⟩, ⟨kpq_ HO_322001.out⟩, ⟨kp_ HO_330000.out⟩, ⟨kpq_ HO_330001.out⟩, ⟨kp_ HO333.out⟩, ⟨Kd.Q_of_R (kp_ HO336.out)⟩, ⟨kp_ HO341.out⟩, ⟨Kd.Q_of_R (kp_ HO344.out)⟩, ⟨by exact kb_ BK303.out⟩, ⟨by exact kb_ BK304.out⟩, ⟨by exact kb_ BK313.out⟩, ⟨by exact kb_ BK321.out⟩, ⟨by exact kb_ BK329.out⟩, ⟨by exact kb_ BK338.out⟩, ⟨by exact kb_ BK346.out⟩, ⟨bl_⟩⟩
 clear HC62
 try clear c1
 try clear c2
 try clear p2
 try clear c3
 try clear c3b0
 try clear c4
 try clear c5
 try clear c6
 try clear p6
 try clear c7
 try clear c8
 try clear c9
 try clear c10
 try clear c13
 try clear c22
 try clear c23
 try clear c24
 try clear c27
 try clear c28
 try clear c29
 try clear c30
 try clear c31
 try clear c32
 try clear c33
 try clear c41
 try clear c42
 try clear c43
 try clear c44
 try clear c47
 try clear c47b0
 try clear c47b1
 try clear c47b2
 try clear c49
 try clear c50
 try clear c51
 try clear c52
 try clear c54
 try clear c55
 try clear c56
 try clear c59
 try clear c63
 try clear c64
 try clear p64
 try clear c65
 try clear c66
 try clear c71
 try clear c72
 try clear c73
 try clear c74
 try clear c75
 try clear c82
 try clear c83
 try clear c84
 try clear c85
 try clear c86
 try clear c87
 try clear c90
 try clear c90b0
 try clear c90b1
 try clear c90b2
 try clear c92
 try clear c93
 try clear c94
 try clear c95
 try clear c96
 try clear c97
 try clear c99
 try clear c100
 try clear c101
 try clear c102
 try clear c103
 try clear hcz104_0
 try clear hcz104_1
 try clear hcz14_0
 try clear hcz14_1
 try clear hcz17_0
 try clear hcz17_1
 try clear hcz24_0
 try clear hcz24_1
 try clear hcz26_0
 try clear hcz26_1
 try clear hcz27_0
 try clear hcz27_1
 try clear hcz34_0
 try clear hcz34_1
 try clear hcz36_0
 try clear hcz36_1
 try clear hcz37_0
 try clear hcz37_1
 try clear hcz45_0
 try clear hcz45_1
 try clear hcz53_0
 try clear hcz53_1
 try clear hcz57_0
 try clear hcz57_1
 try clear hcz67_0
 try clear hcz67_1
 try clear hcz76_0
 try clear hcz76_1
 try clear hcz78_0
 try clear hcz78_1
 try clear hcz88_0
 try clear hcz88_1
 try clear hcz98_0
 try clear hcz98_1
 try clear hfz104_0
 try clear hfz104_1
 try clear hfz14_0
 try clear hfz14_1
 try clear hfz17_0
 try clear hfz17_1
 try clear hfz24_0
 try clear hfz24_1
 try clear hfz26_0
 try clear hfz26_1
 try clear hfz27_0
 try clear hfz27_1
 try clear hfz34_0
 try clear hfz34_1
 try clear hfz36_0
 try clear hfz36_1
 try clear hfz37_0
 try clear hfz37_1
 try clear hfz45_0
 try clear hfz45_1
 try clear hfz53_0
 try clear hfz53_1
 try clear hfz57_0
 try clear hfz57_1
 try clear hfz67_0
 try clear hfz67_1
 try clear hfz76_0
 try clear hfz76_1
 try clear hfz78_0
 try clear hfz78_1
 try clear hfz88_0
 try clear hfz88_1
 try clear hfz98_0
 try clear hfz98_1
 try clear p2
 try clear p6
 obtain ⟨kq, x94_61, rfl, HA, HJ61, HO_304000, HO_304001, HO_305000, HO_305001, HO_314000, HO_314001, HO_322000, HO_322001, HO_330000, HO_330001, HO_339000, HO_339001, HO_347000, HO_347001, BK303, BK304, BK313, BK321, BK329, BK338, BK346, HB⟩ := hcut
 cases kq with
 | zero => exact absurd HA.out (by simp [laws_FnCounters.j1])
 | succ kj61 => ?_
 have H := HA.out
 clear HA
 simp only [laws_FnCounters.j1] at H
 by_cases c106 : x94_61 = true
 ·subst c106
  have H1 : (none) = some r := by rw [if_pos rfl] at H; exact H
  clear H
  have H := H1
  clear H1
  exact absurd H (by simp)
 replace c106 := Bool.eq_false_iff.mpr c106
 subst c106
 have H1 : (if t337 = true then ((impl_ValueOf.f kj61 t305 t308).bind fun bt348 => ((impl_ValueOf.f kj61 t331 t334).bind fun bt350 => ((impl_MergeCounter.f kj61 t305 t308 t331 t334).bind fun bt352 => (if bt348.2 = true then (if bt350.2 = true then (if bt352.2.2 = true then (if bt350.1 = (wrap64 (bt348.1 + t312)) then ((laws_sameCounters.f kj61 bt352.1 bt352.2.1 t331 t334).bind fun t360 => (if t360 = true then (laws_FnCounters.j2 kj61 t320 t291 t294 t297 t300 t305 t308 t314 t317) else (none))) else (none)) else (none)) else (none)) else (none))))) else (laws_FnCounters.j2 kj61 t320 t291 t294 t297 t300 t305 t308 t314 t317)) = some r := by rw [if_neg (show ¬ (false = true) by decide)] at H; exact H
 clear H
 have H := H1
 clear H1
 have HC107 := Aside0.mk H
 clear H
 go_upto_if 95 with (fail)
 go_cut [] (fun wc => ∃ (kq : Nat), Aside0 (laws_FnCounters.j2 kq t320 t291 t294 t297 t300 t305 t308 t314 t317 = some r) ∧ Aside0 (kq ≤ kj61) ∧ Aside0 (Kd.R (Kd.int .i64) 3 wc w.heap.size (fun k_ => some k_ ≠ ((.slice Ao15 t294.length co15) : Value).ownBlock ∧ some k_ ≠ ((.slice Ao16 t297.length co16) : Value).ownBlock ∧ some k_ ≠ ((.slice Ao18 t300.length co18) : Value).ownBlock ∧ some k_ ≠ ((.slice Ao21 t305.length co21) : Value).ownBlock ∧ some k_ ≠ ((.slice Ao25 t308.length co25) : Value).ownBlock ∧ some k_ ≠ ((.slice Ao30 t314.length co30) : Value).ownBlock ∧ some k_ ≠ ((.slice Ao35 t317.length co35) : Value).ownBlock ∧ some k_ ≠ ((.slice Ao40 t322.length co40) : Value).ownBlock ∧ some k_ ≠ ((.slice Ao46 t325.length co46) : Value).ownBlock ∧ some k_ ≠ ((.slice Ao70 t331.length co70) : Value).ownBlock ∧ some k_ ≠ ((.slice Ao77 t334.length co77) : Value).ownBlock ∧ some k_ ≠ ((.slice Ao81 t339.length co81) : Value).ownBlock ∧ some k_ ≠ ((.slice Ao89 t342.length co89) : Value).ownBlock) (.slice Ao12 t291.length co12) t291) ∧ Aside0 (Kd.Q (Kd.int .i64) 3 wc w.heap.size (fun k_ => some k_ ≠ ((.slice Ao12 t291.length co12) : Value).ownBlock ∧ some k_ ≠ ((.slice Ao16 t297.length co16) : Value).ownBlock ∧ some k_ ≠ ((.slice Ao18 t300.length co18) : Value).ownBlock ∧ some k_ ≠ ((.slice Ao21 t305.length co21) : Value).ownBlock ∧ some k_ ≠ ((.slice Ao25 t308.length co25) : Value).ownBlock ∧ some k_ ≠ ((.slice Ao30 t314.length co30) : Value).ownBlock ∧ some k_ ≠ ((.slice Ao35 t317.length co35) : Value).ownBlock ∧ some k_ ≠ ((.slice Ao40 t322.length co40) : Value).ownBlock ∧ some k_ ≠ ((.slice Ao46 t325.length co46) : Value).ownBlock ∧ some k_ ≠ ((.slice Ao70 t331.length co70) : Value).ownBlock ∧ some k_ ≠ ((.slice Ao77 t334.length co77) : Value).ownBlock ∧ some k_ ≠ ((.slice Ao81 t339.length co81) : Value).ownBlock ∧ some k_ ≠ ((.slice Ao89 t342.length co89) : Value).ownBlock) (.slice Ao15 t294.length co15) t294) ∧ Aside0 (Kd.R (Kd.int .i64) 3 wc w.heap.size (fun k_ => some k_ ≠ ((.slice Ao12 t291.length co12) : Value).ownBlock ∧ some k_ ≠ ((.slice Ao15 t294.length co15) : Value).ownBlock ∧ some k_ ≠ ((.slice Ao18 t300.length co18) : Value).ownBlock ∧ some k_ ≠ ((.slice Ao21 t305.length co21) : Value).ownBlock ∧ some k_ ≠ ((.slice Ao25 t308.length co25) : Value).ownBlock ∧ some k_ ≠ ((.slice Ao30 t314.length co30) : Value).ownBlock ∧ some k_ ≠ ((.slice Ao35 t317.length co35) : Value).ownBlock ∧ some k_ ≠ ((.slice Ao40 t322.length co40) : Value).ownBlock ∧ some k_ ≠ ((.slice Ao46 t325.length co46) : Value).ownBlock ∧ some k_ ≠ ((.slice Ao70 t331.length co70) : Value).ownBlock ∧ some k_ ≠ ((.slice Ao77 t334.length co77) : Value).ownBlock ∧ some k_ ≠ ((.slice Ao81 t339.length co81) : Value).ownBlock ∧ some k_ ≠ ((.slice Ao89 t342.length co89) : Value).ownBlock) (.slice Ao16 t297.length co16) t297) ∧ Aside0 (Kd.Q (Kd.int .i64) 3 wc w.heap.size (fun k_ => some k_ ≠ ((.slice Ao12 t291.length co12) : Value).ownBlock ∧ some k_ ≠ ((.slice Ao15 t294.length co15) : Value).ownBlock ∧ some k_ ≠ ((.slice Ao16 t297.length co16) : Value).ownBlock ∧ some k_ ≠ ((.slice Ao21 t305.length co21) : Value).ownBlock ∧ some k_ ≠ ((.slice Ao25 t308.length co25) : Value).ownBlock ∧ some k_ ≠ ((.slice Ao30 t314.length co30) : Value).ownBlock ∧ some k_ ≠ ((.slice Ao35 t317.length co35) : Value).ownBlock ∧ some k_ ≠ ((.slice Ao40 t322.length co40) : Value).ownBlock ∧ some k_ ≠ ((.slice Ao46 t325.length co46) : Value).ownBlock ∧ some k_ ≠ ((.slice Ao70 t331.length co70) : Value).ownBlock ∧ some k_ ≠ ((.slice Ao77 t334.length co77) : Value).ownBlock ∧ some k_ ≠ ((.slice Ao81 t339.length co81) : Value).ownBlock ∧ some k_ ≠ ((.slice Ao89 t342.length co89) : Value).ownBlock) (.slice Ao18 t300.length co18) t300) ∧ Aside0 (Kd.R (Kd.int .i64) 3 wc w.heap.size (fun k_ => some k_ ≠ ((.slice Ao12 t291.length co12) : Value).ownBlock ∧ some k_ ≠ ((.slice Ao15 t294.length co15) : Value).ownBlock ∧ some k_ ≠ ((.slice Ao16 t297.length co16) : Value).ownBlock ∧ some k_ ≠ ((.slice Ao18 t300.length co18) : Value).ownBlock ∧ some k_ ≠ ((.slice Ao25 t308.length co25) : Value).ownBlock ∧ some k_ ≠ ((.slice Ao30 t314.length co30) : Value).ownBlock ∧ some k_ ≠ ((.slice Ao35 t317.length co35) : Value).ownBlock ∧ some k_ ≠ ((.slice Ao40 t322.length co40) : Value).ownBlock ∧ some k_ ≠ ((.slice Ao46 t325.length co46) : Value).ownBlock ∧ some k_ ≠ ((.slice Ao70 t331.length co70) : Value).ownBlock ∧ some k_ ≠ ((.slice Ao77 t334.length co77) : Value).ownBlock ∧ some k_ ≠ ((.slice Ao81 t339.length co81) : Value).ownBlock ∧ some k_ ≠ ((.slice Ao89 t342.length co89) : Value).ownBlock) (.slice Ao21 t305.length co21) t305) ∧ Aside0 (Kd.Q (Kd.int .i64) 3 wc w.heap.size (fun k_ => some k_ ≠ ((.slice Ao12 t291.length co12) : Value).ownBlock ∧ some k_ ≠ ((.slice Ao15 t294.length co15) : Value).ownBlock ∧ some k_ ≠ ((.slice Ao16 t297.length co16) : Value).ownBlock ∧ some k_ ≠ ((.slice Ao18 t300.length co18) : Value).ownBlock ∧ some k_ ≠ ((.slice Ao21 t305.length co21) : Value).ownBlock ∧ some k_ ≠ ((.slice Ao30 t314.length co30) : Value).ownBlock ∧ some k_ ≠ ((.slice Ao35 t317.length co35) : Value).ownBlock ∧ some k_ ≠ ((.slice Ao40 t322.length co40) : Value).ownBlock ∧ some k_ ≠ ((.slice Ao46 t325.length co46) : Value).ownBlock ∧ some k_ ≠ ((.slice Ao70 t331.length co70) : Value).ownBlock ∧ some k_ ≠ ((.slice Ao77 t334.length co77) : Value).ownBlock ∧ some k_ ≠ ((.slice Ao81 t339.length co81) : Value).ownBlock ∧ some k_ ≠ ((.slice Ao89 t342.length co89) : Value).ownBlock) (.slice Ao25 t308.length co25) t308) ∧ Aside0 (Kd.R (Kd.int .i64) 3 wc w.heap.size (fun k_ => some k_ ≠ ((.slice Ao12 t291.length co12) : Value).ownBlock ∧ some k_ ≠ ((.slice Ao15 t294.length co15) : Value).ownBlock ∧ some k_ ≠ ((.slice Ao16 t297.length co16) : Value).ownBlock ∧ some k_ ≠ ((.slice Ao18 t300.length co18) : Value).ownBlock ∧ some k_ ≠ ((.slice Ao21 t305.length co21) : Value).ownBlock ∧ some k_ ≠ ((.slice Ao25 t308.length co25) : Value).ownBlock ∧ some k_ ≠ ((.slice Ao35 t317.length co35) : Value).ownBlock ∧ some k_ ≠ ((.slice Ao40 t322.length co40) : Value).ownBlock ∧ some k_ ≠ ((.slice Ao46 t325.length co46) : Value).ownBlock ∧ some k_ ≠ ((.slice Ao70 t331.length co70) : Value).ownBlock ∧ some k_ ≠ ((.slice Ao77 t334.length co77) : Value).ownBlock ∧ some k_ ≠ ((.slice Ao81 t339.length co81) : Value).ownBlock ∧ some k_ ≠ ((.slice Ao89 t342.length co89) : Value).ownBlock) (.slice Ao30 t314.length co30) t314) ∧ Aside0 (Kd.Q (Kd.int .i64) 3 wc w.heap.size (fun k_ => some k_ ≠ ((.slice Ao12 t291.length co12) : Value).ownBlock ∧ some k_ ≠ ((.slice Ao15 t294.length co15) : Value).ownBlock ∧ some k_ ≠ ((.slice Ao16 t297.length co16) : Value).ownBlock ∧ some k_ ≠ ((.slice Ao18 t300.length co18) : Value).ownBlock ∧ some k_ ≠ ((.slice Ao21 t305.length co21) : Value).ownBlock ∧ some k_ ≠ ((.slice Ao25 t308.length co25) : Value).ownBlock ∧ some k_ ≠ ((.slice Ao30 t314.length co30) : Value).ownBlock ∧ some k_ ≠ ((.slice Ao40 t322.length co40) : Value).ownBlock ∧ some k_ ≠ ((.slice Ao46 t325.length co46) : Value).ownBlock ∧ some k_ ≠ ((.slice Ao70 t331.length co70) : Value).ownBlock ∧ some k_ ≠ ((.slice Ao77 t334.length co77) : Value).ownBlock ∧ some k_ ≠ ((.slice Ao81 t339.length co81) : Value).ownBlock ∧ some k_ ≠ ((.slice Ao89 t342.length co89) : Value).ownBlock) (.slice Ao35 t317.length co35) t317) ∧ Aside0 (Kd.R (Kd.int .i64) 3 wc w.heap.size (fun k_ => some k_ ≠ ((.slice Ao12 t291.length co12) : Value).ownBlock ∧ some k_ ≠ ((.slice Ao15 t294.length co15) : Value).ownBlock ∧ some k_ ≠ ((.slice Ao16 t297.length co16) : Value).ownBlock ∧ some k_ ≠ ((.slice Ao18 t300.length co18) : Value).ownBlock ∧ some k_ ≠ ((.slice Ao21 t305.length co21) : Value).ownBlock ∧ some k_ ≠ ((.slice Ao25 t308.length co25) : Value).ownBlock ∧ some k_ ≠ ((.slice Ao30 t314.length co30) : Value).ownBlock ∧ some k_ ≠ ((.slice Ao35 t317.length co35) : Value).ownBlock ∧ some k_ ≠ ((.slice Ao46 t325.length co46) : Value).ownBlock ∧ some k_ ≠ ((.slice Ao70 t331.length co70) : Value).ownBlock ∧ some k_ ≠ ((.slice Ao77 t334.length co77) : Value).ownBlock ∧ some k_ ≠ ((.slice Ao81 t339.length co81) : Value).ownBlock ∧ some k_ ≠ ((.slice Ao89 t342.length co89) : Value).ownBlock) (.slice Ao40 t322.length co40) t322) ∧ Aside0 (Kd.Q (Kd.int .i64) 3 wc w.heap.size (fun k_ => some k_ ≠ ((.slice Ao12 t291.length co12) : Value).ownBlock ∧ some k_ ≠ ((.slice Ao15 t294.length co15) : Value).ownBlock ∧ some k_ ≠ ((.slice Ao16 t297.length co16) : Value).ownBlock ∧ some k_ ≠ ((.slice Ao18 t300.length co18) : Value).ownBlock ∧ some k_ ≠ ((.slice Ao21 t305.length co21) : Value).ownBlock ∧ some k_ ≠ ((.slice Ao25 t308.length co25) : Value).ownBlock ∧ some k_ ≠ ((.slice Ao30 t314.length co30) : Value).ownBlock ∧ some k_ ≠ ((.slice Ao35 t317.length co35) : Value).ownBlock ∧ some k_ ≠ ((.slice Ao40 t322.length co40) : Value).ownBlock ∧ some k_ ≠ ((.slice Ao70 t331.length co70) : Value).ownBlock ∧ some k_ ≠ ((.slice Ao77 t334.length co77) : Value).ownBlock ∧ some k_ ≠ ((.slice Ao81 t339.length co81) : Value).ownBlock ∧ some k_ ≠ ((.slice Ao89 t342.length co89) : Value).ownBlock) (.slice Ao46 t325.length co46) t325) ∧ Aside0 (Kd.R (Kd.int .i64) 3 wc w.heap.size (fun k_ => some k_ ≠ ((.slice Ao12 t291.length co12) : Value).ownBlock ∧ some k_ ≠ ((.slice Ao15 t294.length co15) : Value).ownBlock ∧ some k_ ≠ ((.slice Ao16 t297.length co16) : Value).ownBlock ∧ some k_ ≠ ((.slice Ao18 t300.length co18) : Value).ownBlock ∧ some k_ ≠ ((.slice Ao21 t305.length co21) : Value).ownBlock ∧ some k_ ≠ ((.slice Ao25 t308.length co25) : Value).ownBlock ∧ some k_ ≠ ((.slice Ao30 t314.length co30) : Value).ownBlock ∧ some k_ ≠ ((.slice Ao35 t317.length co35) : Value).ownBlock ∧ some k_ ≠ ((.slice Ao40 t322.length co40) : Value).ownBlock ∧ some k_ ≠ ((.slice Ao46 t325.length co46) : Value).ownBlock ∧ some k_ ≠ ((.slice Ao77 t334.length co77) : Value).ownBlock ∧ some k_ ≠ ((.slice Ao81 t339.length co81) : Value).ownBlock ∧ some k_ ≠ ((.slice Ao89 t342.length co89) : Value).ownBlock) (.slice Ao70 t331.length co70) t331) ∧ Aside0 (Kd.Q (Kd.int .i64) 3 wc w.heap.size (fun k_ => some k_ ≠ ((.slice Ao12 t291.length co12) : Value).ownBlock ∧ some k_ ≠ ((.slice Ao15 t294.length co15) : Value).ownBlock ∧ some k_ ≠ ((.slice Ao16 t297.length co16) : Value).ownBlock ∧ some k_ ≠ ((.slice Ao18 t300.length co18) : Value).ownBlock ∧ some k_ ≠ ((.slice Ao21 t305.length co21) : Value).ownBlock ∧ some k_ ≠ ((.slice Ao25 t308.length co25) : Value).ownBlock ∧ some k_ ≠ ((.slice Ao30 t314.length co30) : Value).ownBlock ∧ some k_ ≠ ((.slice Ao35 t317.length co35) : Value).ownBlock ∧ some k_ ≠ ((.slice Ao40 t322.length co40) : Value).ownBlock ∧ some k_ ≠ ((.slice Ao46 t325.length co46) : Value).ownBlock ∧ some k_ ≠ ((.slice Ao70 t331.length co70) : Value).ownBlock ∧ some k_ ≠ ((.slice Ao81 t339.length co81) : Value).ownBlock ∧ some k_ ≠ ((.slice Ao89 t342.length co89) : Value).ownBlock) (.slice Ao77 t334.length co77) t334) ∧ Aside0 (Kd.R (Kd.int .i64) 3 wc w.heap.size (fun k_ => some k_ ≠ ((.slice Ao12 t291.length co12) : Value).ownBlock ∧ some k_ ≠ ((.slice Ao15 t294.length co15) : Value).ownBlock ∧ some k_ ≠ ((.slice Ao16 t297.length co16) : Value).ownBlock ∧ some k_ ≠ ((.slice Ao18 t300.length co18) : Value).ownBlock ∧ some k_ ≠ ((.slice Ao21 t305.length co21) : Value).ownBlock ∧ some k_ ≠ ((.slice Ao25 t308.length co25) : Value).ownBlock ∧ some k_ ≠ ((.slice Ao30 t314.length co30) : Value).ownBlock ∧ some k_ ≠ ((.slice Ao35 t317.length co35) : Value).ownBlock ∧ some k_ ≠ ((.slice Ao40 t322.length co40) : Value).ownBlock ∧ some k_ ≠ ((.slice Ao46 t325.length co46) : Value).ownBlock ∧ some k_ ≠ ((.slice Ao70 t331.length co70) : Value).ownBlock ∧ some k_ ≠ ((.slice Ao77 t334.length co77) : Value).ownBlock ∧ some k_ ≠ ((.slice Ao89 t342.length co89) : Value).ownBlock) (.slice Ao81 t339.length co81) t339) ∧ Aside0 (Kd.Q (Kd.int .i64) 3 wc w.heap.size (fun k_ => some k_ ≠ ((.slice Ao12 t291.length co12) : Value).ownBlock ∧ some k_ ≠ ((.slice Ao15 t294.length co15) : Value).ownBlock ∧ some k_ ≠ ((.slice Ao16 t297.length co16) : Value).ownBlock ∧ some k_ ≠ ((.slice Ao18 t300.length co18) : Value).ownBlock ∧ some k_ ≠ ((.slice Ao21 t305.length co21) : Value).ownBlock ∧ some k_ ≠ ((.slice Ao25 t308.length co25) : Value).ownBlock ∧ some k_ ≠ ((.slice Ao30 t314.length co30) : Value).ownBlock ∧ some k_ ≠ ((.slice Ao35 t317.length co35) : Value).ownBlock ∧ some k_ ≠ ((.slice Ao40 t322.length co40) : Value).ownBlock ∧ some k_ ≠ ((.slice Ao46 t325.length co46) : Value).ownBlock ∧ some k_ ≠ ((.slice Ao70 t331.length co70) : Value).ownBlock ∧ some k_ ≠ ((.slice Ao77 t334.length co77) : Value).ownBlock ∧ some k_ ≠ ((.slice Ao81 t339.length co81) : Value).ownBlock) (.slice Ao89 t342.length co89) t342) ∧ Aside0 (wc.heap[gb303]? = some (.cells #[(.slice Ao12 t291.length co12), (.slice Ao15 t294.length co15)] 27 (0, 0))) ∧ Aside0 (wc.heap[gb304]? = some (.cells #[(.slice Ao16 t297.length co16), (.slice Ao18 t300.length co18)] 27 (0, 0))) ∧ Aside0 (wc.heap[gb313]? = some (.cells #[(.slice Ao21 t305.length co21), (.slice Ao25 t308.length co25)] 27 (0, 0))) ∧ Aside0 (wc.heap[gb321]? = some (.cells #[(.slice Ao30 t314.length co30), (.slice Ao35 t317.length co35)] 27 (0, 0))) ∧ Aside0 (wc.heap[gb329]? = some (.cells #[(.slice Ao40 t322.length co40), (.slice Ao46 t325.length co46)] 27 (0, 0))) ∧ Aside0 (wc.heap[gb338]? = some (.cells #[(.slice Ao70 t331.length co70), (.slice Ao77 t334.length co77)] 27 (0, 0))) ∧ Aside0 (wc.heap[gb346]? = some (.cells #[(.slice Ao81 t339.length co81), (.slice Ao89 t342.length co89)] 27 (0, 0))) ∧ Aside0 (Below w.heap.size w wc))
 case first =>
  have H := HC107.out
  clear HC107
  by_cases c108 : t337 = true
  rotate_left
  ·replace c108 := Bool.eq_false_iff.mpr c108
   subst c108
   have H1 : (laws_FnCounters.j2 kj61 t320 t291 t294 t297 t300 t305 t308 t314 t317) = some r := by rw [if_neg (show ¬ (false = true) by decide)] at H; exact H
   clear H
   have H := H1
   clear H1
   have H' := Aside0.mk H
   clear H
   go_wp2
   go_meet
   case rel => exact ⟨_, H', ⟨by have := HJ7.out; have := HJ61.out; first | omega | exact Nat.le_refl _⟩, ⟨by exact kr_ HO_304000.out⟩, ⟨by exact kq_ HO_304001.out⟩, ⟨by exact kr_ HO_305000.out⟩, ⟨by exact kq_ HO_305001.out⟩, ⟨by exact kr_ HO_314000.out⟩, ⟨by exact kq_ HO_314001.out⟩, ⟨by exact kr_ HO_322000.out⟩, ⟨by exact kq_ HO_322001.out⟩, ⟨by exact kr_ HO_330000.out⟩, ⟨by exact kq_ HO_330001.out⟩, ⟨by exact kr_ HO_339000.out⟩, ⟨by exact kq_ HO_339001.out⟩, ⟨by exact kr_ HO_347000.out⟩, ⟨by exact kq_ HO_347001.out⟩, ⟨by exact kb_ BK303.out⟩, ⟨by exact kb_ BK304.out⟩, ⟨by exact kb_ BK313.out⟩, ⟨by exact kb_ BK321.out⟩, ⟨by exact kb_ BK329.out⟩, ⟨by exact kb_ BK338.out⟩, ⟨by exact kb_ BK346.out⟩, ⟨bl_⟩⟩
  subst c108
  have H1 : ((impl_ValueOf.f kj61 t305 t308).bind fun bt348 => ((impl_ValueOf.f kj61 t331 t334).bind fun bt350 => ((impl_MergeCounter.f kj61 t305 t308 t331 t334).bind fun bt352 => (if bt348.2 = true then (if bt350.2 = true then (if bt352.2.2 = true then (if bt350.1 = (wrap64 (bt348.1 + t312)) then ((laws_sameCounters.f kj61 bt352.1 bt352.2.1 t331 t334).bind fun t360 => (if t360 = true then (laws_FnCounters.j2 kj61 t320 t291 t294 t297 t300 t305 t308 t314 t317) else (none))) else (none)) else (none)) else (none)) else (none))))) = some r := by rw [if_pos rfl] at H; exact H
  clear H
  have H := H1
  clear H1
  replace H := Option.bind_eq_some_iff.mp H
  obtain ⟨⟨t348, t349⟩, A1090, H⟩ := H
  replace H : ((impl_ValueOf.f kj61 t331 t334).bind fun bt350 => ((impl_MergeCounter.f kj61 t305 t308 t331 t334).bind fun bt352 => (if t349 = true then (if bt350.2 = true then (if bt352.2.2 = true then (if bt350.1 = (wrap64 (t348 + t312)) then ((laws_sameCounters.f kj61 bt352.1 bt352.2.1 t331 t334).bind fun t360 => (if t360 = true then (laws_FnCounters.j2 kj61 t320 t291 t294 t297 t300 t305 t308 t314 t317) else (none))) else (none)) else (none)) else (none)) else (none)))) = some r := H
  have A109 := Aside0.mk A1090
  clear A1090
  replace H := Option.bind_eq_some_iff.mp H
  obtain ⟨⟨t350, t351⟩, A1100, H⟩ := H
  replace H : ((impl_MergeCounter.f kj61 t305 t308 t331 t334).bind fun bt352 => (if t349 = true then (if t351 = true then (if bt352.2.2 = true then (if t350 = (wrap64 (t348 + t312)) then ((laws_sameCounters.f kj61 bt352.1 bt352.2.1 t331 t334).bind fun t360 => (if t360 = true then (laws_FnCounters.j2 kj61 t320 t291 t294 t297 t300 t305 t308 t314 t317) else (none))) else (none)) else (none)) else (none)) else (none))) = some r := H
  have A110 := Aside0.mk A1100
  clear A1100
  replace H := Option.bind_eq_some_iff.mp H
  obtain ⟨⟨t352, t355, t358⟩, A1110, H⟩ := H
  replace H : (if t349 = true then (if t351 = true then (if t358 = true then (if t350 = (wrap64 (t348 + t312)) then ((laws_sameCounters.f kj61 t352 t355 t331 t334).bind fun t360 => (if t360 = true then (laws_FnCounters.j2 kj61 t320 t291 t294 t297 t300 t305 t308 t314 t317) else (none))) else (none)) else (none)) else (none)) else (none)) = some r := H
  have A111 := Aside0.mk A1110
  clear A1110
  by_cases c112 : t349 = true
  rotate_left
  ·replace c112 := Bool.eq_false_iff.mpr c112
   subst c112
   have H1 : (none) = some r := by rw [if_neg (show ¬ (false = true) by decide)] at H; exact H
   clear H
   have H := H1
   clear H1
   exact absurd H (by simp)
  subst c112
  have H1 : (if t351 = true then (if t358 = true then (if t350 = (wrap64 (t348 + t312)) then ((laws_sameCounters.f kj61 t352 t355 t331 t334).bind fun t360 => (if t360 = true then (laws_FnCounters.j2 kj61 t320 t291 t294 t297 t300 t305 t308 t314 t317) else (none))) else (none)) else (none)) else (none)) = some r := by rw [if_pos rfl] at H; exact H
  clear H
  have H := H1
  clear H1
  by_cases c113 : t351 = true
  rotate_left
  ·replace c113 := Bool.eq_false_iff.mpr c113
   subst c113
   have H1 : (none) = some r := by rw [if_neg (show ¬ (false = true) by decide)] at H; exact H
   clear H
   have H := H1
   clear H1
   exact absurd H (by simp)
  subst c113
  have H1 : (if t358 = true then (if t350 = (wrap64 (t348 + t312)) then ((laws_sameCounters.f kj61 t352 t355 t331 t334).bind fun t360 => (if t360 = true then (laws_FnCounters.j2 kj61 t320 t291 t294 t297 t300 t305 t308 t314 t317) else (none))) else (none)) else (none)) = some r := by rw [if_pos rfl] at H; exact H
  clear H
  have H := H1
  clear H1
  by_cases c114 : t358 = true
  rotate_left
  ·replace c114 := Bool.eq_false_iff.mpr c114
   subst c114
   have H1 : (none) = some r := by rw [if_neg (show ¬ (false = true) by decide)] at H; exact H
   clear H
   have H := H1
   clear H1
   exact absurd H (by simp)
  subst c114
  have H1 : (if t350 = (wrap64 (t348 + t312)) then ((laws_sameCounters.f kj61 t352 t355 t331 t334).bind fun t360 => (if t360 = true then (laws_FnCounters.j2 kj61 t320 t291 t294 t297 t300 t305 t308 t314 t317) else (none))) else (none)) = some r := by rw [if_pos rfl] at H; exact H
  clear H
  have H := H1
  clear H1
  by_cases c115 : t350 = (wrap64 (t348 + t312))
  rotate_left
  ·rw [if_neg c115] at H
   exact absurd H (by simp)
  rw [if_pos c115] at H
  have c115b0 : (t350 == (wrap64 (t348 + t312))) = true := beq_iff_eq.mpr c115
  have c115b1 : (t350 != (wrap64 (t348 + t312))) = false := bne_eq_false_iff_eq.mpr c115
  clear c115
  (first | rw [c115b0] | (simp only [i64_w, i32_w]; rw [c115b0]) | skip)
  replace H := Option.bind_eq_some_iff.mp H
  obtain ⟨t360, A1160, H⟩ := H
  replace H : (if t360 = true then (laws_FnCounters.j2 kj61 t320 t291 t294 t297 t300 t305 t308 t314 t317) else (none)) = some r := H
  have A116 := Aside0.mk A1160
  clear A1160
  by_cases c117 : t360 = true
  rotate_left
  ·replace c117 := Bool.eq_false_iff.mpr c117
   subst c117
   have H1 : (none) = some r := by rw [if_neg (show ¬ (false = true) by decide)] at H; exact H
   clear H
   have H := H1
   clear H1
   exact absurd H (by simp)
  subst c117
  have H1 : (laws_FnCounters.j2 kj61 t320 t291 t294 t297 t300 t305 t308 t314 t317) = some r := by rw [if_pos rfl] at H; exact H
  clear H
  have H := H1
  clear H1
  have H' := Aside0.mk H
  clear H
  have hnb118 := NB313_303.out
  have hnc118 := NB303_313.out
  have hnb119 := NB313_304.out
  have hnc119 := NB304_313.out
  have hnb120 := NB313_321.out
  have hnc120 := NB321_313.out
  have hnb121 := NB313_329.out
  have hnc121 := NB329_313.out
  have hnb122 := NB313_338.out
  have hnc122 := NB338_313.out
  have hnb123 := NB313_346.out
  have hnc123 := NB346_313.out
  have hcz124_0 : wc.cell? ⟨gb313, 0, none⟩ = some (.slice Ao21 t305.length co21) := bc_ BK313.out 0
  have hcz124_1 : wc.cell? ⟨gb313, 1, none⟩ = some (.slice Ao25 t308.length co25) := bc_ BK313.out 1
  have hfz124_0 := blk_frozen BK313.out 0
  have hfz124_1 := blk_frozen BK313.out 1
  go_wp2_with (first | ((with_reducible refine gate_callee (f := 16) rfl ?_); refine goesL_ (some 98) rfl rfl Try.func16 (by kernel_rfl) rfl #[.agg #[.slice Ao21 t305.length co21, .slice Ao25 t308.length co25]] rfl nc_ ?_; (with_reducible refine (impl_ValueOf.calls kj61 _ _ t305 _ _ t308 t348 true _ ?side1 ?side2 ?side3 ?side4 A109.out).mono ?_); (case side1 => exact kc_ (Kd.R_reads' HO_314000.out).2.2); (case side2 => exact (Kd.R_reads' HO_314000.out).2.1); (case side3 => exact kc_ (Kd.Q_reads' HO_314001.out).2.2); (case side4 => exact (Kd.Q_reads' HO_314001.out).2.1); rintro e w125 ⟨rfl, hb⟩; refine ⟨_, rfl, ?_⟩; replace HO_304000 := rb_ HO_304000 hb; replace HO_304001 := qb_ HO_304001 hb; replace HO_305000 := rb_ HO_305000 hb; replace HO_305001 := qb_ HO_305001 hb; replace HO_314000 := rb_ HO_314000 hb; replace HO_314001 := qb_ HO_314001 hb; replace HO_322000 := rb_ HO_322000 hb; replace HO_322001 := qb_ HO_322001 hb; replace HO_330000 := rb_ HO_330000 hb; replace HO_330001 := qb_ HO_330001 hb; replace HO_339000 := rb_ HO_339000 hb; replace HO_339001 := qb_ HO_339001 hb; replace HO_347000 := rb_ HO_347000 hb; replace HO_347001 := qb_ HO_347001 hb; replace BK303 := bb_ BK303 hb; replace BK304 := bb_ BK304 hb; replace BK313 := bb_ BK313 hb; replace BK321 := bb_ BK321 hb; replace BK329 := bb_ BK329 hb; replace BK338 := bb_ BK338 hb; replace BK346 := bb_ BK346 hb; replace HB := Aside0.mk (below_step bl_ hb); clear hb; have hnb126 := NB338_303.out; have hnc126 := NB303_338.out; have hnb127 := NB338_304.out; have hnc127 := NB304_338.out; have hnb128 := NB338_321.out; have hnc128 := NB321_338.out; have hnb129 := NB338_329.out; have hnc129 := NB329_338.out; have hnb130 := NB338_346.out; have hnc130 := NB346_338.out; have hcz131_0 : w125.cell? ⟨gb338, 0, none⟩ = some (.slice Ao70 t331.length co70) := bc_ BK338.out 0; have hcz131_1 : w125.cell? ⟨gb338, 1, none⟩ = some (.slice Ao77 t334.length co77) := bc_ BK338.out 1; have hfz131_0 := blk_frozen BK338.out 0; have hfz131_1 := blk_frozen BK338.out 1) | ((with_reducible refine gate_callee (f := 16) rfl ?_); refine goesL_ (some 103) rfl rfl Try.func16 (by kernel_rfl) rfl #[.agg #[.slice Ao70 t331.length co70, .slice Ao77 t334.length co77]] rfl nc_ ?_; (with_reducible refine (impl_ValueOf.calls kj61 _ _ t331 _ _ t334 t350 true _ ?side1 ?side2 ?side3 ?side4 A110.out).mono ?_); (case side1 => exact kc_ (Kd.R_reads' HO_339000.out).2.2); (case side2 => exact (Kd.R_reads' HO_339000.out).2.1); (case side3 => exact kc_ (Kd.Q_reads' HO_339001.out).2.2); (case side4 => exact (Kd.Q_reads' HO_339001.out).2.1); rintro e w132 ⟨rfl, hb⟩; refine ⟨_, rfl, ?_⟩; replace HO_304000 := rb_ HO_304000 hb; replace HO_304001 := qb_ HO_304001 hb; replace HO_305000 := rb_ HO_305000 hb; replace HO_305001 := qb_ HO_305001 hb; replace HO_314000 := rb_ HO_314000 hb; replace HO_314001 := qb_ HO_314001 hb; replace HO_322000 := rb_ HO_322000 hb; replace HO_322001 := qb_ HO_322001 hb; replace HO_330000 := rb_ HO_330000 hb; replace HO_330001 := qb_ HO_330001 hb; replace HO_339000 := rb_ HO_339000 hb; replace HO_339001 := qb_ HO_339001 hb; replace HO_347000 := rb_ HO_347000 hb; replace HO_347001 := qb_ HO_347001 hb; replace BK303 := bb_ BK303 hb; replace BK304 := bb_ BK304 hb; replace BK313 := bb_ BK313 hb; replace BK321 := bb_ BK321 hb; replace BK329 := bb_ BK329 hb; replace BK338 := bb_ BK338 hb; replace BK346 := bb_ BK346 hb; replace HB := Aside0.mk (below_step bl_ hb); clear hb; have hcz133_0 : w132.cell? ⟨gb313, 0, none⟩ = some (.slice Ao21 t305.length co21) := bc_ BK313.out 0; have hcz133_1 : w132.cell? ⟨gb313, 1, none⟩ = some (.slice Ao25 t308.length co25) := bc_ BK313.out 1; have hfz133_0 := blk_frozen BK313.out 0; have hfz133_1 := blk_frozen BK313.out 1; have hcz134_0 : w132.cell? ⟨gb338, 0, none⟩ = some (.slice Ao70 t331.length co70) := bc_ BK338.out 0; have hcz134_1 : w132.cell? ⟨gb338, 1, none⟩ = some (.slice Ao77 t334.length co77) := bc_ BK338.out 1; have hfz134_0 := blk_frozen BK338.out 0; have hfz134_1 := blk_frozen BK338.out 1) | ((with_reducible refine gate_callee (f := 24) rfl ?_); refine goesL_ (some 109) rfl rfl Try.func24 (by kernel_rfl) rfl #[.agg #[.slice Ao21 t305.length co21, .slice Ao25 t308.length co25], .agg #[.slice Ao70 t331.length co70, .slice Ao77 t334.length co77]] rfl nc_ ?_; (with_reducible refine (impl_MergeCounter.calls kj61 _ _ t305 _ _ t308 _ _ t331 _ _ t334 t352 t355 true _ ?side1 ?side2 ?side3 ?side4 ?side5 ?side6 ?side7 ?side8 A111.out).mono ?_); (case side1 => exact kc_ (Kd.R_reads' HO_314000.out).2.2); (case side2 => exact (Kd.R_reads' HO_314000.out).2.1); (case side3 => exact kc_ (Kd.Q_reads' HO_314001.out).2.2); (case side4 => exact (Kd.Q_reads' HO_314001.out).2.1); (case side5 => exact kc_ (Kd.R_reads' HO_339000.out).2.2); (case side6 => exact (Kd.R_reads' HO_339000.out).2.1); (case side7 => exact kc_ (Kd.Q_reads' HO_339001.out).2.2); (case side8 => exact (Kd.Q_reads' HO_339001.out).2.1); rintro e w135 ⟨v353, v356, rfl, ho0, ho1, hb⟩; refine ⟨_, rfl, ?_⟩; have HO354 := Aside0.mk (Kd.R_lower (rnq_ (rn_ (rnq_ (rn_ (rnq_ (rn_ (rnq_ (rn_ (rnq_ (rn_ (rnq_ (rn_ (rnq_ (rn_ ho0 HO_304000.out) HO_304001.out) HO_305000.out) HO_305001.out) HO_314000.out) HO_314001.out) HO_322000.out) HO_322001.out) HO_330000.out) HO_330001.out) HO_339000.out) HO_339001.out) HO_347000.out) HO_347001.out) bz_); have HO357 := Aside0.mk (Kd.R_lower (rnq_ (rn_ (rnq_ (rn_ (rnq_ (rn_ (rnq_ (rn_ (rnq_ (rn_ (rnq_ (rn_ (rnq_ (rn_ ho1 HO_304000.out) HO_304001.out) HO_305000.out) HO_305001.out) HO_314000.out) HO_314001.out) HO_322000.out) HO_322001.out) HO_330000.out) HO_330001.out) HO_339000.out) HO_339001.out) HO_347000.out) HO_347001.out) bz_); replace HO_304000 := rp2_ HO_304000 hb ho0 ho1; replace HO_304001 := qp2_ HO_304001 hb ho0 ho1; replace HO_305000 := rp2_ HO_305000 hb ho0 ho1; replace HO_305001 := qp2_ HO_305001 hb ho0 ho1; replace HO_314000 := rp2_ HO_314000 hb ho0 ho1; replace HO_314001 := qp2_ HO_314001 hb ho0 ho1; replace HO_322000 := rp2_ HO_322000 hb ho0 ho1; replace HO_322001 := qp2_ HO_322001 hb ho0 ho1; replace HO_330000 := rp2_ HO_330000 hb ho0 ho1; replace HO_330001 := qp2_ HO_330001 hb ho0 ho1; replace HO_339000 := rp2_ HO_339000 hb ho0 ho1; replace HO_339001 := qp2_ HO_339001 hb ho0 ho1; replace HO_347000 := rp2_ HO_347000 hb ho0 ho1; replace HO_347001 := qp2_ HO_347001 hb ho0 ho1; replace BK303 := bb_ BK303 hb; replace BK304 := bb_ BK304 hb; replace BK313 := bb_ BK313 hb; replace BK321 := bb_ BK321 hb; replace BK329 := bb_ BK329 hb; replace BK338 := bb_ BK338 hb; replace BK346 := bb_ BK346 hb; replace HB := Aside0.mk (below_step bl_ hb); clear hb ho0 ho1) | ((with_reducible refine gate_dst (N := 22) rfl ?_); refine box_event rfl (N := 22) rfl (cs := #[.slice none 0 0, .slice none 0 0]) (t := 27) gs_ ?_; intro gb359 hg w136 hbox hb; replace HO_304000 := rb_ HO_304000 hb; replace HO_304001 := qb_ HO_304001 hb; replace HO_305000 := rb_ HO_305000 hb; replace HO_305001 := qb_ HO_305001 hb; replace HO_314000 := rb_ HO_314000 hb; replace HO_314001 := qb_ HO_314001 hb; replace HO_322000 := rb_ HO_322000 hb; replace HO_322001 := qb_ HO_322001 hb; replace HO_330000 := rb_ HO_330000 hb; replace HO_330001 := qb_ HO_330001 hb; replace HO_339000 := rb_ HO_339000 hb; replace HO_339001 := qb_ HO_339001 hb; replace HO_347000 := rb_ HO_347000 hb; replace HO_347001 := qb_ HO_347001 hb; replace HO354 := rb_ HO354 hb; replace HO357 := rb_ HO357 hb; have BK359 := Aside0.mk (hbox); have GW359 := Aside0.mk ((by rw [hg]; exact bz_ : w.heap.size ≤ gb359)); have GE359 := GW359; replace HB := Aside0.mk (below_step bl_ hb); have NB303_359 := nl_ hg BK303; have NB359_303 := nm_ hg BK303; replace BK303 := bb_ BK303 hb; have NB304_359 := nl_ hg BK304; have NB359_304 := nm_ hg BK304; replace BK304 := bb_ BK304 hb; have NB313_359 := nl_ hg BK313; have NB359_313 := nm_ hg BK313; replace BK313 := bb_ BK313 hb; have NB321_359 := nl_ hg BK321; have NB359_321 := nm_ hg BK321; replace BK321 := bb_ BK321 hb; have NB329_359 := nl_ hg BK329; have NB359_329 := nm_ hg BK329; replace BK329 := bb_ BK329 hb; have NB338_359 := nl_ hg BK338; have NB359_338 := nm_ hg BK338; replace BK338 := bb_ BK338 hb; have NB346_359 := nl_ hg BK346; have NB359_346 := nm_ hg BK346; replace BK346 := bb_ BK346 hb; clear hb hbox hg; obtain ⟨Ao137, co137, eo137⟩ := Kd.R_slice HO354.out; subst eo137; have hnb138 := NB359_303.out; have hnc138 := NB303_359.out; have hnb139 := NB359_304.out; have hnc139 := NB304_359.out; have hnb140 := NB359_313.out; have hnc140 := NB313_359.out; have hnb141 := NB359_321.out; have hnc141 := NB321_359.out; have hnb142 := NB359_329.out; have hnc142 := NB329_359.out; have hnb143 := NB359_338.out; have hnc143 := NB338_359.out; have hnb144 := NB359_346.out; have hnc144 := NB346_359.out; have hcz145_0 : w136.cell? ⟨gb359, 0, none⟩ = some (.slice none 0 0) := bc_ BK359.out 0; have hcz145_1 : w136.cell? ⟨gb359, 1, none⟩ = some (.slice none 0 0) := bc_ BK359.out 1; have hfz145_0 := blk_frozen BK359.out 0; have hfz145_1 := blk_frozen BK359.out 1; obtain ⟨Ao146, co146, eo146⟩ := Kd.R_slice HO357.out; subst eo146; have hcz147_0 : w136.cell? ⟨gb338, 0, none⟩ = some (.slice Ao70 t331.length co70) := bc_ BK338.out 0; have hcz147_1 : w136.cell? ⟨gb338, 1, none⟩ = some (.slice Ao77 t334.length co77) := bc_ BK338.out 1; have hfz147_0 := blk_frozen BK338.out 0; have hfz147_1 := blk_frozen BK338.out 1) | (go_at_call 31; (with_reducible refine (laws_sameCounters.calls kj61 _ _ t352 _ _ t355 _ _ t331 _ _ t334 true _ ?side1 ?side2 ?side3 ?side4 ?side5 ?side6 ?side7 ?side8 A116.out).mono ?_); (case side1 => exact (Kd.R_reads' (kr_ (rs2_ HO354.out BK359.out (.slice Ao137 t352.length co137) (.slice Ao146 t355.length co146)))).2.2); (case side2 => exact (Kd.R_reads' HO354.out).2.1); (case side3 => exact (Kd.R_reads' (kr_ (rs2_ HO357.out BK359.out (.slice Ao137 t352.length co137) (.slice Ao146 t355.length co146)))).2.2); (case side4 => exact (Kd.R_reads' HO357.out).2.1); (case side5 => exact (Kd.R_reads' (kr_ (rs2_ HO_339000.out BK359.out (.slice Ao137 t352.length co137) (.slice Ao146 t355.length co146)))).2.2); (case side6 => exact (Kd.R_reads' HO_339000.out).2.1); (case side7 => exact (Kd.Q_reads' (kq_ (qs2_ HO_339001.out BK359.out (.slice Ao137 t352.length co137) (.slice Ao146 t355.length co146)))).2.2); (case side8 => exact (Kd.Q_reads' HO_339001.out).2.1); rintro e w148 ⟨rfl, hb⟩; replace HO_304000 := Aside0.mk (Kd.R_below (kr_ (rs2_ HO_304000.out BK359.out (.slice Ao137 t352.length co137) (.slice Ao146 t355.length co146))) hb); replace HO_304001 := Aside0.mk (Kd.Q_below (kq_ (qs2_ HO_304001.out BK359.out (.slice Ao137 t352.length co137) (.slice Ao146 t355.length co146))) hb); replace HO_305000 := Aside0.mk (Kd.R_below (kr_ (rs2_ HO_305000.out BK359.out (.slice Ao137 t352.length co137) (.slice Ao146 t355.length co146))) hb); replace HO_305001 := Aside0.mk (Kd.Q_below (kq_ (qs2_ HO_305001.out BK359.out (.slice Ao137 t352.length co137) (.slice Ao146 t355.length co146))) hb); replace HO_314000 := Aside0.mk (Kd.R_below (kr_ (rs2_ HO_314000.out BK359.out (.slice Ao137 t352.length co137) (.slice Ao146 t355.length co146))) hb); replace HO_314001 := Aside0.mk (Kd.Q_below (kq_ (qs2_ HO_314001.out BK359.out (.slice Ao137 t352.length co137) (.slice Ao146 t355.length co146))) hb); replace HO_322000 := Aside0.mk (Kd.R_below (kr_ (rs2_ HO_322000.out BK359.out (.slice Ao137 t352.length co137) (.slice Ao146 t355.length co146))) hb); replace HO_322001 := Aside0.mk (Kd.Q_below (kq_ (qs2_ HO_322001.out BK359.out (.slice Ao137 t352.length co137) (.slice Ao146 t355.length co146))) hb); replace HO_330000 := Aside0.mk (Kd.R_below (kr_ (rs2_ HO_330000.out BK359.out (.slice Ao137 t352.length co137) (.slice Ao146 t355.length co146))) hb); replace HO_330001 := Aside0.mk (Kd.Q_below (kq_ (qs2_ HO_330001.out BK359.out (.slice Ao137 t352.length co137) (.slice Ao146 t355.length co146))) hb); replace HO_339000 := Aside0.mk (Kd.R_below (kr_ (rs2_ HO_339000.out BK359.out (.slice Ao137 t352.length co137) (.slice Ao146 t355.length co146))) hb); replace HO_339001 := Aside0.mk (Kd.Q_below (kq_ (qs2_ HO_339001.out BK359.out (.slice Ao137 t352.length co137) (.slice Ao146 t355.length co146))) hb); replace HO_347000 := Aside0.mk (Kd.R_below (kr_ (rs2_ HO_347000.out BK359.out (.slice Ao137 t352.length co137) (.slice Ao146 t355.length co146))) hb); replace HO_347001 := Aside0.mk (Kd.Q_below (kq_ (qs2_ HO_347001.out BK359.out (.slice Ao137 t352.length co137) (.slice Ao146 t355.length co146))) hb); replace HO354 := Aside0.mk (Kd.R_below (kr_ (rs2_ HO354.out BK359.out (.slice Ao137 t352.length co137) (.slice Ao146 t355.length co146))) hb); replace HO357 := Aside0.mk (Kd.R_below (kr_ (rs2_ HO357.out BK359.out (.slice Ao137 t352.length co137) (.slice Ao146 t355.length co146))) hb); replace BK303 := Aside0.mk (blk_below (g := gb303) (o := .cells #[.slice Ao12 t291.length co12, .slice Ao15 t294.length co15] 27 (0, 0)) kz_ hb); replace BK304 := Aside0.mk (blk_below (g := gb304) (o := .cells #[.slice Ao16 t297.length co16, .slice Ao18 t300.length co18] 27 (0, 0)) kz_ hb); replace BK313 := Aside0.mk (blk_below (g := gb313) (o := .cells #[.slice Ao21 t305.length co21, .slice Ao25 t308.length co25] 27 (0, 0)) kz_ hb); replace BK321 := Aside0.mk (blk_below (g := gb321) (o := .cells #[.slice Ao30 t314.length co30, .slice Ao35 t317.length co35] 27 (0, 0)) kz_ hb); replace BK329 := Aside0.mk (blk_below (g := gb329) (o := .cells #[.slice Ao40 t322.length co40, .slice Ao46 t325.length co46] 27 (0, 0)) kz_ hb); replace BK338 := Aside0.mk (blk_below (g := gb338) (o := .cells #[.slice Ao70 t331.length co70, .slice Ao77 t334.length co77] 27 (0, 0)) kz_ hb); replace BK346 := Aside0.mk (blk_below (g := gb346) (o := .cells #[.slice Ao81 t339.length co81, .slice Ao89 t342.length co89] 27 (0, 0)) kz_ hb); replace BK359 := Aside0.mk (blk_below (g := gb359) (o := .cells #[.slice Ao137 t352.length co137, .slice Ao146 t355.length co146] 27 (0, 0)) (by (with_reducible repeat (first | refine blk_drewN ?_ _ | refine blk_drew ?_ | refine blk_alloc ?_ _)); refine blk_put (cs := #[.slice Ao137 t352.length co137, .slice none 0 0]) ?_ 1 _ rfl; (with_reducible repeat (first | refine blk_drewN ?_ _ | refine blk_drew ?_ | refine blk_alloc ?_ _)); refine blk_put (cs := #[.slice none 0 0, .slice none 0 0]) ?_ 0 _ rfl; exact kb_ BK359.out) hb); replace HB := Aside0.mk (below_step bl_ hb); clear hb))
  go_meet
  case rel => exact ⟨_, H', ⟨by have := HJ7.out; have := HJ61.out; first | omega | exact Nat.le_refl _⟩, ⟨kp_ HO_304000.out⟩, ⟨kpq_ HO_304001.out⟩, ⟨kp_ HO_305000.out⟩, ⟨kpq_ HO_305001.out⟩, ⟨kp_ HO_314000.out⟩, ⟨kpq_ HO_314001.out⟩, ⟨kp_ HO_322000.out⟩, ⟨kpq_ HO_322001.out⟩, ⟨kp_ HO_330000.out⟩, ⟨kpq_ HO_330001.out⟩, ⟨kp_ HO_339000.out⟩, ⟨kpq_ HO_339001.out⟩, ⟨kp_ HO_347000.out⟩, ⟨kpq_ HO_347001.out⟩, ⟨by exact kb_ BK303.out⟩, ⟨by exact kb_ BK304.out⟩, ⟨by exact kb_ BK313.out⟩, ⟨by exact kb_ BK321.out⟩, ⟨by exact kb_ BK329.out⟩, ⟨by exact kb_ BK338.out⟩, ⟨by exact kb_ BK346.out⟩, ⟨bl_⟩⟩
 clear HC107
 try clear c1
 try clear c2
 try clear p2
 try clear c3
 try clear c3b0
 try clear c4
 try clear c5
 try clear c6
 try clear p6
 try clear c7
 try clear c8
 try clear c9
 try clear c10
 try clear c11
 try clear c12
 try clear c13
 try clear c14
 try clear c16
 try clear c22
 try clear c23
 try clear c24
 try clear c27
 try clear c28
 try clear c29
 try clear c30
 try clear c31
 try clear c32
 try clear c33
 try clear c41
 try clear c42
 try clear c43
 try clear c44
 try clear c47
 try clear c47b0
 try clear c47b1
 try clear c47b2
 try clear c49
 try clear c50
 try clear c51
 try clear c52
 try clear c54
 try clear c55
 try clear c56
 try clear c59
 try clear c63
 try clear c64
 try clear p64
 try clear c65
 try clear c66
 try clear c71
 try clear c72
 try clear c73
 try clear c74
 try clear c75
 try clear c82
 try clear c83
 try clear c84
 try clear c85
 try clear c86
 try clear c87
 try clear c90
 try clear c90b0
 try clear c90b1
 try clear c90b2
 try clear c92
 try clear c93
 try clear c94
 try clear c95
 try clear c96
 try clear c97
 try clear c99
 try clear c100
 try clear c101
 try clear c102
 try clear c103
 try clear c106
 try clear c108
 try clear c112
 try clear c113
 try clear c114
 try clear c115
 try clear c115b0
 try clear c115b1
 try clear c117
 try clear c118
 try clear c119
 try clear c120
 try clear c121
 try clear c122
 try clear c123
 try clear c126
 try clear c127
 try clear c128
 try clear c129
 try clear c130
 try clear c138
 try clear c139
 try clear c140
 try clear c141
 try clear c142
 try clear c143
 try clear c144
 try clear hcz104_0
 try clear hcz104_1
 try clear hcz124_0
 try clear hcz124_1
 try clear hcz131_0
 try clear hcz131_1
 try clear hcz133_0
 try clear hcz133_1
 try clear hcz134_0
 try clear hcz134_1
 try clear hcz145_0
 try clear hcz145_1
 try clear hcz147_0
 try clear hcz147_1
 try clear hcz14_0
 try clear hcz14_1
 try clear hcz17_0
 try clear hcz17_1
 try clear hcz24_0
 try clear hcz24_1
 try clear hcz26_0
 try clear hcz26_1
 try clear hcz27_0
 try clear hcz27_1
 try clear hcz34_0
 try clear hcz34_1
 try clear hcz36_0
 try clear hcz36_1
 try clear hcz37_0
 try clear hcz37_1
 try clear hcz45_0
 try clear hcz45_1
 try clear hcz53_0
 try clear hcz53_1
 try clear hcz57_0
 try clear hcz57_1
 try clear hcz67_0
 try clear hcz67_1
 try clear hcz76_0
 try clear hcz76_1
 try clear hcz78_0
 try clear hcz78_1
 try clear hcz88_0
 try clear hcz88_1
 try clear hcz98_0
 try clear hcz98_1
 try clear hfz104_0
 try clear hfz104_1
 try clear hfz124_0
 try clear hfz124_1
 try clear hfz131_0
 try clear hfz131_1
 try clear hfz133_0
 try clear hfz133_1
 try clear hfz134_0
 try clear hfz134_1
 try clear hfz145_0
 try clear hfz145_1
 try clear hfz147_0
 try clear hfz147_1
 try clear hfz14_0
 try clear hfz14_1
 try clear hfz17_0
 try clear hfz17_1
 try clear hfz24_0
 try clear hfz24_1
 try clear hfz26_0
 try clear hfz26_1
 try clear hfz27_0
 try clear hfz27_1
 try clear hfz34_0
 try clear hfz34_1
 try clear hfz36_0
 try clear hfz36_1
 try clear hfz37_0
 try clear hfz37_1
 try clear hfz45_0
 try clear hfz45_1
 try clear hfz53_0
 try clear hfz53_1
 try clear hfz57_0
 try clear hfz57_1
 try clear hfz67_0
 try clear hfz67_1
 try clear hfz76_0
 try clear hfz76_1
 try clear hfz78_0
 try clear hfz78_1
 try clear hfz88_0
 try clear hfz88_1
 try clear hfz98_0
 try clear hfz98_1
 try clear p2
 try clear p6
 try clear p64
 obtain ⟨kq, HA, HJ106, HO_304000, HO_304001, HO_305000, HO_305001, HO_314000, HO_314001, HO_322000, HO_322001, HO_330000, HO_330001, HO_339000, HO_339001, HO_347000, HO_347001, BK303, BK304, BK313, BK321, BK329, BK338, BK346, HB⟩ := hcut
 cases kq with
 | zero => exact absurd HA.out (by simp [laws_FnCounters.j2])
 | succ kj106 => ?_
 have H := HA.out
 clear HA
 simp only [laws_FnCounters.j2] at H
 have HC149 := Aside0.mk H
 clear H
 go_upto_region 19 with (fail)
 go_cut [141] (fun v141 wc => ∃ (kq : Nat) (x141_148 : Bool), v141 = .bool x141_148 ∧ Aside0 (laws_FnCounters.j3 kq x141_148 t291 t294 t297 t300 t305 t308 t314 t317 = some r) ∧ Aside0 (kq ≤ kj106) ∧ Aside0 (Kd.R (Kd.int .i64) 3 wc w.heap.size (fun k_ => some k_ ≠ ((.slice Ao15 t294.length co15) : Value).ownBlock ∧ some k_ ≠ ((.slice Ao16 t297.length co16) : Value).ownBlock ∧ some k_ ≠ ((.slice Ao18 t300.length co18) : Value).ownBlock ∧ some k_ ≠ ((.slice Ao21 t305.length co21) : Value).ownBlock ∧ some k_ ≠ ((.slice Ao25 t308.length co25) : Value).ownBlock ∧ some k_ ≠ ((.slice Ao30 t314.length co30) : Value).ownBlock ∧ some k_ ≠ ((.slice Ao35 t317.length co35) : Value).ownBlock ∧ some k_ ≠ ((.slice Ao40 t322.length co40) : Value).ownBlock ∧ some k_ ≠ ((.slice Ao46 t325.length co46) : Value).ownBlock ∧ some k_ ≠ ((.slice Ao70 t331.length co70) : Value).ownBlock ∧ some k_ ≠ ((.slice Ao77 t334.length co77) : Value).ownBlock ∧ some k_ ≠ ((.slice Ao81 t339.length co81) : Value).ownBlock ∧ some k_ ≠ ((.slice Ao89 t342.length co89) : Value).ownBlock) (.slice Ao12 t291.length co12) t291) ∧ Aside0 (Kd.Q (Kd.int .i64) 3 wc w.heap.size (fun k_ => some k_ ≠ ((.slice Ao12 t291.length co12) : Value).ownBlock ∧ some k_ ≠ ((.slice Ao16 t297.length co16) : Value).ownBlock ∧ some k_ ≠ ((.slice Ao18 t300.length co18) : Value).ownBlock ∧ some k_ ≠ ((.slice Ao21 t305.length co21) : Value).ownBlock ∧ some k_ ≠ ((.slice Ao25 t308.length co25) : Value).ownBlock ∧ some k_ ≠ ((.slice Ao30 t314.length co30) : Value).ownBlock ∧ some k_ ≠ ((.slice Ao35 t317.length co35) : Value).ownBlock ∧ some k_ ≠ ((.slice Ao40 t322.length co40) : Value).ownBlock ∧ some k_ ≠ ((.slice Ao46 t325.length co46) : Value).ownBlock ∧ some k_ ≠ ((.slice Ao70 t331.length co70) : Value).ownBlock ∧ some k_ ≠ ((.slice Ao77 t334.length co77) : Value).ownBlock ∧ some k_ ≠ ((.slice Ao81 t339.length co81) : Value).ownBlock ∧ some k_ ≠ ((.slice Ao89 t342.length co89) : Value).ownBlock) (.slice Ao15 t294.length co15) t294) ∧ Aside0 (Kd.R (Kd.int .i64) 3 wc w.heap.size (fun k_ => some k_ ≠ ((.slice Ao12 t291.length co12) : Value).ownBlock ∧ some k_ ≠ ((.slice Ao15 t294.length co15) : Value).ownBlock ∧ some k_ ≠ ((.slice Ao18 t300.length co18) : Value).ownBlock ∧ some k_ ≠ ((.slice Ao21 t305.length co21) : Value).ownBlock ∧ some k_ ≠ ((.slice Ao25 t308.length co25) : Value).ownBlock ∧ some k_ ≠ ((.slice Ao30 t314.length co30) : Value).ownBlock ∧ some k_ ≠ ((.slice Ao35 t317.length co35) : Value).ownBlock ∧ some k_ ≠ ((.slice Ao40 t322.length co40) : Value).ownBlock ∧ some k_ ≠ ((.slice Ao46 t325.length co46) : Value).ownBlock ∧ some k_ ≠ ((.slice Ao70 t331.length co70) : Value).ownBlock ∧ some k_ ≠ ((.slice Ao77 t334.length co77) : Value).ownBlock ∧ some k_ ≠ ((.slice Ao81 t339.length co81) : Value).ownBlock ∧ some k_ ≠ ((.slice Ao89 t342.length co89) : Value).ownBlock) (.slice Ao16 t297.length co16) t297) ∧ Aside0 (Kd.Q (Kd.int .i64) 3 wc w.heap.size (fun k_ => some k_ ≠ ((.slice Ao12 t291.length co12) : Value).ownBlock ∧ some k_ ≠ ((.slice Ao15 t294.length co15) : Value).ownBlock ∧ some k_ ≠ ((.slice Ao16 t297.length co16) : Value).ownBlock ∧ some k_ ≠ ((.slice Ao21 t305.length co21) : Value).ownBlock ∧ some k_ ≠ ((.slice Ao25 t308.length co25) : Value).ownBlock ∧ some k_ ≠ ((.slice Ao30 t314.length co30) : Value).ownBlock ∧ some k_ ≠ ((.slice Ao35 t317.length co35) : Value).ownBlock ∧ some k_ ≠ ((.slice Ao40 t322.length co40) : Value).ownBlock ∧ some k_ ≠ ((.slice Ao46 t325.length co46) : Value).ownBlock ∧ some k_ ≠ ((.slice Ao70 t331.length co70) : Value).ownBlock ∧ some k_ ≠ ((.slice Ao77 t334.length co77) : Value).ownBlock ∧ some k_ ≠ ((.slice Ao81 t339.length co81) : Value).ownBlock ∧ some k_ ≠ ((.slice Ao89 t342.length co89) : Value).ownBlock) (.slice Ao18 t300.length co18) t300) ∧ Aside0 (Kd.R (Kd.int .i64) 3 wc w.heap.size (fun k_ => some k_ ≠ ((.slice Ao12 t291.length co12) : Value).ownBlock ∧ some k_ ≠ ((.slice Ao15 t294.length co15) : Value).ownBlock ∧ some k_ ≠ ((.slice Ao16 t297.length co16) : Value).ownBlock ∧ some k_ ≠ ((.slice Ao18 t300.length co18) : Value).ownBlock ∧ some k_ ≠ ((.slice Ao25 t308.length co25) : Value).ownBlock ∧ some k_ ≠ ((.slice Ao30 t314.length co30) : Value).ownBlock ∧ some k_ ≠ ((.slice Ao35 t317.length co35) : Value).ownBlock ∧ some k_ ≠ ((.slice Ao40 t322.length co40) : Value).ownBlock ∧ some k_ ≠ ((.slice Ao46 t325.length co46) : Value).ownBlock ∧ some k_ ≠ ((.slice Ao70 t331.length co70) : Value).ownBlock ∧ some k_ ≠ ((.slice Ao77 t334.length co77) : Value).ownBlock ∧ some k_ ≠ ((.slice Ao81 t339.length co81) : Value).ownBlock ∧ some k_ ≠ ((.slice Ao89 t342.length co89) : Value).ownBlock) (.slice Ao21 t305.length co21) t305) ∧ Aside0 (Kd.Q (Kd.int .i64) 3 wc w.heap.size (fun k_ => some k_ ≠ ((.slice Ao12 t291.length co12) : Value).ownBlock ∧ some k_ ≠ ((.slice Ao15 t294.length co15) : Value).ownBlock ∧ some k_ ≠ ((.slice Ao16 t297.length co16) : Value).ownBlock ∧ some k_ ≠ ((.slice Ao18 t300.length co18) : Value).ownBlock ∧ some k_ ≠ ((.slice Ao21 t305.length co21) : Value).ownBlock ∧ some k_ ≠ ((.slice Ao30 t314.length co30) : Value).ownBlock ∧ some k_ ≠ ((.slice Ao35 t317.length co35) : Value).ownBlock ∧ some k_ ≠ ((.slice Ao40 t322.length co40) : Value).ownBlock ∧ some k_ ≠ ((.slice Ao46 t325.length co46) : Value).ownBlock ∧ some k_ ≠ ((.slice Ao70 t331.length co70) : Value).ownBlock ∧ some k_ ≠ ((.slice Ao77 t334.length co77) : Value).ownBlock ∧ some k_ ≠ ((.slice Ao81 t339.length co81) : Value).ownBlock ∧ some k_ ≠ ((.slice Ao89 t342.length co89) : Value).ownBlock) (.slice Ao25 t308.length co25) t308) ∧ Aside0 (Kd.R (Kd.int .i64) 3 wc w.heap.size (fun k_ => some k_ ≠ ((.slice Ao12 t291.length co12) : Value).ownBlock ∧ some k_ ≠ ((.slice Ao15 t294.length co15) : Value).ownBlock ∧ some k_ ≠ ((.slice Ao16 t297.length co16) : Value).ownBlock ∧ some k_ ≠ ((.slice Ao18 t300.length co18) : Value).ownBlock ∧ some k_ ≠ ((.slice Ao21 t305.length co21) : Value).ownBlock ∧ some k_ ≠ ((.slice Ao25 t308.length co25) : Value).ownBlock ∧ some k_ ≠ ((.slice Ao35 t317.length co35) : Value).ownBlock ∧ some k_ ≠ ((.slice Ao40 t322.length co40) : Value).ownBlock ∧ some k_ ≠ ((.slice Ao46 t325.length co46) : Value).ownBlock ∧ some k_ ≠ ((.slice Ao70 t331.length co70) : Value).ownBlock ∧ some k_ ≠ ((.slice Ao77 t334.length co77) : Value).ownBlock ∧ some k_ ≠ ((.slice Ao81 t339.length co81) : Value).ownBlock ∧ some k_ ≠ ((.slice Ao89 t342.length co89) : Value).ownBlock) (.slice Ao30 t314.length co30) t314) ∧ Aside0 (Kd.Q (Kd.int .i64) 3 wc w.heap.size (fun k_ => some k_ ≠ ((.slice Ao12 t291.length co12) : Value).ownBlock ∧ some k_ ≠ ((.slice Ao15 t294.length co15) : Value).ownBlock ∧ some k_ ≠ ((.slice Ao16 t297.length co16) : Value).ownBlock ∧ some k_ ≠ ((.slice Ao18 t300.length co18) : Value).ownBlock ∧ some k_ ≠ ((.slice Ao21 t305.length co21) : Value).ownBlock ∧ some k_ ≠ ((.slice Ao25 t308.length co25) : Value).ownBlock ∧ some k_ ≠ ((.slice Ao30 t314.length co30) : Value).ownBlock ∧ some k_ ≠ ((.slice Ao40 t322.length co40) : Value).ownBlock ∧ some k_ ≠ ((.slice Ao46 t325.length co46) : Value).ownBlock ∧ some k_ ≠ ((.slice Ao70 t331.length co70) : Value).ownBlock ∧ some k_ ≠ ((.slice Ao77 t334.length co77) : Value).ownBlock ∧ some k_ ≠ ((.slice Ao81 t339.length co81) : Value).ownBlock ∧ some k_ ≠ ((.slice Ao89 t342.length co89) : Value).ownBlock) (.slice Ao35 t317.length co35) t317) ∧ Aside0 (Kd.R (Kd.int .i64) 3 wc w.heap.size (fun k_ => some k_ ≠ ((.slice Ao12 t291.length co12) : Value).ownBlock ∧ some k_ ≠ ((.slice Ao15 t294.length co15) : Value).ownBlock ∧ some k_ ≠ ((.slice Ao16 t297.length co16) : Value).ownBlock ∧ some k_ ≠ ((.slice Ao18 t300.length co18) : Value).ownBlock ∧ some k_ ≠ ((.slice Ao21 t305.length co21) : Value).ownBlock ∧ some k_ ≠ ((.slice Ao25 t308.length co25) : Value).ownBlock ∧ some k_ ≠ ((.slice Ao30 t314.length co30) : Value).ownBlock ∧ some k_ ≠ ((.slice Ao35 t317.length co35) : Value).ownBlock ∧ some k_ ≠ ((.slice Ao46 t325.length co46) : Value).ownBlock ∧ some k_ ≠ ((.slice Ao70 t331.length co70) : Value).ownBlock ∧ some k_ ≠ ((.slice Ao77 t334.length co77) : Value).ownBlock ∧ some k_ ≠ ((.slice Ao81 t339.length co81) : Value).ownBlock ∧ some k_ ≠ ((.slice Ao89 t342.length co89) : Value).ownBlock) (.slice Ao40 t322.length co40) t322) ∧ Aside0 (Kd.Q (Kd.int .i64) 3 wc w.heap.size (fun k_ => some k_ ≠ ((.slice Ao12 t291.length co12) : Value).ownBlock ∧ some k_ ≠ ((.slice Ao15 t294.length co15) : Value).ownBlock ∧ some k_ ≠ ((.slice Ao16 t297.length co16) : Value).ownBlock ∧ some k_ ≠ ((.slice Ao18 t300.length co18) : Value).ownBlock ∧ some k_ ≠ ((.slice Ao21 t305.length co21) : Value).ownBlock ∧ some k_ ≠ ((.slice Ao25 t308.length co25) : Value).ownBlock ∧ some k_ ≠ ((.slice Ao30 t314.length co30) : Value).ownBlock ∧ some k_ ≠ ((.slice Ao35 t317.length co35) : Value).ownBlock ∧ some k_ ≠ ((.slice Ao40 t322.length co40) : Value).ownBlock ∧ some k_ ≠ ((.slice Ao70 t331.length co70) : Value).ownBlock ∧ some k_ ≠ ((.slice Ao77 t334.length co77) : Value).ownBlock ∧ some k_ ≠ ((.slice Ao81 t339.length co81) : Value).ownBlock ∧ some k_ ≠ ((.slice Ao89 t342.length co89) : Value).ownBlock) (.slice Ao46 t325.length co46) t325) ∧ Aside0 (Kd.R (Kd.int .i64) 3 wc w.heap.size (fun k_ => some k_ ≠ ((.slice Ao12 t291.length co12) : Value).ownBlock ∧ some k_ ≠ ((.slice Ao15 t294.length co15) : Value).ownBlock ∧ some k_ ≠ ((.slice Ao16 t297.length co16) : Value).ownBlock ∧ some k_ ≠ ((.slice Ao18 t300.length co18) : Value).ownBlock ∧ some k_ ≠ ((.slice Ao21 t305.length co21) : Value).ownBlock ∧ some k_ ≠ ((.slice Ao25 t308.length co25) : Value).ownBlock ∧ some k_ ≠ ((.slice Ao30 t314.length co30) : Value).ownBlock ∧ some k_ ≠ ((.slice Ao35 t317.length co35) : Value).ownBlock ∧ some k_ ≠ ((.slice Ao40 t322.length co40) : Value).ownBlock ∧ some k_ ≠ ((.slice Ao46 t325.length co46) : Value).ownBlock ∧ some k_ ≠ ((.slice Ao77 t334.length co77) : Value).ownBlock ∧ some k_ ≠ ((.slice Ao81 t339.length co81) : Value).ownBlock ∧ some k_ ≠ ((.slice Ao89 t342.length co89) : Value).ownBlock) (.slice Ao70 t331.length co70) t331) ∧ Aside0 (Kd.Q (Kd.int .i64) 3 wc w.heap.size (fun k_ => some k_ ≠ ((.slice Ao12 t291.length co12) : Value).ownBlock ∧ some k_ ≠ ((.slice Ao15 t294.length co15) : Value).ownBlock ∧ some k_ ≠ ((.slice Ao16 t297.length co16) : Value).ownBlock ∧ some k_ ≠ ((.slice Ao18 t300.length co18) : Value).ownBlock ∧ some k_ ≠ ((.slice Ao21 t305.length co21) : Value).ownBlock ∧ some k_ ≠ ((.slice Ao25 t308.length co25) : Value).ownBlock ∧ some k_ ≠ ((.slice Ao30 t314.length co30) : Value).ownBlock ∧ some k_ ≠ ((.slice Ao35 t317.length co35) : Value).ownBlock ∧ some k_ ≠ ((.slice Ao40 t322.length co40) : Value).ownBlock ∧ some k_ ≠ ((.slice Ao46 t325.length co46) : Value).ownBlock ∧ some k_ ≠ ((.slice Ao70 t331.length co70) : Value).ownBlock ∧ some k_ ≠ ((.slice Ao81 t339.length co81) : Value).ownBlock ∧ some k_ ≠ ((.slice Ao89 t342.length co89) : Value).ownBlock) (.slice Ao77 t334.length co77) t334) ∧ Aside0 (Kd.R (Kd.int .i64) 3 wc w.heap.size (fun k_ => some k_ ≠ ((.slice Ao12 t291.length co12) : Value).ownBlock ∧ some k_ ≠ ((.slice Ao15 t294.length co15) : Value).ownBlock ∧ some k_ ≠ ((.slice Ao16 t297.length co16) : Value).ownBlock ∧ some k_ ≠ ((.slice Ao18 t300.length co18) : Value).ownBlock ∧ some k_ ≠ ((.slice Ao21 t305.length co21) : Value).ownBlock ∧ some k_ ≠ ((.slice Ao25 t308.length co25) : Value).ownBlock ∧ some k_ ≠ ((.slice Ao30 t314.length co30) : Value).ownBlock ∧ some k_ ≠ ((.slice Ao35 t317.length co35) : Value).ownBlock ∧ some k_ ≠ ((.slice Ao40 t322.length co40) : Value).ownBlock ∧ some k_ ≠ ((.slice Ao46 t325.length co46) : Value).ownBlock ∧ some k_ ≠ ((.slice Ao70 t331.length co70) : Value).ownBlock ∧ some k_ ≠ ((.slice Ao77 t334.length co77) : Value).ownBlock ∧ some k_ ≠ ((.slice Ao89 t342.length co89) : Value).ownBlock) (.slice Ao81 t339.length co81) t339) ∧ Aside0 (Kd.Q (Kd.int .i64) 3 wc w.heap.size (fun k_ => some k_ ≠ ((.slice Ao12 t291.length co12) : Value).ownBlock ∧ some k_ ≠ ((.slice Ao15 t294.length co15) : Value).ownBlock ∧ some k_ ≠ ((.slice Ao16 t297.length co16) : Value).ownBlock ∧ some k_ ≠ ((.slice Ao18 t300.length co18) : Value).ownBlock ∧ some k_ ≠ ((.slice Ao21 t305.length co21) : Value).ownBlock ∧ some k_ ≠ ((.slice Ao25 t308.length co25) : Value).ownBlock ∧ some k_ ≠ ((.slice Ao30 t314.length co30) : Value).ownBlock ∧ some k_ ≠ ((.slice Ao35 t317.length co35) : Value).ownBlock ∧ some k_ ≠ ((.slice Ao40 t322.length co40) : Value).ownBlock ∧ some k_ ≠ ((.slice Ao46 t325.length co46) : Value).ownBlock ∧ some k_ ≠ ((.slice Ao70 t331.length co70) : Value).ownBlock ∧ some k_ ≠ ((.slice Ao77 t334.length co77) : Value).ownBlock ∧ some k_ ≠ ((.slice Ao81 t339.length co81) : Value).ownBlock) (.slice Ao89 t342.length co89) t342) ∧ Aside0 (wc.heap[gb303]? = some (.cells #[(.slice Ao12 t291.length co12), (.slice Ao15 t294.length co15)] 27 (0, 0))) ∧ Aside0 (wc.heap[gb304]? = some (.cells #[(.slice Ao16 t297.length co16), (.slice Ao18 t300.length co18)] 27 (0, 0))) ∧ Aside0 (wc.heap[gb313]? = some (.cells #[(.slice Ao21 t305.length co21), (.slice Ao25 t308.length co25)] 27 (0, 0))) ∧ Aside0 (wc.heap[gb321]? = some (.cells #[(.slice Ao30 t314.length co30), (.slice Ao35 t317.length co35)] 27 (0, 0))) ∧ Aside0 (wc.heap[gb329]? = some (.cells #[(.slice Ao40 t322.length co40), (.slice Ao46 t325.length co46)] 27 (0, 0))) ∧ Aside0 (wc.heap[gb338]? = some (.cells #[(.slice Ao70 t331.length co70), (.slice Ao77 t334.length co77)] 27 (0, 0))) ∧ Aside0 (wc.heap[gb346]? = some (.cells #[(.slice Ao81 t339.length co81), (.slice Ao89 t342.length co89)] 27 (0, 0))) ∧ Aside0 (Below w.heap.size w wc))
 case first =>
  have H := HC149.out
  clear HC149
  by_cases c150 : t320 = true
  rotate_left
  ·replace c150 := Bool.eq_false_iff.mpr c150
   subst c150
   have H1 : (laws_FnCounters.j3 kj106 true t291 t294 t297 t300 t305 t308 t314 t317) = some r := by rw [if_neg (show ¬ (false = true) by decide)] at H; exact H
   clear H
   have H := H1
   clear H1
   have H' := Aside0.mk H
   clear H
   go_wp2
   go_meet
   case rel => exact ⟨_, (true), (by first | rfl | (simp; done) | (simp [*]; done)), H', ⟨by have := HJ7.out; have := HJ61.out; have := HJ106.out; first | omega | exact Nat.le_refl _⟩, ⟨by exact kr_ HO_304000.out⟩, ⟨by exact kq_ HO_304001.out⟩, ⟨by exact kr_ HO_305000.out⟩, ⟨by exact kq_ HO_305001.out⟩, ⟨by exact kr_ HO_314000.out⟩, ⟨by exact kq_ HO_314001.out⟩, ⟨by exact kr_ HO_322000.out⟩, ⟨by exact kq_ HO_322001.out⟩, ⟨by exact kr_ HO_330000.out⟩, ⟨by exact kq_ HO_330001.out⟩, ⟨by exact kr_ HO_339000.out⟩, ⟨by exact kq_ HO_339001.out⟩, ⟨by exact kr_ HO_347000.out⟩, ⟨by exact kq_ HO_347001.out⟩, ⟨by exact kb_ BK303.out⟩, ⟨by exact kb_ BK304.out⟩, ⟨by exact kb_ BK313.out⟩, ⟨by exact kb_ BK321.out⟩, ⟨by exact kb_ BK329.out⟩, ⟨by exact kb_ BK338.out⟩, ⟨by exact kb_ BK346.out⟩, ⟨bl_⟩⟩
  subst c150
  have H1 : ((spec_GoodCounter.f kj106 t305 t308).bind fun t361 => (laws_FnCounters.j3 kj106 (!t361) t291 t294 t297 t300 t305 t308 t314 t317)) = some r := by rw [if_pos rfl] at H; exact H
  clear H
  have H := H1
  clear H1
  replace H := Option.bind_eq_some_iff.mp H
  obtain ⟨t361, A1510, H⟩ := H
  replace H : (laws_FnCounters.j3 kj106 (!t361) t291 t294 t297 t300 t305 t308 t314 t317) = some r := H
  have A151 := Aside0.mk A1510
  clear A1510
  have H' := Aside0.mk H
  clear H
  have hnb152 := NB313_303.out
  have hnc152 := NB303_313.out
  have hnb153 := NB313_304.out
  have hnc153 := NB304_313.out
  have hnb154 := NB313_321.out
  have hnc154 := NB321_313.out
  have hnb155 := NB313_329.out
  have hnc155 := NB329_313.out
  have hnb156 := NB313_338.out
  have hnc156 := NB338_313.out
  have hnb157 := NB313_346.out
  have hnc157 := NB346_313.out
  have hcz158_0 : wc.cell? ⟨gb313, 0, none⟩ = some (.slice Ao21 t305.length co21) := bc_ BK313.out 0
  have hcz158_1 : wc.cell? ⟨gb313, 1, none⟩ = some (.slice Ao25 t308.length co25) := bc_ BK313.out 1
  have hfz158_0 := blk_frozen BK313.out 0
  have hfz158_1 := blk_frozen BK313.out 1
  go_wp2_with (first | (go_at_call 11; (with_reducible refine (spec_GoodCounter.calls kj106 _ _ t305 _ _ t308 t361 _ ?side1 ?side2 ?side3 ?side4 A151.out).mono ?_); (case side1 => exact kc_ (Kd.R_reads' HO_314000.out).2.2); (case side2 => exact (Kd.R_reads' HO_314000.out).2.1); (case side3 => exact kc_ (Kd.Q_reads' HO_314001.out).2.2); (case side4 => exact (Kd.Q_reads' HO_314001.out).2.1); rintro e w159 ⟨rfl, hb⟩; replace HO_304000 := rb_ HO_304000 hb; replace HO_304001 := qb_ HO_304001 hb; replace HO_305000 := rb_ HO_305000 hb; replace HO_305001 := qb_ HO_305001 hb; replace HO_314000 := rb_ HO_314000 hb; replace HO_314001 := qb_ HO_314001 hb; replace HO_322000 := rb_ HO_322000 hb; replace HO_322001 := qb_ HO_322001 hb; replace HO_330000 := rb_ HO_330000 hb; replace HO_330001 := qb_ HO_330001 hb; replace HO_339000 := rb_ HO_339000 hb; replace HO_339001 := qb_ HO_339001 hb; replace HO_347000 := rb_ HO_347000 hb; replace HO_347001 := qb_ HO_347001 hb; replace BK303 := bb_ BK303 hb; replace BK304 := bb_ BK304 hb; replace BK313 := bb_ BK313 hb; replace BK321 := bb_ BK321 hb; replace BK329 := bb_ BK329 hb; replace BK338 := bb_ BK338 hb; replace BK346 := bb_ BK346 hb; replace HB := Aside0.mk (below_step bl_ hb); clear hb))
  go_meet
  case rel => exact ⟨_, (!t361), (by first | rfl | (simp; done) | (simp [*]; done)), H', ⟨by have := HJ7.out; have := HJ61.out; have := HJ106.out; first | omega | exact Nat.le_refl _⟩, ⟨by exact kr_ HO_304000.out⟩, ⟨by exact kq_ HO_304001.out⟩, ⟨by exact kr_ HO_305000.out⟩, ⟨by exact kq_ HO_305001.out⟩, ⟨by exact kr_ HO_314000.out⟩, ⟨by exact kq_ HO_314001.out⟩, ⟨by exact kr_ HO_322000.out⟩, ⟨by exact kq_ HO_322001.out⟩, ⟨by exact kr_ HO_330000.out⟩, ⟨by exact kq_ HO_330001.out⟩, ⟨by exact kr_ HO_339000.out⟩, ⟨by exact kq_ HO_339001.out⟩, ⟨by exact kr_ HO_347000.out⟩, ⟨by exact kq_ HO_347001.out⟩, ⟨by exact kb_ BK303.out⟩, ⟨by exact kb_ BK304.out⟩, ⟨by exact kb_ BK313.out⟩, ⟨by exact kb_ BK321.out⟩, ⟨by exact kb_ BK329.out⟩, ⟨by exact kb_ BK338.out⟩, ⟨by exact kb_ BK346.out⟩, ⟨bl_⟩⟩
 clear HC149
 try clear c1
 try clear c2
 try clear p2
 try clear c3
 try clear c3b0
 try clear c4
 try clear c5
 try clear c6
 try clear p6
 try clear c7
 try clear c8
 try clear c9
 try clear c10
 try clear c11
 try clear c12
 try clear c13
 try clear c14
 try clear c15
 try clear c16
 try clear c22
 try clear c23
 try clear c24
 try clear c27
 try clear c28
 try clear c29
 try clear c30
 try clear c31
 try clear c32
 try clear c33
 try clear c41
 try clear c42
 try clear c43
 try clear c44
 try clear c47
 try clear c47b0
 try clear c47b1
 try clear c47b2
 try clear c49
 try clear c50
 try clear c51
 try clear c52
 try clear c54
 try clear c55
 try clear c56
 try clear c59
 try clear c63
 try clear c64
 try clear p64
 try clear c65
 try clear c66
 try clear c71
 try clear c72
 try clear c73
 try clear c74
 try clear c75
 try clear c82
 try clear c83
 try clear c84
 try clear c85
 try clear c86
 try clear c87
 try clear c90
 try clear c90b0
 try clear c90b1
 try clear c90b2
 try clear c92
 try clear c93
 try clear c94
 try clear c95
 try clear c96
 try clear c97
 try clear c99
 try clear c100
 try clear c101
 try clear c102
 try clear c103
 try clear c106
 try clear c108
 try clear c112
 try clear c113
 try clear c114
 try clear c115
 try clear c115b0
 try clear c115b1
 try clear c117
 try clear c118
 try clear c119
 try clear c120
 try clear c121
 try clear c122
 try clear c123
 try clear c126
 try clear c127
 try clear c128
 try clear c129
 try clear c130
 try clear c138
 try clear c139
 try clear c140
 try clear c141
 try clear c142
 try clear c143
 try clear c144
 try clear c150
 try clear c152
 try clear c153
 try clear c154
 try clear c155
 try clear c156
 try clear c157
 try clear hcz104_0
 try clear hcz104_1
 try clear hcz124_0
 try clear hcz124_1
 try clear hcz131_0
 try clear hcz131_1
 try clear hcz133_0
 try clear hcz133_1
 try clear hcz134_0
 try clear hcz134_1
 try clear hcz145_0
 try clear hcz145_1
 try clear hcz147_0
 try clear hcz147_1
 try clear hcz14_0
 try clear hcz14_1
 try clear hcz158_0
 try clear hcz158_1
 try clear hcz17_0
 try clear hcz17_1
 try clear hcz24_0
 try clear hcz24_1
 try clear hcz26_0
 try clear hcz26_1
 try clear hcz27_0
 try clear hcz27_1
 try clear hcz34_0
 try clear hcz34_1
 try clear hcz36_0
 try clear hcz36_1
 try clear hcz37_0
 try clear hcz37_1
 try clear hcz45_0
 try clear hcz45_1
 try clear hcz53_0
 try clear hcz53_1
 try clear hcz57_0
 try clear hcz57_1
 try clear hcz67_0
 try clear hcz67_1
 try clear hcz76_0
 try clear hcz76_1
 try clear hcz78_0
 try clear hcz78_1
 try clear hcz88_0
 try clear hcz88_1
 try clear hcz98_0
 try clear hcz98_1
 try clear hfz104_0
 try clear hfz104_1
 try clear hfz124_0
 try clear hfz124_1
 try clear hfz131_0
 try clear hfz131_1
 try clear hfz133_0
 try clear hfz133_1
 try clear hfz134_0
 try clear hfz134_1
 try clear hfz145_0
 try clear hfz145_1
 try clear hfz147_0
 try clear hfz147_1
 try clear hfz14_0
 try clear hfz14_1
 try clear hfz158_0
 try clear hfz158_1
 try clear hfz17_0
 try clear hfz17_1
 try clear hfz24_0
 try clear hfz24_1
 try clear hfz26_0
 try clear hfz26_1
 try clear hfz27_0
 try clear hfz27_1
 try clear hfz34_0
 try clear hfz34_1
 try clear hfz36_0
 try clear hfz36_1
 try clear hfz37_0
 try clear hfz37_1
 try clear hfz45_0
 try clear hfz45_1
 try clear hfz53_0
 try clear hfz53_1
 try clear hfz57_0
 try clear hfz57_1
 try clear hfz67_0
 try clear hfz67_1
 try clear hfz76_0
 try clear hfz76_1
 try clear hfz78_0
 try clear hfz78_1
 try clear hfz88_0
 try clear hfz88_1
 try clear hfz98_0
 try clear hfz98_1
 try clear p2
 try clear p6
 try clear p64
 obtain ⟨kq, x141_148, rfl, HA, HJ148, HO_304000, HO_304001, HO_305000, HO_305001, HO_314000, HO_314001, HO_322000, HO_322001, HO_330000, HO_330001, HO_339000, HO_339001, HO_347000, HO_347001, BK303, BK304, BK313, BK321, BK329, BK338, BK346, HB⟩ := hcut
 cases kq with
 | zero => exact absurd HA.out (by simp [laws_FnCounters.j3])
 | succ kj148 => ?_
 have H := HA.out
 clear HA
 simp only [laws_FnCounters.j3] at H
 by_cases c160 : x141_148 = true
 ·subst c160
  have H1 : (some true) = some r := by rw [if_pos rfl] at H; exact H
  clear H
  have H := H1
  clear H1
  obtain rfl := Option.some.inj H
  go_wp2
  go_ret
  exact ⟨ng_, bl_⟩
 replace c160 := Bool.eq_false_iff.mpr c160
 subst c160
 have H1 : ((impl_MergeCounter.f kj148 t297 t300 t291 t294).bind fun bt362 => ((impl_MergeCounter.f kj148 t314 t317 t314 t317).bind fun bt370 => ((impl_MergeCounter.f kj148 t314 t317 t305 t308).bind fun bt378 => ((impl_MergeCounter.f kj148 t297 t300 t305 t308).bind fun bt386 => ((impl_MergeCounter.f kj148 t291 t294 bt386.1 bt386.2.1).bind fun bt394 => (if bt362.2.2 = true then (if bt370.2.2 = true then (if bt378.2.2 = true then (if bt386.2.2 = true then (if bt394.2.2 = true then ((laws_sameCounters.f kj148 bt362.1 bt362.2.1 t314 t317).bind fun t402 => (if t402 = true then ((laws_sameCounters.f kj148 bt370.1 bt370.2.1 t314 t317).bind fun t403 => (if t403 = true then ((laws_sameCounters.f kj148 bt378.1 bt378.2.1 bt394.1 bt394.2.1).bind fun t404 => (some t404)) else (none))) else (none))) else (none)) else (none)) else (none)) else (none)) else (none))))))) = some r := by rw [if_neg (show ¬ (false = true) by decide)] at H; exact H
 clear H
 have H := H1
 clear H1
 replace H := Option.bind_eq_some_iff.mp H
 obtain ⟨⟨t362, t365, t368⟩, A1610, H⟩ := H
 replace H : ((impl_MergeCounter.f kj148 t314 t317 t314 t317).bind fun bt370 => ((impl_MergeCounter.f kj148 t314 t317 t305 t308).bind fun bt378 => ((impl_MergeCounter.f kj148 t297 t300 t305 t308).bind fun bt386 => ((impl_MergeCounter.f kj148 t291 t294 bt386.1 bt386.2.1).bind fun bt394 => (if t368 = true then (if bt370.2.2 = true then (if bt378.2.2 = true then (if bt386.2.2 = true then (if bt394.2.2 = true then ((laws_sameCounters.f kj148 t362 t365 t314 t317).bind fun t402 => (if t402 = true then ((laws_sameCounters.f kj148 bt370.1 bt370.2.1 t314 t317).bind fun t403 => (if t403 = true then ((laws_sameCounters.f kj148 bt378.1 bt378.2.1 bt394.1 bt394.2.1).bind fun t404 => (some t404)) else (none))) else (none))) else (none)) else (none)) else (none)) else (none)) else (none)))))) = some r := H
 have A161 := Aside0.mk A1610
 clear A1610
 replace H := Option.bind_eq_some_iff.mp H
 obtain ⟨⟨t370, t373, t376⟩, A1620, H⟩ := H
 replace H : ((impl_MergeCounter.f kj148 t314 t317 t305 t308).bind fun bt378 => ((impl_MergeCounter.f kj148 t297 t300 t305 t308).bind fun bt386 => ((impl_MergeCounter.f kj148 t291 t294 bt386.1 bt386.2.1).bind fun bt394 => (if t368 = true then (if t376 = true then (if bt378.2.2 = true then (if bt386.2.2 = true then (if bt394.2.2 = true then ((laws_sameCounters.f kj148 t362 t365 t314 t317).bind fun t402 => (if t402 = true then ((laws_sameCounters.f kj148 t370 t373 t314 t317).bind fun t403 => (if t403 = true then ((laws_sameCounters.f kj148 bt378.1 bt378.2.1 bt394.1 bt394.2.1).bind fun t404 => (some t404)) else (none))) else (none))) else (none)) else (none)) else (none)) else (none)) else (none))))) = some r := H
 have A162 := Aside0.mk A1620
 clear A1620
 replace H := Option.bind_eq_some_iff.mp H
 obtain ⟨⟨t378, t381, t384⟩, A1630, H⟩ := H
 replace H : ((impl_MergeCounter.f kj148 t297 t300 t305 t308).bind fun bt386 => ((impl_MergeCounter.f kj148 t291 t294 bt386.1 bt386.2.1).bind fun bt394 => (if t368 = true then (if t376 = true then (if t384 = true then (if bt386.2.2 = true then (if bt394.2.2 = true then ((laws_sameCounters.f kj148 t362 t365 t314 t317).bind fun t402 => (if t402 = true then ((laws_sameCounters.f kj148 t370 t373 t314 t317).bind fun t403 => (if t403 = true then ((laws_sameCounters.f kj148 t378 t381 bt394.1 bt394.2.1).bind fun t404 => (some t404)) else (none))) else (none))) else (none)) else (none)) else (none)) else (none)) else (none)))) = some r := H
 have A163 := Aside0.mk A1630
 clear A1630
 replace H := Option.bind_eq_some_iff.mp H
 obtain ⟨⟨t386, t389, t392⟩, A1640, H⟩ := H
 replace H : ((impl_MergeCounter.f kj148 t291 t294 t386 t389).bind fun bt394 => (if t368 = true then (if t376 = true then (if t384 = true then (if t392 = true then (if bt394.2.2 = true then ((laws_sameCounters.f kj148 t362 t365 t314 t317).bind fun t402 => (if t402 = true then ((laws_sameCounters.f kj148 t370 t373 t314 t317).bind fun t403 => (if t403 = true then ((laws_sameCounters.f kj148 t378 t381 bt394.1 bt394.2.1).bind fun t404 => (some t404)) else (none))) else (none))) else (none)) else (none)) else (none)) else (none)) else (none))) = some r := H
 have A164 := Aside0.mk A1640
 clear A1640
 replace H := Option.bind_eq_some_iff.mp H
 obtain ⟨⟨t394, t397, t400⟩, A1650, H⟩ := H
 replace H : (if t368 = true then (if t376 = true then (if t384 = true then (if t392 = true then (if t400 = true then ((laws_sameCounters.f kj148 t362 t365 t314 t317).bind fun t402 => (if t402 = true then ((laws_sameCounters.f kj148 t370 t373 t314 t317).bind fun t403 => (if t403 = true then ((laws_sameCounters.f kj148 t378 t381 t394 t397).bind fun t404 => (some t404)) else (none))) else (none))) else (none)) else (none)) else (none)) else (none)) else (none)) = some r := H
 have A165 := Aside0.mk A1650
 clear A1650
 by_cases c166 : t368 = true
 rotate_left
 ·replace c166 := Bool.eq_false_iff.mpr c166
  subst c166
  have H1 : (none) = some r := by rw [if_neg (show ¬ (false = true) by decide)] at H; exact H
  clear H
  have H := H1
  clear H1
  exact absurd H (by simp)
 subst c166
 have H1 : (if t376 = true then (if t384 = true then (if t392 = true then (if t400 = true then ((laws_sameCounters.f kj148 t362 t365 t314 t317).bind fun t402 => (if t402 = true then ((laws_sameCounters.f kj148 t370 t373 t314 t317).bind fun t403 => (if t403 = true then ((laws_sameCounters.f kj148 t378 t381 t394 t397).bind fun t404 => (some t404)) else (none))) else (none))) else (none)) else (none)) else (none)) else (none)) = some r := by rw [if_pos rfl] at H; exact H
 clear H
 have H := H1
 clear H1
 by_cases c167 : t376 = true
 rotate_left
 ·replace c167 := Bool.eq_false_iff.mpr c167
  subst c167
  have H1 : (none) = some r := by rw [if_neg (show ¬ (false = true) by decide)] at H; exact H
  clear H
  have H := H1
  clear H1
  exact absurd H (by simp)
 subst c167
 have H1 : (if t384 = true then (if t392 = true then (if t400 = true then ((laws_sameCounters.f kj148 t362 t365 t314 t317).bind fun t402 => (if t402 = true then ((laws_sameCounters.f kj148 t370 t373 t314 t317).bind fun t403 => (if t403 = true then ((laws_sameCounters.f kj148 t378 t381 t394 t397).bind fun t404 => (some t404)) else (none))) else (none))) else (none)) else (none)) else (none)) = some r := by rw [if_pos rfl] at H; exact H
 clear H
 have H := H1
 clear H1
 by_cases c168 : t384 = true
 rotate_left
 ·replace c168 := Bool.eq_false_iff.mpr c168
  subst c168
  have H1 : (none) = some r := by rw [if_neg (show ¬ (false = true) by decide)] at H; exact H
  clear H
  have H := H1
  clear H1
  exact absurd H (by simp)
 subst c168
 have H1 : (if t392 = true then (if t400 = true then ((laws_sameCounters.f kj148 t362 t365 t314 t317).bind fun t402 => (if t402 = true then ((laws_sameCounters.f kj148 t370 t373 t314 t317).bind fun t403 => (if t403 = true then ((laws_sameCounters.f kj148 t378 t381 t394 t397).bind fun t404 => (some t404)) else (none))) else (none))) else (none)) else (none)) = some r := by rw [if_pos rfl] at H; exact H
 clear H
 have H := H1
 clear H1
 by_cases c169 : t392 = true
 rotate_left
 ·replace c169 := Bool.eq_false_iff.mpr c169
  subst c169
  have H1 : (none) = some r := by rw [if_neg (show ¬ (false = true) by decide)] at H; exact H
  clear H
  have H := H1
  clear H1
  exact absurd H (by simp)
 subst c169
 have H1 : (if t400 = true then ((laws_sameCounters.f kj148 t362 t365 t314 t317).bind fun t402 => (if t402 = true then ((laws_sameCounters.f kj148 t370 t373 t314 t317).bind fun t403 => (if t403 = true then ((laws_sameCounters.f kj148 t378 t381 t394 t397).bind fun t404 => (some t404)) else (none))) else (none))) else (none)) = some r := by rw [if_pos rfl] at H; exact H
 clear H
 have H := H1
 clear H1
 by_cases c170 : t400 = true
 rotate_left
 ·replace c170 := Bool.eq_false_iff.mpr c170
  subst c170
  have H1 : (none) = some r := by rw [if_neg (show ¬ (false = true) by decide)] at H; exact H
  clear H
  have H := H1
  clear H1
  exact absurd H (by simp)
 subst c170
 have H1 : ((laws_sameCounters.f kj148 t362 t365 t314 t317).bind fun t402 => (if t402 = true then ((laws_sameCounters.f kj148 t370 t373 t314 t317).bind fun t403 => (if t403 = true then ((laws_sameCounters.f kj148 t378 t381 t394 t397).bind fun t404 => (some t404)) else (none))) else (none))) = some r := by rw [if_pos rfl] at H; exact H
 clear H
 have H := H1
 clear H1
 replace H := Option.bind_eq_some_iff.mp H
 obtain ⟨t402, A1710, H⟩ := H
 replace H : (if t402 = true then ((laws_sameCounters.f kj148 t370 t373 t314 t317).bind fun t403 => (if t403 = true then ((laws_sameCounters.f kj148 t378 t381 t394 t397).bind fun t404 => (some t404)) else (none))) else (none)) = some r := H
 have A171 := Aside0.mk A1710
 clear A1710
 by_cases c172 : t402 = true
 rotate_left
 ·replace c172 := Bool.eq_false_iff.mpr c172
  subst c172
  have H1 : (none) = some r := by rw [if_neg (show ¬ (false = true) by decide)] at H; exact H
  clear H
  have H := H1
  clear H1
  exact absurd H (by simp)
 subst c172
 have H1 : ((laws_sameCounters.f kj148 t370 t373 t314 t317).bind fun t403 => (if t403 = true then ((laws_sameCounters.f kj148 t378 t381 t394 t397).bind fun t404 => (some t404)) else (none))) = some r := by rw [if_pos rfl] at H; exact H
 clear H
 have H := H1
 clear H1
 replace H := Option.bind_eq_some_iff.mp H
 obtain ⟨t403, A1730, H⟩ := H
 replace H : (if t403 = true then ((laws_sameCounters.f kj148 t378 t381 t394 t397).bind fun t404 => (some t404)) else (none)) = some r := H
 have A173 := Aside0.mk A1730
 clear A1730
 by_cases c174 : t403 = true
 rotate_left
 ·replace c174 := Bool.eq_false_iff.mpr c174
  subst c174
  have H1 : (none) = some r := by rw [if_neg (show ¬ (false = true) by decide)] at H; exact H
  clear H
  have H := H1
  clear H1
  exact absurd H (by simp)
 subst c174
 have H1 : ((laws_sameCounters.f kj148 t378 t381 t394 t397).bind fun t404 => (some t404)) = some r := by rw [if_pos rfl] at H; exact H
 clear H
 have H := H1
 clear H1
 replace H := Option.bind_eq_some_iff.mp H
 obtain ⟨t404, A1750, H⟩ := H
 replace H : (some t404) = some r := H
 have A175 := Aside0.mk A1750
 clear A1750
 obtain rfl := Option.some.inj H
 have hnb176 := NB304_303.out
 have hnc176 := NB303_304.out
 have hnb177 := NB304_313.out
 have hnc177 := NB313_304.out
 have hnb178 := NB304_321.out
 have hnc178 := NB321_304.out
 have hnb179 := NB304_329.out
 have hnc179 := NB329_304.out
 have hnb180 := NB304_338.out
 have hnc180 := NB338_304.out
 have hnb181 := NB304_346.out
 have hnc181 := NB346_304.out
 have hcz182_0 : wc.cell? ⟨gb304, 0, none⟩ = some (.slice Ao16 t297.length co16) := bc_ BK304.out 0
 have hcz182_1 : wc.cell? ⟨gb304, 1, none⟩ = some (.slice Ao18 t300.length co18) := bc_ BK304.out 1
 have hfz182_0 := blk_frozen BK304.out 0
 have hfz182_1 := blk_frozen BK304.out 1
 have hnb183 := NB303_313.out
 have hnc183 := NB313_303.out
 have hnb184 := NB303_321.out
 have hnc184 := NB321_303.out
 have hnb185 := NB303_329.out
 have hnc185 := NB329_303.out
 have hnb186 := NB303_338.out
 have hnc186 := NB338_303.out
 have hnb187 := NB303_346.out
 have hnc187 := NB346_303.out
 have hcz188_0 : wc.cell? ⟨gb303, 0, none⟩ = some (.slice Ao12 t291.length co12) := bc_ BK303.out 0
 have hcz188_1 : wc.cell? ⟨gb303, 1, none⟩ = some (.slice Ao15 t294.length co15) := bc_ BK303.out 1
 have hfz188_0 := blk_frozen BK303.out 0
 have hfz188_1 := blk_frozen BK303.out 1
 go_wp2_with (first | ((with_reducible refine gate_callee (f := 24) rfl ?_); refine goesL_ (some 145) rfl rfl Try.func24 (by kernel_rfl) rfl #[.agg #[.slice Ao16 t297.length co16, .slice Ao18 t300.length co18], .agg #[.slice Ao12 t291.length co12, .slice Ao15 t294.length co15]] rfl nc_ ?_; (with_reducible refine (impl_MergeCounter.calls kj148 _ _ t297 _ _ t300 _ _ t291 _ _ t294 t362 t365 true _ ?side1 ?side2 ?side3 ?side4 ?side5 ?side6 ?side7 ?side8 A161.out).mono ?_); (case side1 => exact kc_ (Kd.R_reads' HO_305000.out).2.2); (case side2 => exact (Kd.R_reads' HO_305000.out).2.1); (case side3 => exact kc_ (Kd.Q_reads' HO_305001.out).2.2); (case side4 => exact (Kd.Q_reads' HO_305001.out).2.1); (case side5 => exact kc_ (Kd.R_reads' HO_304000.out).2.2); (case side6 => exact (Kd.R_reads' HO_304000.out).2.1); (case side7 => exact kc_ (Kd.Q_reads' HO_304001.out).2.2); (case side8 => exact (Kd.Q_reads' HO_304001.out).2.1); rintro e w189 ⟨v363, v366, rfl, ho0, ho1, hb⟩; refine ⟨_, rfl, ?_⟩; have HO364 := Aside0.mk (Kd.R_lower (rnq_ (rn_ (rnq_ (rn_ (rnq_ (rn_ (rnq_ (rn_ (rnq_ (rn_ (rnq_ (rn_ (rnq_ (rn_ ho0 HO_304000.out) HO_304001.out) HO_305000.out) HO_305001.out) HO_314000.out) HO_314001.out) HO_322000.out) HO_322001.out) HO_330000.out) HO_330001.out) HO_339000.out) HO_339001.out) HO_347000.out) HO_347001.out) bz_); have HO367 := Aside0.mk (Kd.R_lower (rnq_ (rn_ (rnq_ (rn_ (rnq_ (rn_ (rnq_ (rn_ (rnq_ (rn_ (rnq_ (rn_ (rnq_ (rn_ ho1 HO_304000.out) HO_304001.out) HO_305000.out) HO_305001.out) HO_314000.out) HO_314001.out) HO_322000.out) HO_322001.out) HO_330000.out) HO_330001.out) HO_339000.out) HO_339001.out) HO_347000.out) HO_347001.out) bz_); replace HO_304000 := rp2_ HO_304000 hb ho0 ho1; replace HO_304001 := qp2_ HO_304001 hb ho0 ho1; replace HO_305000 := rp2_ HO_305000 hb ho0 ho1; replace HO_305001 := qp2_ HO_305001 hb ho0 ho1; replace HO_314000 := rp2_ HO_314000 hb ho0 ho1; replace HO_314001 := qp2_ HO_314001 hb ho0 ho1; replace HO_322000 := rp2_ HO_322000 hb ho0 ho1; replace HO_322001 := qp2_ HO_322001 hb ho0 ho1; replace HO_330000 := rp2_ HO_330000 hb ho0 ho1; replace HO_330001 := qp2_ HO_330001 hb ho0 ho1; replace HO_339000 := rp2_ HO_339000 hb ho0 ho1; replace HO_339001 := qp2_ HO_339001 hb ho0 ho1; replace HO_347000 := rp2_ HO_347000 hb ho0 ho1; replace HO_347001 := qp2_ HO_347001 hb ho0 ho1; replace BK303 := bb_ BK303 hb; replace BK304 := bb_ BK304 hb; replace BK313 := bb_ BK313 hb; replace BK321 := bb_ BK321 hb; replace BK329 := bb_ BK329 hb; replace BK338 := bb_ BK338 hb; replace BK346 := bb_ BK346 hb; replace HB := Aside0.mk (below_step bl_ hb); clear hb ho0 ho1) | ((with_reducible refine gate_dst (N := 24) rfl ?_); refine box_event rfl (N := 24) rfl (cs := #[.slice none 0 0, .slice none 0 0]) (t := 27) gs_ ?_; intro gb369 hg w190 hbox hb; replace HO_304000 := rb_ HO_304000 hb; replace HO_304001 := qb_ HO_304001 hb; replace HO_305000 := rb_ HO_305000 hb; replace HO_305001 := qb_ HO_305001 hb; replace HO_314000 := rb_ HO_314000 hb; replace HO_314001 := qb_ HO_314001 hb; replace HO_322000 := rb_ HO_322000 hb; replace HO_322001 := qb_ HO_322001 hb; replace HO_330000 := rb_ HO_330000 hb; replace HO_330001 := qb_ HO_330001 hb; replace HO_339000 := rb_ HO_339000 hb; replace HO_339001 := qb_ HO_339001 hb; replace HO_347000 := rb_ HO_347000 hb; replace HO_347001 := qb_ HO_347001 hb; replace HO364 := rb_ HO364 hb; replace HO367 := rb_ HO367 hb; have BK369 := Aside0.mk (hbox); have GW369 := Aside0.mk ((by rw [hg]; exact bz_ : w.heap.size ≤ gb369)); have GE369 := GW369; replace HB := Aside0.mk (below_step bl_ hb); have NB303_369 := nl_ hg BK303; have NB369_303 := nm_ hg BK303; replace BK303 := bb_ BK303 hb; have NB304_369 := nl_ hg BK304; have NB369_304 := nm_ hg BK304; replace BK304 := bb_ BK304 hb; have NB313_369 := nl_ hg BK313; have NB369_313 := nm_ hg BK313; replace BK313 := bb_ BK313 hb; have NB321_369 := nl_ hg BK321; have NB369_321 := nm_ hg BK321; replace BK321 := bb_ BK321 hb; have NB329_369 := nl_ hg BK329; have NB369_329 := nm_ hg BK329; replace BK329 := bb_ BK329 hb; have NB338_369 := nl_ hg BK338; have NB369_338 := nm_ hg BK338; replace BK338 := bb_ BK338 hb; have NB346_369 := nl_ hg BK346; have NB369_346 := nm_ hg BK346; replace BK346 := bb_ BK346 hb; clear hb hbox hg; obtain ⟨Ao191, co191, eo191⟩ := Kd.R_slice HO364.out; subst eo191; have hnb192 := NB369_303.out; have hnc192 := NB303_369.out; have hnb193 := NB369_304.out; have hnc193 := NB304_369.out; have hnb194 := NB369_313.out; have hnc194 := NB313_369.out; have hnb195 := NB369_321.out; have hnc195 := NB321_369.out; have hnb196 := NB369_329.out; have hnc196 := NB329_369.out; have hnb197 := NB369_338.out; have hnc197 := NB338_369.out; have hnb198 := NB369_346.out; have hnc198 := NB346_369.out; have hcz199_0 : w190.cell? ⟨gb369, 0, none⟩ = some (.slice none 0 0) := bc_ BK369.out 0; have hcz199_1 : w190.cell? ⟨gb369, 1, none⟩ = some (.slice none 0 0) := bc_ BK369.out 1; have hfz199_0 := blk_frozen BK369.out 0; have hfz199_1 := blk_frozen BK369.out 1; obtain ⟨Ao200, co200, eo200⟩ := Kd.R_slice HO367.out; subst eo200; have hnb201 := NB321_313.out; have hnc201 := NB313_321.out; have hnb202 := NB321_329.out; have hnc202 := NB329_321.out; have hnb203 := NB321_338.out; have hnc203 := NB338_321.out; have hnb204 := NB321_346.out; have hnc204 := NB346_321.out; have hcz205_0 : w190.cell? ⟨gb321, 0, none⟩ = some (.slice Ao30 t314.length co30) := bc_ BK321.out 0; have hcz205_1 : w190.cell? ⟨gb321, 1, none⟩ = some (.slice Ao35 t317.length co35) := bc_ BK321.out 1; have hfz205_0 := blk_frozen BK321.out 0; have hfz205_1 := blk_frozen BK321.out 1) | ((with_reducible refine gate_callee (f := 24) rfl ?_); refine goesL_ (some 151) rfl rfl Try.func24 (by kernel_rfl) rfl #[.agg #[.slice Ao30 t314.length co30, .slice Ao35 t317.length co35], .agg #[.slice Ao30 t314.length co30, .slice Ao35 t317.length co35]] rfl nc_ ?_; (with_reducible refine (impl_MergeCounter.calls kj148 _ _ t314 _ _ t317 _ _ t314 _ _ t317 t370 t373 true _ ?side1 ?side2 ?side3 ?side4 ?side5 ?side6 ?side7 ?side8 A162.out).mono ?_); (case side1 => exact (Kd.R_reads' (kr_ (rs2_ HO_322000.out BK369.out (.slice Ao191 t362.length co191) (.slice Ao200 t365.length co200)))).2.2); (case side2 => exact (Kd.R_reads' HO_322000.out).2.1); (case side3 => exact (Kd.Q_reads' (kq_ (qs2_ HO_322001.out BK369.out (.slice Ao191 t362.length co191) (.slice Ao200 t365.length co200)))).2.2); (case side4 => exact (Kd.Q_reads' HO_322001.out).2.1); (case side5 => exact (Kd.R_reads' (kr_ (rs2_ HO_322000.out BK369.out (.slice Ao191 t362.length co191) (.slice Ao200 t365.length co200)))).2.2); (case side6 => exact (Kd.R_reads' HO_322000.out).2.1); (case side7 => exact (Kd.Q_reads' (kq_ (qs2_ HO_322001.out BK369.out (.slice Ao191 t362.length co191) (.slice Ao200 t365.length co200)))).2.2); (case side8 => exact (Kd.Q_reads' HO_322001.out).2.1); rintro e w206 ⟨v371, v374, rfl, ho0, ho1, hb⟩; refine ⟨_, rfl, ?_⟩; have HO372 := Aside0.mk (Kd.R_lower (rn_ (rn_ (rnq_ (rn_ (rnq_ (rn_ (rnq_ (rn_ (rnq_ (rn_ (rnq_ (rn_ (rnq_ (rn_ (rnq_ (rn_ ho0 (rs2_ HO_304000.out BK369.out (.slice Ao191 t362.length co191) (.slice Ao200 t365.length co200))) (qs2_ HO_304001.out BK369.out (.slice Ao191 t362.length co191) (.slice Ao200 t365.length co200))) (rs2_ HO_305000.out BK369.out (.slice Ao191 t362.length co191) (.slice Ao200 t365.length co200))) (qs2_ HO_305001.out BK369.out (.slice Ao191 t362.length co191) (.slice Ao200 t365.length co200))) (rs2_ HO_314000.out BK369.out (.slice Ao191 t362.length co191) (.slice Ao200 t365.length co200))) (qs2_ HO_314001.out BK369.out (.slice Ao191 t362.length co191) (.slice Ao200 t365.length co200))) (rs2_ HO_322000.out BK369.out (.slice Ao191 t362.length co191) (.slice Ao200 t365.length co200))) (qs2_ HO_322001.out BK369.out (.slice Ao191 t362.length co191) (.slice Ao200 t365.length co200))) (rs2_ HO_330000.out BK369.out (.slice Ao191 t362.length co191) (.slice Ao200 t365.length co200))) (qs2_ HO_330001.out BK369.out (.slice Ao191 t362.length co191) (.slice Ao200 t365.length co200))) (rs2_ HO_339000.out BK369.out (.slice Ao191 t362.length co191) (.slice Ao200 t365.length co200))) (qs2_ HO_339001.out BK369.out (.slice Ao191 t362.length co191) (.slice Ao200 t365.length co200))) (rs2_ HO_347000.out BK369.out (.slice Ao191 t362.length co191) (.slice Ao200 t365.length co200))) (qs2_ HO_347001.out BK369.out (.slice Ao191 t362.length co191) (.slice Ao200 t365.length co200))) (rs2_ HO364.out BK369.out (.slice Ao191 t362.length co191) (.slice Ao200 t365.length co200))) (rs2_ HO367.out BK369.out (.slice Ao191 t362.length co191) (.slice Ao200 t365.length co200))) bz_); have HO375 := Aside0.mk (Kd.R_lower (rn_ (rn_ (rnq_ (rn_ (rnq_ (rn_ (rnq_ (rn_ (rnq_ (rn_ (rnq_ (rn_ (rnq_ (rn_ (rnq_ (rn_ ho1 (rs2_ HO_304000.out BK369.out (.slice Ao191 t362.length co191) (.slice Ao200 t365.length co200))) (qs2_ HO_304001.out BK369.out (.slice Ao191 t362.length co191) (.slice Ao200 t365.length co200))) (rs2_ HO_305000.out BK369.out (.slice Ao191 t362.length co191) (.slice Ao200 t365.length co200))) (qs2_ HO_305001.out BK369.out (.slice Ao191 t362.length co191) (.slice Ao200 t365.length co200))) (rs2_ HO_314000.out BK369.out (.slice Ao191 t362.length co191) (.slice Ao200 t365.length co200))) (qs2_ HO_314001.out BK369.out (.slice Ao191 t362.length co191) (.slice Ao200 t365.length co200))) (rs2_ HO_322000.out BK369.out (.slice Ao191 t362.length co191) (.slice Ao200 t365.length co200))) (qs2_ HO_322001.out BK369.out (.slice Ao191 t362.length co191) (.slice Ao200 t365.length co200))) (rs2_ HO_330000.out BK369.out (.slice Ao191 t362.length co191) (.slice Ao200 t365.length co200))) (qs2_ HO_330001.out BK369.out (.slice Ao191 t362.length co191) (.slice Ao200 t365.length co200))) (rs2_ HO_339000.out BK369.out (.slice Ao191 t362.length co191) (.slice Ao200 t365.length co200))) (qs2_ HO_339001.out BK369.out (.slice Ao191 t362.length co191) (.slice Ao200 t365.length co200))) (rs2_ HO_347000.out BK369.out (.slice Ao191 t362.length co191) (.slice Ao200 t365.length co200))) (qs2_ HO_347001.out BK369.out (.slice Ao191 t362.length co191) (.slice Ao200 t365.length co200))) (rs2_ HO364.out BK369.out (.slice Ao191 t362.length co191) (.slice Ao200 t365.length co200))) (rs2_ HO367.out BK369.out (.slice Ao191 t362.length co191) (.slice Ao200 t365.length co200))) bz_); replace HO_304000 := Aside0.mk (ro2_ (rs2_ HO_304000.out BK369.out (.slice Ao191 t362.length co191) (.slice Ao200 t365.length co200)) hb (Kd.R_base ho0) (Kd.R_base ho1)); replace HO_304001 := Aside0.mk (qo2_ (qs2_ HO_304001.out BK369.out (.slice Ao191 t362.length co191) (.slice Ao200 t365.length co200)) hb (Kd.R_base ho0) (Kd.R_base ho1)); replace HO_305000 := Aside0.mk (ro2_ (rs2_ HO_305000.out BK369.out (.slice Ao191 t362.length co191) (.slice Ao200 t365.length co200)) hb (Kd.R_base ho0) (Kd.R_base ho1)); replace HO_305001 := Aside0.mk (qo2_ (qs2_ HO_305001.out BK369.out (.slice Ao191 t362.length co191) (.slice Ao200 t365.length co200)) hb (Kd.R_base ho0) (Kd.R_base ho1)); replace HO_314000 := Aside0.mk (ro2_ (rs2_ HO_314000.out BK369.out (.slice Ao191 t362.length co191) (.slice Ao200 t365.length co200)) hb (Kd.R_base ho0) (Kd.R_base ho1)); replace HO_314001 := Aside0.mk (qo2_ (qs2_ HO_314001.out BK369.out (.slice Ao191 t362.length co191) (.slice Ao200 t365.length co200)) hb (Kd.R_base ho0) (Kd.R_base ho1)); replace HO_322000 := Aside0.mk (ro2_ (rs2_ HO_322000.out BK369.out (.slice Ao191 t362.length co191) (.slice Ao200 t365.length co200)) hb (Kd.R_base ho0) (Kd.R_base ho1)); replace HO_322001 := Aside0.mk (qo2_ (qs2_ HO_322001.out BK369.out (.slice Ao191 t362.length co191) (.slice Ao200 t365.length co200)) hb (Kd.R_base ho0) (Kd.R_base ho1)); replace HO_330000 := Aside0.mk (ro2_ (rs2_ HO_330000.out BK369.out (.slice Ao191 t362.length co191) (.slice Ao200 t365.length co200)) hb (Kd.R_base ho0) (Kd.R_base ho1)); replace HO_330001 := Aside0.mk (qo2_ (qs2_ HO_330001.out BK369.out (.slice Ao191 t362.length co191) (.slice Ao200 t365.length co200)) hb (Kd.R_base ho0) (Kd.R_base ho1)); replace HO_339000 := Aside0.mk (ro2_ (rs2_ HO_339000.out BK369.out (.slice Ao191 t362.length co191) (.slice Ao200 t365.length co200)) hb (Kd.R_base ho0) (Kd.R_base ho1)); replace HO_339001 := Aside0.mk (qo2_ (qs2_ HO_339001.out BK369.out (.slice Ao191 t362.length co191) (.slice Ao200 t365.length co200)) hb (Kd.R_base ho0) (Kd.R_base ho1)); replace HO_347000 := Aside0.mk (ro2_ (rs2_ HO_347000.out BK369.out (.slice Ao191 t362.length co191) (.slice Ao200 t365.length co200)) hb (Kd.R_base ho0) (Kd.R_base ho1)); replace HO_347001 := Aside0.mk (qo2_ (qs2_ HO_347001.out BK369.out (.slice Ao191 t362.length co191) (.slice Ao200 t365.length co200)) hb (Kd.R_base ho0) (Kd.R_base ho1)); replace HO364 := Aside0.mk (ro2_ (rs2_ HO364.out BK369.out (.slice Ao191 t362.length co191) (.slice Ao200 t365.length co200)) hb (Kd.R_base ho0) (Kd.R_base ho1)); replace HO367 := Aside0.mk (ro2_ (rs2_ HO367.out BK369.out (.slice Ao191 t362.length co191) (.slice Ao200 t365.length co200)) hb (Kd.R_base ho0) (Kd.R_base ho1)); replace BK303 := Aside0.mk (blk_below (g := gb303) (o := .cells #[.slice Ao12 t291.length co12, .slice Ao15 t294.length co15] 27 (0, 0)) kz_ hb); replace BK304 := Aside0.mk (blk_below (g := gb304) (o := .cells #[.slice Ao16 t297.length co16, .slice Ao18 t300.length co18] 27 (0, 0)) kz_ hb); replace BK313 := Aside0.mk (blk_below (g := gb313) (o := .cells #[.slice Ao21 t305.length co21, .slice Ao25 t308.length co25] 27 (0, 0)) kz_ hb); replace BK321 := Aside0.mk (blk_below (g := gb321) (o := .cells #[.slice Ao30 t314.length co30, .slice Ao35 t317.length co35] 27 (0, 0)) kz_ hb); replace BK329 := Aside0.mk (blk_below (g := gb329) (o := .cells #[.slice Ao40 t322.length co40, .slice Ao46 t325.length co46] 27 (0, 0)) kz_ hb); replace BK338 := Aside0.mk (blk_below (g := gb338) (o := .cells #[.slice Ao70 t331.length co70, .slice Ao77 t334.length co77] 27 (0, 0)) kz_ hb); replace BK346 := Aside0.mk (blk_below (g := gb346) (o := .cells #[.slice Ao81 t339.length co81, .slice Ao89 t342.length co89] 27 (0, 0)) kz_ hb); replace BK369 := Aside0.mk (blk_below (g := gb369) (o := .cells #[.slice Ao191 t362.length co191, .slice Ao200 t365.length co200] 27 (0, 0)) (by (with_reducible repeat (first | refine blk_drewN ?_ _ | refine blk_drew ?_ | refine blk_alloc ?_ _)); refine blk_put (cs := #[.slice Ao191 t362.length co191, .slice none 0 0]) ?_ 1 _ rfl; (with_reducible repeat (first | refine blk_drewN ?_ _ | refine blk_drew ?_ | refine blk_alloc ?_ _)); refine blk_put (cs := #[.slice none 0 0, .slice none 0 0]) ?_ 0 _ rfl; exact kb_ BK369.out) hb); replace HB := Aside0.mk (below_step bl_ hb); clear hb ho0 ho1) | ((with_reducible refine gate_dst (N := 26) rfl ?_); refine box_event rfl (N := 26) rfl (cs := #[.slice none 0 0, .slice none 0 0]) (t := 27) gs_ ?_; intro gb377 hg w207 hbox hb; replace HO_304000 := rb_ HO_304000 hb; replace HO_304001 := qb_ HO_304001 hb; replace HO_305000 := rb_ HO_305000 hb; replace HO_305001 := qb_ HO_305001 hb; replace HO_314000 := rb_ HO_314000 hb; replace HO_314001 := qb_ HO_314001 hb; replace HO_322000 := rb_ HO_322000 hb; replace HO_322001 := qb_ HO_322001 hb; replace HO_330000 := rb_ HO_330000 hb; replace HO_330001 := qb_ HO_330001 hb; replace HO_339000 := rb_ HO_339000 hb; replace HO_339001 := qb_ HO_339001 hb; replace HO_347000 := rb_ HO_347000 hb; replace HO_347001 := qb_ HO_347001 hb; replace HO364 := rb_ HO364 hb; replace HO367 := rb_ HO367 hb; replace HO372 := rb_ HO372 hb; replace HO375 := rb_ HO375 hb; have BK377 := Aside0.mk (hbox); have GW377 := Aside0.mk ((by rw [hg]; exact bz_ : w.heap.size ≤ gb377)); have GE377 := GW377; replace HB := Aside0.mk (below_step bl_ hb); have NB303_377 := nl_ hg BK303; have NB377_303 := nm_ hg BK303; replace BK303 := bb_ BK303 hb; have NB304_377 := nl_ hg BK304; have NB377_304 := nm_ hg BK304; replace BK304 := bb_ BK304 hb; have NB313_377 := nl_ hg BK313; have NB377_313 := nm_ hg BK313; replace BK313 := bb_ BK313 hb; have NB321_377 := nl_ hg BK321; have NB377_321 := nm_ hg BK321; replace BK321 := bb_ BK321 hb; have NB329_377 := nl_ hg BK329; have NB377_329 := nm_ hg BK329; replace BK329 := bb_ BK329 hb; have NB338_377 := nl_ hg BK338; have NB377_338 := nm_ hg BK338; replace BK338 := bb_ BK338 hb; have NB346_377 := nl_ hg BK346; have NB377_346 := nm_ hg BK346; replace BK346 := bb_ BK346 hb; have NB369_377 := nl_ hg BK369; have NB377_369 := nm_ hg BK369; replace BK369 := bb_ BK369 hb; clear hb hbox hg; obtain ⟨Ao208, co208, eo208⟩ := Kd.R_slice HO372.out; subst eo208; have hnb209 := NB377_303.out; have hnc209 := NB303_377.out; have hnb210 := NB377_304.out; have hnc210 := NB304_377.out; have hnb211 := NB377_313.out; have hnc211 := NB313_377.out; have hnb212 := NB377_321.out; have hnc212 := NB321_377.out; have hnb213 := NB377_329.out; have hnc213 := NB329_377.out; have hnb214 := NB377_338.out; have hnc214 := NB338_377.out; have hnb215 := NB377_346.out; have hnc215 := NB346_377.out; have hnb216 := NB377_369.out; have hnc216 := NB369_377.out; have hcz217_0 : w207.cell? ⟨gb377, 0, none⟩ = some (.slice none 0 0) := bc_ BK377.out 0; have hcz217_1 : w207.cell? ⟨gb377, 1, none⟩ = some (.slice none 0 0) := bc_ BK377.out 1; have hfz217_0 := blk_frozen BK377.out 0; have hfz217_1 := blk_frozen BK377.out 1; obtain ⟨Ao218, co218, eo218⟩ := Kd.R_slice HO375.out; subst eo218; have hcz219_0 : w207.cell? ⟨gb321, 0, none⟩ = some (.slice Ao30 t314.length co30) := bc_ BK321.out 0; have hcz219_1 : w207.cell? ⟨gb321, 1, none⟩ = some (.slice Ao35 t317.length co35) := bc_ BK321.out 1; have hfz219_0 := blk_frozen BK321.out 0; have hfz219_1 := blk_frozen BK321.out 1; have hnb220 := NB313_329.out; have hnc220 := NB329_313.out; have hnb221 := NB313_338.out; have hnc221 := NB338_313.out; have hnb222 := NB313_346.out; have hnc222 := NB346_313.out; have hcz223_0 : w207.cell? ⟨gb313, 0, none⟩ = some (.slice Ao21 t305.length co21) := bc_ BK313.out 0; have hcz223_1 : w207.cell? ⟨gb313, 1, none⟩ = some (.slice Ao25 t308.length co25) := bc_ BK313.out 1; have hfz223_0 := blk_frozen BK313.out 0; have hfz223_1 := blk_frozen BK313.out 1) | ((with_reducible refine gate_callee (f := 24) rfl ?_); refine goesL_ (some 157) rfl rfl Try.func24 (by kernel_rfl) rfl #[.agg #[.slice Ao30 t314.length co30, .slice Ao35 t317.length co35], .agg #[.slice Ao21 t305.length co21, .slice Ao25 t308.length co25]] rfl nc_ ?_; (with_reducible refine (impl_MergeCounter.calls kj148 _ _ t314 _ _ t317 _ _ t305 _ _ t308 t378 t381 true _ ?side1 ?side2 ?side3 ?side4 ?side5 ?side6 ?side7 ?side8 A163.out).mono ?_); (case side1 => exact (Kd.R_reads' (kr_ (rs2_ HO_322000.out BK377.out (.slice Ao208 t370.length co208) (.slice Ao218 t373.length co218)))).2.2); (case side2 => exact (Kd.R_reads' HO_322000.out).2.1); (case side3 => exact (Kd.Q_reads' (kq_ (qs2_ HO_322001.out BK377.out (.slice Ao208 t370.length co208) (.slice Ao218 t373.length co218)))).2.2); (case side4 => exact (Kd.Q_reads' HO_322001.out).2.1); (case side5 => exact (Kd.R_reads' (kr_ (rs2_ HO_314000.out BK377.out (.slice Ao208 t370.length co208) (.slice Ao218 t373.length co218)))).2.2); (case side6 => exact (Kd.R_reads' HO_314000.out).2.1); (case side7 => exact (Kd.Q_reads' (kq_ (qs2_ HO_314001.out BK377.out (.slice Ao208 t370.length co208) (.slice Ao218 t373.length co218)))).2.2); (case side8 => exact (Kd.Q_reads' HO_314001.out).2.1); rintro e w224 ⟨v379, v382, rfl, ho0, ho1, hb⟩; refine ⟨_, rfl, ?_⟩; have HO380 := Aside0.mk (Kd.R_lower (rn_ (rn_ (rn_ (rn_ (rnq_ (rn_ (rnq_ (rn_ (rnq_ (rn_ (rnq_ (rn_ (rnq_ (rn_ (rnq_ (rn_ (rnq_ (rn_ ho0 (rs2_ HO_304000.out BK377.out (.slice Ao208 t370.length co208) (.slice Ao218 t373.length co218))) (qs2_ HO_304001.out BK377.out (.slice Ao208 t370.length co208) (.slice Ao218 t373.length co218))) (rs2_ HO_305000.out BK377.out (.slice Ao208 t370.length co208) (.slice Ao218 t373.length co218))) (qs2_ HO_305001.out BK377.out (.slice Ao208 t370.length co208) (.slice Ao218 t373.length co218))) (rs2_ HO_314000.out BK377.out (.slice Ao208 t370.length co208) (.slice Ao218 t373.length co218))) (qs2_ HO_314001.out BK377.out (.slice Ao208 t370.length co208) (.slice Ao218 t373.length co218))) (rs2_ HO_322000.out BK377.out (.slice Ao208 t370.length co208) (.slice Ao218 t373.length co218))) (qs2_ HO_322001.out BK377.out (.slice Ao208 t370.length co208) (.slice Ao218 t373.length co218))) (rs2_ HO_330000.out BK377.out (.slice Ao208 t370.length co208) (.slice Ao218 t373.length co218))) (qs2_ HO_330001.out BK377.out (.slice Ao208 t370.length co208) (.slice Ao218 t373.length co218))) (rs2_ HO_339000.out BK377.out (.slice Ao208 t370.length co208) (.slice Ao218 t373.length co218))) (qs2_ HO_339001.out BK377.out (.slice Ao208 t370.length co208) (.slice Ao218 t373.length co218))) (rs2_ HO_347000.out BK377.out (.slice Ao208 t370.length co208) (.slice Ao218 t373.length co218))) (qs2_ HO_347001.out BK377.out (.slice Ao208 t370.length co208) (.slice Ao218 t373.length co218))) (rs2_ HO364.out BK377.out (.slice Ao208 t370.length co208) (.slice Ao218 t373.length co218))) (rs2_ HO367.out BK377.out (.slice Ao208 t370.length co208) (.slice Ao218 t373.length co218))) (rs2_ HO372.out BK377.out (.slice Ao208 t370.length co208) (.slice Ao218 t373.length co218))) (rs2_ HO375.out BK377.out (.slice Ao208 t370.length co208) (.slice Ao218 t373.length co218))) bz_); have HO383 := Aside0.mk (Kd.R_lower (rn_ (rn_ (rn_ (rn_ (rnq_ (rn_ (rnq_ (rn_ (rnq_ (rn_ (rnq_ (rn_ (rnq_ (rn_ (rnq_ (rn_ (rnq_ (rn_ ho1 (rs2_ HO_304000.out BK377.out (.slice Ao208 t370.length co208) (.slice Ao218 t373.length co218))) (qs2_ HO_304001.out BK377.out (.slice Ao208 t370.length co208) (.slice Ao218 t373.length co218))) (rs2_ HO_305000.out BK377.out (.slice Ao208 t370.length co208) (.slice Ao218 t373.length co218))) (qs2_ HO_305001.out BK377.out (.slice Ao208 t370.length co208) (.slice Ao218 t373.length co218))) (rs2_ HO_314000.out BK377.out (.slice Ao208 t370.length co208) (.slice Ao218 t373.length co218))) (qs2_ HO_314001.out BK377.out (.slice Ao208 t370.length co208) (.slice Ao218 t373.length co218))) (rs2_ HO_322000.out BK377.out (.slice Ao208 t370.length co208) (.slice Ao218 t373.length co218))) (qs2_ HO_322001.out BK377.out (.slice Ao208 t370.length co208) (.slice Ao218 t373.length co218))) (rs2_ HO_330000.out BK377.out (.slice Ao208 t370.length co208) (.slice Ao218 t373.length co218))) (qs2_ HO_330001.out BK377.out (.slice Ao208 t370.length co208) (.slice Ao218 t373.length co218))) (rs2_ HO_339000.out BK377.out (.slice Ao208 t370.length co208) (.slice Ao218 t373.length co218))) (qs2_ HO_339001.out BK377.out (.slice Ao208 t370.length co208) (.slice Ao218 t373.length co218))) (rs2_ HO_347000.out BK377.out (.slice Ao208 t370.length co208) (.slice Ao218 t373.length co218))) (qs2_ HO_347001.out BK377.out (.slice Ao208 t370.length co208) (.slice Ao218 t373.length co218))) (rs2_ HO364.out BK377.out (.slice Ao208 t370.length co208) (.slice Ao218 t373.length co218))) (rs2_ HO367.out BK377.out (.slice Ao208 t370.length co208) (.slice Ao218 t373.length co218))) (rs2_ HO372.out BK377.out (.slice Ao208 t370.length co208) (.slice Ao218 t373.length co218))) (rs2_ HO375.out BK377.out (.slice Ao208 t370.length co208) (.slice Ao218 t373.length co218))) bz_); replace HO_304000 := Aside0.mk (ro2_ (rs2_ HO_304000.out BK377.out (.slice Ao208 t370.length co208) (.slice Ao218 t373.length co218)) hb (Kd.R_base ho0) (Kd.R_base ho1)); replace HO_304001 := Aside0.mk (qo2_ (qs2_ HO_304001.out BK377.out (.slice Ao208 t370.length co208) (.slice Ao218 t373.length co218)) hb (Kd.R_base ho0) (Kd.R_base ho1)); replace HO_305000 := Aside0.mk (ro2_ (rs2_ HO_305000.out BK377.out (.slice Ao208 t370.length co208) (.slice Ao218 t373.length co218)) hb (Kd.R_base ho0) (Kd.R_base ho1)); replace HO_305001 := Aside0.mk (qo2_ (qs2_ HO_305001.out BK377.out (.slice Ao208 t370.length co208) (.slice Ao218 t373.length co218)) hb (Kd.R_base ho0) (Kd.R_base ho1)); replace HO_314000 := Aside0.mk (ro2_ (rs2_ HO_314000.out BK377.out (.slice Ao208 t370.length co208) (.slice Ao218 t373.length co218)) hb (Kd.R_base ho0) (Kd.R_base ho1)); replace HO_314001 := Aside0.mk (qo2_ (qs2_ HO_314001.out BK377.out (.slice Ao208 t370.length co208) (.slice Ao218 t373.length co218)) hb (Kd.R_base ho0) (Kd.R_base ho1)); replace HO_322000 := Aside0.mk (ro2_ (rs2_ HO_322000.out BK377.out (.slice Ao208 t370.length co208) (.slice Ao218 t373.length co218)) hb (Kd.R_base ho0) (Kd.R_base ho1)); replace HO_322001 := Aside0.mk (qo2_ (qs2_ HO_322001.out BK377.out (.slice Ao208 t370.length co208) (.slice Ao218 t373.length co218)) hb (Kd.R_base ho0) (Kd.R_base ho1)); replace HO_330000 := Aside0.mk (ro2_ (rs2_ HO_330000.out BK377.out (.slice Ao208 t370.length co208) (.slice Ao218 t373.length co218)) hb (Kd.R_base ho0) (Kd.R_base ho1)); replace HO_330001 := Aside0.mk (qo2_ (qs2_ HO_330001.out BK377.out (.slice Ao208 t370.length co208) (.slice Ao218 t373.length co218)) hb (Kd.R_base ho0) (Kd.R_base ho1)); replace HO_339000 := Aside0.mk (ro2_ (rs2_ HO_339000.out BK377.out (.slice Ao208 t370.length co208) (.slice Ao218 t373.length co218)) hb (Kd.R_base ho0) (Kd.R_base ho1)); replace HO_339001 := Aside0.mk (qo2_ (qs2_ HO_339001.out BK377.out (.slice Ao208 t370.length co208) (.slice Ao218 t373.length co218)) hb (Kd.R_base ho0) (Kd.R_base ho1)); replace HO_347000 := Aside0.mk (ro2_ (rs2_ HO_347000.out BK377.out (.slice Ao208 t370.length co208) (.slice Ao218 t373.length co218)) hb (Kd.R_base ho0) (Kd.R_base ho1)); replace HO_347001 := Aside0.mk (qo2_ (qs2_ HO_347001.out BK377.out (.slice Ao208 t370.length co208) (.slice Ao218 t373.length co218)) hb (Kd.R_base ho0) (Kd.R_base ho1)); replace HO364 := Aside0.mk (ro2_ (rs2_ HO364.out BK377.out (.slice Ao208 t370.length co208) (.slice Ao218 t373.length co218)) hb (Kd.R_base ho0) (Kd.R_base ho1)); replace HO367 := Aside0.mk (ro2_ (rs2_ HO367.out BK377.out (.slice Ao208 t370.length co208) (.slice Ao218 t373.length co218)) hb (Kd.R_base ho0) (Kd.R_base ho1)); replace HO372 := Aside0.mk (ro2_ (rs2_ HO372.out BK377.out (.slice Ao208 t370.length co208) (.slice Ao218 t373.length co218)) hb (Kd.R_base ho0) (Kd.R_base ho1)); replace HO375 := Aside0.mk (ro2_ (rs2_ HO375.out BK377.out (.slice Ao208 t370.length co208) (.slice Ao218 t373.length co218)) hb (Kd.R_base ho0) (Kd.R_base ho1)); replace BK303 := Aside0.mk (blk_below (g := gb303) (o := .cells #[.slice Ao12 t291.length co12, .slice Ao15 t294.length co15] 27 (0, 0)) kz_ hb); replace BK304 := Aside0.mk (blk_below (g := gb304) (o := .cells #[.slice Ao16 t297.length co16, .slice Ao18 t300.length co18] 27 (0, 0)) kz_ hb); replace BK313 := Aside0.mk (blk_below (g := gb313) (o := .cells #[.slice Ao21 t305.length co21, .slice Ao25 t308.length co25] 27 (0, 0)) kz_ hb); replace BK321 := Aside0.mk (blk_below (g := gb321) (o := .cells #[.slice Ao30 t314.length co30, .slice Ao35 t317.length co35] 27 (0, 0)) kz_ hb); replace BK329 := Aside0.mk (blk_below (g := gb329) (o := .cells #[.slice Ao40 t322.length co40, .slice Ao46 t325.length co46] 27 (0, 0)) kz_ hb); replace BK338 := Aside0.mk (blk_below (g := gb338) (o := .cells #[.slice Ao70 t331.length co70, .slice Ao77 t334.length co77] 27 (0, 0)) kz_ hb); replace BK346 := Aside0.mk (blk_below (g := gb346) (o := .cells #[.slice Ao81 t339.length co81, .slice Ao89 t342.length co89] 27 (0, 0)) kz_ hb); replace BK369 := Aside0.mk (blk_below (g := gb369) (o := .cells #[.slice Ao191 t362.length co191, .slice Ao200 t365.length co200] 27 (0, 0)) kz_ hb); replace BK377 := Aside0.mk (blk_below (g := gb377) (o := .cells #[.slice Ao208 t370.length co208, .slice Ao218 t373.length co218] 27 (0, 0)) (by (with_reducible repeat (first | refine blk_drewN ?_ _ | refine blk_drew ?_ | refine blk_alloc ?_ _)); refine blk_put (cs := #[.slice Ao208 t370.length co208, .slice none 0 0]) ?_ 1 _ rfl; (with_reducible repeat (first | refine blk_drewN ?_ _ | refine blk_drew ?_ | refine blk_alloc ?_ _)); refine blk_put (cs := #[.slice none 0 0, .slice none 0 0]) ?_ 0 _ rfl; exact kb_ BK377.out) hb); replace HB := Aside0.mk (below_step bl_ hb); clear hb ho0 ho1) | ((with_reducible refine gate_dst (N := 28) rfl ?_); refine box_event rfl (N := 28) rfl (cs := #[.slice none 0 0, .slice none 0 0]) (t := 27) gs_ ?_; intro gb385 hg w225 hbox hb; replace HO_304000 := rb_ HO_304000 hb; replace HO_304001 := qb_ HO_304001 hb; replace HO_305000 := rb_ HO_305000 hb; replace HO_305001 := qb_ HO_305001 hb; replace HO_314000 := rb_ HO_314000 hb; replace HO_314001 := qb_ HO_314001 hb; replace HO_322000 := rb_ HO_322000 hb; replace HO_322001 := qb_ HO_322001 hb; replace HO_330000 := rb_ HO_330000 hb; replace HO_330001 := qb_ HO_330001 hb; replace HO_339000 := rb_ HO_339000 hb; replace HO_339001 := qb_ HO_339001 hb; replace HO_347000 := rb_ HO_347000 hb; replace HO_347001 := qb_ HO_347001 hb; replace HO364 := rb_ HO364 hb; replace HO367 := rb_ HO367 hb; replace HO372 := rb_ HO372 hb; replace HO375 := rb_ HO375 hb; replace HO380 := rb_ HO380 hb; replace HO383 := rb_ HO383 hb; have BK385 := Aside0.mk (hbox); have GW385 := Aside0.mk ((by rw [hg]; exact bz_ : w.heap.size ≤ gb385)); have GE385 := GW385; replace HB := Aside0.mk (below_step bl_ hb); have NB303_385 := nl_ hg BK303; have NB385_303 := nm_ hg BK303; replace BK303 := bb_ BK303 hb; have NB304_385 := nl_ hg BK304; have NB385_304 := nm_ hg BK304; replace BK304 := bb_ BK304 hb; have NB313_385 := nl_ hg BK313; have NB385_313 := nm_ hg BK313; replace BK313 := bb_ BK313 hb; have NB321_385 := nl_ hg BK321; have NB385_321 := nm_ hg BK321; replace BK321 := bb_ BK321 hb; have NB329_385 := nl_ hg BK329; have NB385_329 := nm_ hg BK329; replace BK329 := bb_ BK329 hb; have NB338_385 := nl_ hg BK338; have NB385_338 := nm_ hg BK338; replace BK338 := bb_ BK338 hb; have NB346_385 := nl_ hg BK346; have NB385_346 := nm_ hg BK346; replace BK346 := bb_ BK346 hb; have NB369_385 := nl_ hg BK369; have NB385_369 := nm_ hg BK369; replace BK369 := bb_ BK369 hb; have NB377_385 := nl_ hg BK377; have NB385_377 := nm_ hg BK377; replace BK377 := bb_ BK377 hb; clear hb hbox hg; obtain ⟨Ao226, co226, eo226⟩ := Kd.R_slice HO380.out; subst eo226; have hnb227 := NB385_303.out; have hnc227 := NB303_385.out; have hnb228 := NB385_304.out; have hnc228 := NB304_385.out; have hnb229 := NB385_313.out; have hnc229 := NB313_385.out; have hnb230 := NB385_321.out; have hnc230 := NB321_385.out; have hnb231 := NB385_329.out; have hnc231 := NB329_385.out; have hnb232 := NB385_338.out; have hnc232 := NB338_385.out; have hnb233 := NB385_346.out; have hnc233 := NB346_385.out; have hnb234 := NB385_369.out; have hnc234 := NB369_385.out; have hnb235 := NB385_377.out; have hnc235 := NB377_385.out; have hcz236_0 : w225.cell? ⟨gb385, 0, none⟩ = some (.slice none 0 0) := bc_ BK385.out 0; have hcz236_1 : w225.cell? ⟨gb385, 1, none⟩ = some (.slice none 0 0) := bc_ BK385.out 1; have hfz236_0 := blk_frozen BK385.out 0; have hfz236_1 := blk_frozen BK385.out 1; obtain ⟨Ao237, co237, eo237⟩ := Kd.R_slice HO383.out; subst eo237; have hcz238_0 : w225.cell? ⟨gb304, 0, none⟩ = some (.slice Ao16 t297.length co16) := bc_ BK304.out 0; have hcz238_1 : w225.cell? ⟨gb304, 1, none⟩ = some (.slice Ao18 t300.length co18) := bc_ BK304.out 1; have hfz238_0 := blk_frozen BK304.out 0; have hfz238_1 := blk_frozen BK304.out 1; have hcz239_0 : w225.cell? ⟨gb313, 0, none⟩ = some (.slice Ao21 t305.length co21) := bc_ BK313.out 0; have hcz239_1 : w225.cell? ⟨gb313, 1, none⟩ = some (.slice Ao25 t308.length co25) := bc_ BK313.out 1; have hfz239_0 := blk_frozen BK313.out 0; have hfz239_1 := blk_frozen BK313.out 1) | ((with_reducible refine gate_callee (f := 24) rfl ?_); refine goesL_ (some 163) rfl rfl Try.func24 (by kernel_rfl) rfl #[.agg #[.slice Ao16 t297.length co16, .slice Ao18 t300.length co18], .agg #[.slice Ao21 t305.length co21, .slice Ao25 t308.length co25]] rfl nc_ ?_; (with_reducible refine (impl_MergeCounter.calls kj148 _ _ t297 _ _ t300 _ _ t305 _ _ t308 t386 t389 true _ ?side1 ?side2 ?side3 ?side4 ?side5 ?side6 ?side7 ?side8 A164.out).mono ?_); (case side1 => exact (Kd.R_reads' (kr_ (rs2_ HO_305000.out BK385.out (.slice Ao226 t378.length co226) (.slice Ao237 t381.length co237)))).2.2); (case side2 => exact (Kd.R_reads' HO_305000.out).2.1); (case side3 => exact (Kd.Q_reads' (kq_ (qs2_ HO_305001.out BK385.out (.slice Ao226 t378.length co226) (.slice Ao237 t381.length co237)))).2.2); (case side4 => exact (Kd.Q_reads' HO_305001.out).2.1); (case side5 => exact (Kd.R_reads' (kr_ (rs2_ HO_314000.out BK385.out (.slice Ao226 t378.length co226) (.slice Ao237 t381.length co237)))).2.2); (case side6 => exact (Kd.R_reads' HO_314000.out).2.1); (case side7 => exact (Kd.Q_reads' (kq_ (qs2_ HO_314001.out BK385.out (.slice Ao226 t378.length co226) (.slice Ao237 t381.length co237)))).2.2); (case side8 => exact (Kd.Q_reads' HO_314001.out).2.1); rintro e w240 ⟨v387, v390, rfl, ho0, ho1, hb⟩; refine ⟨_, rfl, ?_⟩; have HO388 := Aside0.mk (Kd.R_lower (rn_ (rn_ (rn_ (rn_ (rn_ (rn_ (rnq_ (rn_ (rnq_ (rn_ (rnq_ (rn_ (rnq_ (rn_ (rnq_ (rn_ (rnq_ (rn_ (rnq_ (rn_ ho0 (rs2_ HO_304000.out BK385.out (.slice Ao226 t378.length co226) (.slice Ao237 t381.length co237))) (qs2_ HO_304001.out BK385.out (.slice Ao226 t378.length co226) (.slice Ao237 t381.length co237))) (rs2_ HO_305000.out BK385.out (.slice Ao226 t378.length co226) (.slice Ao237 t381.length co237))) (qs2_ HO_305001.out BK385.out (.slice Ao226 t378.length co226) (.slice Ao237 t381.length co237))) (rs2_ HO_314000.out BK385.out (.slice Ao226 t378.length co226) (.slice Ao237 t381.length co237))) (qs2_ HO_314001.out BK385.out (.slice Ao226 t378.length co226) (.slice Ao237 t381.length co237))) (rs2_ HO_322000.out BK385.out (.slice Ao226 t378.length co226) (.slice Ao237 t381.length co237))) (qs2_ HO_322001.out BK385.out (.slice Ao226 t378.length co226) (.slice Ao237 t381.length co237))) (rs2_ HO_330000.out BK385.out (.slice Ao226 t378.length co226) (.slice Ao237 t381.length co237))) (qs2_ HO_330001.out BK385.out (.slice Ao226 t378.length co226) (.slice Ao237 t381.length co237))) (rs2_ HO_339000.out BK385.out (.slice Ao226 t378.length co226) (.slice Ao237 t381.length co237))) (qs2_ HO_339001.out BK385.out (.slice Ao226 t378.length co226) (.slice Ao237 t381.length co237))) (rs2_ HO_347000.out BK385.out (.slice Ao226 t378.length co226) (.slice Ao237 t381.length co237))) (qs2_ HO_347001.out BK385.out (.slice Ao226 t378.length co226) (.slice Ao237 t381.length co237))) (rs2_ HO364.out BK385.out (.slice Ao226 t378.length co226) (.slice Ao237 t381.length co237))) (rs2_ HO367.out BK385.out (.slice Ao226 t378.length co226) (.slice Ao237 t381.length co237))) (rs2_ HO372.out BK385.out (.slice Ao226 t378.length co226) (.slice Ao237 t381.length co237))) (rs2_ HO375.out BK385.out (.slice Ao226 t378.length co226) (.slice Ao237 t381.length co237))) (rs2_ HO380.out BK385.out (.slice Ao226 t378.length co226) (.slice Ao237 t381.length co237))) (rs2_ HO383.out BK385.out (.slice Ao226 t378.length co226) (.slice Ao237 t381.length co237))) bz_); have HO391 := Aside0.mk (Kd.R_lower (rn_ (rn_ (rn_ (rn_ (rn_ (rn_ (rnq_ (rn_ (rnq_ (rn_ (rnq_ (rn_ (rnq_ (rn_ (rnq_ (rn_ (rnq_ (rn_ (rnq_ (rn_ ho1 (rs2_ HO_304000.out BK385.out (.slice Ao226 t378.length co226) (.slice Ao237 t381.length co237))) (qs2_ HO_304001.out BK385.out (.slice Ao226 t378.length co226) (.slice Ao237 t381.length co237))) (rs2_ HO_305000.out BK385.out (.slice Ao226 t378.length co226) (.slice Ao237 t381.length co237))) (qs2_ HO_305001.out BK385.out (.slice Ao226 t378.length co226) (.slice Ao237 t381.length co237))) (rs2_ HO_314000.out BK385.out (.slice Ao226 t378.length co226) (.slice Ao237 t381.length co237))) (qs2_ HO_314001.out BK385.out (.slice Ao226 t378.length co226) (.slice Ao237 t381.length co237))) (rs2_ HO_322000.out BK385.out (.slice Ao226 t378.length co226) (.slice Ao237 t381.length co237))) (qs2_ HO_322001.out BK385.out (.slice Ao226 t378.length co226) (.slice Ao237 t381.length co237))) (rs2_ HO_330000.out BK385.out (.slice Ao226 t378.length co226) (.slice Ao237 t381.length co237))) (qs2_ HO_330001.out BK385.out (.slice Ao226 t378.length co226) (.slice Ao237 t381.length co237))) (rs2_ HO_339000.out BK385.out (.slice Ao226 t378.length co226) (.slice Ao237 t381.length co237))) (qs2_ HO_339001.out BK385.out (.slice Ao226 t378.length co226) (.slice Ao237 t381.length co237))) (rs2_ HO_347000.out BK385.out (.slice Ao226 t378.length co226) (.slice Ao237 t381.length co237))) (qs2_ HO_347001.out BK385.out (.slice Ao226 t378.length co226) (.slice Ao237 t381.length co237))) (rs2_ HO364.out BK385.out (.slice Ao226 t378.length co226) (.slice Ao237 t381.length co237))) (rs2_ HO367.out BK385.out (.slice Ao226 t378.length co226) (.slice Ao237 t381.length co237))) (rs2_ HO372.out BK385.out (.slice Ao226 t378.length co226) (.slice Ao237 t381.length co237))) (rs2_ HO375.out BK385.out (.slice Ao226 t378.length co226) (.slice Ao237 t381.length co237))) (rs2_ HO380.out BK385.out (.slice Ao226 t378.length co226) (.slice Ao237 t381.length co237))) (rs2_ HO383.out BK385.out (.slice Ao226 t378.length co226) (.slice Ao237 t381.length co237))) bz_); replace HO_304000 := Aside0.mk (ro2_ (rs2_ HO_304000.out BK385.out (.slice Ao226 t378.length co226) (.slice Ao237 t381.length co237)) hb (Kd.R_base ho0) (Kd.R_base ho1)); replace HO_304001 := Aside0.mk (qo2_ (qs2_ HO_304001.out BK385.out (.slice Ao226 t378.length co226) (.slice Ao237 t381.length co237)) hb (Kd.R_base ho0) (Kd.R_base ho1)); replace HO_305000 := Aside0.mk (ro2_ (rs2_ HO_305000.out BK385.out (.slice Ao226 t378.length co226) (.slice Ao237 t381.length co237)) hb (Kd.R_base ho0) (Kd.R_base ho1)); replace HO_305001 := Aside0.mk (qo2_ (qs2_ HO_305001.out BK385.out (.slice Ao226 t378.length co226) (.slice Ao237 t381.length co237)) hb (Kd.R_base ho0) (Kd.R_base ho1)); replace HO_314000 := Aside0.mk (ro2_ (rs2_ HO_314000.out BK385.out (.slice Ao226 t378.length co226) (.slice Ao237 t381.length co237)) hb (Kd.R_base ho0) (Kd.R_base ho1)); replace HO_314001 := Aside0.mk (qo2_ (qs2_ HO_314001.out BK385.out (.slice Ao226 t378.length co226) (.slice Ao237 t381.length co237)) hb (Kd.R_base ho0) (Kd.R_base ho1)); replace HO_322000 := Aside0.mk (ro2_ (rs2_ HO_322000.out BK385.out (.slice Ao226 t378.length co226) (.slice Ao237 t381.length co237)) hb (Kd.R_base ho0) (Kd.R_base ho1)); replace HO_322001 := Aside0.mk (qo2_ (qs2_ HO_322001.out BK385.out (.slice Ao226 t378.length co226) (.slice Ao237 t381.length co237)) hb (Kd.R_base ho0) (Kd.R_base ho1)); replace HO_330000 := Aside0.mk (ro2_ (rs2_ HO_330000.out BK385.out (.slice Ao226 t378.length co226) (.slice Ao237 t381.length co237)) hb (Kd.R_base ho0) (Kd.R_base ho1)); replace HO_330001 := Aside0.mk (qo2_ (qs2_ HO_330001.out BK385.out (.slice Ao226 t378.length co226) (.slice Ao237 t381.length co237)) hb (Kd.R_base ho0) (Kd.R_base ho1)); replace HO_339000 := Aside0.mk (ro2_ (rs2_ HO_339000.out BK385.out (.slice Ao226 t378.length co226) (.slice Ao237 t381.length co237)) hb (Kd.R_base ho0) (Kd.R_base ho1)); replace HO_339001 := Aside0.mk (qo2_ (qs2_ HO_339001.out BK385.out (.slice Ao226 t378.length co226) (.slice Ao237 t381.length co237)) hb (Kd.R_base ho0) (Kd.R_base ho1)); replace HO_347000 := Aside0.mk (ro2_ (rs2_ HO_347000.out BK385.out (.slice Ao226 t378.length co226) (.slice Ao237 t381.length co237)) hb (Kd.R_base ho0) (Kd.R_base ho1)); replace HO_347001 := Aside0.mk (qo2_ (qs2_ HO_347001.out BK385.out (.slice Ao226 t378.length co226) (.slice Ao237 t381.length co237)) hb (Kd.R_base ho0) (Kd.R_base ho1)); replace HO364 := Aside0.mk (ro2_ (rs2_ HO364.out BK385.out (.slice Ao226 t378.length co226) (.slice Ao237 t381.length co237)) hb (Kd.R_base ho0) (Kd.R_base ho1)); replace HO367 := Aside0.mk (ro2_ (rs2_ HO367.out BK385.out (.slice Ao226 t378.length co226) (.slice Ao237 t381.length co237)) hb (Kd.R_base ho0) (Kd.R_base ho1)); replace HO372 := Aside0.mk (ro2_ (rs2_ HO372.out BK385.out (.slice Ao226 t378.length co226) (.slice Ao237 t381.length co237)) hb (Kd.R_base ho0) (Kd.R_base ho1)); replace HO375 := Aside0.mk (ro2_ (rs2_ HO375.out BK385.out (.slice Ao226 t378.length co226) (.slice Ao237 t381.length co237)) hb (Kd.R_base ho0) (Kd.R_base ho1)); replace HO380 := Aside0.mk (ro2_ (rs2_ HO380.out BK385.out (.slice Ao226 t378.length co226) (.slice Ao237 t381.length co237)) hb (Kd.R_base ho0) (Kd.R_base ho1)); replace HO383 := Aside0.mk (ro2_ (rs2_ HO383.out BK385.out (.slice Ao226 t378.length co226) (.slice Ao237 t381.length co237)) hb (Kd.R_base ho0) (Kd.R_base ho1)); replace BK303 := Aside0.mk (blk_below (g := gb303) (o := .cells #[.slice Ao12 t291.length co12, .slice Ao15 t294.length co15] 27 (0, 0)) kz_ hb); replace BK304 := Aside0.mk (blk_below (g := gb304) (o := .cells #[.slice Ao16 t297.length co16, .slice Ao18 t300.length co18] 27 (0, 0)) kz_ hb); replace BK313 := Aside0.mk (blk_below (g := gb313) (o := .cells #[.slice Ao21 t305.length co21, .slice Ao25 t308.length co25] 27 (0, 0)) kz_ hb); replace BK321 := Aside0.mk (blk_below (g := gb321) (o := .cells #[.slice Ao30 t314.length co30, .slice Ao35 t317.length co35] 27 (0, 0)) kz_ hb); replace BK329 := Aside0.mk (blk_below (g := gb329) (o := .cells #[.slice Ao40 t322.length co40, .slice Ao46 t325.length co46] 27 (0, 0)) kz_ hb); replace BK338 := Aside0.mk (blk_below (g := gb338) (o := .cells #[.slice Ao70 t331.length co70, .slice Ao77 t334.length co77] 27 (0, 0)) kz_ hb); replace BK346 := Aside0.mk (blk_below (g := gb346) (o := .cells #[.slice Ao81 t339.length co81, .slice Ao89 t342.length co89] 27 (0, 0)) kz_ hb); replace BK369 := Aside0.mk (blk_below (g := gb369) (o := .cells #[.slice Ao191 t362.length co191, .slice Ao200 t365.length co200] 27 (0, 0)) kz_ hb); replace BK377 := Aside0.mk (blk_below (g := gb377) (o := .cells #[.slice Ao208 t370.length co208, .slice Ao218 t373.length co218] 27 (0, 0)) kz_ hb); replace BK385 := Aside0.mk (blk_below (g := gb385) (o := .cells #[.slice Ao226 t378.length co226, .slice Ao237 t381.length co237] 27 (0, 0)) (by (with_reducible repeat (first | refine blk_drewN ?_ _ | refine blk_drew ?_ | refine blk_alloc ?_ _)); refine blk_put (cs := #[.slice Ao226 t378.length co226, .slice none 0 0]) ?_ 1 _ rfl; (with_reducible repeat (first | refine blk_drewN ?_ _ | refine blk_drew ?_ | refine blk_alloc ?_ _)); refine blk_put (cs := #[.slice none 0 0, .slice none 0 0]) ?_ 0 _ rfl; exact kb_ BK385.out) hb); replace HB := Aside0.mk (below_step bl_ hb); clear hb ho0 ho1) | ((with_reducible refine gate_dst (N := 30) rfl ?_); refine box_event rfl (N := 30) rfl (cs := #[.slice none 0 0, .slice none 0 0]) (t := 27) gs_ ?_; intro gb393 hg w241 hbox hb; replace HO_304000 := rb_ HO_304000 hb; replace HO_304001 := qb_ HO_304001 hb; replace HO_305000 := rb_ HO_305000 hb; replace HO_305001 := qb_ HO_305001 hb; replace HO_314000 := rb_ HO_314000 hb; replace HO_314001 := qb_ HO_314001 hb; replace HO_322000 := rb_ HO_322000 hb; replace HO_322001 := qb_ HO_322001 hb; replace HO_330000 := rb_ HO_330000 hb; replace HO_330001 := qb_ HO_330001 hb; replace HO_339000 := rb_ HO_339000 hb; replace HO_339001 := qb_ HO_339001 hb; replace HO_347000 := rb_ HO_347000 hb; replace HO_347001 := qb_ HO_347001 hb; replace HO364 := rb_ HO364 hb; replace HO367 := rb_ HO367 hb; replace HO372 := rb_ HO372 hb; replace HO375 := rb_ HO375 hb; replace HO380 := rb_ HO380 hb; replace HO383 := rb_ HO383 hb; replace HO388 := rb_ HO388 hb; replace HO391 := rb_ HO391 hb; have BK393 := Aside0.mk (hbox); have GW393 := Aside0.mk ((by rw [hg]; exact bz_ : w.heap.size ≤ gb393)); have GE393 := GW393; replace HB := Aside0.mk (below_step bl_ hb); have NB303_393 := nl_ hg BK303; have NB393_303 := nm_ hg BK303; replace BK303 := bb_ BK303 hb; have NB304_393 := nl_ hg BK304; have NB393_304 := nm_ hg BK304; replace BK304 := bb_ BK304 hb; have NB313_393 := nl_ hg BK313; have NB393_313 := nm_ hg BK313; replace BK313 := bb_ BK313 hb; have NB321_393 := nl_ hg BK321; have NB393_321 := nm_ hg BK321; replace BK321 := bb_ BK321 hb; have NB329_393 := nl_ hg BK329; have NB393_329 := nm_ hg BK329; replace BK329 := bb_ BK329 hb; have NB338_393 := nl_ hg BK338; have NB393_338 := nm_ hg BK338; replace BK338 := bb_ BK338 hb; have NB346_393 := nl_ hg BK346; have NB393_346 := nm_ hg BK346; replace BK346 := bb_ BK346 hb; have NB369_393 := nl_ hg BK369; have NB393_369 := nm_ hg BK369; replace BK369 := bb_ BK369 hb; have NB377_393 := nl_ hg BK377; have NB393_377 := nm_ hg BK377; replace BK377 := bb_ BK377 hb; have NB385_393 := nl_ hg BK385; have NB393_385 := nm_ hg BK385; replace BK385 := bb_ BK385 hb; clear hb hbox hg; obtain ⟨Ao242, co242, eo242⟩ := Kd.R_slice HO388.out; subst eo242; have hnb243 := NB393_303.out; have hnc243 := NB303_393.out; have hnb244 := NB393_304.out; have hnc244 := NB304_393.out; have hnb245 := NB393_313.out; have hnc245 := NB313_393.out; have hnb246 := NB393_321.out; have hnc246 := NB321_393.out; have hnb247 := NB393_329.out; have hnc247 := NB329_393.out; have hnb248 := NB393_338.out; have hnc248 := NB338_393.out; have hnb249 := NB393_346.out; have hnc249 := NB346_393.out; have hnb250 := NB393_369.out; have hnc250 := NB369_393.out; have hnb251 := NB393_377.out; have hnc251 := NB377_393.out; have hnb252 := NB393_385.out; have hnc252 := NB385_393.out; have hcz253_0 : w241.cell? ⟨gb393, 0, none⟩ = some (.slice none 0 0) := bc_ BK393.out 0; have hcz253_1 : w241.cell? ⟨gb393, 1, none⟩ = some (.slice none 0 0) := bc_ BK393.out 1; have hfz253_0 := blk_frozen BK393.out 0; have hfz253_1 := blk_frozen BK393.out 1; obtain ⟨Ao254, co254, eo254⟩ := Kd.R_slice HO391.out; subst eo254; have hcz255_0 : w241.cell? ⟨gb303, 0, none⟩ = some (.slice Ao12 t291.length co12) := bc_ BK303.out 0; have hcz255_1 : w241.cell? ⟨gb303, 1, none⟩ = some (.slice Ao15 t294.length co15) := bc_ BK303.out 1; have hfz255_0 := blk_frozen BK303.out 0; have hfz255_1 := blk_frozen BK303.out 1) | ((with_reducible refine gate_callee (f := 24) rfl ?_); refine goesL_ (some 169) rfl rfl Try.func24 (by kernel_rfl) rfl #[.agg #[.slice Ao12 t291.length co12, .slice Ao15 t294.length co15], .agg #[.slice Ao242 t386.length co242, .slice Ao254 t389.length co254]] rfl nc_ ?_; (with_reducible refine (impl_MergeCounter.calls kj148 _ _ t291 _ _ t294 _ _ t386 _ _ t389 t394 t397 true _ ?side1 ?side2 ?side3 ?side4 ?side5 ?side6 ?side7 ?side8 A165.out).mono ?_); (case side1 => exact (Kd.R_reads' (kr_ (rs2_ HO_304000.out BK393.out (.slice Ao242 t386.length co242) (.slice Ao254 t389.length co254)))).2.2); (case side2 => exact (Kd.R_reads' HO_304000.out).2.1); (case side3 => exact (Kd.Q_reads' (kq_ (qs2_ HO_304001.out BK393.out (.slice Ao242 t386.length co242) (.slice Ao254 t389.length co254)))).2.2); (case side4 => exact (Kd.Q_reads' HO_304001.out).2.1); (case side5 => exact (Kd.R_reads' (kr_ (rs2_ HO388.out BK393.out (.slice Ao242 t386.length co242) (.slice Ao254 t389.length co254)))).2.2); (case side6 => exact (Kd.R_reads' HO388.out).2.1); (case side7 => exact (Kd.R_reads' (kr_ (rs2_ HO391.out BK393.out (.slice Ao242 t386.length co242) (.slice Ao254 t389.length co254)))).2.2); (case side8 => exact (Kd.R_reads' HO391.out).2.1); rintro e w256 ⟨v395, v398, rfl, ho0, ho1, hb⟩; refine ⟨_, rfl, ?_⟩; have HO396 := Aside0.mk (Kd.R_lower (rn_ (rn_ (rn_ (rn_ (rn_ (rn_ (rn_ (rn_ (rnq_ (rn_ (rnq_ (rn_ (rnq_ (rn_ (rnq_ (rn_ (rnq_ (rn_ (rnq_ (rn_ (rnq_ (rn_ ho0 (rs2_ HO_304000.out BK393.out (.slice Ao242 t386.length co242) (.slice Ao254 t389.length co254))) (qs2_ HO_304001.out BK393.out (.slice Ao242 t386.length co242) (.slice Ao254 t389.length co254))) (rs2_ HO_305000.out BK393.out (.slice Ao242 t386.length co242) (.slice Ao254 t389.length co254))) (qs2_ HO_305001.out BK393.out (.slice Ao242 t386.length co242) (.slice Ao254 t389.length co254))) (rs2_ HO_314000.out BK393.out (.slice Ao242 t386.length co242) (.slice Ao254 t389.length co254))) (qs2_ HO_314001.out BK393.out (.slice Ao242 t386.length co242) (.slice Ao254 t389.length co254))) (rs2_ HO_322000.out BK393.out (.slice Ao242 t386.length co242) (.slice Ao254 t389.length co254))) (qs2_ HO_322001.out BK393.out (.slice Ao242 t386.length co242) (.slice Ao254 t389.length co254))) (rs2_ HO_330000.out BK393.out (.slice Ao242 t386.length co242) (.slice Ao254 t389.length co254))) (qs2_ HO_330001.out BK393.out (.slice Ao242 t386.length co242) (.slice Ao254 t389.length co254))) (rs2_ HO_339000.out BK393.out (.slice Ao242 t386.length co242) (.slice Ao254 t389.length co254))) (qs2_ HO_339001.out BK393.out (.slice Ao242 t386.length co242) (.slice Ao254 t389.length co254))) (rs2_ HO_347000.out BK393.out (.slice Ao242 t386.length co242) (.slice Ao254 t389.length co254))) (qs2_ HO_347001.out BK393.out (.slice Ao242 t386.length co242) (.slice Ao254 t389.length co254))) (rs2_ HO364.out BK393.out (.slice Ao242 t386.length co242) (.slice Ao254 t389.length co254))) (rs2_ HO367.out BK393.out (.slice Ao242 t386.length co242) (.slice Ao254 t389.length co254))) (rs2_ HO372.out BK393.out (.slice Ao242 t386.length co242) (.slice Ao254 t389.length co254))) (rs2_ HO375.out BK393.out (.slice Ao242 t386.length co242) (.slice Ao254 t389.length co254))) (rs2_ HO380.out BK393.out (.slice Ao242 t386.length co242) (.slice Ao254 t389.length co254))) (rs2_ HO383.out BK393.out (.slice Ao242 t386.length co242) (.slice Ao254 t389.length co254))) (rs2_ HO388.out BK393.out (.slice Ao242 t386.length co242) (.slice Ao254 t389.length co254))) (rs2_ HO391.out BK393.out (.slice Ao242 t386.length co242) (.slice Ao254 t389.length co254))) bz_); have HO399 := Aside0.mk (Kd.R_lower (rn_ (rn_ (rn_ (rn_ (rn_ (rn_ (rn_ (rn_ (rnq_ (rn_ (rnq_ (rn_ (rnq_ (rn_ (rnq_ (rn_ (rnq_ (rn_ (rnq_ (rn_ (rnq_ (rn_ ho1 (rs2_ HO_304000.out BK393.out (.slice Ao242 t386.length co242) (.slice Ao254 t389.length co254))) (qs2_ HO_304001.out BK393.out (.slice Ao242 t386.length co242) (.slice Ao254 t389.length co254))) (rs2_ HO_305000.out BK393.out (.slice Ao242 t386.length co242) (.slice Ao254 t389.length co254))) (qs2_ HO_305001.out BK393.out (.slice Ao242 t386.length co242) (.slice Ao254 t389.length co254))) (rs2_ HO_314000.out BK393.out (.slice Ao242 t386.length co242) (.slice Ao254 t389.length co254))) (qs2_ HO_314001.out BK393.out (.slice Ao242 t386.length co242) (.slice Ao254 t389.length co254))) (rs2_ HO_322000.out BK393.out (.slice Ao242 t386.length co242) (.slice Ao254 t389.length co254))) (qs2_ HO_322001.out BK393.out (.slice Ao242 t386.length co242) (.slice Ao254 t389.length co254))) (rs2_ HO_330000.out BK393.out (.slice Ao242 t386.length co242) (.slice Ao254 t389.length co254))) (qs2_ HO_330001.out BK393.out (.slice Ao242 t386.length co242) (.slice Ao254 t389.length co254))) (rs2_ HO_339000.out BK393.out (.slice Ao242 t386.length co242) (.slice Ao254 t389.length co254))) (qs2_ HO_339001.out BK393.out (.slice Ao242 t386.length co242) (.slice Ao254 t389.length co254))) (rs2_ HO_347000.out BK393.out (.slice Ao242 t386.length co242) (.slice Ao254 t389.length co254))) (qs2_ HO_347001.out BK393.out (.slice Ao242 t386.length co242) (.slice Ao254 t389.length co254))) (rs2_ HO364.out BK393.out (.slice Ao242 t386.length co242) (.slice Ao254 t389.length co254))) (rs2_ HO367.out BK393.out (.slice Ao242 t386.length co242) (.slice Ao254 t389.length co254))) (rs2_ HO372.out BK393.out (.slice Ao242 t386.length co242) (.slice Ao254 t389.length co254))) (rs2_ HO375.out BK393.out (.slice Ao242 t386.length co242) (.slice Ao254 t389.length co254))) (rs2_ HO380.out BK393.out (.slice Ao242 t386.length co242) (.slice Ao254 t389.length co254))) (rs2_ HO383.out BK393.out (.slice Ao242 t386.length co242) (.slice Ao254 t389.length co254))) (rs2_ HO388.out BK393.out (.slice Ao242 t386.length co242) (.slice Ao254 t389.length co254))) (rs2_ HO391.out BK393.out (.slice Ao242 t386.length co242) (.slice Ao254 t389.length co254))) bz_); replace HO_304000 := Aside0.mk (ro2_ (rs2_ HO_304000.out BK393.out (.slice Ao242 t386.length co242) (.slice Ao254 t389.length co254)) hb (Kd.R_base ho0) (Kd.R_base ho1)); replace HO_304001 := Aside0.mk (qo2_ (qs2_ HO_304001.out BK393.out (.slice Ao242 t386.length co242) (.slice Ao254 t389.length co254)) hb (Kd.R_base ho0) (Kd.R_base ho1)); replace HO_305000 := Aside0.mk (ro2_ (rs2_ HO_305000.out BK393.out (.slice Ao242 t386.length co242) (.slice Ao254 t389.length co254)) hb (Kd.R_base ho0) (Kd.R_base ho1)); replace HO_305001 := Aside0.mk (qo2_ (qs2_ HO_305001.out BK393.out (.slice Ao242 t386.length co242) (.slice Ao254 t389.length co254)) hb (Kd.R_base ho0) (Kd.R_base ho1)); replace HO_314000 := Aside0.mk (ro2_ (rs2_ HO_314000.out BK393.out (.slice Ao242 t386.length co242) (.slice Ao254 t389.length co254)) hb (Kd.R_base ho0) (Kd.R_base ho1)); replace HO_314001 := Aside0.mk (qo2_ (qs2_ HO_314001.out BK393.out (.slice Ao242 t386.length co242) (.slice Ao254 t389.length co254)) hb (Kd.R_base ho0) (Kd.R_base ho1)); replace HO_322000 := Aside0.mk (ro2_ (rs2_ HO_322000.out BK393.out (.slice Ao242 t386.length co242) (.slice Ao254 t389.length co254)) hb (Kd.R_base ho0) (Kd.R_base ho1)); replace HO_322001 := Aside0.mk (qo2_ (qs2_ HO_322001.out BK393.out (.slice Ao242 t386.length co242) (.slice Ao254 t389.length co254)) hb (Kd.R_base ho0) (Kd.R_base ho1)); replace HO_330000 := Aside0.mk (ro2_ (rs2_ HO_330000.out BK393.out (.slice Ao242 t386.length co242) (.slice Ao254 t389.length co254)) hb (Kd.R_base ho0) (Kd.R_base ho1)); replace HO_330001 := Aside0.mk (qo2_ (qs2_ HO_330001.out BK393.out (.slice Ao242 t386.length co242) (.slice Ao254 t389.length co254)) hb (Kd.R_base ho0) (Kd.R_base ho1)); replace HO_339000 := Aside0.mk (ro2_ (rs2_ HO_339000.out BK393.out (.slice Ao242 t386.length co242) (.slice Ao254 t389.length co254)) hb (Kd.R_base ho0) (Kd.R_base ho1)); replace HO_339001 := Aside0.mk (qo2_ (qs2_ HO_339001.out BK393.out (.slice Ao242 t386.length co242) (.slice Ao254 t389.length co254)) hb (Kd.R_base ho0) (Kd.R_base ho1)); replace HO_347000 := Aside0.mk (ro2_ (rs2_ HO_347000.out BK393.out (.slice Ao242 t386.length co242) (.slice Ao254 t389.length co254)) hb (Kd.R_base ho0) (Kd.R_base ho1)); replace HO_347001 := Aside0.mk (qo2_ (qs2_ HO_347001.out BK393.out (.slice Ao242 t386.length co242) (.slice Ao254 t389.length co254)) hb (Kd.R_base ho0) (Kd.R_base ho1)); replace HO364 := Aside0.mk (ro2_ (rs2_ HO364.out BK393.out (.slice Ao242 t386.length co242) (.slice Ao254 t389.length co254)) hb (Kd.R_base ho0) (Kd.R_base ho1)); replace HO367 := Aside0.mk (ro2_ (rs2_ HO367.out BK393.out (.slice Ao242 t386.length co242) (.slice Ao254 t389.length co254)) hb (Kd.R_base ho0) (Kd.R_base ho1)); replace HO372 := Aside0.mk (ro2_ (rs2_ HO372.out BK393.out (.slice Ao242 t386.length co242) (.slice Ao254 t389.length co254)) hb (Kd.R_base ho0) (Kd.R_base ho1)); replace HO375 := Aside0.mk (ro2_ (rs2_ HO375.out BK393.out (.slice Ao242 t386.length co242) (.slice Ao254 t389.length co254)) hb (Kd.R_base ho0) (Kd.R_base ho1)); replace HO380 := Aside0.mk (ro2_ (rs2_ HO380.out BK393.out (.slice Ao242 t386.length co242) (.slice Ao254 t389.length co254)) hb (Kd.R_base ho0) (Kd.R_base ho1)); replace HO383 := Aside0.mk (ro2_ (rs2_ HO383.out BK393.out (.slice Ao242 t386.length co242) (.slice Ao254 t389.length co254)) hb (Kd.R_base ho0) (Kd.R_base ho1)); replace HO388 := Aside0.mk (ro2_ (rs2_ HO388.out BK393.out (.slice Ao242 t386.length co242) (.slice Ao254 t389.length co254)) hb (Kd.R_base ho0) (Kd.R_base ho1)); replace HO391 := Aside0.mk (ro2_ (rs2_ HO391.out BK393.out (.slice Ao242 t386.length co242) (.slice Ao254 t389.length co254)) hb (Kd.R_base ho0) (Kd.R_base ho1)); replace BK303 := Aside0.mk (blk_below (g := gb303) (o := .cells #[.slice Ao12 t291.length co12, .slice Ao15 t294.length co15] 27 (0, 0)) kz_ hb); replace BK304 := Aside0.mk (blk_below (g := gb304) (o := .cells #[.slice Ao16 t297.length co16, .slice Ao18 t300.length co18] 27 (0, 0)) kz_ hb); replace BK313 := Aside0.mk (blk_below (g := gb313) (o := .cells #[.slice Ao21 t305.length co21, .slice Ao25 t308.length co25] 27 (0, 0)) kz_ hb); replace BK321 := Aside0.mk (blk_below (g := gb321) (o := .cells #[.slice Ao30 t314.length co30, .slice Ao35 t317.length co35] 27 (0, 0)) kz_ hb); replace BK329 := Aside0.mk (blk_below (g := gb329) (o := .cells #[.slice Ao40 t322.length co40, .slice Ao46 t325.length co46] 27 (0, 0)) kz_ hb); replace BK338 := Aside0.mk (blk_below (g := gb338) (o := .cells #[.slice Ao70 t331.length co70, .slice Ao77 t334.length co77] 27 (0, 0)) kz_ hb); replace BK346 := Aside0.mk (blk_below (g := gb346) (o := .cells #[.slice Ao81 t339.length co81, .slice Ao89 t342.length co89] 27 (0, 0)) kz_ hb); replace BK369 := Aside0.mk (blk_below (g := gb369) (o := .cells #[.slice Ao191 t362.length co191, .slice Ao200 t365.length co200] 27 (0, 0)) kz_ hb); replace BK377 := Aside0.mk (blk_below (g := gb377) (o := .cells #[.slice Ao208 t370.length co208, .slice Ao218 t373.length co218] 27 (0, 0)) kz_ hb); replace BK385 := Aside0.mk (blk_below (g := gb385) (o := .cells #[.slice Ao226 t378.length co226, .slice Ao237 t381.length co237] 27 (0, 0)) kz_ hb); replace BK393 := Aside0.mk (blk_below (g := gb393) (o := .cells #[.slice Ao242 t386.length co242, .slice Ao254 t389.length co254] 27 (0, 0)) (by (with_reducible repeat (first | refine blk_drewN ?_ _ | refine blk_drew ?_ | refine blk_alloc ?_ _)); refine blk_put (cs := #[.slice Ao242 t386.length co242, .slice none 0 0]) ?_ 1 _ rfl; (with_reducible repeat (first | refine blk_drewN ?_ _ | refine blk_drew ?_ | refine blk_alloc ?_ _)); refine blk_put (cs := #[.slice none 0 0, .slice none 0 0]) ?_ 0 _ rfl; exact kb_ BK393.out) hb); replace HB := Aside0.mk (below_step bl_ hb); clear hb ho0 ho1) | ((with_reducible refine gate_dst (N := 32) rfl ?_); refine box_event rfl (N := 32) rfl (cs := #[.slice none 0 0, .slice none 0 0]) (t := 27) gs_ ?_; intro gb401 hg w257 hbox hb; replace HO_304000 := rb_ HO_304000 hb; replace HO_304001 := qb_ HO_304001 hb; replace HO_305000 := rb_ HO_305000 hb; replace HO_305001 := qb_ HO_305001 hb; replace HO_314000 := rb_ HO_314000 hb; replace HO_314001 := qb_ HO_314001 hb; replace HO_322000 := rb_ HO_322000 hb; replace HO_322001 := qb_ HO_322001 hb; replace HO_330000 := rb_ HO_330000 hb; replace HO_330001 := qb_ HO_330001 hb; replace HO_339000 := rb_ HO_339000 hb; replace HO_339001 := qb_ HO_339001 hb; replace HO_347000 := rb_ HO_347000 hb; replace HO_347001 := qb_ HO_347001 hb; replace HO364 := rb_ HO364 hb; replace HO367 := rb_ HO367 hb; replace HO372 := rb_ HO372 hb; replace HO375 := rb_ HO375 hb; replace HO380 := rb_ HO380 hb; replace HO383 := rb_ HO383 hb; replace HO388 := rb_ HO388 hb; replace HO391 := rb_ HO391 hb; replace HO396 := rb_ HO396 hb; replace HO399 := rb_ HO399 hb; have BK401 := Aside0.mk (hbox); have GW401 := Aside0.mk ((by rw [hg]; exact bz_ : w.heap.size ≤ gb401)); have GE401 := GW401; replace HB := Aside0.mk (below_step bl_ hb); have NB303_401 := nl_ hg BK303; have NB401_303 := nm_ hg BK303; replace BK303 := bb_ BK303 hb; have NB304_401 := nl_ hg BK304; have NB401_304 := nm_ hg BK304; replace BK304 := bb_ BK304 hb; have NB313_401 := nl_ hg BK313; have NB401_313 := nm_ hg BK313; replace BK313 := bb_ BK313 hb; have NB321_401 := nl_ hg BK321; have NB401_321 := nm_ hg BK321; replace BK321 := bb_ BK321 hb; have NB329_401 := nl_ hg BK329; have NB401_329 := nm_ hg BK329; replace BK329 := bb_ BK329 hb; have NB338_401 := nl_ hg BK338; have NB401_338 := nm_ hg BK338; replace BK338 := bb_ BK338 hb; have NB346_401 := nl_ hg BK346; have NB401_346 := nm_ hg BK346; replace BK346 := bb_ BK346 hb; have NB369_401 := nl_ hg BK369; have NB401_369 := nm_ hg BK369; replace BK369 := bb_ BK369 hb; have NB377_401 := nl_ hg BK377; have NB401_377 := nm_ hg BK377; replace BK377 := bb_ BK377 hb; have NB385_401 := nl_ hg BK385; have NB401_385 := nm_ hg BK385; replace BK385 := bb_ BK385 hb; have NB393_401 := nl_ hg BK393; have NB401_393 := nm_ hg BK393; replace BK393 := bb_ BK393 hb; clear hb hbox hg; obtain ⟨Ao258, co258, eo258⟩ := Kd.R_slice HO396.out; subst eo258; have hnb259 := NB401_303.out; have hnc259 := NB303_401.out; have hnb260 := NB401_304.out; have hnc260 := NB304_401.out; have hnb261 := NB401_313.out; have hnc261 := NB313_401.out; have hnb262 := NB401_321.out; have hnc262 := NB321_401.out; have hnb263 := NB401_329.out; have hnc263 := NB329_401.out; have hnb264 := NB401_338.out; have hnc264 := NB338_401.out; have hnb265 := NB401_346.out; have hnc265 := NB346_401.out; have hnb266 := NB401_369.out; have hnc266 := NB369_401.out; have hnb267 := NB401_377.out; have hnc267 := NB377_401.out; have hnb268 := NB401_385.out; have hnc268 := NB385_401.out; have hnb269 := NB401_393.out; have hnc269 := NB393_401.out; have hcz270_0 : w257.cell? ⟨gb401, 0, none⟩ = some (.slice none 0 0) := bc_ BK401.out 0; have hcz270_1 : w257.cell? ⟨gb401, 1, none⟩ = some (.slice none 0 0) := bc_ BK401.out 1; have hfz270_0 := blk_frozen BK401.out 0; have hfz270_1 := blk_frozen BK401.out 1; obtain ⟨Ao271, co271, eo271⟩ := Kd.R_slice HO399.out; subst eo271; have hcz272_0 : w257.cell? ⟨gb369, 0, none⟩ = some (.slice Ao191 t362.length co191) := bc_ BK369.out 0; have hcz272_1 : w257.cell? ⟨gb369, 1, none⟩ = some (.slice Ao200 t365.length co200) := bc_ BK369.out 1; have hfz272_0 := blk_frozen BK369.out 0; have hfz272_1 := blk_frozen BK369.out 1; have hcz273_0 : w257.cell? ⟨gb321, 0, none⟩ = some (.slice Ao30 t314.length co30) := bc_ BK321.out 0; have hcz273_1 : w257.cell? ⟨gb321, 1, none⟩ = some (.slice Ao35 t317.length co35) := bc_ BK321.out 1; have hfz273_0 := blk_frozen BK321.out 0; have hfz273_1 := blk_frozen BK321.out 1) | (go_at_call 31; (with_reducible refine (laws_sameCounters.calls kj148 _ _ t362 _ _ t365 _ _ t314 _ _ t317 true _ ?side1 ?side2 ?side3 ?side4 ?side5 ?side6 ?side7 ?side8 A171.out).mono ?_); (case side1 => exact (Kd.R_reads' (kr_ (rs2_ HO364.out BK401.out (.slice Ao258 t394.length co258) (.slice Ao271 t397.length co271)))).2.2); (case side2 => exact (Kd.R_reads' HO364.out).2.1); (case side3 => exact (Kd.R_reads' (kr_ (rs2_ HO367.out BK401.out (.slice Ao258 t394.length co258) (.slice Ao271 t397.length co271)))).2.2); (case side4 => exact (Kd.R_reads' HO367.out).2.1); (case side5 => exact (Kd.R_reads' (kr_ (rs2_ HO_322000.out BK401.out (.slice Ao258 t394.length co258) (.slice Ao271 t397.length co271)))).2.2); (case side6 => exact (Kd.R_reads' HO_322000.out).2.1); (case side7 => exact (Kd.Q_reads' (kq_ (qs2_ HO_322001.out BK401.out (.slice Ao258 t394.length co258) (.slice Ao271 t397.length co271)))).2.2); (case side8 => exact (Kd.Q_reads' HO_322001.out).2.1); rintro e w274 ⟨rfl, hb⟩; replace HO_304000 := Aside0.mk (Kd.R_below (kr_ (rs2_ HO_304000.out BK401.out (.slice Ao258 t394.length co258) (.slice Ao271 t397.length co271))) hb); replace HO_304001 := Aside0.mk (Kd.Q_below (kq_ (qs2_ HO_304001.out BK401.out (.slice Ao258 t394.length co258) (.slice Ao271 t397.length co271))) hb); replace HO_305000 := Aside0.mk (Kd.R_below (kr_ (rs2_ HO_305000.out BK401.out (.slice Ao258 t394.length co258) (.slice Ao271 t397.length co271))) hb); replace HO_305001 := Aside0.mk (Kd.Q_below (kq_ (qs2_ HO_305001.out BK401.out (.slice Ao258 t394.length co258) (.slice Ao271 t397.length co271))) hb); replace HO_314000 := Aside0.mk (Kd.R_below (kr_ (rs2_ HO_314000.out BK401.out (.slice Ao258 t394.length co258) (.slice Ao271 t397.length co271))) hb); replace HO_314001 := Aside0.mk (Kd.Q_below (kq_ (qs2_ HO_314001.out BK401.out (.slice Ao258 t394.length co258) (.slice Ao271 t397.length co271))) hb); replace HO_322000 := Aside0.mk (Kd.R_below (kr_ (rs2_ HO_322000.out BK401.out (.slice Ao258 t394.length co258) (.slice Ao271 t397.length co271))) hb); replace HO_322001 := Aside0.mk (Kd.Q_below (kq_ (qs2_ HO_322001.out BK401.out (.slice Ao258 t394.length co258) (.slice Ao271 t397.length co271))) hb); replace HO_330000 := Aside0.mk (Kd.R_below (kr_ (rs2_ HO_330000.out BK401.out (.slice Ao258 t394.length co258) (.slice Ao271 t397.length co271))) hb); replace HO_330001 := Aside0.mk (Kd.Q_below (kq_ (qs2_ HO_330001.out BK401.out (.slice Ao258 t394.length co258) (.slice Ao271 t397.length co271))) hb); replace HO_339000 := Aside0.mk (Kd.R_below (kr_ (rs2_ HO_339000.out BK401.out (.slice Ao258 t394.length co258) (.slice Ao271 t397.length co271))) hb); replace HO_339001 := Aside0.mk (Kd.Q_below (kq_ (qs2_ HO_339001.out BK401.out (.slice Ao258 t394.length co258) (.slice Ao271 t397.length co271))) hb); replace HO_347000 := Aside0.mk (Kd.R_below (kr_ (rs2_ HO_347000.out BK401.out (.slice Ao258 t394.length co258) (.slice Ao271 t397.length co271))) hb); replace HO_347001 := Aside0.mk (Kd.Q_below (kq_ (qs2_ HO_347001.out BK401.out (.slice Ao258 t394.length co258) (.slice Ao271 t397.length co271))) hb); replace HO364 := Aside0.mk (Kd.R_below (kr_ (rs2_ HO364.out BK401.out (.slice Ao258 t394.length co258) (.slice Ao271 t397.length co271))) hb); replace HO367 := Aside0.mk (Kd.R_below (kr_ (rs2_ HO367.out BK401.out (.slice Ao258 t394.length co258) (.slice Ao271 t397.length co271))) hb); replace HO372 := Aside0.mk (Kd.R_below (kr_ (rs2_ HO372.out BK401.out (.slice Ao258 t394.length co258) (.slice Ao271 t397.length co271))) hb); replace HO375 := Aside0.mk (Kd.R_below (kr_ (rs2_ HO375.out BK401.out (.slice Ao258 t394.length co258) (.slice Ao271 t397.length co271))) hb); replace HO380 := Aside0.mk (Kd.R_below (kr_ (rs2_ HO380.out BK401.out (.slice Ao258 t394.length co258) (.slice Ao271 t397.length co271))) hb); replace HO383 := Aside0.mk (Kd.R_below (kr_ (rs2_ HO383.out BK401.out (.slice Ao258 t394.length co258) (.slice Ao271 t397.length co271))) hb); replace HO388 := Aside0.mk (Kd.R_below (kr_ (rs2_ HO388.out BK401.out (.slice Ao258 t394.length co258) (.slice Ao271 t397.length co271))) hb); replace HO391 := Aside0.mk (Kd.R_below (kr_ (rs2_ HO391.out BK401.out (.slice Ao258 t394.length co258) (.slice Ao271 t397.length co271))) hb); replace HO396 := Aside0.mk (Kd.R_below (kr_ (rs2_ HO396.out BK401.out (.slice Ao258 t394.length co258) (.slice Ao271 t397.length co271))) hb); replace HO399 := Aside0.mk (Kd.R_below (kr_ (rs2_ HO399.out BK401.out (.slice Ao258 t394.length co258) (.slice Ao271 t397.length co271))) hb); replace BK303 := Aside0.mk (blk_below (g := gb303) (o := .cells #[.slice Ao12 t291.length co12, .slice Ao15 t294.length co15] 27 (0, 0)) kz_ hb); replace BK304 := Aside0.mk (blk_below (g := gb304) (o := .cells #[.slice Ao16 t297.length co16, .slice Ao18 t300.length co18] 27 (0, 0)) kz_ hb); replace BK313 := Aside0.mk (blk_below (g := gb313) (o := .cells #[.slice Ao21 t305.length co21, .slice Ao25 t308.length co25] 27 (0, 0)) kz_ hb); replace BK321 := Aside0.mk (blk_below (g := gb321) (o := .cells #[.slice Ao30 t314.length co30, .slice Ao35 t317.length co35] 27 (0, 0)) kz_ hb); replace BK329 := Aside0.mk (blk_below (g := gb329) (o := .cells #[.slice Ao40 t322.length co40, .slice Ao46 t325.length co46] 27 (0, 0)) kz_ hb); replace BK338 := Aside0.mk (blk_below (g := gb338) (o := .cells #[.slice Ao70 t331.length co70, .slice Ao77 t334.length co77] 27 (0, 0)) kz_ hb); replace BK346 := Aside0.mk (blk_below (g := gb346) (o := .cells #[.slice Ao81 t339.length co81, .slice Ao89 t342.length co89] 27 (0, 0)) kz_ hb); replace BK369 := Aside0.mk (blk_below (g := gb369) (o := .cells #[.slice Ao191 t362.length co191, .slice Ao200 t365.length co200] 27 (0, 0)) kz_ hb); replace BK377 := Aside0.mk (blk_below (g := gb377) (o := .cells #[.slice Ao208 t370.length co208, .slice Ao218 t373.length co218] 27 (0, 0)) kz_ hb); replace BK385 := Aside0.mk (blk_below (g := gb385) (o := .cells #[.slice Ao226 t378.length co226, .slice Ao237 t381.length co237] 27 (0, 0)) kz_ hb); replace BK393 := Aside0.mk (blk_below (g := gb393) (o := .cells #[.slice Ao242 t386.length co242, .slice Ao254 t389.length co254] 27 (0, 0)) kz_ hb); replace BK401 := Aside0.mk (blk_below (g := gb401) (o := .cells #[.slice Ao258 t394.length co258, .slice Ao271 t397.length co271] 27 (0, 0)) (by (with_reducible repeat (first | refine blk_drewN ?_ _ | refine blk_drew ?_ | refine blk_alloc ?_ _)); refine blk_put (cs := #[.slice Ao258 t394.length co258, .slice none 0 0]) ?_ 1 _ rfl; (with_reducible repeat (first | refine blk_drewN ?_ _ | refine blk_drew ?_ | refine blk_alloc ?_ _)); refine blk_put (cs := #[.slice none 0 0, .slice none 0 0]) ?_ 0 _ rfl; exact kb_ BK401.out) hb); replace HB := Aside0.mk (below_step bl_ hb); clear hb; have hcz275_0 : w274.cell? ⟨gb377, 0, none⟩ = some (.slice Ao208 t370.length co208) := bc_ BK377.out 0; have hcz275_1 : w274.cell? ⟨gb377, 1, none⟩ = some (.slice Ao218 t373.length co218) := bc_ BK377.out 1; have hfz275_0 := blk_frozen BK377.out 0; have hfz275_1 := blk_frozen BK377.out 1; have hcz276_0 : w274.cell? ⟨gb321, 0, none⟩ = some (.slice Ao30 t314.length co30) := bc_ BK321.out 0; have hcz276_1 : w274.cell? ⟨gb321, 1, none⟩ = some (.slice Ao35 t317.length co35) := bc_ BK321.out 1; have hfz276_0 := blk_frozen BK321.out 0; have hfz276_1 := blk_frozen BK321.out 1) | (go_at_call 31; (with_reducible refine (laws_sameCounters.calls kj148 _ _ t370 _ _ t373 _ _ t314 _ _ t317 true _ ?side1 ?side2 ?side3 ?side4 ?side5 ?side6 ?side7 ?side8 A173.out).mono ?_); (case side1 => exact kc_ (Kd.R_reads' HO372.out).2.2); (case side2 => exact (Kd.R_reads' HO372.out).2.1); (case side3 => exact kc_ (Kd.R_reads' HO375.out).2.2); (case side4 => exact (Kd.R_reads' HO375.out).2.1); (case side5 => exact kc_ (Kd.R_reads' HO_322000.out).2.2); (case side6 => exact (Kd.R_reads' HO_322000.out).2.1); (case side7 => exact kc_ (Kd.Q_reads' HO_322001.out).2.2); (case side8 => exact (Kd.Q_reads' HO_322001.out).2.1); rintro e w277 ⟨rfl, hb⟩; replace HO_304000 := rb_ HO_304000 hb; replace HO_304001 := qb_ HO_304001 hb; replace HO_305000 := rb_ HO_305000 hb; replace HO_305001 := qb_ HO_305001 hb; replace HO_314000 := rb_ HO_314000 hb; replace HO_314001 := qb_ HO_314001 hb; replace HO_322000 := rb_ HO_322000 hb; replace HO_322001 := qb_ HO_322001 hb; replace HO_330000 := rb_ HO_330000 hb; replace HO_330001 := qb_ HO_330001 hb; replace HO_339000 := rb_ HO_339000 hb; replace HO_339001 := qb_ HO_339001 hb; replace HO_347000 := rb_ HO_347000 hb; replace HO_347001 := qb_ HO_347001 hb; replace HO364 := rb_ HO364 hb; replace HO367 := rb_ HO367 hb; replace HO372 := rb_ HO372 hb; replace HO375 := rb_ HO375 hb; replace HO380 := rb_ HO380 hb; replace HO383 := rb_ HO383 hb; replace HO388 := rb_ HO388 hb; replace HO391 := rb_ HO391 hb; replace HO396 := rb_ HO396 hb; replace HO399 := rb_ HO399 hb; replace BK303 := bb_ BK303 hb; replace BK304 := bb_ BK304 hb; replace BK313 := bb_ BK313 hb; replace BK321 := bb_ BK321 hb; replace BK329 := bb_ BK329 hb; replace BK338 := bb_ BK338 hb; replace BK346 := bb_ BK346 hb; replace BK369 := bb_ BK369 hb; replace BK377 := bb_ BK377 hb; replace BK385 := bb_ BK385 hb; replace BK393 := bb_ BK393 hb; replace BK401 := bb_ BK401 hb; replace HB := Aside0.mk (below_step bl_ hb); clear hb; have hcz278_0 : w277.cell? ⟨gb385, 0, none⟩ = some (.slice Ao226 t378.length co226) := bc_ BK385.out 0; have hcz278_1 : w277.cell? ⟨gb385, 1, none⟩ = some (.slice Ao237 t381.length co237) := bc_ BK385.out 1; have hfz278_0 := blk_frozen BK385.out 0; have hfz278_1 := blk_frozen BK385.out 1; have hcz279_0 : w277.cell? ⟨gb401, 0, none⟩ = some (.slice Ao258 t394.length co258) := bc_ BK401.out 0; have hcz279_1 : w277.cell? ⟨gb401, 1, none⟩ = some (.slice Ao271 t397.length co271) := bc_ BK401.out 1; have hfz279_0 := blk_frozen BK401.out 0; have hfz279_1 := blk_frozen BK401.out 1) | (go_at_call 31; (with_reducible refine (laws_sameCounters.calls kj148 _ _ t378 _ _ t381 _ _ t394 _ _ t397 t404 _ ?side1 ?side2 ?side3 ?side4 ?side5 ?side6 ?side7 ?side8 A175.out).mono ?_); (case side1 => exact kc_ (Kd.R_reads' HO380.out).2.2); (case side2 => exact (Kd.R_reads' HO380.out).2.1); (case side3 => exact kc_ (Kd.R_reads' HO383.out).2.2); (case side4 => exact (Kd.R_reads' HO383.out).2.1); (case side5 => exact kc_ (Kd.R_reads' HO396.out).2.2); (case side6 => exact (Kd.R_reads' HO396.out).2.1); (case side7 => exact kc_ (Kd.R_reads' HO399.out).2.2); (case side8 => exact (Kd.R_reads' HO399.out).2.1); rintro e w280 ⟨rfl, hb⟩; replace HO_304000 := rb_ HO_304000 hb; replace HO_304001 := qb_ HO_304001 hb; replace HO_305000 := rb_ HO_305000 hb; replace HO_305001 := qb_ HO_305001 hb; replace HO_314000 := rb_ HO_314000 hb; replace HO_314001 := qb_ HO_314001 hb; replace HO_322000 := rb_ HO_322000 hb; replace HO_322001 := qb_ HO_322001 hb; replace HO_330000 := rb_ HO_330000 hb; replace HO_330001 := qb_ HO_330001 hb; replace HO_339000 := rb_ HO_339000 hb; replace HO_339001 := qb_ HO_339001 hb; replace HO_347000 := rb_ HO_347000 hb; replace HO_347001 := qb_ HO_347001 hb; replace HO364 := rb_ HO364 hb; replace HO367 := rb_ HO367 hb; replace HO372 := rb_ HO372 hb; replace HO375 := rb_ HO375 hb; replace HO380 := rb_ HO380 hb; replace HO383 := rb_ HO383 hb; replace HO388 := rb_ HO388 hb; replace HO391 := rb_ HO391 hb; replace HO396 := rb_ HO396 hb; replace HO399 := rb_ HO399 hb; replace BK303 := bb_ BK303 hb; replace BK304 := bb_ BK304 hb; replace BK313 := bb_ BK313 hb; replace BK321 := bb_ BK321 hb; replace BK329 := bb_ BK329 hb; replace BK338 := bb_ BK338 hb; replace BK346 := bb_ BK346 hb; replace BK369 := bb_ BK369 hb; replace BK377 := bb_ BK377 hb; replace BK385 := bb_ BK385 hb; replace BK393 := bb_ BK393 hb; replace BK401 := bb_ BK401 hb; replace HB := Aside0.mk (below_step bl_ hb); clear hb))
 go_ret
 exact ⟨ng_, bl_⟩

/-- THE ONE PURE STATEMENT of laws_FnCounters: yours. -/
def laws_FnCounters.Pure : Prop := ∀ (l0 : List Int) (l1 : List Int), l0.length ≤ maxLen → l0.length * 1 ≤ 140737488351232 → (∀ x ∈ l0, (Lit.int .u8 x).wf = true) → l1.length ≤ maxLen → l1.length * 1 ≤ 140737488351232 → (∀ x ∈ l1, (Lit.int .u8 x).wf = true) → ∃ k, laws_FnCounters.f k l0 l1 = some true
theorem laws_FnCounters.walk (P : laws_FnCounters.Pure) (a0 : Option Addr) (len0 cap0 : Nat) (z0 : List Int) (a1 : Option Addr) (len1 cap1 : Nat) (z1 : List Int) (w : World) (w0 : (a0 = none ∧ len0 = 0 ∧ cap0 = 0 ∧ z0 = []) ∨ ∃ x, a0 = some x ∧ len0 ≤ cap0 ∧ cap0 ≤ maxLen ∧ z0.length = cap0 ∧ (∀ i, i < z0.length → w.cell? (x.add i) = some (.int .u8 (z0.getD i 0))) ∧ ∀ n ∈ z0, (Lit.int .u8 n).wf = true) (y0 : len0 * 1 ≤ 140737488351232) (w1 : (a1 = none ∧ len1 = 0 ∧ cap1 = 0 ∧ z1 = []) ∨ ∃ x, a1 = some x ∧ len1 ≤ cap1 ∧ cap1 ≤ maxLen ∧ z1.length = cap1 ∧ (∀ i, i < z1.length → w.cell? (x.add i) = some (.int .u8 (z1.getD i 0))) ∧ ∀ n ∈ z1, (Lit.int .u8 n).wf = true) (y1 : len1 * 1 ≤ 140737488351232) :
  Calls Try.prog 9 #[.slice a0 len0 cap0, .slice a1 len1 cap1] w fun e w' => e = .returned (.bool true) ∧ Below w.heap.size w w' := by
 obtain ⟨l0, rfl, hr0, hm0, hw0, hc0⟩ := ReadsInt.ofRowC w0
 obtain ⟨l1, rfl, hr1, hm1, hw1, hc1⟩ := ReadsInt.ofRowC w1
 obtain ⟨k, h⟩ := P l0 l1 hm0 y0 hw0 hm1 y1 hw1
 refine (laws_FnCounters.calls k _ _ l0 _ _ l1 true w (Kd.C_of_reads (d := (0 : Int)) (h1 := fun _ => rfl) hr0) hc0 (Kd.C_of_reads (d := (0 : Int)) (h1 := fun _ => rfl) hr1) hc1 h).mono ?_
 rintro e w' ⟨rfl, hd⟩
 exact ⟨rfl, hd⟩

end Go.Proofs.Ytcloilddgimamaa.PFC
