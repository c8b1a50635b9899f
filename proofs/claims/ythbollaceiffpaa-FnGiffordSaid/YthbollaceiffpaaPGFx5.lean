/- What this text proves: the machine calls of these functions return what the plain functions say. Conditions: as each theorem says. Printed by a program of this session out of the translation. -/
import Derived.Test.YthbollaceiffpaaPGFx0
import Derived.Test.YthbollaceiffpaaPGFx1
import Derived.Test.YthbollaceiffpaaPGFx2
import Derived.Test.YthbollaceiffpaaPGFx3
import Derived.Test.YthbollaceiffpaaPGFx4
namespace Go.Proofs.Ythbollaceiffpaa.PGF
open Go.RowKit Go.Proofs.YthbollaceiffpaaW.PrintWords Go.Proofs.YthbollaceiffpaaW.PrintLast Go.Proofs.YthbollaceiffpaaW.PrintMore
attribute [local go_sem] max2_int min2_int max_two min_two max_three min_three max_four min_four   -- for this text's walks alone
set_option linter.unusedVariables false
set_option linter.unusedSimpArgs false

/-! ### laws_FnGifford: function 9 -/
mutual
def laws_FnGifford.j0 : Nat → List Int → List Int → Int → Bool → Bool → Bool → List Int → Option (Bool)
 | 0, _, _, _, _, _, _, _ => none
 | k + 1, x1, x5, x6, x8, x9, x59, x262000 => if x59 = true then (none) else (if x9 = true then ((spec_DrawIsWrite.f k x1).bind fun bt266 => (laws_FnGifford.l0 k x5 x6 x8 bt266.2.1 x262000 bt266.2.2)) else (some (!x8)))
def laws_FnGifford.j2 : Nat → List Int → Int → Bool → Int → List Int → List Int → Option (Bool)
 | 0, _, _, _, _, _, _ => none
 | k + 1, x5, x6, x8, x13, x262000, x274000 => (impl_IsWrite.f k x5 x13 x274000).bind fun bt278 => ((spec_IsWrite.f k x5 x13 x274000).bind fun bt280 => (if (bt278.2 != bt280.2) = true then (none) else (laws_FnGifford.j3 k x5 x6 x8 x13 bt278.1 bt278.2 (bt278.1 != bt280.1) x262000 x274000)))
def laws_FnGifford.j3 : Nat → List Int → Int → Bool → Int → Bool → Bool → Bool → List Int → List Int → Option (Bool)
 | 0, _, _, _, _, _, _, _, _, _ => none
 | k + 1, x5, x6, x8, x13, x15, x16, x116, x262000, x274000 => if x116 = true then (none) else ((impl_WeightOf.f k x5 x262000).bind fun bt282 => (if bt282.2 = true then (laws_FnGifford.j4 k x5 x6 x8 x13 x15 x16 (x8 != (decide (bt282.1 ≥ x6))) x262000 x274000) else (none)))
def laws_FnGifford.j4 : Nat → List Int → Int → Bool → Int → Bool → Bool → Bool → List Int → List Int → Option (Bool)
 | 0, _, _, _, _, _, _, _, _, _ => none
 | k + 1, x5, x6, x8, x13, x15, x16, x131, x262000, x274000 => if x131 = true then (none) else (laws_FnGifford.l1 k x5 x6 x8 x13 x15 x16 0 x5 (x5.length : Int) 0 x262000 x274000)
def laws_FnGifford.l1 : Nat → List Int → Int → Bool → Int → Bool → Bool → Int → List Int → Int → Int → List Int → List Int → Option (Bool)
 | 0, _, _, _, _, _, _, _, _, _, _, _, _ => none
 | k + 1, x5, x6, x8, x13, x15, x16, x21, x132, x133, x134, x262000, x274000 => if x134 < x133 then (if 0 ≤ x134 then (if x134 < (x132.length : Int) then (laws_FnGifford.l1 k x5 x6 x8 x13 x15 x16 (wrap64 (x21 + (rd x132 x134))) x132 x133 (wrap64 (x134 + 1)) x262000 x274000) else (none)) else (none)) else (if x16 = true then (if x8 = true then (if x15 = true then (if (wrap64 (x6 + x13)) ≤ x21 then (some true) else ((impl_MeetOf.f k x262000 x274000 (x5.length : Int)).bind fun bt285 => (if bt285.2 = true then (some (decide ((bt285.1.length : Int) > 0))) else (none)))) else (some true)) else (some true)) else (some true))
def laws_FnGifford.l0 : Nat → List Int → Int → Bool → Int → List Int → List Int → Option (Bool)
 | 0, _, _, _, _, _, _ => none
 | k + 1, x5, x6, x8, x13, x262000, x274000 => if (x274000.length : Int) > 0 then (if 0 ≤ (wrap64 ((x274000.length : Int) - 1)) then (if (wrap64 ((x274000.length : Int) - 1)) < (x274000.length : Int) then (if (rd x274000 (wrap64 ((x274000.length : Int) - 1))) ≥ (x5.length : Int) then (if (wrap64 ((x274000.length : Int) - 1)) ≤ (x274000.length : Int) then (laws_FnGifford.l0 k x5 x6 x8 x13 x262000 (x274000.take ((wrap64 ((x274000.length : Int) - 1)) : Int).toNat)) else (none)) else (laws_FnGifford.j2 k x5 x6 x8 x13 x262000 x274000)) else (none)) else (none)) else (laws_FnGifford.j2 k x5 x6 x8 x13 x262000 x274000)
end
def laws_FnGifford.f (k : Nat) (l0 : List Int) (l1 : List Int) : Option (Bool) := if (wrap64 ((l0.length : Int) + (l1.length : Int))) > 1048576 then (some true) else ((spec_DrawIsRead.f k l0).bind fun bt254 => ((impl_IsRead.f k bt254.1 bt254.2.1 bt254.2.2).bind fun bt262 => ((spec_IsRead.f k bt254.1 bt254.2.1 bt254.2.2).bind fun bt264 => (if (bt262.2 != bt264.2) = true then (none) else (laws_FnGifford.j0 k l1 bt254.1 bt254.2.1 bt262.1 bt262.2 (bt262.1 != bt264.1) bt254.2.2)))))
theorem laws_FnGifford.mono_l : ∀ k, (∀ y0 y1 y2 y3 y4 y5 y6, LeO (laws_FnGifford.j0 k y0 y1 y2 y3 y4 y5 y6) (laws_FnGifford.j0 (k + 1) y0 y1 y2 y3 y4 y5 y6)) ∧ (∀ y0 y1 y2 y3 y4 y5, LeO (laws_FnGifford.j2 k y0 y1 y2 y3 y4 y5) (laws_FnGifford.j2 (k + 1) y0 y1 y2 y3 y4 y5)) ∧ (∀ y0 y1 y2 y3 y4 y5 y6 y7 y8, LeO (laws_FnGifford.j3 k y0 y1 y2 y3 y4 y5 y6 y7 y8) (laws_FnGifford.j3 (k + 1) y0 y1 y2 y3 y4 y5 y6 y7 y8)) ∧ (∀ y0 y1 y2 y3 y4 y5 y6 y7 y8, LeO (laws_FnGifford.j4 k y0 y1 y2 y3 y4 y5 y6 y7 y8) (laws_FnGifford.j4 (k + 1) y0 y1 y2 y3 y4 y5 y6 y7 y8)) ∧ (∀ y0 y1 y2 y3 y4 y5 y6 y7 y8 y9 y10 y11, LeO (laws_FnGifford.l1 k y0 y1 y2 y3 y4 y5 y6 y7 y8 y9 y10 y11) (laws_FnGifford.l1 (k + 1) y0 y1 y2 y3 y4 y5 y6 y7 y8 y9 y10 y11)) ∧ (∀ y0 y1 y2 y3 y4 y5, LeO (laws_FnGifford.l0 k y0 y1 y2 y3 y4 y5) (laws_FnGifford.l0 (k + 1) y0 y1 y2 y3 y4 y5))
 | 0 => ⟨fun _ _ _ _ _ _ _ r h => by simp [laws_FnGifford.j0] at h, fun _ _ _ _ _ _ r h => by simp [laws_FnGifford.j2] at h, fun _ _ _ _ _ _ _ _ _ r h => by simp [laws_FnGifford.j3] at h, fun _ _ _ _ _ _ _ _ _ r h => by simp [laws_FnGifford.j4] at h, fun _ _ _ _ _ _ _ _ _ _ _ _ r h => by simp [laws_FnGifford.l1] at h, fun _ _ _ _ _ _ r h => by simp [laws_FnGifford.l0] at h⟩
 | k + 1 => by
  obtain ⟨ih0, ih1, ih2, ih3, ih4, ih5⟩ := laws_FnGifford.mono_l k
  refine ⟨?_, ?_, ?_, ?_, ?_, ?_⟩
  ·intro y0 y1 y2 y3 y4 y5 y6
   unfold laws_FnGifford.j0
   repeat' first
   | (with_reducible exact ih0 _ _ _ _ _ _ _)
   | (with_reducible exact ih1 _ _ _ _ _ _)
   | (with_reducible exact ih2 _ _ _ _ _ _ _ _ _)
   | (with_reducible exact ih3 _ _ _ _ _ _ _ _ _)
   | (with_reducible exact ih4 _ _ _ _ _ _ _ _ _ _ _ _)
   | (with_reducible exact ih5 _ _ _ _ _ _)
   | (with_reducible exact impl_IsRead.mono _ _ _ _)
   | (with_reducible exact impl_IsWrite.mono _ _ _ _)
   | (with_reducible exact impl_MeetOf.mono _ _ _ _)
   | (with_reducible exact impl_WeightOf.mono _ _ _)
   | (with_reducible exact spec_DrawIsRead.mono _ _)
   | (with_reducible exact spec_DrawIsWrite.mono _ _)
   | (with_reducible exact spec_IsRead.mono _ _ _ _)
   | (with_reducible exact spec_IsWrite.mono _ _ _ _)
   | (with_reducible exact LeO.refl _)
   | (with_reducible exact LeO.none _)
   | (with_reducible refine LeO.ite ?_ ?_)
   | (with_reducible refine LeO.bind ?_ (fun _ => ?_))
   | exact ih0 _ _ _ _ _ _ _
   | exact ih1 _ _ _ _ _ _
   | exact ih2 _ _ _ _ _ _ _ _ _
   | exact ih3 _ _ _ _ _ _ _ _ _
   | exact ih4 _ _ _ _ _ _ _ _ _ _ _ _
   | exact ih5 _ _ _ _ _ _
   | exact impl_IsRead.mono _ _ _ _
   | exact impl_IsWrite.mono _ _ _ _
   | exact impl_MeetOf.mono _ _ _ _
   | exact impl_WeightOf.mono _ _ _
   | exact spec_DrawIsRead.mono _ _
   | exact spec_DrawIsWrite.mono _ _
   | exact spec_IsRead.mono _ _ _ _
   | exact spec_IsWrite.mono _ _ _ _
   | exact LeO.none _
   | refine LeO.ite ?_ ?_
   | refine LeO.bind ?_ (fun _ => ?_)
  ·intro y0 y1 y2 y3 y4 y5
   unfold laws_FnGifford.j2
   repeat' first
   | (with_reducible exact ih0 _ _ _ _ _ _ _)
   | (with_reducible exact ih1 _ _ _ _ _ _)
   | (with_reducible exact ih2 _ _ _ _ _ _ _ _ _)
   | (with_reducible exact ih3 _ _ _ _ _ _ _ _ _)
   | (with_reducible exact ih4 _ _ _ _ _ _ _ _ _ _ _ _)
   | (with_reducible exact ih5 _ _ _ _ _ _)
   | (with_reducible exact impl_IsRead.mono _ _ _ _)
   | (with_reducible exact impl_IsWrite.mono _ _ _ _)
   | (with_reducible exact impl_MeetOf.mono _ _ _ _)
   | (with_reducible exact impl_WeightOf.mono _ _ _)
   | (with_reducible exact spec_DrawIsRead.mono _ _)
   | (with_reducible exact spec_DrawIsWrite.mono _ _)
   | (with_reducible exact spec_IsRead.mono _ _ _ _)
   | (with_reducible exact spec_IsWrite.mono _ _ _ _)
   | (with_reducible exact LeO.refl _)
   | (with_reducible exact LeO.none _)
   | (with_reducible refine LeO.ite ?_ ?_)
   | (with_reducible refine LeO.bind ?_ (fun _ => ?_))
   | exact ih0 _ _ _ _ _ _ _
   | exact ih1 _ _ _ _ _ _
   | exact ih2 _ _ _ _ _ _ _ _ _
   | exact ih3 _ _ _ _ _ _ _ _ _
   | exact ih4 _ _ _ _ _ _ _ _ _ _ _ _
   | exact ih5 _ _ _ _ _ _
   | exact impl_IsRead.mono _ _ _ _
   | exact impl_IsWrite.mono _ _ _ _
   | exact impl_MeetOf.mono _ _ _ _
   | exact impl_WeightOf.mono _ _ _
   | exact spec_DrawIsRead.mono _ _
   | exact spec_DrawIsWrite.mono _ _
   | exact spec_IsRead.mono _ _ _ _
   | exact spec_IsWrite.mono _ _ _ _
   | exact LeO.none _
   | refine LeO.ite ?_ ?_
   | refine LeO.bind ?_ (fun _ => ?_)
  ·intro y0 y1 y2 y3 y4 y5 y6 y7 y8
   unfold laws_FnGifford.j3
   repeat' first
   | (with_reducible exact ih0 _ _ _ _ _ _ _)
   | (with_reducible exact ih1 _ _ _ _ _ _)
   | (with_reducible exact ih2 _ _ _ _ _ _ _ _ _)
   | (with_reducible exact ih3 _ _ _ _ _ _ _ _ _)
   | (with_reducible exact ih4 _ _ _ _ _ _ _ _ _ _ _ _)
   | (with_reducible exact ih5 _ _ _ _ _ _)
   | (with_reducible exact impl_IsRead.mono _ _ _ _)
   | (with_reducible exact impl_IsWrite.mono _ _ _ _)
   | (with_reducible exact impl_MeetOf.mono _ _ _ _)
   | (with_reducible exact impl_WeightOf.mono _ _ _)
   | (with_reducible exact spec_DrawIsRead.mono _ _)
   | (with_reducible exact spec_DrawIsWrite.mono _ _)
   | (with_reducible exact spec_IsRead.mono _ _ _ _)
   | (with_reducible exact spec_IsWrite.mono _ _ _ _)
   | (with_reducible exact LeO.refl _)
   | (with_reducible exact LeO.none _)
   | (with_reducible refine LeO.ite ?_ ?_)
   | (with_reducible refine LeO.bind ?_ (fun _ => ?_))
   | exact ih0 _ _ _ _ _ _ _
   | exact ih1 _ _ _ _ _ _
   | exact ih2 _ _ _ _ _ _ _ _ _
   | exact ih3 _ _ _ _ _ _ _ _ _
   | exact ih4 _ _ _ _ _ _ _ _ _ _ _ _
   | exact ih5 _ _ _ _ _ _
   | exact impl_IsRead.mono _ _ _ _
   | exact impl_IsWrite.mono _ _ _ _
   | exact impl_MeetOf.mono _ _ _ _
   | exact impl_WeightOf.mono _ _ _
   | exact spec_DrawIsRead.mono _ _
   | exact spec_DrawIsWrite.mono _ _
   | exact spec_IsRead.mono _ _ _ _
   | exact spec_IsWrite.mono _ _ _ _
   | exact LeO.none _
   | refine LeO.ite ?_ ?_
   | refine LeO.bind ?_ (fun _ => ?_)
  ·intro y0 y1 y2 y3 y4 y5 y6 y7 y8
   unfold laws_FnGifford.j4
   repeat' first
   | (with_reducible exact ih0 _ _ _ _ _ _ _)
   | (with_reducible exact ih1 _ _ _ _ _ _)
   | (with_reducible exact ih2 _ _ _ _ _ _ _ _ _)
   | (with_reducible exact ih3 _ _ _ _ _ _ _ _ _)
   | (with_reducible exact ih4 _ _ _ _ _ _ _ _ _ _ _ _)
   | (with_reducible exact ih5 _ _ _ _ _ _)
   | (with_reducible exact impl_IsRead.mono _ _ _ _)
   | (with_reducible exact impl_IsWrite.mono _ _ _ _)
   | (with_reducible exact impl_MeetOf.mono _ _ _ _)
   | (with_reducible exact impl_WeightOf.mono _ _ _)
   | (with_reducible exact spec_DrawIsRead.mono _ _)
   | (with_reducible exact spec_DrawIsWrite.mono _ _)
   | (with_reducible exact spec_IsRead.mono _ _ _ _)
   | (with_reducible exact spec_IsWrite.mono _ _ _ _)
   | (with_reducible exact LeO.refl _)
   | (with_reducible exact LeO.none _)
   | (with_reducible refine LeO.ite ?_ ?_)
   | (with_reducible refine LeO.bind ?_ (fun _ => ?_))
   | exact ih0 _ _ _ _ _ _ _
   | exact ih1 _ _ _ _ _ _
   | exact ih2 _ _ _ _ _ _ _ _ _
   | exact ih3 _ _ _ _ _ _ _ _ _
   | exact ih4 _ _ _ _ _ _ _ _ _ _ _ _
   | exact ih5 _ _ _ _ _ _
   | exact impl_IsRead.mono _ _ _ _
   | exact impl_IsWrite.mono _ _ _ _
   | exact impl_MeetOf.mono _ _ _ _
   | exact impl_WeightOf.mono _ _ _
   | exact spec_DrawIsRead.mono _ _
   | exact spec_DrawIsWrite.mono _ _
   | exact spec_IsRead.mono _ _ _ _
   | exact spec_IsWrite.mono _ _ _ _
   | exact LeO.none _
   | refine LeO.ite ?_ ?_
   | refine LeO.bind ?_ (fun _ => ?_)
  ·intro y0 y1 y2 y3 y4 y5 y6 y7 y8 y9 y10 y11
   unfold laws_FnGifford.l1
   repeat' first
   | (with_reducible exact ih0 _ _ _ _ _ _ _)
   | (with_reducible exact ih1 _ _ _ _ _ _)
   | (with_reducible exact ih2 _ _ _ _ _ _ _ _ _)
   | (with_reducible exact ih3 _ _ _ _ _ _ _ _ _)
   | (with_reducible exact ih4 _ _ _ _ _ _ _ _ _ _ _ _)
   | (with_reducible exact ih5 _ _ _ _ _ _)
   | (with_reducible exact impl_IsRead.mono _ _ _ _)
   | (with_reducible exact impl_IsWrite.mono _ _ _ _)
   | (with_reducible exact impl_MeetOf.mono _ _ _ _)
   | (with_reducible exact impl_WeightOf.mono _ _ _)
   | (with_reducible exact spec_DrawIsRead.mono _ _)
   | (with_reducible exact spec_DrawIsWrite.mono _ _)
   | (with_reducible exact spec_IsRead.mono _ _ _ _)
   | (with_reducible exact spec_IsWrite.mono _ _ _ _)
   | (with_reducible exact LeO.refl _)
   | (with_reducible exact LeO.none _)
   | (with_reducible refine LeO.ite ?_ ?_)
   | (with_reducible refine LeO.bind ?_ (fun _ => ?_))
   | exact ih0 _ _ _ _ _ _ _
   | exact ih1 _ _ _ _ _ _
   | exact ih2 _ _ _ _ _ _ _ _ _
   | exact ih3 _ _ _ _ _ _ _ _ _
   | exact ih4 _ _ _ _ _ _ _ _ _ _ _ _
   | exact ih5 _ _ _ _ _ _
   | exact impl_IsRead.mono _ _ _ _
   | exact impl_IsWrite.mono _ _ _ _
   | exact impl_MeetOf.mono _ _ _ _
   | exact impl_WeightOf.mono _ _ _
   | exact spec_DrawIsRead.mono _ _
   | exact spec_DrawIsWrite.mono _ _
   | exact spec_IsRead.mono _ _ _ _
   | exact spec_IsWrite.mono _ _ _ _
   | exact LeO.none _
   | refine LeO.ite ?_ ?_
   | refine LeO.bind ?_ (fun _ => ?_)
  ·intro y0 y1 y2 y3 y4 y5
   unfold laws_FnGifford.l0
   repeat' first
   | (with_reducible exact ih0 _ _ _ _ _ _ _)
   | (with_reducible exact ih1 _ _ _ _ _ _)
   | (with_reducible exact ih2 _ _ _ _ _ _ _ _ _)
   | (with_reducible exact ih3 _ _ _ _ _ _ _ _ _)
   | (with_reducible exact ih4 _ _ _ _ _ _ _ _ _ _ _ _)
   | (with_reducible exact ih5 _ _ _ _ _ _)
   | (with_reducible exact impl_IsRead.mono _ _ _ _)
   | (with_reducible exact impl_IsWrite.mono _ _ _ _)
   | (with_reducible exact impl_MeetOf.mono _ _ _ _)
   | (with_reducible exact impl_WeightOf.mono _ _ _)
   | (with_reducible exact spec_DrawIsRead.mono _ _)
   | (with_reducible exact spec_DrawIsWrite.mono _ _)
   | (with_reducible exact spec_IsRead.mono _ _ _ _)
   | (with_reducible exact spec_IsWrite.mono _ _ _ _)
   | (with_reducible exact LeO.refl _)
   | (with_reducible exact LeO.none _)
   | (with_reducible refine LeO.ite ?_ ?_)
   | (with_reducible refine LeO.bind ?_ (fun _ => ?_))
   | exact ih0 _ _ _ _ _ _ _
   | exact ih1 _ _ _ _ _ _
   | exact ih2 _ _ _ _ _ _ _ _ _
   | exact ih3 _ _ _ _ _ _ _ _ _
   | exact ih4 _ _ _ _ _ _ _ _ _ _ _ _
   | exact ih5 _ _ _ _ _ _
   | exact impl_IsRead.mono _ _ _ _
   | exact impl_IsWrite.mono _ _ _ _
   | exact impl_MeetOf.mono _ _ _ _
   | exact impl_WeightOf.mono _ _ _
   | exact spec_DrawIsRead.mono _ _
   | exact spec_DrawIsWrite.mono _ _
   | exact spec_IsRead.mono _ _ _ _
   | exact spec_IsWrite.mono _ _ _ _
   | exact LeO.none _
   | refine LeO.ite ?_ ?_
   | refine LeO.bind ?_ (fun _ => ?_)
theorem laws_FnGifford.mono : ∀ a0 a1 k, LeO (laws_FnGifford.f k a0 a1) (laws_FnGifford.f (k + 1) a0 a1) := by
 intro a0 a1 k
 obtain ⟨ih0, ih1, ih2, ih3, ih4, ih5⟩ := laws_FnGifford.mono_l k
 unfold laws_FnGifford.f
 repeat' first
   | (with_reducible exact ih0 _ _ _ _ _ _ _)
   | (with_reducible exact ih1 _ _ _ _ _ _)
   | (with_reducible exact ih2 _ _ _ _ _ _ _ _ _)
   | (with_reducible exact ih3 _ _ _ _ _ _ _ _ _)
   | (with_reducible exact ih4 _ _ _ _ _ _ _ _ _ _ _ _)
   | (with_reducible exact ih5 _ _ _ _ _ _)
   | (with_reducible exact impl_IsRead.mono _ _ _ _)
   | (with_reducible exact impl_IsWrite.mono _ _ _ _)
   | (with_reducible exact impl_MeetOf.mono _ _ _ _)
   | (with_reducible exact impl_WeightOf.mono _ _ _)
   | (with_reducible exact spec_DrawIsRead.mono _ _)
   | (with_reducible exact spec_DrawIsWrite.mono _ _)
   | (with_reducible exact spec_IsRead.mono _ _ _ _)
   | (with_reducible exact spec_IsWrite.mono _ _ _ _)
   | (with_reducible exact LeO.refl _)
   | (with_reducible exact LeO.none _)
   | (with_reducible refine LeO.ite ?_ ?_)
   | (with_reducible refine LeO.bind ?_ (fun _ => ?_))
   | exact ih0 _ _ _ _ _ _ _
   | exact ih1 _ _ _ _ _ _
   | exact ih2 _ _ _ _ _ _ _ _ _
   | exact ih3 _ _ _ _ _ _ _ _ _
   | exact ih4 _ _ _ _ _ _ _ _ _ _ _ _
   | exact ih5 _ _ _ _ _ _
   | exact impl_IsRead.mono _ _ _ _
   | exact impl_IsWrite.mono _ _ _ _
   | exact impl_MeetOf.mono _ _ _ _
   | exact impl_WeightOf.mono _ _ _
   | exact spec_DrawIsRead.mono _ _
   | exact spec_DrawIsWrite.mono _ _
   | exact spec_IsRead.mono _ _ _ _
   | exact spec_IsWrite.mono _ _ _ _
   | exact LeO.none _
   | refine LeO.ite ?_ ?_
   | refine LeO.bind ?_ (fun _ => ?_)
set_option maxHeartbeats 8000000 in
set_option maxRecDepth 100000 in
theorem laws_FnGifford.calls (k : Nat) (A0 : Option Addr) (c0 : Nat) (l0 : List Int) (A1 : Option Addr) (c1 : Nat) (l1 : List Int) (r : Bool) (w : World) (hr0 : Kd.C (Kd.int .u8) w A0 l0.length l0) (hc0 : l0.length ≤ c0) (hr1 : Kd.C (Kd.int .u8) w A1 l1.length l1) (hc1 : l1.length ≤ c1) (h : laws_FnGifford.f k l0 l1 = some r) :
  Calls Try.prog 9 #[.slice A0 l0.length c0, .slice A1 l1.length c1] w fun e w' => e = .returned (.bool r) ∧ Below w.heap.size w w' := by
 have hu28 := Try.underlying28
 have HR0 := Aside0.mk hr0
 have HC0 := Aside0.mk hc0
 clear hr0 hc0
 have HR1 := Aside0.mk hr1
 have HC1 := Aside0.mk hc1
 clear hr1 hc1
 have HB := Aside0.mk (Below.refl w.heap.size w)
 have H : (if (wrap64 ((l0.length : Int) + (l1.length : Int))) > 1048576 then (some true) else ((spec_DrawIsRead.f k l0).bind fun bt254 => ((impl_IsRead.f k bt254.1 bt254.2.1 bt254.2.2).bind fun bt262 => ((spec_IsRead.f k bt254.1 bt254.2.1 bt254.2.2).bind fun bt264 => (if (bt262.2 != bt264.2) = true then (none) else (laws_FnGifford.j0 k l1 bt254.1 bt254.2.1 bt262.1 bt262.2 (bt262.1 != bt264.1) bt254.2.2)))))) = some r := h
 clear h
 by_cases c3 : (wrap64 ((l0.length : Int) + (l1.length : Int))) > 1048576
 ·rw [if_pos c3] at H
  have c3b0 : decide (1048576 < (wrap64 ((l0.length : Int) + (l1.length : Int)))) = true := decide_eq_true c3
  clear c3
  obtain rfl := Option.some.inj H
  go_enter Try.func9, Try.ntmps9
  go_wp2
  go_ret
  exact ⟨by first | rfl | (simp [errW_none, errW_some] <;> rfl) | (simp [*, errW_none, errW_some] <;> rfl), by repeat (first | (with_reducible first | exact HB.out | apply below_alloc | apply pw_below_drewN | apply below_drew1) | exact HB.out)⟩
 rw [if_neg c3] at H
 have c3b0 : decide (1048576 < (wrap64 ((l0.length : Int) + (l1.length : Int)))) = false := decide_eq_false c3
 clear c3
 replace H := Option.bind_eq_some_iff.mp H
 obtain ⟨⟨t254, t257, t258⟩, A40, H⟩ := H
 replace H : ((impl_IsRead.f k t254 t257 t258).bind fun bt262 => ((spec_IsRead.f k t254 t257 t258).bind fun bt264 => (if (bt262.2 != bt264.2) = true then (none) else (laws_FnGifford.j0 k l1 t254 t257 bt262.1 bt262.2 (bt262.1 != bt264.1) t258)))) = some r := H
 have A4 := Aside0.mk A40
 clear A40
 replace H := Option.bind_eq_some_iff.mp H
 obtain ⟨⟨t262, t263⟩, A50, H⟩ := H
 replace H : ((spec_IsRead.f k t254 t257 t258).bind fun bt264 => (if (t263 != bt264.2) = true then (none) else (laws_FnGifford.j0 k l1 t254 t257 t262 t263 (t262 != bt264.1) t258))) = some r := H
 have A5 := Aside0.mk A50
 clear A50
 replace H := Option.bind_eq_some_iff.mp H
 obtain ⟨⟨t264, t265⟩, A60, H⟩ := H
 replace H : (if (t263 != t265) = true then (none) else (laws_FnGifford.j0 k l1 t254 t257 t262 t263 (t262 != t264) t258)) = some r := H
 have A6 := Aside0.mk A60
 clear A60
 have HC7 := Aside0.mk H
 clear H
 go_enter Try.func9, Try.ntmps9
 go_upto_region 6 with (first | ((with_reducible refine gate_callee (f := 34) rfl ?_); refine goesL_ (some 34) rfl rfl Try.func34 (by kernel_rfl) rfl #[.slice A0 l0.length c0] rfl (by (try simp only [List.map_toArray, List.map_cons, List.map_nil]); first | done | rfl | (simp only [List.length_drop, List.length_take]; rfl)) ?_; (with_reducible refine (spec_DrawIsRead.calls k _ _ l0 t254 t257 t258 _ ?side1 ?side2 A4.out).mono ?_); (case side1 => repeat (first | exact HR0.out | (with_reducible refine Kd.C_alloc ?_ _) | (with_reducible refine Kd.C_drewN ?_ _) | (with_reducible refine Kd.C_drew ?_))); (case side2 => exact HC0.out); rintro e w8 ⟨v255, v259, rfl, ho0, ho1, hb⟩; refine ⟨_, rfl, ?_⟩; have n0_ := Aside0.mk (Kd.R_lower ho0 (below_size (by repeat (first | (with_reducible first | exact HB.out | apply below_alloc | apply pw_below_drewN | apply below_drew1) | exact HB.out)))); have n1_ := Aside0.mk (Kd.R_lower ho1 (below_size (by repeat (first | (with_reducible first | exact HB.out | apply below_alloc | apply pw_below_drewN | apply below_drew1) | exact HB.out)))); have n2_ := Aside0.mk (below_step (by repeat (first | (with_reducible first | exact HB.out | apply below_alloc | apply pw_below_drewN | apply below_drew1) | exact HB.out)) hb); clear HB; have HO256 := n0_; have HO260 := n1_; have HB := n2_; clear n0_ n1_ n2_; (try clear hb); (try clear hb2); (try clear hk); (try clear hi); (try clear ho0); (try clear ho1)) | ((with_reducible refine gate_dst (N := 7) rfl ?_); (try (refine gate_guard (by rfl) ?_; dsimp only)); refine box_event ?hg (N := 7) ?hd (cs := #[.slice none 0 0]) (t := 28) ?hr ?_; (case hd => rfl); (case hg => rfl); (case hr => first | (go_simp; done) | (go_simp; rfl)); intro gb261 hg w9 hbox hb; have n0_ := Aside0.mk (Kd.R_below (by (with_reducible repeat (first | apply Kd.R_alloc | apply Kd.R_drewN | apply Kd.R_drew)); exact HO256.out) hb); have n1_ := Aside0.mk (Kd.R_below (by (with_reducible repeat (first | apply Kd.R_alloc | apply Kd.R_drewN | apply Kd.R_drew)); exact HO260.out) hb); have n2_ := Aside0.mk (below_step (by repeat (first | (with_reducible first | exact HB.out | apply below_alloc | apply pw_below_drewN | apply below_drew1) | exact HB.out)) hb); have n3_ := Aside0.mk (hbox); have n4_ := Aside0.mk ((by rw [hg]; exact (below_size (by repeat (first | (with_reducible first | exact HB.out | apply below_alloc | apply pw_below_drewN | apply below_drew1) | exact HB.out))) : w.heap.size ≤ gb261)); have n5_ := Aside0.mk ((by rw [hg]; exact (below_size (by repeat (first | (with_reducible first | exact HB.out | apply below_alloc | apply pw_below_drewN | apply below_drew1) | exact HB.out))) : w.heap.size ≤ gb261)); clear HO256; clear HO260; clear HB; have HO256 := n0_; have HO260 := n1_; have HB := n2_; have BK261 := n3_; have GW261 := n4_; have GE261 := n5_; clear n0_ n1_ n2_ n3_ n4_ n5_; clear hb hbox hg; obtain ⟨Ao10, co10, eo10⟩ := Kd.R_slice HO260.out; subst eo10; have hcz11_0 : w9.cell? ⟨gb261, 0, none⟩ = some (.slice none 0 0) := (blk_cell BK261.out 0).trans rfl; have hfz11_0 := blk_frozen BK261.out 0; obtain ⟨Ao12, co12, eo12⟩ := Kd.R_slice HO256.out; subst eo12) | ((with_reducible refine gate_callee (f := 22) rfl ?_); refine goesL_ (some 42) rfl rfl Try.func22 (by kernel_rfl) rfl #[.slice Ao12 t254.length co12, .int .i64 t257, .agg #[.slice Ao10 t258.length co10]] rfl (by (try simp only [List.map_toArray, List.map_cons, List.map_nil]); first | done | rfl | (simp only [List.length_drop, List.length_take]; rfl)) ?_; (with_reducible refine (impl_IsRead.calls k _ _ t254 t257 _ _ t258 t262 t263 _ ?side1 ?side2 ?side3 ?side4 A5.out).mono ?_); (case side1 => refine (Kd.R_reads' (e := 3) (base := w.heap.size) (ok := fun k_ => some k_ ≠ (.slice Ao10 t258.length co10 : Value).ownBlock) (n := t254.length) (c := co12) ?_).2.2; exact (by (with_reducible repeat (first | apply Kd.R_alloc | apply Kd.R_drewN | apply Kd.R_drew)); exact (Kd.R_mono (Kd.R_far (p := ⟨gb261, 0, none⟩) (Kd.R_types HO256.out BK261.out (by decide)) (fun _ hk => hk.2) (.slice Ao10 t258.length co10)) (fun _ h_ => h_.1)))); (case side2 => exact (Kd.R_reads' HO256.out).2.1); (case side3 => refine (Kd.R_reads' (e := 3) (base := w.heap.size) (ok := fun k_ => some k_ ≠ (.slice Ao12 t254.length co12 : Value).ownBlock) (n := t258.length) (c := co10) ?_).2.2; exact (by (with_reducible repeat (first | apply Kd.R_alloc | apply Kd.R_drewN | apply Kd.R_drew)); exact (Kd.R_mono (Kd.R_far (p := ⟨gb261, 0, none⟩) (Kd.R_types HO260.out BK261.out (by decide)) (fun _ hk => hk.2) (.slice Ao10 t258.length co10)) (fun _ h_ => h_.1)))); (case side4 => exact (Kd.R_reads' HO260.out).2.1); rintro e w13 ⟨rfl, hb⟩; refine ⟨_, rfl, ?_⟩; have n0_ := Aside0.mk (Kd.R_below (by (with_reducible repeat (first | apply Kd.R_alloc | apply Kd.R_drewN | apply Kd.R_drew)); exact (Kd.R_mono (Kd.R_far (p := ⟨gb261, 0, none⟩) (Kd.R_types HO256.out BK261.out (by decide)) (fun _ hk => hk.2) (.slice Ao10 t258.length co10)) (fun _ h_ => h_.1))) hb); have n1_ := Aside0.mk (Kd.R_below (by (with_reducible repeat (first | apply Kd.R_alloc | apply Kd.R_drewN | apply Kd.R_drew)); exact (Kd.R_mono (Kd.R_far (p := ⟨gb261, 0, none⟩) (Kd.R_types HO260.out BK261.out (by decide)) (fun _ hk => hk.2) (.slice Ao10 t258.length co10)) (fun _ h_ => h_.1))) hb); have n2_ := Aside0.mk (blk_below (g := gb261) (o := .cells #[.slice Ao10 t258.length co10] 28 (0, 0)) (by (with_reducible repeat (first | refine blk_drewN ?_ _ | refine blk_drew ?_ | refine blk_alloc ?_ _)); refine blk_put (cs := #[.slice none 0 0]) ?_ 0 _ rfl; (with_reducible repeat (first | refine blk_drewN ?_ _ | refine blk_drew ?_ | refine blk_alloc ?_ _)); exact BK261.out) hb); have n3_ := Aside0.mk (below_step (by repeat (first | (with_reducible first | exact HB.out | apply below_alloc | apply pw_below_drewN | apply below_drew1 | refine below_set ?_ GE261.out) | exact HB.out)) hb); clear HO256; clear HO260; clear BK261; clear HB; have HO256 := n0_; have HO260 := n1_; have BK261 := n2_; have HB := n3_; clear n0_ n1_ n2_ n3_; (try clear hb); (try clear hb2); (try clear hk); (try clear hi); have hcz14_0 : w13.cell? ⟨gb261, 0, none⟩ = some (.slice Ao10 t258.length co10) := (blk_cell BK261.out 0).trans rfl; have hfz14_0 := blk_frozen BK261.out 0) | ((with_reducible refine gate_callee (f := 21) rfl ?_); refine goesL_ (some 49) rfl rfl Try.func21 (by kernel_rfl) rfl #[.slice Ao12 t254.length co12, .int .i64 t257, .agg #[.slice Ao10 t258.length co10]] rfl (by (try simp only [List.map_toArray, List.map_cons, List.map_nil]); first | done | rfl | (simp only [List.length_drop, List.length_take]; rfl)) ?_; (with_reducible refine (spec_IsRead.calls k _ _ t254 t257 _ _ t258 t264 t265 _ ?side1 ?side2 ?side3 ?side4 A6.out).mono ?_); (case side1 => repeat (first | exact (Kd.R_reads' HO256.out).2.2 | (with_reducible refine Kd.C_alloc ?_ _) | (with_reducible refine Kd.C_drewN ?_ _) | (with_reducible refine Kd.C_drew ?_))); (case side2 => exact (Kd.R_reads' HO256.out).2.1); (case side3 => repeat (first | exact (Kd.R_reads' HO260.out).2.2 | (with_reducible refine Kd.C_alloc ?_ _) | (with_reducible refine Kd.C_drewN ?_ _) | (with_reducible refine Kd.C_drew ?_))); (case side4 => exact (Kd.R_reads' HO260.out).2.1); rintro e w15 ⟨rfl, hb⟩; refine ⟨_, rfl, ?_⟩; have n0_ := Aside0.mk (Kd.R_below (by (with_reducible repeat (first | apply Kd.R_alloc | apply Kd.R_drewN | apply Kd.R_drew)); exact HO256.out) hb); have n1_ := Aside0.mk (Kd.R_below (by (with_reducible repeat (first | apply Kd.R_alloc | apply Kd.R_drewN | apply Kd.R_drew)); exact HO260.out) hb); have n2_ := Aside0.mk (blk_below (g := gb261) (o := .cells #[.slice Ao10 t258.length co10] 28 (0, 0)) (by (with_reducible repeat (first | refine blk_drewN ?_ _ | refine blk_drew ?_ | refine blk_alloc ?_ _)); exact BK261.out) hb); have n3_ := Aside0.mk (below_step (by repeat (first | (with_reducible first | exact HB.out | apply below_alloc | apply pw_below_drewN | apply below_drew1 | refine below_set ?_ GE261.out) | exact HB.out)) hb); clear HO256; clear HO260; clear BK261; clear HB; have HO256 := n0_; have HO260 := n1_; have BK261 := n2_; have HB := n3_; clear n0_ n1_ n2_ n3_; (try clear hb); (try clear hb2); (try clear hk); (try clear hi)))
 (try simp only [Act.put, List.setIfInBounds_toArray, List.set_cons_zero, List.set_cons_succ])
 go_cut [59] (fun v59 wc => ∃ (kq : Nat) (x59_6 : Bool), v59 = .bool x59_6 ∧ Aside0 (laws_FnGifford.j0 kq l1 t254 t257 t262 t263 x59_6 t258 = some r) ∧ Aside0 (kq ≤ k) ∧ Aside0 (Kd.R (Kd.int .i64) 3 wc w.heap.size (fun k_ => some k_ ≠ ((.slice Ao10 t258.length co10) : Value).ownBlock) (.slice Ao12 t254.length co12) t254) ∧ Aside0 (Kd.R (Kd.int .i64) 3 wc w.heap.size (fun k_ => some k_ ≠ ((.slice Ao12 t254.length co12) : Value).ownBlock) (.slice Ao10 t258.length co10) t258) ∧ Aside0 (wc.heap[gb261]? = some (.cells #[(.slice Ao10 t258.length co10)] 28 (0, 0))) ∧ Aside0 (Below w.heap.size w wc))
 case first =>
  have H := HC7.out
  clear HC7
  by_cases c16 : (t263 != t265) = true
  ·rw [if_pos c16] at H
   exact absurd H (by simp)
  rw [if_neg c16] at H
  have c16b0 : (t263 != t265) = false := by simpa using c16
  (try (have c16b1 : decide (t263 = t265) = true := by simpa using c16))
  (try (have c16b2 : (t263 == t265) = true := by simpa using c16))
  clear c16
  (first | rw [c16b0] | (simp only [i64_w, i32_w]; rw [c16b0]) | skip)
  have H' := Aside0.mk H
  clear H
  go_wp2
  go_meet
  case rel => exact ⟨_, ((t262 != t264)), (by first | rfl | (simp; done) | (simp [*]; done)), H', ⟨by first | omega | exact Nat.le_refl _⟩, ⟨by (with_reducible repeat (first | apply Kd.R_alloc | apply Kd.R_drewN | apply Kd.R_drew)); exact HO256.out⟩, ⟨by (with_reducible repeat (first | apply Kd.R_alloc | apply Kd.R_drewN | apply Kd.R_drew)); exact HO260.out⟩, ⟨by (with_reducible repeat (first | refine blk_drewN ?_ _ | refine blk_drew ?_ | refine blk_alloc ?_ _)); exact BK261.out⟩, ⟨by repeat (first | (with_reducible first | exact HB.out | apply below_alloc | apply pw_below_drewN | apply below_drew1 | refine below_set ?_ GE261.out) | exact HB.out)⟩⟩
 clear HC7
 try clear c1
 try clear c2
 try clear p2
 try clear c3
 try clear c3b0
 try clear p6
 try clear c9
 try clear c16
 try clear c16b0
 try clear c16b1
 try clear c16b2
 try clear hcz11_0
 try clear hcz14_0
 try clear hfz11_0
 try clear hfz14_0
 obtain ⟨kq, x59_6, rfl, HA, HJ6, HO_5, HO_262000, BK261, HB⟩ := hcut
 cases kq with
 | zero => exact absurd HA.out (by simp [laws_FnGifford.j0])
 | succ kj6 => ?_
 have H := HA.out
 clear HA
 simp only [laws_FnGifford.j0] at H
 by_cases c17 : x59_6 = true
 ·subst c17
  have H1 : (none) = some r := by rw [if_pos rfl] at H; exact H
  clear H
  have H := H1
  clear H1
  exact absurd H (by simp)
 replace c17 := Bool.eq_false_iff.mpr c17
 subst c17
 have H1 : (if t263 = true then ((spec_DrawIsWrite.f kj6 l1).bind fun bt266 => (laws_FnGifford.l0 kj6 t254 t257 t262 bt266.2.1 t258 bt266.2.2)) else (some (!t262))) = some r := by rw [if_neg (show ¬ (false = true) by decide)] at H; exact H
 clear H
 have H := H1
 clear H1
 by_cases c18 : t263 = true
 rotate_left
 ·replace c18 := Bool.eq_false_iff.mpr c18
  subst c18
  have H1 : (some (!t262)) = some r := by rw [if_neg (show ¬ (false = true) by decide)] at H; exact H
  clear H
  have H := H1
  clear H1
  obtain rfl := Option.some.inj H
  go_wp2
  go_ret
  exact ⟨by first | rfl | (simp [errW_none, errW_some] <;> rfl) | (simp [*, errW_none, errW_some] <;> rfl), by repeat (first | (with_reducible first | exact HB.out | apply below_alloc | apply pw_below_drewN | apply below_drew1 | refine below_set ?_ GE261.out) | exact HB.out)⟩
 subst c18
 have H1 : ((spec_DrawIsWrite.f kj6 l1).bind fun bt266 => (laws_FnGifford.l0 kj6 t254 t257 t262 bt266.2.1 t258 bt266.2.2)) = some r := by rw [if_pos rfl] at H; exact H
 clear H
 have H := H1
 clear H1
 replace H := Option.bind_eq_some_iff.mp H
 obtain ⟨⟨t266, t269, t270⟩, A190, H⟩ := H
 replace H : (laws_FnGifford.l0 kj6 t254 t257 t262 t269 t258 t270) = some r := H
 have A19 := Aside0.mk A190
 clear A190
 have HC20 := Aside0.mk H
 clear H
 go_upto_block 0 with (first | ((with_reducible refine gate_callee (f := 35) rfl ?_); refine goesL_ (some 66) rfl rfl Try.func35 (by kernel_rfl) rfl #[.slice A1 l1.length c1] rfl (by (try simp only [List.map_toArray, List.map_cons, List.map_nil]); first | done | rfl | (simp only [List.length_drop, List.length_take]; rfl)) ?_; (with_reducible refine (spec_DrawIsWrite.calls kj6 _ _ l1 t266 t269 t270 _ ?side1 ?side2 A19.out).mono ?_); (case side1 => repeat (first | exact (Kd.C_below HR1.out HB.out) | (with_reducible refine Kd.C_alloc ?_ _) | (with_reducible refine Kd.C_drewN ?_ _) | (with_reducible refine Kd.C_drew ?_))); (case side2 => exact HC1.out); rintro e w21 ⟨v267, v271, rfl, ho0, ho1, hb⟩; refine ⟨_, rfl, ?_⟩; have n0_ := Aside0.mk (Kd.R_mono (Kd.R_told (Kd.R_told (Kd.R_old (by (with_reducible repeat (first | apply Kd.R_alloc | apply Kd.R_drewN | apply Kd.R_drew)); exact HO_5.out) hb) (Kd.R_base ho0)) (Kd.R_base ho1)) (fun _ h_ => h_.1)); have n1_ := Aside0.mk (Kd.R_mono (Kd.R_told (Kd.R_told (Kd.R_old (by (with_reducible repeat (first | apply Kd.R_alloc | apply Kd.R_drewN | apply Kd.R_drew)); exact HO_262000.out) hb) (Kd.R_base ho0)) (Kd.R_base ho1)) (fun _ h_ => h_.1)); have n2_ := Aside0.mk (Kd.R_lower (Kd.R_new' (Kd.R_new' ho0 (Kd.R_lt (by (with_reducible repeat (first | apply Kd.R_alloc | apply Kd.R_drewN | apply Kd.R_drew)); exact HO_5.out))) (Kd.R_lt (by (with_reducible repeat (first | apply Kd.R_alloc | apply Kd.R_drewN | apply Kd.R_drew)); exact HO_262000.out))) (below_size (by repeat (first | (with_reducible first | exact HB.out | apply below_alloc | apply pw_below_drewN | apply below_drew1 | refine below_set ?_ GE261.out) | exact HB.out)))); have n3_ := Aside0.mk (Kd.R_lower (Kd.R_new' (Kd.R_new' ho1 (Kd.R_lt (by (with_reducible repeat (first | apply Kd.R_alloc | apply Kd.R_drewN | apply Kd.R_drew)); exact HO_5.out))) (Kd.R_lt (by (with_reducible repeat (first | apply Kd.R_alloc | apply Kd.R_drewN | apply Kd.R_drew)); exact HO_262000.out))) (below_size (by repeat (first | (with_reducible first | exact HB.out | apply below_alloc | apply pw_below_drewN | apply below_drew1 | refine below_set ?_ GE261.out) | exact HB.out)))); have n4_ := Aside0.mk (blk_below (g := gb261) (o := .cells #[.slice Ao10 t258.length co10] 28 (0, 0)) (by (with_reducible repeat (first | refine blk_drewN ?_ _ | refine blk_drew ?_ | refine blk_alloc ?_ _)); exact BK261.out) hb); have n5_ := Aside0.mk (below_step (by repeat (first | (with_reducible first | exact HB.out | apply below_alloc | apply pw_below_drewN | apply below_drew1 | refine below_set ?_ GE261.out) | exact HB.out)) hb); clear HO_5; clear HO_262000; clear BK261; clear HB; have HO_5 := n0_; have HO_262000 := n1_; have HO268 := n2_; have HO272 := n3_; have BK261 := n4_; have HB := n5_; clear n0_ n1_ n2_ n3_ n4_ n5_; (try clear hb); (try clear hb2); (try clear hk); (try clear hi); (try clear ho0); (try clear ho1)) | ((with_reducible refine gate_dst (N := 14) rfl ?_); (try (refine gate_guard (by rfl) ?_; dsimp only)); refine box_event ?hg (N := 14) ?hd (cs := #[.slice none 0 0]) (t := 28) ?hr ?_; (case hd => rfl); (case hg => rfl); (case hr => first | (go_simp; done) | (go_simp; rfl)); intro gb273 hg w22 hbox hb; have n0_ := Aside0.mk (Kd.R_below (by (with_reducible repeat (first | apply Kd.R_alloc | apply Kd.R_drewN | apply Kd.R_drew)); exact HO_5.out) hb); have n1_ := Aside0.mk (Kd.R_below (by (with_reducible repeat (first | apply Kd.R_alloc | apply Kd.R_drewN | apply Kd.R_drew)); exact HO_262000.out) hb); have n2_ := Aside0.mk (Kd.R_below (by (with_reducible repeat (first | apply Kd.R_alloc | apply Kd.R_drewN | apply Kd.R_drew)); exact HO268.out) hb); have n3_ := Aside0.mk (Kd.R_below (by (with_reducible repeat (first | apply Kd.R_alloc | apply Kd.R_drewN | apply Kd.R_drew)); exact HO272.out) hb); have n4_ := Aside0.mk (blk_below (g := gb261) (o := .cells #[.slice Ao10 t258.length co10] 28 (0, 0)) (by (with_reducible repeat (first | refine blk_drewN ?_ _ | refine blk_drew ?_ | refine blk_alloc ?_ _)); exact BK261.out) hb); have n5_ := Aside0.mk (below_step (by repeat (first | (with_reducible first | exact HB.out | apply below_alloc | apply pw_below_drewN | apply below_drew1 | refine below_set ?_ GE261.out) | exact HB.out)) hb); have n6_ := Aside0.mk (hbox); have n7_ := Aside0.mk ((by rw [hg]; exact (below_size (by repeat (first | (with_reducible first | exact HB.out | apply below_alloc | apply pw_below_drewN | apply below_drew1 | refine below_set ?_ GE261.out) | exact HB.out))) : w.heap.size ≤ gb273)); have n8_ := Aside0.mk ((by rw [hg]; exact (below_size (by repeat (first | (with_reducible first | exact HB.out | apply below_alloc | apply pw_below_drewN | apply below_drew1 | refine below_set ?_ GE261.out) | exact HB.out))) : w.heap.size ≤ gb273)); have n9_ := Aside0.mk ((by rw [hg]; exact Nat.ne_of_lt (blk_lt (g := gb261) (o := .cells #[.slice Ao10 t258.length co10] 28 (0, 0)) (by (with_reducible repeat (first | refine blk_drewN ?_ _ | refine blk_drew ?_ | refine blk_alloc ?_ _)); exact BK261.out)) : gb261 ≠ gb273)); have n10_ := Aside0.mk ((by rw [hg]; exact Nat.ne_of_gt (blk_lt (g := gb261) (o := .cells #[.slice Ao10 t258.length co10] 28 (0, 0)) (by (with_reducible repeat (first | refine blk_drewN ?_ _ | refine blk_drew ?_ | refine blk_alloc ?_ _)); exact BK261.out)) : gb273 ≠ gb261)); clear HO_5; clear HO_262000; clear HO268; clear HO272; clear BK261; clear HB; have HO_5 := n0_; have HO_262000 := n1_; have HO268 := n2_; have HO272 := n3_; have BK261 := n4_; have HB := n5_; have BK273 := n6_; have GW273 := n7_; have GE273 := n8_; have NB261_273 := n9_; have NB273_261 := n10_; clear n0_ n1_ n2_ n3_ n4_ n5_ n6_ n7_ n8_ n9_ n10_; clear hb hbox hg; obtain ⟨Ao23, co23, eo23⟩ := Kd.R_slice HO272.out; subst eo23; have hnb24 := NB273_261.out; have hnc24 := NB261_273.out; have hcz25_0 : w22.cell? ⟨gb273, 0, none⟩ = some (.slice none 0 0) := (blk_cell BK273.out 0).trans rfl; have hfz25_0 := blk_frozen BK273.out 0))
 (try simp only [Act.put, List.setIfInBounds_toArray, List.set_cons_zero, List.set_cons_succ])
 go_cut [] (fun wc => ∃ (kq : Nat) (x274000_19 : List Int) (u274000 : Value), Aside0 (laws_FnGifford.j2 kq t254 t257 t262 t269 t258 x274000_19 = some r) ∧ Aside0 (kq ≤ kj6) ∧ Aside0 (Kd.R (Kd.int .i64) 3 wc w.heap.size (fun k_ => some k_ ≠ ((.slice Ao10 t258.length co10) : Value).ownBlock ∧ some k_ ≠ (u274000 : Value).ownBlock) (.slice Ao12 t254.length co12) t254) ∧ Aside0 (Kd.R (Kd.int .i64) 3 wc w.heap.size (fun k_ => some k_ ≠ ((.slice Ao12 t254.length co12) : Value).ownBlock ∧ some k_ ≠ (u274000 : Value).ownBlock) (.slice Ao10 t258.length co10) t258) ∧ Aside0 (Kd.R (Kd.int .i64) 3 wc w.heap.size (fun k_ => some k_ ≠ ((.slice Ao12 t254.length co12) : Value).ownBlock ∧ some k_ ≠ ((.slice Ao10 t258.length co10) : Value).ownBlock) u274000 x274000_19) ∧ Aside0 (wc.heap[gb261]? = some (.cells #[(.slice Ao10 t258.length co10)] 28 (0, 0))) ∧ Aside0 (wc.heap[gb273]? = some (.cells #[u274000] 28 (0, 0))) ∧ Aside0 (Below w.heap.size w wc))
 case first =>
  have H := HC20.out
  clear HC20
  have H' := Aside0.mk H
  clear H
  go_wp2
  go_loopg [] kj6 (fun kq w' => ∃ (x274000_2 : List Int) (u274000 : Value), Aside0 (laws_FnGifford.l0 kq t254 t257 t262 t269 t258 x274000_2 = some r) ∧ Aside0 (kq ≤ kj6) ∧ Aside0 (Kd.R (Kd.int .i64) 3 w' w.heap.size (fun k_ => some k_ ≠ ((.slice Ao10 t258.length co10) : Value).ownBlock ∧ some k_ ≠ (u274000 : Value).ownBlock) (.slice Ao12 t254.length co12) t254) ∧ Aside0 (Kd.R (Kd.int .i64) 3 w' w.heap.size (fun k_ => some k_ ≠ ((.slice Ao12 t254.length co12) : Value).ownBlock ∧ some k_ ≠ (u274000 : Value).ownBlock) (.slice Ao10 t258.length co10) t258) ∧ Aside0 (Kd.R (Kd.int .i64) 3 w' w.heap.size (fun k_ => some k_ ≠ ((.slice Ao12 t254.length co12) : Value).ownBlock ∧ some k_ ≠ ((.slice Ao10 t258.length co10) : Value).ownBlock) u274000 x274000_2) ∧ Aside0 (w'.heap[gb261]? = some (.cells #[(.slice Ao10 t258.length co10)] 28 (0, 0))) ∧ Aside0 (w'.heap[gb273]? = some (.cells #[u274000] 28 (0, 0))) ∧ Aside0 (Below w.heap.size w w'))
  case atStart => exact ⟨(t270), (.slice Ao23 t270.length co23), H', ⟨Nat.le_refl _⟩, ⟨by (with_reducible repeat (first | apply Kd.R_alloc | apply Kd.R_drewN | apply Kd.R_drew)); exact Kd.R_mono (Kd.R_far (p := ⟨gb273, 0, none⟩) (Kd.R_types HO_5.out BK273.out (by decide)) (fun _ hk => hk.2) (.slice Ao23 t270.length co23)) (fun _ hk => ⟨hk.1.1.1, hk.1.2⟩)⟩, ⟨by (with_reducible repeat (first | apply Kd.R_alloc | apply Kd.R_drewN | apply Kd.R_drew)); exact Kd.R_mono (Kd.R_far (p := ⟨gb273, 0, none⟩) (Kd.R_types HO_262000.out BK273.out (by decide)) (fun _ hk => hk.2) (.slice Ao23 t270.length co23)) (fun _ hk => ⟨hk.1.1.1, hk.1.2⟩)⟩, ⟨by (with_reducible repeat (first | apply Kd.R_alloc | apply Kd.R_drewN | apply Kd.R_drew)); exact Kd.R_mono (Kd.R_far (p := ⟨gb273, 0, none⟩) (Kd.R_types HO272.out BK273.out (by decide)) (fun _ hk => hk.2) (.slice Ao23 t270.length co23)) (fun _ hk => ⟨hk.1.1.2, hk.1.2⟩)⟩, ⟨by (with_reducible repeat (first | refine blk_drewN ?_ _ | refine blk_drew ?_ | refine blk_alloc ?_ _)); refine blk_far ?_ NB261_273.out _; (with_reducible repeat (first | refine blk_drewN ?_ _ | refine blk_drew ?_ | refine blk_alloc ?_ _)); exact BK261.out⟩, ⟨by (with_reducible repeat (first | refine blk_drewN ?_ _ | refine blk_drew ?_ | refine blk_alloc ?_ _)); refine blk_put (cs := #[.slice none 0 0]) ?_ 0 _ rfl; (with_reducible repeat (first | refine blk_drewN ?_ _ | refine blk_drew ?_ | refine blk_alloc ?_ _)); exact BK273.out⟩, ⟨by repeat (first | (with_reducible first | exact HB.out | apply below_alloc | apply pw_below_drewN | apply below_drew1 | refine below_set ?_ GE261.out | refine below_set ?_ GE273.out) | exact HB.out)⟩⟩
  clear H'
  try clear c1
  try clear c2
  try clear p2
  try clear c3
  try clear c3b0
  try clear p6
  try clear c9
  try clear c16
  try clear c16b0
  try clear c16b1
  try clear c16b2
  try clear c17
  try clear c18
  try clear c21
  try clear c22
  try clear c24
  try clear hcz11_0
  try clear hcz14_0
  try clear hcz25_0
  try clear hfz11_0
  try clear hfz14_0
  try clear hfz25_0
  try clear p2
  try clear p6
  obtain ⟨x274000_2, u274000, HA, HK2, HO_5, HO_262000, HO_274000, BK261, BK273, HB⟩ := hrel
  cases gk with
  | zero => exact absurd HA.out (by simp [laws_FnGifford.l0])
  | succ k2 => ?_
  have H := HA.out
  clear HA
  simp only [laws_FnGifford.l0] at H
  by_cases c26 : (x274000_2.length : Int) > 0
  rotate_left
  ·rw [if_neg c26] at H
   have c26b0 : decide (0 < (x274000_2.length : Int)) = false := decide_eq_false c26
   have c26b1 : decide (0 < x274000_2.length) = false := decide_eq_false (by omega)
   clear c26
   (first | rw [c26b0] | (simp only [i64_w, i32_w]; rw [c26b0]) | skip)
   have H' := Aside0.mk H
   clear H
   have hnb39 := NB273_261.out
   have hnc39 := NB261_273.out
   have hcz40_0 : wr.cell? ⟨gb273, 0, none⟩ = some (u274000) := (blk_cell BK273.out 0).trans rfl
   have hfz40_0 := blk_frozen BK273.out 0
   obtain ⟨Ao41, co41, eo41⟩ := Kd.R_slice HO_274000.out
   subst eo41
   go_wp2
   go_meet
   case rel => exact ⟨_, (x274000_2), (.slice Ao41 x274000_2.length co41), H', ⟨by have := HJ6.out; have := HK2.out; first | omega | exact Nat.le_refl _⟩, ⟨by (with_reducible repeat (first | apply Kd.R_alloc | apply Kd.R_drewN | apply Kd.R_drew)); exact HO_5.out⟩, ⟨by (with_reducible repeat (first | apply Kd.R_alloc | apply Kd.R_drewN | apply Kd.R_drew)); exact HO_262000.out⟩, ⟨by (with_reducible repeat (first | apply Kd.R_alloc | apply Kd.R_drewN | apply Kd.R_drew)); exact HO_274000.out⟩, ⟨by (with_reducible repeat (first | refine blk_drewN ?_ _ | refine blk_drew ?_ | refine blk_alloc ?_ _)); exact BK261.out⟩, ⟨by (with_reducible repeat (first | refine blk_drewN ?_ _ | refine blk_drew ?_ | refine blk_alloc ?_ _)); exact BK273.out⟩, ⟨by repeat (first | (with_reducible first | exact HB.out | apply below_alloc | apply pw_below_drewN | apply below_drew1 | refine below_set ?_ GE261.out | refine below_set ?_ GE273.out) | exact HB.out)⟩⟩
  rw [if_pos c26] at H
  have c26b0 : decide (0 < (x274000_2.length : Int)) = true := decide_eq_true c26
  have c26b1 : decide (0 < x274000_2.length) = true := decide_eq_true (by omega)
  clear c26
  (first | rw [c26b0] | (simp only [i64_w, i32_w]; rw [c26b0]) | skip)
  obtain ⟨ji27, hji27⟩ : ∃ j_ : Int, (wrap64 ((x274000_2.length : Int) - 1)) = j_ := ⟨_, rfl⟩
  replace H : (if 0 ≤ (ji27) then (if (ji27) < (x274000_2.length : Int) then (if (rd x274000_2 (ji27)) ≥ (t254.length : Int) then (if (ji27) ≤ (x274000_2.length : Int) then (laws_FnGifford.l0 k2 t254 t257 t262 t269 t258 (x274000_2.take ((ji27) : Int).toNat)) else (none)) else (laws_FnGifford.j2 k2 t254 t257 t262 t269 t258 x274000_2)) else (none)) else (none)) = some r := by first | (rw [hji27] at H; exact H) | (simp only [hji27] at H ⊢; exact H)
  have hji27w : (IntKind.i64.wrap ((x274000_2.length : Int) - 1)) = ji27 := (i64_w _).trans hji27
  by_cases c28 : 0 ≤ (ji27)
  rotate_left
  ·rw [if_neg c28] at H
   exact absurd H (by simp)
  rw [if_pos c28] at H
  have c28b0 : decide (0 ≤ (ji27)) = true := decide_eq_true c28
  clear c28
  by_cases c29 : (ji27) < (x274000_2.length : Int)
  rotate_left
  ·rw [if_neg c29] at H
   exact absurd H (by simp)
  rw [if_pos c29] at H
  have c29b0 : decide ((ji27) < (x274000_2.length : Int)) = true := decide_eq_true c29
  clear c29
  by_cases c30 : (rd x274000_2 (ji27)) ≥ (t254.length : Int)
  rotate_left
  ·rw [if_neg c30] at H
   have c30b0 : decide ((t254.length : Int) ≤ (rd x274000_2 (ji27))) = false := decide_eq_false c30
   clear c30
   have H' := Aside0.mk H
   clear H
   have hnb36 := NB273_261.out
   have hnc36 := NB261_273.out
   have hcz37_0 : wr.cell? ⟨gb273, 0, none⟩ = some (u274000) := (blk_cell BK273.out 0).trans rfl
   have hfz37_0 := blk_frozen BK273.out 0
   obtain ⟨Ao38, co38, eo38⟩ := Kd.R_slice HO_274000.out
   subst eo38
   have p274 : 0 ≤ ((ji27) : Int) := of_decide_eq_true (by first | (with_reducible assumption) | assumption)
   have q274 : (ji27) < (x274000_2.length : Int) := of_decide_eq_true (by first | (with_reducible assumption) | assumption)
   obtain ⟨ad274, e274, hx274_0⟩ := Kd.at_int (Kd.R_reads' HO_274000.out).2.2 (ji27) p274 q274
   cases e274
   replace p274 := eq_true p274
   replace q274 := eq_true q274
   go_wp2
   go_meet
   case rel => exact ⟨_, (x274000_2), (.slice (some ad274) x274000_2.length co38), H', ⟨by have := HJ6.out; have := HK2.out; first | omega | exact Nat.le_refl _⟩, ⟨by (with_reducible repeat (first | apply Kd.R_alloc | apply Kd.R_drewN | apply Kd.R_drew)); exact HO_5.out⟩, ⟨by (with_reducible repeat (first | apply Kd.R_alloc | apply Kd.R_drewN | apply Kd.R_drew)); exact HO_262000.out⟩, ⟨by (with_reducible repeat (first | apply Kd.R_alloc | apply Kd.R_drewN | apply Kd.R_drew)); exact HO_274000.out⟩, ⟨by (with_reducible repeat (first | refine blk_drewN ?_ _ | refine blk_drew ?_ | refine blk_alloc ?_ _)); exact BK261.out⟩, ⟨by (with_reducible repeat (first | refine blk_drewN ?_ _ | refine blk_drew ?_ | refine blk_alloc ?_ _)); exact BK273.out⟩, ⟨by repeat (first | (with_reducible first | exact HB.out | apply below_alloc | apply pw_below_drewN | apply below_drew1 | refine below_set ?_ GE261.out | refine below_set ?_ GE273.out) | exact HB.out)⟩⟩
  rw [if_pos c30] at H
  have c30b0 : decide ((t254.length : Int) ≤ (rd x274000_2 (ji27))) = true := decide_eq_true c30
  clear c30
  by_cases c31 : (ji27) ≤ (x274000_2.length : Int)
  rotate_left
  ·rw [if_neg c31] at H
   exact absurd H (by simp)
  rw [if_pos c31] at H
  have c31b0 := eq_true c31
  have c31b1 : decide ((ji27) ≤ (x274000_2.length : Int)) = true := decide_eq_true c31
  clear c31
  obtain ⟨y275, hy275⟩ : ∃ y_ : List Int, y_ = (x274000_2.take ((ji27) : Int).toNat) := ⟨_, rfl⟩
  replace H : (laws_FnGifford.l0 k2 t254 t257 t262 t269 t258 y275) = some r := by first | (rw [hy275]; with_reducible exact H) | (have H2_ := (Option.bind_some _ _).symm.trans H; rw [hy275]; with_reducible exact H2_) | (have H2_ := (Option.bind_some _ _).symm.trans H; with_reducible exact H2_) | with_reducible exact H | (rw [hy275]; exact H) | exact H
  have Ny275 := Aside0.mk hy275
  clear hy275
  have H' := Aside0.mk H
  clear H
  have hnb32 := NB273_261.out
  have hnc32 := NB261_273.out
  have hcz33_0 : wr.cell? ⟨gb273, 0, none⟩ = some (u274000) := (blk_cell BK273.out 0).trans rfl
  have hfz33_0 := blk_frozen BK273.out 0
  obtain ⟨Ao34, co34, eo34⟩ := Kd.R_slice HO_274000.out
  subst eo34
  have p274 : 0 ≤ ((ji27) : Int) := of_decide_eq_true (by first | (with_reducible assumption) | assumption)
  have q274 : (ji27) < (x274000_2.length : Int) := of_decide_eq_true (by first | (with_reducible assumption) | assumption)
  obtain ⟨ad274, e274, hx274_0⟩ := Kd.at_int (Kd.R_reads' HO_274000.out).2.2 (ji27) p274 q274
  cases e274
  replace p274 := eq_true p274
  replace q274 := eq_true q274
  have q35 : ((ji27) : Int) ≤ ((x274000_2.length : Int) : Int) := of_decide_eq_true (by first | (with_reducible assumption) | assumption)
  obtain ⟨i035, hi035, _, hsz35, _⟩ := info_parts info3
  have hcut35 := cut_to (P := Try.prog) 22 3 .i64 Try.underlying22 hi035 (some ad274) x274000_2.length co34 (ji27) (of_decide_eq_true (by first | (with_reducible assumption) | assumption)) q35 (Kd.R_reads' HO_274000.out).2.1
  have hr35 := Kd.R_take (m := ((ji27) : Int).toNat) HO_274000.out (by omega)
  have hy35 : y275.length = ((ji27) : Int).toNat := (by rw [Ny275.out, List.length_take]; omega)
  rw [← Ny275.out] at hr35
  rw [← hy35] at hr35 hcut35
  clear hy35 hi035 hsz35 HO_274000
  have HO277 := Aside0.mk hr35
  clear hr35
  replace q35 := eq_true q35
  go_wp2
  go_roundg k2
  case measure => have := HJ6.out; have := HK2.out; omega
  case rel => exact ⟨(y275), (.slice (some ad274) y275.length co34), H', ⟨by have := HJ6.out; have := HK2.out; omega⟩, ⟨by (with_reducible repeat (first | apply Kd.R_alloc | apply Kd.R_drewN | apply Kd.R_drew)); exact Kd.R_mono (Kd.R_far (p := ⟨gb273, 0, none⟩) (Kd.R_types HO_5.out BK273.out (by decide)) (fun _ hk => hk.2) (.slice (some ad274) y275.length co34)) (fun _ hk => ⟨hk.1.1, hk.1.2⟩)⟩, ⟨by (with_reducible repeat (first | apply Kd.R_alloc | apply Kd.R_drewN | apply Kd.R_drew)); exact Kd.R_mono (Kd.R_far (p := ⟨gb273, 0, none⟩) (Kd.R_types HO_262000.out BK273.out (by decide)) (fun _ hk => hk.2) (.slice (some ad274) y275.length co34)) (fun _ hk => ⟨hk.1.1, hk.1.2⟩)⟩, ⟨by (with_reducible repeat (first | apply Kd.R_alloc | apply Kd.R_drewN | apply Kd.R_drew)); exact Kd.R_mono (Kd.R_far (p := ⟨gb273, 0, none⟩) (Kd.R_types HO277.out BK273.out (by decide)) (fun _ hk => hk.2) (.slice (some ad274) y275.length co34)) (fun _ hk => ⟨hk.1.1, hk.1.2⟩)⟩, ⟨by (with_reducible repeat (first | refine blk_drewN ?_ _ | refine blk_drew ?_ | refine blk_alloc ?_ _)); refine blk_far ?_ NB261_273.out _; (with_reducible repeat (first | refine blk_drewN ?_ _ | refine blk_drew ?_ | refine blk_alloc ?_ _)); exact BK261.out⟩, ⟨by (with_reducible repeat (first | refine blk_drewN ?_ _ | refine blk_drew ?_ | refine blk_alloc ?_ _)); refine blk_put (cs := #[.slice (some ad274) x274000_2.length co34]) ?_ 0 _ rfl; (with_reducible repeat (first | refine blk_drewN ?_ _ | refine blk_drew ?_ | refine blk_alloc ?_ _)); exact BK273.out⟩, ⟨by repeat (first | (with_reducible first | exact HB.out | apply below_alloc | apply pw_below_drewN | apply below_drew1 | refine below_set ?_ GE261.out | refine below_set ?_ GE273.out) | exact HB.out)⟩⟩
 clear HC20
 try clear c1
 try clear c2
 try clear p2
 try clear q2
 try clear hx2
 try clear c3
 try clear c3b0
 try clear q3
 try clear p6
 try clear c9
 try clear c16
 try clear c16b0
 try clear c16b1
 try clear c16b2
 try clear c17
 try clear c18
 try clear c21
 try clear c22
 try clear c24
 try clear c26
 try clear c26b0
 try clear c26b1
 try clear p27
 try clear q27
 try clear hx27
 try clear c28
 try clear c28b0
 try clear c29
 try clear c29b0
 try clear c30
 try clear c30b0
 try clear c31
 try clear c31b0
 try clear c31b1
 try clear c32
 try clear c34
 try clear c35
 try clear q35
 try clear c36
 try clear c39
 try clear hcz11_0
 try clear hcz14_0
 try clear hcz25_0
 try clear hcz33_0
 try clear hcz37_0
 try clear hcz40_0
 try clear hfz11_0
 try clear hfz14_0
 try clear hfz25_0
 try clear hfz33_0
 try clear hfz37_0
 try clear hfz40_0
 try clear hx274_0
 try clear p2
 try clear p274
 try clear p6
 try clear q274
 try clear q35
 obtain ⟨kq, x274000_19, u274000, HA, HJ19, HO_5, HO_262000, HO_274000, BK261, BK273, HB⟩ := hcut
 cases kq with
 | zero => exact absurd HA.out (by simp [laws_FnGifford.j2])
 | succ kj19 => ?_
 have H := HA.out
 clear HA
 simp only [laws_FnGifford.j2] at H
 replace H := Option.bind_eq_some_iff.mp H
 obtain ⟨⟨t278, t279⟩, A420, H⟩ := H
 replace H : ((spec_IsWrite.f kj19 t254 t269 x274000_19).bind fun bt280 => (if (t279 != bt280.2) = true then (none) else (laws_FnGifford.j3 kj19 t254 t257 t262 t269 t278 t279 (t278 != bt280.1) t258 x274000_19))) = some r := H
 have A42 := Aside0.mk A420
 clear A420
 replace H := Option.bind_eq_some_iff.mp H
 obtain ⟨⟨t280, t281⟩, A430, H⟩ := H
 replace H : (if (t279 != t281) = true then (none) else (laws_FnGifford.j3 kj19 t254 t257 t262 t269 t278 t279 (t278 != t280) t258 x274000_19)) = some r := H
 have A43 := Aside0.mk A430
 clear A430
 have HC44 := Aside0.mk H
 clear H
 have hnb45 := NB273_261.out
 have hnc45 := NB261_273.out
 have hcz46_0 : wc.cell? ⟨gb273, 0, none⟩ = some (u274000) := (blk_cell BK273.out 0).trans rfl
 have hfz46_0 := blk_frozen BK273.out 0
 obtain ⟨Ao47, co47, eo47⟩ := Kd.R_slice HO_274000.out
 subst eo47
 go_upto_region 15 with (first | ((with_reducible refine gate_callee (f := 24) rfl ?_); refine goesL_ (some 99) rfl rfl Try.func24 (by kernel_rfl) rfl #[.slice Ao12 t254.length co12, .int .i64 t269, .agg #[.slice Ao47 x274000_19.length co47]] rfl (by (try simp only [List.map_toArray, List.map_cons, List.map_nil]); first | done | rfl | (simp only [List.length_drop, List.length_take]; rfl)) ?_; (with_reducible refine (impl_IsWrite.calls kj19 _ _ t254 t269 _ _ x274000_19 t278 t279 _ ?side1 ?side2 ?side3 ?side4 A42.out).mono ?_); (case side1 => repeat (first | exact (Kd.R_reads' HO_5.out).2.2 | (with_reducible refine Kd.C_alloc ?_ _) | (with_reducible refine Kd.C_drewN ?_ _) | (with_reducible refine Kd.C_drew ?_))); (case side2 => exact (Kd.R_reads' HO_5.out).2.1); (case side3 => repeat (first | exact (Kd.R_reads' HO_274000.out).2.2 | (with_reducible refine Kd.C_alloc ?_ _) | (with_reducible refine Kd.C_drewN ?_ _) | (with_reducible refine Kd.C_drew ?_))); (case side4 => exact (Kd.R_reads' HO_274000.out).2.1); rintro e w48 ⟨rfl, hb⟩; refine ⟨_, rfl, ?_⟩; have n0_ := Aside0.mk (Kd.R_below (by (with_reducible repeat (first | apply Kd.R_alloc | apply Kd.R_drewN | apply Kd.R_drew)); exact HO_5.out) hb); have n1_ := Aside0.mk (Kd.R_below (by (with_reducible repeat (first | apply Kd.R_alloc | apply Kd.R_drewN | apply Kd.R_drew)); exact HO_262000.out) hb); have n2_ := Aside0.mk (Kd.R_below (by (with_reducible repeat (first | apply Kd.R_alloc | apply Kd.R_drewN | apply Kd.R_drew)); exact HO_274000.out) hb); have n3_ := Aside0.mk (blk_below (g := gb261) (o := .cells #[.slice Ao10 t258.length co10] 28 (0, 0)) (by (with_reducible repeat (first | refine blk_drewN ?_ _ | refine blk_drew ?_ | refine blk_alloc ?_ _)); exact BK261.out) hb); have n4_ := Aside0.mk (blk_below (g := gb273) (o := .cells #[.slice Ao47 x274000_19.length co47] 28 (0, 0)) (by (with_reducible repeat (first | refine blk_drewN ?_ _ | refine blk_drew ?_ | refine blk_alloc ?_ _)); exact BK273.out) hb); have n5_ := Aside0.mk (below_step (by repeat (first | (with_reducible first | exact HB.out | apply below_alloc | apply pw_below_drewN | apply below_drew1 | refine below_set ?_ GE261.out | refine below_set ?_ GE273.out) | exact HB.out)) hb); clear HO_5; clear HO_262000; clear HO_274000; clear BK261; clear BK273; clear HB; have HO_5 := n0_; have HO_262000 := n1_; have HO_274000 := n2_; have BK261 := n3_; have BK273 := n4_; have HB := n5_; clear n0_ n1_ n2_ n3_ n4_ n5_; (try clear hb); (try clear hb2); (try clear hk); (try clear hi); have hcz49_0 : w48.cell? ⟨gb273, 0, none⟩ = some (.slice Ao47 x274000_19.length co47) := (blk_cell BK273.out 0).trans rfl; have hfz49_0 := blk_frozen BK273.out 0) | ((with_reducible refine gate_callee (f := 23) rfl ?_); refine goesL_ (some 106) rfl rfl Try.func23 (by kernel_rfl) rfl #[.slice Ao12 t254.length co12, .int .i64 t269, .agg #[.slice Ao47 x274000_19.length co47]] rfl (by (try simp only [List.map_toArray, List.map_cons, List.map_nil]); first | done | rfl | (simp only [List.length_drop, List.length_take]; rfl)) ?_; (with_reducible refine (spec_IsWrite.calls kj19 _ _ t254 t269 _ _ x274000_19 t280 t281 _ ?side1 ?side2 ?side3 ?side4 A43.out).mono ?_); (case side1 => repeat (first | exact (Kd.R_reads' HO_5.out).2.2 | (with_reducible refine Kd.C_alloc ?_ _) | (with_reducible refine Kd.C_drewN ?_ _) | (with_reducible refine Kd.C_drew ?_))); (case side2 => exact (Kd.R_reads' HO_5.out).2.1); (case side3 => repeat (first | exact (Kd.R_reads' HO_274000.out).2.2 | (with_reducible refine Kd.C_alloc ?_ _) | (with_reducible refine Kd.C_drewN ?_ _) | (with_reducible refine Kd.C_drew ?_))); (case side4 => exact (Kd.R_reads' HO_274000.out).2.1); rintro e w50 ⟨rfl, hb⟩; refine ⟨_, rfl, ?_⟩; have n0_ := Aside0.mk (Kd.R_below (by (with_reducible repeat (first | apply Kd.R_alloc | apply Kd.R_drewN | apply Kd.R_drew)); exact HO_5.out) hb); have n1_ := Aside0.mk (Kd.R_below (by (with_reducible repeat (first | apply Kd.R_alloc | apply Kd.R_drewN | apply Kd.R_drew)); exact HO_262000.out) hb); have n2_ := Aside0.mk (Kd.R_below (by (with_reducible repeat (first | apply Kd.R_alloc | apply Kd.R_drewN | apply Kd.R_drew)); exact HO_274000.out) hb); have n3_ := Aside0.mk (blk_below (g := gb261) (o := .cells #[.slice Ao10 t258.length co10] 28 (0, 0)) (by (with_reducible repeat (first | refine blk_drewN ?_ _ | refine blk_drew ?_ | refine blk_alloc ?_ _)); exact BK261.out) hb); have n4_ := Aside0.mk (blk_below (g := gb273) (o := .cells #[.slice Ao47 x274000_19.length co47] 28 (0, 0)) (by (with_reducible repeat (first | refine blk_drewN ?_ _ | refine blk_drew ?_ | refine blk_alloc ?_ _)); exact BK273.out) hb); have n5_ := Aside0.mk (below_step (by repeat (first | (with_reducible first | exact HB.out | apply below_alloc | apply pw_below_drewN | apply below_drew1 | refine below_set ?_ GE261.out | refine below_set ?_ GE273.out) | exact HB.out)) hb); clear HO_5; clear HO_262000; clear HO_274000; clear BK261; clear BK273; clear HB; have HO_5 := n0_; have HO_262000 := n1_; have HO_274000 := n2_; have BK261 := n3_; have BK273 := n4_; have HB := n5_; clear n0_ n1_ n2_ n3_ n4_ n5_; (try clear hb); (try clear hb2); (try clear hk); (try clear hi)))
 (try simp only [Act.put, List.setIfInBounds_toArray, List.set_cons_zero, List.set_cons_succ])
 go_cut [116] (fun v116 wc => ∃ (kq : Nat) (x116_43 : Bool), v116 = .bool x116_43 ∧ Aside0 (laws_FnGifford.j3 kq t254 t257 t262 t269 t278 t279 x116_43 t258 x274000_19 = some r) ∧ Aside0 (kq ≤ kj19) ∧ Aside0 (Kd.R (Kd.int .i64) 3 wc w.heap.size (fun k_ => some k_ ≠ ((.slice Ao10 t258.length co10) : Value).ownBlock ∧ some k_ ≠ ((.slice Ao47 x274000_19.length co47) : Value).ownBlock) (.slice Ao12 t254.length co12) t254) ∧ Aside0 (Kd.R (Kd.int .i64) 3 wc w.heap.size (fun k_ => some k_ ≠ ((.slice Ao12 t254.length co12) : Value).ownBlock ∧ some k_ ≠ ((.slice Ao47 x274000_19.length co47) : Value).ownBlock) (.slice Ao10 t258.length co10) t258) ∧ Aside0 (Kd.R (Kd.int .i64) 3 wc w.heap.size (fun k_ => some k_ ≠ ((.slice Ao12 t254.length co12) : Value).ownBlock ∧ some k_ ≠ ((.slice Ao10 t258.length co10) : Value).ownBlock) (.slice Ao47 x274000_19.length co47) x274000_19) ∧ Aside0 (wc.heap[gb261]? = some (.cells #[(.slice Ao10 t258.length co10)] 28 (0, 0))) ∧ Aside0 (wc.heap[gb273]? = some (.cells #[(.slice Ao47 x274000_19.length co47)] 28 (0, 0))) ∧ Aside0 (Below w.heap.size w wc))
 case first =>
  have H := HC44.out
  clear HC44
  by_cases c51 : (t279 != t281) = true
  ·rw [if_pos c51] at H
   exact absurd H (by simp)
  rw [if_neg c51] at H
  have c51b0 : (t279 != t281) = false := by simpa using c51
  (try (have c51b1 : decide (t279 = t281) = true := by simpa using c51))
  (try (have c51b2 : (t279 == t281) = true := by simpa using c51))
  clear c51
  (first | rw [c51b0] | (simp only [i64_w, i32_w]; rw [c51b0]) | skip)
  have H' := Aside0.mk H
  clear H
  go_wp2
  go_meet
  case rel => exact ⟨_, ((t278 != t280)), (by first | rfl | (simp; done) | (simp [*]; done)), H', ⟨by have := HJ6.out; have := HJ19.out; first | omega | exact Nat.le_refl _⟩, ⟨by (with_reducible repeat (first | apply Kd.R_alloc | apply Kd.R_drewN | apply Kd.R_drew)); exact HO_5.out⟩, ⟨by (with_reducible repeat (first | apply Kd.R_alloc | apply Kd.R_drewN | apply Kd.R_drew)); exact HO_262000.out⟩, ⟨by (with_reducible repeat (first | apply Kd.R_alloc | apply Kd.R_drewN | apply Kd.R_drew)); exact HO_274000.out⟩, ⟨by (with_reducible repeat (first | refine blk_drewN ?_ _ | refine blk_drew ?_ | refine blk_alloc ?_ _)); exact BK261.out⟩, ⟨by (with_reducible repeat (first | refine blk_drewN ?_ _ | refine blk_drew ?_ | refine blk_alloc ?_ _)); exact BK273.out⟩, ⟨by repeat (first | (with_reducible first | exact HB.out | apply below_alloc | apply pw_below_drewN | apply below_drew1 | refine below_set ?_ GE261.out | refine below_set ?_ GE273.out) | exact HB.out)⟩⟩
 clear HC44
 try clear c1
 try clear c2
 try clear p2
 try clear q2
 try clear hx2
 try clear c3
 try clear c3b0
 try clear q3
 try clear c4
 try clear c5
 try clear p6
 try clear c9
 try clear c16
 try clear c16b0
 try clear c16b1
 try clear c16b2
 try clear c17
 try clear c18
 try clear c21
 try clear c22
 try clear c23
 try clear c24
 try clear c26
 try clear c26b0
 try clear c26b1
 try clear p27
 try clear q27
 try clear hx27
 try clear c28
 try clear c28b0
 try clear c29
 try clear c29b0
 try clear c30
 try clear c30b0
 try clear c31
 try clear c31b0
 try clear c31b1
 try clear c32
 try clear c34
 try clear c35
 try clear q35
 try clear c36
 try clear c39
 try clear c45
 try clear c51
 try clear c51b0
 try clear c51b1
 try clear c51b2
 try clear hcz11_0
 try clear hcz14_0
 try clear hcz25_0
 try clear hcz33_0
 try clear hcz37_0
 try clear hcz40_0
 try clear hcz46_0
 try clear hcz49_0
 try clear hfz11_0
 try clear hfz14_0
 try clear hfz25_0
 try clear hfz33_0
 try clear hfz37_0
 try clear hfz40_0
 try clear hfz46_0
 try clear hfz49_0
 try clear hx274_0
 try clear p2
 try clear p27
 try clear p274
 try clear p6
 try clear q2
 try clear q27
 try clear q274
 try clear q3
 try clear q35
 obtain ⟨kq, x116_43, rfl, HA, HJ43, HO_5, HO_262000, HO_274000, BK261, BK273, HB⟩ := hcut
 cases kq with
 | zero => exact absurd HA.out (by simp [laws_FnGifford.j3])
 | succ kj43 => ?_
 have H := HA.out
 clear HA
 simp only [laws_FnGifford.j3] at H
 by_cases c52 : x116_43 = true
 ·subst c52
  have H1 : (none) = some r := by rw [if_pos rfl] at H; exact H
  clear H
  have H := H1
  clear H1
  exact absurd H (by simp)
 replace c52 := Bool.eq_false_iff.mpr c52
 subst c52
 have H1 : ((impl_WeightOf.f kj43 t254 t258).bind fun bt282 => (if bt282.2 = true then (laws_FnGifford.j4 kj43 t254 t257 t262 t269 t278 t279 (t262 != (decide (bt282.1 ≥ t257))) t258 x274000_19) else (none))) = some r := by rw [if_neg (show ¬ (false = true) by decide)] at H; exact H
 clear H
 have H := H1
 clear H1
 replace H := Option.bind_eq_some_iff.mp H
 obtain ⟨⟨t282, t283⟩, A530, H⟩ := H
 replace H : (if t283 = true then (laws_FnGifford.j4 kj43 t254 t257 t262 t269 t278 t279 (t262 != (decide (t282 ≥ t257))) t258 x274000_19) else (none)) = some r := H
 have A53 := Aside0.mk A530
 clear A530
 have HC54 := Aside0.mk H
 clear H
 have hnb55 := NB261_273.out
 have hnc55 := NB273_261.out
 have hcz56_0 : wc.cell? ⟨gb261, 0, none⟩ = some (.slice Ao10 t258.length co10) := (blk_cell BK261.out 0).trans rfl
 have hfz56_0 := blk_frozen BK261.out 0
 go_upto_region 18 with (first | ((with_reducible refine gate_callee (f := 19) rfl ?_); refine goesL_ (some 120) rfl rfl Try.func19 (by kernel_rfl) rfl #[.slice Ao12 t254.length co12, .agg #[.slice Ao10 t258.length co10]] rfl (by (try simp only [List.map_toArray, List.map_cons, List.map_nil]); first | done | rfl | (simp only [List.length_drop, List.length_take]; rfl)) ?_; (with_reducible refine (impl_WeightOf.calls kj43 _ _ t254 _ _ t258 t282 t283 _ ?side1 ?side2 ?side3 ?side4 A53.out).mono ?_); (case side1 => repeat (first | exact (Kd.R_reads' HO_5.out).2.2 | (with_reducible refine Kd.C_alloc ?_ _) | (with_reducible refine Kd.C_drewN ?_ _) | (with_reducible refine Kd.C_drew ?_))); (case side2 => exact (Kd.R_reads' HO_5.out).2.1); (case side3 => repeat (first | exact (Kd.R_reads' HO_262000.out).2.2 | (with_reducible refine Kd.C_alloc ?_ _) | (with_reducible refine Kd.C_drewN ?_ _) | (with_reducible refine Kd.C_drew ?_))); (case side4 => exact (Kd.R_reads' HO_262000.out).2.1); rintro e w57 ⟨rfl, hb⟩; refine ⟨_, rfl, ?_⟩; have n0_ := Aside0.mk (Kd.R_below (by (with_reducible repeat (first | apply Kd.R_alloc | apply Kd.R_drewN | apply Kd.R_drew)); exact HO_5.out) hb); have n1_ := Aside0.mk (Kd.R_below (by (with_reducible repeat (first | apply Kd.R_alloc | apply Kd.R_drewN | apply Kd.R_drew)); exact HO_262000.out) hb); have n2_ := Aside0.mk (Kd.R_below (by (with_reducible repeat (first | apply Kd.R_alloc | apply Kd.R_drewN | apply Kd.R_drew)); exact HO_274000.out) hb); have n3_ := Aside0.mk (blk_below (g := gb261) (o := .cells #[.slice Ao10 t258.length co10] 28 (0, 0)) (by (with_reducible repeat (first | refine blk_drewN ?_ _ | refine blk_drew ?_ | refine blk_alloc ?_ _)); exact BK261.out) hb); have n4_ := Aside0.mk (blk_below (g := gb273) (o := .cells #[.slice Ao47 x274000_19.length co47] 28 (0, 0)) (by (with_reducible repeat (first | refine blk_drewN ?_ _ | refine blk_drew ?_ | refine blk_alloc ?_ _)); exact BK273.out) hb); have n5_ := Aside0.mk (below_step (by repeat (first | (with_reducible first | exact HB.out | apply below_alloc | apply pw_below_drewN | apply below_drew1 | refine below_set ?_ GE261.out | refine below_set ?_ GE273.out) | exact HB.out)) hb); clear HO_5; clear HO_262000; clear HO_274000; clear BK261; clear BK273; clear HB; have HO_5 := n0_; have HO_262000 := n1_; have HO_274000 := n2_; have BK261 := n3_; have BK273 := n4_; have HB := n5_; clear n0_ n1_ n2_ n3_ n4_ n5_; (try clear hb); (try clear hb2); (try clear hk); (try clear hi)))
 (try simp only [Act.put, List.setIfInBounds_toArray, List.set_cons_zero, List.set_cons_succ])
 go_cut [131] (fun v131 wc => ∃ (kq : Nat) (x131_53 : Bool), v131 = .bool x131_53 ∧ Aside0 (laws_FnGifford.j4 kq t254 t257 t262 t269 t278 t279 x131_53 t258 x274000_19 = some r) ∧ Aside0 (kq ≤ kj43) ∧ Aside0 (Kd.R (Kd.int .i64) 3 wc w.heap.size (fun k_ => some k_ ≠ ((.slice Ao10 t258.length co10) : Value).ownBlock ∧ some k_ ≠ ((.slice Ao47 x274000_19.length co47) : Value).ownBlock) (.slice Ao12 t254.length co12) t254) ∧ Aside0 (Kd.R (Kd.int .i64) 3 wc w.heap.size (fun k_ => some k_ ≠ ((.slice Ao12 t254.length co12) : Value).ownBlock ∧ some k_ ≠ ((.slice Ao47 x274000_19.length co47) : Value).ownBlock) (.slice Ao10 t258.length co10) t258) ∧ Aside0 (Kd.R (Kd.int .i64) 3 wc w.heap.size (fun k_ => some k_ ≠ ((.slice Ao12 t254.length co12) : Value).ownBlock ∧ some k_ ≠ ((.slice Ao10 t258.length co10) : Value).ownBlock) (.slice Ao47 x274000_19.length co47) x274000_19) ∧ Aside0 (wc.heap[gb261]? = some (.cells #[(.slice Ao10 t258.length co10)] 28 (0, 0))) ∧ Aside0 (wc.heap[gb273]? = some (.cells #[(.slice Ao47 x274000_19.length co47)] 28 (0, 0))) ∧ Aside0 (Below w.heap.size w wc))
 case first =>
  have H := HC54.out
  clear HC54
  by_cases c58 : t283 = true
  rotate_left
  ·replace c58 := Bool.eq_false_iff.mpr c58
   subst c58
   have H1 : (none) = some r := by rw [if_neg (show ¬ (false = true) by decide)] at H; exact H
   clear H
   have H := H1
   clear H1
   exact absurd H (by simp)
  subst c58
  have H1 : (laws_FnGifford.j4 kj43 t254 t257 t262 t269 t278 t279 (t262 != (decide (t282 ≥ t257))) t258 x274000_19) = some r := by rw [if_pos rfl] at H; exact H
  clear H
  have H := H1
  clear H1
  have H' := Aside0.mk H
  clear H
  go_wp2
  go_meet
  case rel => exact ⟨_, ((t262 != (decide (t282 ≥ t257)))), (by first | rfl | (simp; done) | (simp [*]; done)), H', ⟨by have := HJ6.out; have := HJ19.out; have := HJ43.out; first | omega | exact Nat.le_refl _⟩, ⟨by (with_reducible repeat (first | apply Kd.R_alloc | apply Kd.R_drewN | apply Kd.R_drew)); exact HO_5.out⟩, ⟨by (with_reducible repeat (first | apply Kd.R_alloc | apply Kd.R_drewN | apply Kd.R_drew)); exact HO_262000.out⟩, ⟨by (with_reducible repeat (first | apply Kd.R_alloc | apply Kd.R_drewN | apply Kd.R_drew)); exact HO_274000.out⟩, ⟨by (with_reducible repeat (first | refine blk_drewN ?_ _ | refine blk_drew ?_ | refine blk_alloc ?_ _)); exact BK261.out⟩, ⟨by (with_reducible repeat (first | refine blk_drewN ?_ _ | refine blk_drew ?_ | refine blk_alloc ?_ _)); exact BK273.out⟩, ⟨by repeat (first | (with_reducible first | exact HB.out | apply below_alloc | apply pw_below_drewN | apply below_drew1 | refine below_set ?_ GE261.out | refine below_set ?_ GE273.out) | exact HB.out)⟩⟩
 clear HC54
 try clear c1
 try clear c2
 try clear p2
 try clear q2
 try clear hx2
 try clear c3
 try clear c3b0
 try clear q3
 try clear c4
 try clear c5
 try clear p6
 try clear c9
 try clear c16
 try clear c16b0
 try clear c16b1
 try clear c16b2
 try clear c17
 try clear c18
 try clear c19
 try clear c21
 try clear c22
 try clear c23
 try clear c24
 try clear c26
 try clear c26b0
 try clear c26b1
 try clear p27
 try clear q27
 try clear hx27
 try clear c28
 try clear c28b0
 try clear c29
 try clear c29b0
 try clear c30
 try clear c30b0
 try clear c31
 try clear c31b0
 try clear c31b1
 try clear c32
 try clear c34
 try clear c35
 try clear q35
 try clear c36
 try clear c39
 try clear c45
 try clear c51
 try clear c51b0
 try clear c51b1
 try clear c51b2
 try clear c52
 try clear c55
 try clear c58
 try clear hcz11_0
 try clear hcz14_0
 try clear hcz25_0
 try clear hcz33_0
 try clear hcz37_0
 try clear hcz40_0
 try clear hcz46_0
 try clear hcz49_0
 try clear hcz56_0
 try clear hfz11_0
 try clear hfz14_0
 try clear hfz25_0
 try clear hfz33_0
 try clear hfz37_0
 try clear hfz40_0
 try clear hfz46_0
 try clear hfz49_0
 try clear hfz56_0
 try clear hx274_0
 try clear p2
 try clear p27
 try clear p274
 try clear p6
 try clear q2
 try clear q27
 try clear q274
 try clear q3
 try clear q35
 obtain ⟨kq, x131_53, rfl, HA, HJ53, HO_5, HO_262000, HO_274000, BK261, BK273, HB⟩ := hcut
 cases kq with
 | zero => exact absurd HA.out (by simp [laws_FnGifford.j4])
 | succ kj53 => ?_
 have H := HA.out
 clear HA
 simp only [laws_FnGifford.j4] at H
 by_cases c59 : x131_53 = true
 ·subst c59
  have H1 : (none) = some r := by rw [if_pos rfl] at H; exact H
  clear H
  have H := H1
  clear H1
  exact absurd H (by simp)
 replace c59 := Bool.eq_false_iff.mpr c59
 subst c59
 have H1 : (laws_FnGifford.l1 kj53 t254 t257 t262 t269 t278 t279 0 t254 (t254.length : Int) 0 t258 x274000_19) = some r := by rw [if_neg (show ¬ (false = true) by decide)] at H; exact H
 clear H
 have H := H1
 clear H1
 have H' := Aside0.mk H
 clear H
 go_wp2
 go_loopg [21, 134] kj53 (fun kq v21 v134 w' => ∃ (x21_5 : Int) (x134_5 : Int), v21 = .int .i64 x21_5 ∧ v134 = .int .i64 x134_5 ∧ Aside0 (laws_FnGifford.l1 kq t254 t257 t262 t269 t278 t279 x21_5 t254 (t254.length : Int) x134_5 t258 x274000_19 = some r) ∧ Aside0 (kq ≤ kj53) ∧ Aside0 (Kd.R (Kd.int .i64) 3 w' w.heap.size (fun k_ => some k_ ≠ ((.slice Ao10 t258.length co10) : Value).ownBlock ∧ some k_ ≠ ((.slice Ao47 x274000_19.length co47) : Value).ownBlock) (.slice Ao12 t254.length co12) t254) ∧ Aside0 (Kd.R (Kd.int .i64) 3 w' w.heap.size (fun k_ => some k_ ≠ ((.slice Ao10 t258.length co10) : Value).ownBlock ∧ some k_ ≠ ((.slice Ao47 x274000_19.length co47) : Value).ownBlock) (.slice Ao12 t254.length co12) t254) ∧ Aside0 (Kd.R (Kd.int .i64) 3 w' w.heap.size (fun k_ => some k_ ≠ ((.slice Ao12 t254.length co12) : Value).ownBlock ∧ some k_ ≠ ((.slice Ao12 t254.length co12) : Value).ownBlock ∧ some k_ ≠ ((.slice Ao47 x274000_19.length co47) : Value).ownBlock) (.slice Ao10 t258.length co10) t258) ∧ Aside0 (Kd.R (Kd.int .i64) 3 w' w.heap.size (fun k_ => some k_ ≠ ((.slice Ao12 t254.length co12) : Value).ownBlock ∧ some k_ ≠ ((.slice Ao12 t254.length co12) : Value).ownBlock ∧ some k_ ≠ ((.slice Ao10 t258.length co10) : Value).ownBlock) (.slice Ao47 x274000_19.length co47) x274000_19) ∧ Aside0 (w'.heap[gb261]? = some (.cells #[(.slice Ao10 t258.length co10)] 28 (0, 0))) ∧ Aside0 (w'.heap[gb273]? = some (.cells #[(.slice Ao47 x274000_19.length co47)] 28 (0, 0))) ∧ Aside0 (Below w.heap.size w w'))
 case atStart => exact ⟨(0), (0), (by first | rfl | (simp; done) | (simp [*]; done)), (by first | rfl | (simp; done) | (simp [*]; done)), H', ⟨Nat.le_refl _⟩, ⟨by (with_reducible repeat (first | apply Kd.R_alloc | apply Kd.R_drewN | apply Kd.R_drew)); exact HO_5.out⟩, ⟨by (with_reducible repeat (first | apply Kd.R_alloc | apply Kd.R_drewN | apply Kd.R_drew)); exact HO_5.out⟩, ⟨by (with_reducible repeat (first | apply Kd.R_alloc | apply Kd.R_drewN | apply Kd.R_drew)); exact Kd.R_mono HO_262000.out (fun _ hk => ⟨hk.1, ⟨hk.1, hk.2⟩⟩)⟩, ⟨by (with_reducible repeat (first | apply Kd.R_alloc | apply Kd.R_drewN | apply Kd.R_drew)); exact Kd.R_mono HO_274000.out (fun _ hk => ⟨hk.1, ⟨hk.1, hk.2⟩⟩)⟩, ⟨by (with_reducible repeat (first | refine blk_drewN ?_ _ | refine blk_drew ?_ | refine blk_alloc ?_ _)); exact BK261.out⟩, ⟨by (with_reducible repeat (first | refine blk_drewN ?_ _ | refine blk_drew ?_ | refine blk_alloc ?_ _)); exact BK273.out⟩, ⟨by repeat (first | (with_reducible first | exact HB.out | apply below_alloc | apply pw_below_drewN | apply below_drew1 | refine below_set ?_ GE261.out | refine below_set ?_ GE273.out) | exact HB.out)⟩⟩
 clear H'
 try clear c1
 try clear c2
 try clear p2
 try clear q2
 try clear hx2
 try clear c3
 try clear c3b0
 try clear q3
 try clear c4
 try clear c5
 try clear p6
 try clear c9
 try clear c16
 try clear c16b0
 try clear c16b1
 try clear c16b2
 try clear c17
 try clear c18
 try clear c19
 try clear c21
 try clear c22
 try clear c23
 try clear c24
 try clear c26
 try clear c26b0
 try clear c26b1
 try clear p27
 try clear q27
 try clear hx27
 try clear c28
 try clear c28b0
 try clear c29
 try clear c29b0
 try clear c30
 try clear c30b0
 try clear c31
 try clear c31b0
 try clear c31b1
 try clear c32
 try clear c34
 try clear c35
 try clear q35
 try clear c36
 try clear c39
 try clear c45
 try clear c51
 try clear c51b0
 try clear c51b1
 try clear c51b2
 try clear c52
 try clear c55
 try clear c58
 try clear c59
 try clear hcz11_0
 try clear hcz14_0
 try clear hcz25_0
 try clear hcz33_0
 try clear hcz37_0
 try clear hcz40_0
 try clear hcz46_0
 try clear hcz49_0
 try clear hcz56_0
 try clear hfz11_0
 try clear hfz14_0
 try clear hfz25_0
 try clear hfz33_0
 try clear hfz37_0
 try clear hfz40_0
 try clear hfz46_0
 try clear hfz49_0
 try clear hfz56_0
 try clear hx274_0
 try clear p2
 try clear p27
 try clear p274
 try clear p6
 try clear q2
 try clear q27
 try clear q274
 try clear q3
 try clear q35
 obtain ⟨x21_5, x134_5, rfl, rfl, HA, HK5, HO_5, HO_132, HO_262000, HO_274000, BK261, BK273, HB⟩ := hrel
 cases gk with
 | zero => exact absurd HA.out (by simp [laws_FnGifford.l1])
 | succ k5 => ?_
 have H := HA.out
 clear HA
 simp only [laws_FnGifford.l1] at H
 by_cases c60 : x134_5 < (t254.length : Int)
 ·rw [if_pos c60] at H
  have c60b0 : decide (x134_5 < (t254.length : Int)) = true := decide_eq_true c60
  clear c60
  by_cases c61 : 0 ≤ x134_5
  rotate_left
  ·rw [if_neg c61] at H
   exact absurd H (by simp)
  rw [if_pos c61] at H
  have c61b0 : decide (0 ≤ x134_5) = true := decide_eq_true c61
  clear c61
  by_cases c62 : x134_5 < (t254.length : Int)
  rotate_left
  ·rw [if_neg c62] at H
   exact absurd H (by simp)
  rw [if_pos c62] at H
  have c62b0 : decide (x134_5 < (t254.length : Int)) = true := decide_eq_true c62
  clear c62
  have H' := Aside0.mk H
  clear H
  have p284 : 0 ≤ (x134_5 : Int) := of_decide_eq_true (by first | (with_reducible assumption) | assumption)
  have q284 : x134_5 < (t254.length : Int) := of_decide_eq_true (by first | (with_reducible assumption) | assumption)
  obtain ⟨ad284, e284, hx284_0⟩ := Kd.at_int (Kd.R_reads' HO_132.out).2.2 x134_5 p284 q284
  cases e284
  replace p284 := eq_true p284
  replace q284 := eq_true q284
  go_wp2
  go_roundg k5
  case measure => have := HJ6.out; have := HJ19.out; have := HJ43.out; have := HJ53.out; have := HK5.out; omega
  case rel => exact ⟨(wrap64 (x21_5 + (rd t254 x134_5))), (wrap64 (x134_5 + 1)), (by first | rfl | (simp; done) | (simp [*]; done)), (by first | rfl | (simp; done) | (simp [*]; done)), H', ⟨by have := HJ6.out; have := HJ19.out; have := HJ43.out; have := HJ53.out; have := HK5.out; omega⟩, ⟨by (with_reducible repeat (first | apply Kd.R_alloc | apply Kd.R_drewN | apply Kd.R_drew)); exact HO_5.out⟩, ⟨by (with_reducible repeat (first | apply Kd.R_alloc | apply Kd.R_drewN | apply Kd.R_drew)); exact HO_132.out⟩, ⟨by (with_reducible repeat (first | apply Kd.R_alloc | apply Kd.R_drewN | apply Kd.R_drew)); exact HO_262000.out⟩, ⟨by (with_reducible repeat (first | apply Kd.R_alloc | apply Kd.R_drewN | apply Kd.R_drew)); exact HO_274000.out⟩, ⟨by (with_reducible repeat (first | refine blk_drewN ?_ _ | refine blk_drew ?_ | refine blk_alloc ?_ _)); exact BK261.out⟩, ⟨by (with_reducible repeat (first | refine blk_drewN ?_ _ | refine blk_drew ?_ | refine blk_alloc ?_ _)); exact BK273.out⟩, ⟨by repeat (first | (with_reducible first | exact HB.out | apply below_alloc | apply pw_below_drewN | apply below_drew1 | refine below_set ?_ GE261.out | refine below_set ?_ GE273.out) | exact HB.out)⟩⟩
 rw [if_neg c60] at H
 have c60b0 : decide (x134_5 < (t254.length : Int)) = false := decide_eq_false c60
 clear c60
 by_cases c63 : t279 = true
 rotate_left
 ·replace c63 := Bool.eq_false_iff.mpr c63
  subst c63
  have H1 : (some true) = some r := by rw [if_neg (show ¬ (false = true) by decide)] at H; exact H
  clear H
  have H := H1
  clear H1
  obtain rfl := Option.some.inj H
  go_wp2
  go_ret
  exact ⟨by first | rfl | (simp [errW_none, errW_some] <;> rfl) | (simp [*, errW_none, errW_some] <;> rfl), by repeat (first | (with_reducible first | exact HB.out | apply below_alloc | apply pw_below_drewN | apply below_drew1 | refine below_set ?_ GE261.out | refine below_set ?_ GE273.out) | exact HB.out)⟩
 subst c63
 have H1 : (if t262 = true then (if t278 = true then (if (wrap64 (t257 + t269)) ≤ x21_5 then (some true) else ((impl_MeetOf.f k5 t258 x274000_19 (t254.length : Int)).bind fun bt285 => (if bt285.2 = true then (some (decide ((bt285.1.length : Int) > 0))) else (none)))) else (some true)) else (some true)) = some r := by rw [if_pos rfl] at H; exact H
 clear H
 have H := H1
 clear H1
 by_cases c64 : t262 = true
 rotate_left
 ·replace c64 := Bool.eq_false_iff.mpr c64
  subst c64
  have H1 : (some true) = some r := by rw [if_neg (show ¬ (false = true) by decide)] at H; exact H
  clear H
  have H := H1
  clear H1
  obtain rfl := Option.some.inj H
  go_wp2
  go_ret
  exact ⟨by first | rfl | (simp [errW_none, errW_some] <;> rfl) | (simp [*, errW_none, errW_some] <;> rfl), by repeat (first | (with_reducible first | exact HB.out | apply below_alloc | apply pw_below_drewN | apply below_drew1 | refine below_set ?_ GE261.out | refine below_set ?_ GE273.out) | exact HB.out)⟩
 subst c64
 have H1 : (if t278 = true then (if (wrap64 (t257 + t269)) ≤ x21_5 then (some true) else ((impl_MeetOf.f k5 t258 x274000_19 (t254.length : Int)).bind fun bt285 => (if bt285.2 = true then (some (decide ((bt285.1.length : Int) > 0))) else (none)))) else (some true)) = some r := by rw [if_pos rfl] at H; exact H
 clear H
 have H := H1
 clear H1
 by_cases c65 : t278 = true
 rotate_left
 ·replace c65 := Bool.eq_false_iff.mpr c65
  subst c65
  have H1 : (some true) = some r := by rw [if_neg (show ¬ (false = true) by decide)] at H; exact H
  clear H
  have H := H1
  clear H1
  obtain rfl := Option.some.inj H
  go_wp2
  go_ret
  exact ⟨by first | rfl | (simp [errW_none, errW_some] <;> rfl) | (simp [*, errW_none, errW_some] <;> rfl), by repeat (first | (with_reducible first | exact HB.out | apply below_alloc | apply pw_below_drewN | apply below_drew1 | refine below_set ?_ GE261.out | refine below_set ?_ GE273.out) | exact HB.out)⟩
 subst c65
 have H1 : (if (wrap64 (t257 + t269)) ≤ x21_5 then (some true) else ((impl_MeetOf.f k5 t258 x274000_19 (t254.length : Int)).bind fun bt285 => (if bt285.2 = true then (some (decide ((bt285.1.length : Int) > 0))) else (none)))) = some r := by rw [if_pos rfl] at H; exact H
 clear H
 have H := H1
 clear H1
 by_cases c66 : (wrap64 (t257 + t269)) ≤ x21_5
 ·rw [if_pos c66] at H
  have c66b0 : decide ((wrap64 (t257 + t269)) ≤ x21_5) = true := decide_eq_true c66
  clear c66
  obtain rfl := Option.some.inj H
  go_wp2
  go_ret
  exact ⟨by first | rfl | (simp [errW_none, errW_some] <;> rfl) | (simp [*, errW_none, errW_some] <;> rfl), by repeat (first | (with_reducible first | exact HB.out | apply below_alloc | apply pw_below_drewN | apply below_drew1 | refine below_set ?_ GE261.out | refine below_set ?_ GE273.out) | exact HB.out)⟩
 rw [if_neg c66] at H
 have c66b0 : decide ((wrap64 (t257 + t269)) ≤ x21_5) = false := decide_eq_false c66
 clear c66
 replace H := Option.bind_eq_some_iff.mp H
 obtain ⟨⟨t285, t288⟩, A670, H⟩ := H
 replace H : (if t288 = true then (some (decide ((t285.length : Int) > 0))) else (none)) = some r := H
 have A67 := Aside0.mk A670
 clear A670
 by_cases c68 : t288 = true
 rotate_left
 ·replace c68 := Bool.eq_false_iff.mpr c68
  subst c68
  have H1 : (none) = some r := by rw [if_neg (show ¬ (false = true) by decide)] at H; exact H
  clear H
  have H := H1
  clear H1
  exact absurd H (by simp)
 subst c68
 have H1 : (some (decide ((t285.length : Int) > 0))) = some r := by rw [if_pos rfl] at H; exact H
 clear H
 have H := H1
 clear H1
 obtain rfl := Option.some.inj H
 have hnb69 := NB261_273.out
 have hnc69 := NB273_261.out
 have hcz70_0 : wr.cell? ⟨gb261, 0, none⟩ = some (.slice Ao10 t258.length co10) := (blk_cell BK261.out 0).trans rfl
 have hfz70_0 := blk_frozen BK261.out 0
 have hcz71_0 : wr.cell? ⟨gb273, 0, none⟩ = some (.slice Ao47 x274000_19.length co47) := (blk_cell BK273.out 0).trans rfl
 have hfz71_0 := blk_frozen BK273.out 0
 go_wp2_with (first | ((with_reducible refine gate_callee (f := 30) rfl ?_); refine goesL_ (some 164) rfl rfl Try.func30 (by kernel_rfl) rfl #[.agg #[.slice Ao10 t258.length co10], .agg #[.slice Ao47 x274000_19.length co47], .int .i64 (t254.length : Int)] rfl (by (try simp only [List.map_toArray, List.map_cons, List.map_nil]); first | done | rfl | (simp only [List.length_drop, List.length_take]; rfl)) ?_; (with_reducible refine (impl_MeetOf.calls k5 _ _ t258 _ _ x274000_19 (t254.length : Int) t285 true _ ?side1 ?side2 ?side3 ?side4 A67.out).mono ?_); (case side1 => repeat (first | exact (Kd.R_reads' HO_262000.out).2.2 | (with_reducible refine Kd.C_alloc ?_ _) | (with_reducible refine Kd.C_drewN ?_ _) | (with_reducible refine Kd.C_drew ?_))); (case side2 => exact (Kd.R_reads' HO_262000.out).2.1); (case side3 => repeat (first | exact (Kd.R_reads' HO_274000.out).2.2 | (with_reducible refine Kd.C_alloc ?_ _) | (with_reducible refine Kd.C_drewN ?_ _) | (with_reducible refine Kd.C_drew ?_))); (case side4 => exact (Kd.R_reads' HO_274000.out).2.1); rintro e w72 ⟨v286, rfl, ho0, hb⟩; refine ⟨_, rfl, ?_⟩; have n0_ := Aside0.mk (Kd.R_elder' (by (with_reducible repeat (first | apply Kd.R_alloc | apply Kd.R_drewN | apply Kd.R_drew)); exact HO_5.out) (Kd.R_base ho0) hb); have n1_ := Aside0.mk (Kd.R_elder' (by (with_reducible repeat (first | apply Kd.R_alloc | apply Kd.R_drewN | apply Kd.R_drew)); exact HO_132.out) (Kd.R_base ho0) hb); have n2_ := Aside0.mk (Kd.R_elder' (by (with_reducible repeat (first | apply Kd.R_alloc | apply Kd.R_drewN | apply Kd.R_drew)); exact HO_262000.out) (Kd.R_base ho0) hb); have n3_ := Aside0.mk (Kd.R_elder' (by (with_reducible repeat (first | apply Kd.R_alloc | apply Kd.R_drewN | apply Kd.R_drew)); exact HO_274000.out) (Kd.R_base ho0) hb); have n4_ := Aside0.mk (Kd.R_lower (Kd.R_new' (Kd.R_new' (Kd.R_new' (Kd.R_new' ho0 (Kd.R_lt (by (with_reducible repeat (first | apply Kd.R_alloc | apply Kd.R_drewN | apply Kd.R_drew)); exact HO_5.out))) (Kd.R_lt (by (with_reducible repeat (first | apply Kd.R_alloc | apply Kd.R_drewN | apply Kd.R_drew)); exact HO_132.out))) (Kd.R_lt (by (with_reducible repeat (first | apply Kd.R_alloc | apply Kd.R_drewN | apply Kd.R_drew)); exact HO_262000.out))) (Kd.R_lt (by (with_reducible repeat (first | apply Kd.R_alloc | apply Kd.R_drewN | apply Kd.R_drew)); exact HO_274000.out))) (below_size (by repeat (first | (with_reducible first | exact HB.out | apply below_alloc | apply pw_below_drewN | apply below_drew1 | refine below_set ?_ GE261.out | refine below_set ?_ GE273.out) | exact HB.out)))); have n5_ := Aside0.mk (blk_below (g := gb261) (o := .cells #[.slice Ao10 t258.length co10] 28 (0, 0)) (by (with_reducible repeat (first | refine blk_drewN ?_ _ | refine blk_drew ?_ | refine blk_alloc ?_ _)); exact BK261.out) hb); have n6_ := Aside0.mk (blk_below (g := gb273) (o := .cells #[.slice Ao47 x274000_19.length co47] 28 (0, 0)) (by (with_reducible repeat (first | refine blk_drewN ?_ _ | refine blk_drew ?_ | refine blk_alloc ?_ _)); exact BK273.out) hb); have n7_ := Aside0.mk (below_step (by repeat (first | (with_reducible first | exact HB.out | apply below_alloc | apply pw_below_drewN | apply below_drew1 | refine below_set ?_ GE261.out | refine below_set ?_ GE273.out) | exact HB.out)) hb); clear HO_5; clear HO_132; clear HO_262000; clear HO_274000; clear BK261; clear BK273; clear HB; have HO_5 := n0_; have HO_132 := n1_; have HO_262000 := n2_; have HO_274000 := n3_; have HO287 := n4_; have BK261 := n5_; have BK273 := n6_; have HB := n7_; clear n0_ n1_ n2_ n3_ n4_ n5_ n6_ n7_; (try clear hb); (try clear hb2); (try clear hk); (try clear hi); (try clear ho0)) | ((with_reducible refine gate_dst (N := 24) rfl ?_); (try (refine gate_guard (by rfl) ?_; dsimp only)); refine box_event ?hg (N := 24) ?hd (cs := #[.slice none 0 0]) (t := 28) ?hr ?_; (case hd => rfl); (case hg => rfl); (case hr => first | (go_simp; done) | (go_simp; rfl)); intro gb289 hg w73 hbox hb; have n0_ := Aside0.mk (Kd.R_below (by (with_reducible repeat (first | apply Kd.R_alloc | apply Kd.R_drewN | apply Kd.R_drew)); exact HO_5.out) hb); have n1_ := Aside0.mk (Kd.R_below (by (with_reducible repeat (first | apply Kd.R_alloc | apply Kd.R_drewN | apply Kd.R_drew)); exact HO_132.out) hb); have n2_ := Aside0.mk (Kd.R_below (by (with_reducible repeat (first | apply Kd.R_alloc | apply Kd.R_drewN | apply Kd.R_drew)); exact HO_262000.out) hb); have n3_ := Aside0.mk (Kd.R_below (by (with_reducible repeat (first | apply Kd.R_alloc | apply Kd.R_drewN | apply Kd.R_drew)); exact HO_274000.out) hb); have n4_ := Aside0.mk (Kd.R_below (by (with_reducible repeat (first | apply Kd.R_alloc | apply Kd.R_drewN | apply Kd.R_drew)); exact HO287.out) hb); have n5_ := Aside0.mk (blk_below (g := gb261) (o := .cells #[.slice Ao10 t258.length co10] 28 (0, 0)) (by (with_reducible repeat (first | refine blk_drewN ?_ _ | refine blk_drew ?_ | refine blk_alloc ?_ _)); exact BK261.out) hb); have n6_ := Aside0.mk (blk_below (g := gb273) (o := .cells #[.slice Ao47 x274000_19.length co47] 28 (0, 0)) (by (with_reducible repeat (first | refine blk_drewN ?_ _ | refine blk_drew ?_ | refine blk_alloc ?_ _)); exact BK273.out) hb); have n7_ := Aside0.mk (below_step (by repeat (first | (with_reducible first | exact HB.out | apply below_alloc | apply pw_below_drewN | apply below_drew1 | refine below_set ?_ GE261.out | refine below_set ?_ GE273.out) | exact HB.out)) hb); have n8_ := Aside0.mk (hbox); have n9_ := Aside0.mk ((by rw [hg]; exact (below_size (by repeat (first | (with_reducible first | exact HB.out | apply below_alloc | apply pw_below_drewN | apply below_drew1 | refine below_set ?_ GE261.out | refine below_set ?_ GE273.out) | exact HB.out))) : w.heap.size ≤ gb289)); have n10_ := Aside0.mk ((by rw [hg]; exact (below_size (by repeat (first | (with_reducible first | exact HB.out | apply below_alloc | apply pw_below_drewN | apply below_drew1 | refine below_set ?_ GE261.out | refine below_set ?_ GE273.out) | exact HB.out))) : w.heap.size ≤ gb289)); have n11_ := Aside0.mk ((by rw [hg]; exact Nat.ne_of_lt (blk_lt (g := gb261) (o := .cells #[.slice Ao10 t258.length co10] 28 (0, 0)) (by (with_reducible repeat (first | refine blk_drewN ?_ _ | refine blk_drew ?_ | refine blk_alloc ?_ _)); exact BK261.out)) : gb261 ≠ gb289)); have n12_ := Aside0.mk ((by rw [hg]; exact Nat.ne_of_gt (blk_lt (g := gb261) (o := .cells #[.slice Ao10 t258.length co10] 28 (0, 0)) (by (with_reducible repeat (first | refine blk_drewN ?_ _ | refine blk_drew ?_ | refine blk_alloc ?_ _)); exact BK261.out)) : gb289 ≠ gb261)); have n13_ := Aside0.mk ((by rw [hg]; exact Nat.ne_of_lt (blk_lt (g := gb273) (o := .cells #[.slice Ao47 x274000_19.length co47] 28 (0, 0)) (by (with_reducible repeat (first | refine blk_drewN ?_ _ | refine blk_drew ?_ | refine blk_alloc ?_ _)); exact BK273.out)) : gb273 ≠ gb289)); have n14_ := Aside0.mk ((by rw [hg]; exact Nat.ne_of_gt (blk_lt (g := gb273) (o := .cells #[.slice Ao47 x274000_19.length co47] 28 (0, 0)) (by (with_reducible repeat (first | refine blk_drewN ?_ _ | refine blk_drew ?_ | refine blk_alloc ?_ _)); exact BK273.out)) : gb289 ≠ gb273)); clear HO_5; clear HO_132; clear HO_262000; clear HO_274000; clear HO287; clear BK261; clear BK273; clear HB; have HO_5 := n0_; have HO_132 := n1_; have HO_262000 := n2_; have HO_274000 := n3_; have HO287 := n4_; have BK261 := n5_; have BK273 := n6_; have HB := n7_; have BK289 := n8_; have GW289 := n9_; have GE289 := n10_; have NB261_289 := n11_; have NB289_261 := n12_; have NB273_289 := n13_; have NB289_273 := n14_; clear n0_ n1_ n2_ n3_ n4_ n5_ n6_ n7_ n8_ n9_ n10_ n11_ n12_ n13_ n14_; clear hb hbox hg; obtain ⟨Ao74, co74, eo74⟩ := Kd.R_slice HO287.out; subst eo74; have hnb75 := NB289_261.out; have hnc75 := NB261_289.out; have hnb76 := NB289_273.out; have hnc76 := NB273_289.out; have hcz77_0 : w73.cell? ⟨gb289, 0, none⟩ = some (.slice none 0 0) := (blk_cell BK289.out 0).trans rfl; have hfz77_0 := blk_frozen BK289.out 0))
 go_ret
 exact ⟨by first | rfl | (simp [errW_none, errW_some] <;> rfl) | (simp [*, errW_none, errW_some] <;> rfl), by repeat (first | (with_reducible first | exact HB.out | apply below_alloc | apply pw_below_drewN | apply below_drew1 | refine below_set ?_ GE261.out | refine below_set ?_ GE273.out | refine below_set ?_ GE289.out) | exact HB.out)⟩

/-- THE ONE PURE STATEMENT of laws_FnGifford: yours. -/
def laws_FnGifford.Pure : Prop := ∀ (l0 : List Int) (l1 : List Int), l0.length ≤ maxLen → l0.length * 1 ≤ 140737488351232 → (∀ x ∈ l0, (Lit.int .u8 x).wf = true) → l1.length ≤ maxLen → l1.length * 1 ≤ 140737488351232 → (∀ x ∈ l1, (Lit.int .u8 x).wf = true) → ∃ k, laws_FnGifford.f k l0 l1 = some true
theorem laws_FnGifford.walk (P : laws_FnGifford.Pure) (a0 : Option Addr) (len0 cap0 : Nat) (z0 : List Int) (a1 : Option Addr) (len1 cap1 : Nat) (z1 : List Int) (w : World) (w0 : (a0 = none ∧ len0 = 0 ∧ cap0 = 0 ∧ z0 = []) ∨ ∃ x, a0 = some x ∧ len0 ≤ cap0 ∧ cap0 ≤ maxLen ∧ z0.length = cap0 ∧ (∀ i, i < z0.length → w.cell? (x.add i) = some (.int .u8 (z0.getD i 0))) ∧ ∀ n ∈ z0, (Lit.int .u8 n).wf = true) (y0 : len0 * 1 ≤ 140737488351232) (w1 : (a1 = none ∧ len1 = 0 ∧ cap1 = 0 ∧ z1 = []) ∨ ∃ x, a1 = some x ∧ len1 ≤ cap1 ∧ cap1 ≤ maxLen ∧ z1.length = cap1 ∧ (∀ i, i < z1.length → w.cell? (x.add i) = some (.int .u8 (z1.getD i 0))) ∧ ∀ n ∈ z1, (Lit.int .u8 n).wf = true) (y1 : len1 * 1 ≤ 140737488351232) :
  Calls Try.prog 9 #[.slice a0 len0 cap0, .slice a1 len1 cap1] w fun e w' => e = .returned (.bool true) ∧ Below w.heap.size w w' := by
 obtain ⟨l0, rfl, hr0, hm0, hw0, hc0⟩ := ReadsInt.ofRowC w0
 obtain ⟨l1, rfl, hr1, hm1, hw1, hc1⟩ := ReadsInt.ofRowC w1
 obtain ⟨k, h⟩ := P l0 l1 hm0 y0 hw0 hm1 y1 hw1
 refine (laws_FnGifford.calls k _ _ l0 _ _ l1 true w (Kd.C_of_reads (d := (0 : Int)) (h1 := fun _ => rfl) hr0) hc0 (Kd.C_of_reads (d := (0 : Int)) (h1 := fun _ => rfl) hr1) hc1 h).mono ?_
 rintro e w' ⟨rfl, hd⟩
 exact ⟨rfl, hd⟩

end Go.Proofs.Ythbollaceiffpaa.PGF
